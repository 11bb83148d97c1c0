/- Rows of heads: what the program's and the reference's functions return. No conditions. -/
import Derived.Test.YtgnilmdaegnaaaaZHd1
import Derived.Test.YtgnilmdaegnaaaaZSlot3
set_option linter.unusedSimpArgs false
set_option linter.unusedVariables false
namespace Go.Proofs.Ytgnilmdaegnaaaa
open Go.RowKit
theorem ucell {lo up : Nat} {w w' : World} (hu : Upd lo up w w') {b : Nat} (hb : b < w.heap.size) (ho : b < lo ∨ up ≤ b) : (∀ o, w'.cell? ⟨b, o, none⟩ = w.cell? ⟨b, o, none⟩) ∧ (∀ o, w'.frozen? ⟨b, o, none⟩ = w.frozen? ⟨b, o, none⟩) :=
  ⟨fun o => World.cell?_of_block (w := w) (a := ⟨b, o, none⟩) (hu.block b hb ho), fun o => World.frozen?_of_block (w := w) (a := ⟨b, o, none⟩) (hu.block b hb ho)⟩
def markRows (l : List MarkD) : Nat → List Int
  | 0 => []
  | j + 1 => markRows l j ++ [(markAt l (2 + (j : Int))).seq, (markAt l (2 + (j : Int))).index]
def headRow (u b t : Int) (l : List MarkD) : List Int := if headOk u b t l then [u, b, t] ++ markRows l 4 ++ [u, u] else []
theorem headOk_seen {u b t : Int} {l : List MarkD} (h : headOk u b t l = true) : seenOk l = true := by
  simp only [headOk, Bool.and_eq_true] at h
  exact h.2.2.2.2.1
set_option maxRecDepth 100000 in
set_option maxHeartbeats 4000000 in
theorem headRow_any (u b t : Int) (A : Option Addr) (n c lo hi : Nat) (l : List MarkD) (w : World) (h : Sl w lo hi 3 A n c (l.flatMap MarkD.ints)) :
    Calls Try.prog 36 #[.agg #[.int .i64 u, .int .i64 b, .int .i64 t, .slice A n c]] w (SlRes w 1 (headRow u b t l).length (headRow u b t l)) := by
  replace h := h.fit (by omega)
  have hhi : min hi w.heap.size ≤ w.heap.size := Nat.min_le_right _ _
  generalize min hi w.heap.size = hi at h hhi
  cases hok : headOk u b t l with
  | false =>
    have e0 : headRow u b t l = [] := by simp [headRow, hok]
    rw [e0]
    clear e0
    have CO : ∀ W, Sl W lo hi 3 A n c (l.flatMap MarkD.ints) → Calls Try.prog 29 #[.agg #[.int .i64 u, .int .i64 b, .int .i64 t, .slice A n c]] W fun x w' => x = .returned (.bool false) ∧ Below W.heap.size W w' := fun W s => by
      have h7 := headOk_any u b t A n c lo hi l W s
      rw [hok] at h7
      exact h7
    have HO := Lib.hid CO
    clear CO
    clear hok
    go_enter Try.func36, Try.ntmps36
    go_wp2_with fail
    (with_reducible refine (HO.out _ (h.below (B := w.heap.size) (by (repeat' (first | with_reducible exact Below.refl _ _ | with_reducible assumption | with_reducible refine Below.drew ?_ | with_reducible refine Below.alloc ?_ ?_ _ | with_reducible refine Below.setCell ?_ ?_ _ | with_reducible refine Below.trans ?_ (Below.mono (by assumption) ?_) | ((try simp only [World.heap_size_alloc, World.heap_size_drew, World.heap_size_setCell]); omega)))) hhi)).mono ?_); rintro _ w1 ⟨rfl, b1⟩
    have y1 := b1.size
    (try simp only [World.heap_size_alloc] at y1)
    have hw1 : Below w.heap.size w w1 := by (repeat' (first | with_reducible exact Below.refl _ _ | with_reducible assumption | with_reducible refine Below.drew ?_ | with_reducible refine Below.alloc ?_ ?_ _ | with_reducible refine Below.setCell ?_ ?_ _ | with_reducible refine Below.trans ?_ (Below.mono (by assumption) ?_) | ((try simp only [World.heap_size_alloc, World.heap_size_drew, World.heap_size_setCell]); omega)))
    go_wp2_with fail
    go_ret
    exact ⟨_, _, rfl, Sl.nil _ _ _ _ _ _ (by omega), by (repeat' (first | with_reducible exact Below.refl _ _ | with_reducible assumption | with_reducible refine Below.drew ?_ | with_reducible refine Below.alloc ?_ ?_ _ | with_reducible refine Below.setCell ?_ ?_ _ | with_reducible refine Below.trans ?_ (Below.mono (by assumption) ?_) | ((try simp only [World.heap_size_alloc, World.heap_size_drew, World.heap_size_setCell]); omega)))⟩
  | true =>
    have e0 : headRow u b t l = [u, b, t] ++ markRows l 4 ++ [u, u] := by simp [headRow, hok]
    rw [e0]
    clear e0
    have hsk := headOk_seen hok
    have hlen : ([u, b, t] ++ markRows l 4 ++ [u, u]).length = 13 := by simp [markRows]
    rw [hlen]
    have CM : ∀ W (j : Nat), Sl W lo hi 3 A n c (l.flatMap MarkD.ints) → Calls Try.prog 94 #[.slice A n c, .int .i64 (2 + (j : Int))] W (MarkVRes W (markAt l (2 + (j : Int)))) := fun W j s => by
      have h7 := markAt_any A n c lo hi l (2 + (j : Int)) W s
      exact h7
    have HM := Lib.hid CM
    clear CM
    have CO : ∀ W, Sl W lo hi 3 A n c (l.flatMap MarkD.ints) → Calls Try.prog 29 #[.agg #[.int .i64 u, .int .i64 b, .int .i64 t, .slice A n c]] W fun x w' => x = .returned (.bool true) ∧ Below W.heap.size W w' := fun W s => by
      have h7 := headOk_any u b t A n c lo hi l W s
      rw [hok] at h7
      exact h7
    have HO := Lib.hid CO
    clear CO
    clear hok hsk hlen
    go_enter Try.func36, Try.ntmps36
    go_wp2_with fail
    (with_reducible refine (HO.out _ (h.below (B := w.heap.size) (by (repeat' (first | with_reducible exact Below.refl _ _ | with_reducible assumption | with_reducible refine Below.drew ?_ | with_reducible refine Below.alloc ?_ ?_ _ | with_reducible refine Below.setCell ?_ ?_ _ | with_reducible refine Below.trans ?_ (Below.mono (by assumption) ?_) | ((try simp only [World.heap_size_alloc, World.heap_size_drew, World.heap_size_setCell]); omega)))) hhi)).mono ?_); rintro _ w1 ⟨rfl, b1⟩
    have y1 := b1.size
    (try simp only [World.heap_size_alloc] at y1)
    have hw1 : Below w.heap.size w w1 := by (repeat' (first | with_reducible exact Below.refl _ _ | with_reducible assumption | with_reducible refine Below.drew ?_ | with_reducible refine Below.alloc ?_ ?_ _ | with_reducible refine Below.setCell ?_ ?_ _ | with_reducible refine Below.trans ?_ (Below.mono (by assumption) ?_) | ((try simp only [World.heap_size_alloc, World.heap_size_drew, World.heap_size_setCell]); omega)))
    have a0 : w1.cell? ⟨w.heap.size, 0, none⟩ = some (.int .i64 u) := (b1.cell (p := ⟨w.heap.size, 0, none⟩) (by (try simp only [World.heap_size_alloc, World.heap_size_drew, World.heap_size_setCell]); omega)).trans (by simp)
    have a1 : w1.cell? ⟨w.heap.size, 1, none⟩ = some (.int .i64 b) := (b1.cell (p := ⟨w.heap.size, 1, none⟩) (by (try simp only [World.heap_size_alloc, World.heap_size_drew, World.heap_size_setCell]); omega)).trans (by simp)
    have a2 : w1.cell? ⟨w.heap.size, 2, none⟩ = some (.int .i64 t) := (b1.cell (p := ⟨w.heap.size, 2, none⟩) (by (try simp only [World.heap_size_alloc, World.heap_size_drew, World.heap_size_setCell]); omega)).trans (by simp)
    have a3 : w1.cell? ⟨w.heap.size, 3, none⟩ = some (.slice A n c) := (b1.cell (p := ⟨w.heap.size, 3, none⟩) (by (try simp only [World.heap_size_alloc, World.heap_size_drew, World.heap_size_setCell]); omega)).trans (by simp)
    have hz1 : w.heap.size < w1.heap.size := by omega
    have o1 : Own (w1.alloc (.cells #[.int .i64 u, .int .i64 b, .int .i64 t] 2)) w1.heap.size 2 1 (.slice (some ⟨w1.heap.size, 0, none⟩) 3 3) 3 [u, b, t] := Own.new w1 2 1 [u, b, t] rfl (Nat.le_refl _) (by omega)
    have O1 := Lib.hid o1
    have HW1 := Lib.hid hw1
    have A3 := Lib.hid a3
    have A0 := Lib.hid a0
    clear o1 hw1 b1
    go_wp2_with fail
    go_loopw [3, 4, 5] (fun v k _ wr => ∃ (j : Nat) (x : Value), j ≤ 4 ∧ k = .int .i64 (2 + (j : Int)) ∧ v = x ∧ Own wr w1.heap.size 2 1 x (3 + 2 * j) ([u, b, t] ++ markRows l j) ∧ Below w1.heap.size w1 wr) (fun _ k _ _ => 6 - (intOf k).toNat)
    case atStart => exact ⟨0, _, by omega, rfl, rfl, by simpa [markRows] using O1.out, by (repeat' (first | with_reducible exact Below.refl _ _ | with_reducible assumption | with_reducible refine Below.drew ?_ | with_reducible refine Below.alloc ?_ ?_ _ | with_reducible refine Below.setCell ?_ ?_ _ | with_reducible refine Below.trans ?_ (Below.mono (by assumption) ?_) | ((try simp only [World.heap_size_alloc, World.heap_size_drew, World.heap_size_setCell]); omega)))⟩
    case round =>
      obtain ⟨j, v, hj, rfl, rfl, ho, hb⟩ := hrel
      have hbz := hb.size
      have HO1 := Lib.hid ho
      have x0 := (hb.cell (p := ⟨w.heap.size, 0, none⟩) hz1).trans A0.out
      have x3 := (hb.cell (p := ⟨w.heap.size, 3, none⟩) hz1).trans A3.out
      have hw3 : Below w.heap.size w wr := HW1.out.trans (hb.mono (by omega))
      have HB := Lib.hid hb
      have HW3 := Lib.hid hw3
      by_cases hlt : j < 4
      · have hle : decide (2 + (j : Int) ≤ 5) = true := by simp; omega
        have hmr : markRows l (j + 1) = markRows l j ++ [(markAt l (2 + (j : Int))).seq, (markAt l (2 + (j : Int))).index] := rfl
        have CMJ := fun W s => HM.out W j s
        generalize markAt l (2 + (j : Int)) = mk at CMJ hmr
        have HMJ := Lib.hid CMJ
        have HMR := Lib.hid hmr
        clear ho hb CMJ hmr a0 a1 a2 a3
        go_wp2_with fail
        (with_reducible refine (HMJ.out _ (h.below hw3 hhi)).mono ?_); rintro _ w2 ⟨rfl, b2⟩
        have y2 := b2.size
        clear hw3
        have hsrc : Sl ((w2.alloc (.cells #[.int .i64 mk.client, .int .i64 mk.seq, .int .i64 mk.index] 117)).alloc (.cells #[.int .i64 mk.seq, .int .i64 mk.index] 2)) (w2.alloc (.cells #[.int .i64 mk.client, .int .i64 mk.seq, .int .i64 mk.index] 117)).heap.size ((w2.alloc (.cells #[.int .i64 mk.client, .int .i64 mk.seq, .int .i64 mk.index] 117)).heap.size + 1) 1 (some ⟨w2.heap.size + 1, 0, none⟩) 2 2 [mk.seq, mk.index] := by
          have h9 := src2_new (w2.alloc (.cells #[.int .i64 mk.client, .int .i64 mk.seq, .int .i64 mk.index] 117)) 2 mk.seq mk.index
          rw [World.heap_size_alloc] at h9 ⊢
          exact h9
        have HS1 := Lib.hid hsrc
        have HB1 : Hid (Below wr.heap.size wr ((w2.alloc (.cells #[.int .i64 mk.client, .int .i64 mk.seq, .int .i64 mk.index] 117)).alloc (.cells #[.int .i64 mk.seq, .int .i64 mk.index] 2))) := Lib.hid (b2.trans ((((Below.refl _ _).alloc (Nat.le_refl _) _).alloc (by (try simp only [World.heap_size_alloc, World.heap_size_drew, World.heap_size_setCell]); omega) _).mono y2))
        have hge : w1.heap.size ≤ ((w2.alloc (.cells #[.int .i64 mk.client, .int .i64 mk.seq, .int .i64 mk.index] 117)).alloc (.cells #[.int .i64 mk.seq, .int .i64 mk.index] 2)).heap.size := by (try simp only [World.heap_size_alloc, World.heap_size_drew, World.heap_size_setCell]); omega
        clear hsrc b2
        go_wp2_with (at_builtin; go_loud (refine wpList_append_sl _ rfl (.tmp 24) (.tmp 29) 28 rfl w1.heap.size 2 Try.underlying28 info64 rfl (by omega) _ _ _ rfl (HO1.out.kept HB1.out) _ 2 2 _ _ [mk.seq, mk.index] rfl HS1.out (by omega) (by omega) hge ?_); intro v2 w5 o2 g2 a2')
        have hb2 : Below w1.heap.size w1 w5 := (HB.out.trans (HB1.out.mono hbz)).trans (grown_below g2 hge (fun g hg => (Own.lt HO1.out g hg).1))
        have HO2 := Lib.hid o2
        clear o2 a2' g2
        go_roundw
        case rel => exact ⟨j + 1, _, by omega, by go_num, rfl, by rw [HMR.out, ← List.append_assoc]; exact HO2.out, hb2⟩
        case measure => simp [intOf]; omega
      · have hj4 : j = 4 := by omega
        subst hj4
        have hsrc : Sl (wr.alloc (.cells #[.int .i64 u, .int .i64 u] 2)) wr.heap.size (wr.heap.size + 1) 1 (some ⟨wr.heap.size, 0, none⟩) 2 2 [u, u] := src2_new wr 2 u u
        have HS1 := Lib.hid hsrc
        have HB1 : Hid (Below wr.heap.size wr (wr.alloc (.cells #[.int .i64 u, .int .i64 u] 2))) := Lib.hid (by (repeat' (first | with_reducible exact Below.refl _ _ | with_reducible assumption | with_reducible refine Below.drew ?_ | with_reducible refine Below.alloc ?_ ?_ _ | with_reducible refine Below.setCell ?_ ?_ _ | with_reducible refine Below.trans ?_ (Below.mono (by assumption) ?_) | ((try simp only [World.heap_size_alloc, World.heap_size_drew, World.heap_size_setCell]); omega))))
        have hge : w1.heap.size ≤ (wr.alloc (.cells #[.int .i64 u, .int .i64 u] 2)).heap.size := by (try simp only [World.heap_size_alloc, World.heap_size_drew, World.heap_size_setCell]); omega
        clear hsrc ho hb hw3 a0 a1 a2 a3
        go_wp2_with (at_builtin; go_loud (refine wpList_append_sl _ rfl (.tmp 31) (.tmp 36) 28 rfl w1.heap.size 2 Try.underlying28 info64 rfl (by omega) _ _ _ rfl (HO1.out.kept HB1.out) _ 2 2 _ _ [u, u] rfl HS1.out (by omega) (by omega) hge ?_); intro v2 w5 o2 g2 a2')
        have hb2 : Below w1.heap.size w1 w5 := (HB.out.trans (HB1.out.mono hbz)).trans (grown_below g2 hge (fun g hg => (Own.lt HO1.out g hg).1))
        obtain ⟨A5, c5, rfl, s5⟩ := o2.sl
        (try go_wp2)
        go_ret
        exact ⟨A5, c5, rfl, s5.mono (by omega) (Nat.le_refl _), HW1.out.trans (hb2.mono (by omega))⟩
end Go.Proofs.Ytgnilmdaegnaaaa
