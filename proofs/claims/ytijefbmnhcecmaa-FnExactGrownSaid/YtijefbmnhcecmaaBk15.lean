/- Books: grown, the reference's function. No conditions. -/
import Derived.Test.YtijefbmnhcecmaaBk14
import Derived.Test.YtijefbmnhcecmaaRec3
set_option linter.unusedSimpArgs false
set_option linter.unusedVariables false
namespace Go.Proofs.Ytijefbmnhcecmaa
open Go.RowKit

def SgRel (w1 : World) (OB m : Nat) (b t : Int) (l es : List EntryD) (i : Value) (wr : World) : Prop :=
  ∃ (j : Nat) (k : List EntryD) (Ak : Option Addr) (ck lo hi : Nat), j ≤ m ∧ i = .int .i64 (j : Nat) ∧ Hid (growM b t l (es.take j) = some k) ∧ Rec3 wr OB (.int .i64 b) (.int .i64 t) (.slice Ak k.length ck) ∧
    Hid (Sl wr lo hi 9 Ak k.length ck (k.flatMap EntryD.ints)) ∧ (hi ≤ OB ∨ OB + 1 ≤ lo) ∧ w1.heap.size ≤ lo ∧ hi ≤ wr.heap.size ∧ Below w1.heap.size w1 wr
set_option maxRecDepth 100000 in
set_option maxHeartbeats 4000000 in
theorem sGrown_any (b t : Int) (A : Option Addr) (n c lo hi : Nat) (l : List EntryD) (B : Option Addr) (m d lo' hi' : Nat) (es : List EntryD) (w : World) (h : Sl w lo hi 9 A n c (l.flatMap EntryD.ints)) (h' : Sl w lo' hi' 9 B m d (es.flatMap EntryD.ints)) :
    Calls Try.prog 45 #[.agg #[.int .i64 b, .int .i64 t, .slice A n c], .slice B m d] w (BookBRes w (grownM b t l es).1 (grownM b t l es).2.1 (grownM b t l es).2.2.1.length ((grownM b t l es).2.2.1.flatMap EntryD.ints) (grownM b t l es).2.2.2) := by
  have HL := Lib.hid (h.count EntryD.ints_len (by omega) : l.length = n)
  have HM := Lib.hid (h'.count EntryD.ints_len (by omega) : es.length = m)
  have hmb : m ≤ 9223372036854775807 := Nat.le_trans h'.cap h'.big
  replace h := h.fit (by omega)
  have hhi : min hi w.heap.size ≤ w.heap.size := Nat.min_le_right _ _
  generalize min hi w.heap.size = hi at h hhi
  replace h' := h'.fit (by omega)
  have hhi' : min hi' w.heap.size ≤ w.heap.size := Nat.min_le_right _ _
  generalize min hi' w.heap.size = hi' at h' hhi'
  cases hok : bookOk b t l with
  | false =>
    have e0 : grownM b t l es = (0, 0, [], false) := by simp [grownM, hok]
    rw [e0]
    clear e0
    have CO : ∀ W, Sl W lo hi 9 A n c (l.flatMap EntryD.ints) → Calls Try.prog 21 #[.agg #[.int .i64 b, .int .i64 t, .slice A n c]] W fun x w' => x = .returned (.bool false) ∧ Below W.heap.size W w' := fun W s => by
      have h7 := sBookOk_any b t A n c lo hi l W s
      rw [hok] at h7
      exact h7
    have HO := Lib.hid CO
    clear CO
    clear hok
    go_enter Try.func45, Try.ntmps45
    go_wp2_with fail
    (with_reducible refine (HO.out _ (h.below (B := w.heap.size) (by (repeat' (first | with_reducible exact Below.refl _ _ | with_reducible assumption | with_reducible refine Below.drew ?_ | with_reducible refine Below.alloc ?_ ?_ _ | with_reducible refine Below.setCell ?_ ?_ _ | with_reducible refine Below.trans ?_ (Below.mono (by assumption) ?_) | ((try simp only [World.heap_size_alloc, World.heap_size_drew, World.heap_size_setCell]); omega)))) hhi)).mono ?_); rintro _ w1 ⟨rfl, b1⟩
    have y1 := b1.size
    (try simp only [World.heap_size_alloc] at y1)
    have hw1 : Below w.heap.size w w1 := by (repeat' (first | with_reducible exact Below.refl _ _ | with_reducible assumption | with_reducible refine Below.drew ?_ | with_reducible refine Below.alloc ?_ ?_ _ | with_reducible refine Below.setCell ?_ ?_ _ | with_reducible refine Below.trans ?_ (Below.mono (by assumption) ?_) | ((try simp only [World.heap_size_alloc, World.heap_size_drew, World.heap_size_setCell]); omega)))
    have m0 : w1.cell? ⟨w.heap.size + 1, 0, none⟩ = some (.int .i64 0) := (b1.cell (p := ⟨w.heap.size + 1, 0, none⟩) (by (try simp only [World.heap_size_alloc, World.heap_size_drew, World.heap_size_setCell]); omega)).trans (by simp)
    have f0 : w1.frozen? ⟨w.heap.size + 1, 0, none⟩ = false := (b1.frozen (p := ⟨w.heap.size + 1, 0, none⟩) (by (try simp only [World.heap_size_alloc, World.heap_size_drew, World.heap_size_setCell]); omega)).trans (by simp)
    have m1 : w1.cell? ⟨w.heap.size + 1, 1, none⟩ = some (.int .i64 0) := (b1.cell (p := ⟨w.heap.size + 1, 1, none⟩) (by (try simp only [World.heap_size_alloc, World.heap_size_drew, World.heap_size_setCell]); omega)).trans (by simp)
    have f1 : w1.frozen? ⟨w.heap.size + 1, 1, none⟩ = false := (b1.frozen (p := ⟨w.heap.size + 1, 1, none⟩) (by (try simp only [World.heap_size_alloc, World.heap_size_drew, World.heap_size_setCell]); omega)).trans (by simp)
    have m2 : w1.cell? ⟨w.heap.size + 1, 2, none⟩ = some (.slice none 0 0) := (b1.cell (p := ⟨w.heap.size + 1, 2, none⟩) (by (try simp only [World.heap_size_alloc, World.heap_size_drew, World.heap_size_setCell]); omega)).trans (by simp)
    have f2 : w1.frozen? ⟨w.heap.size + 1, 2, none⟩ = false := (b1.frozen (p := ⟨w.heap.size + 1, 2, none⟩) (by (try simp only [World.heap_size_alloc, World.heap_size_drew, World.heap_size_setCell]); omega)).trans (by simp)
    go_wp2_with fail
    refine bodyPost_ret (v := .tuple #[.agg #[.int .i64 0, .int .i64 0, .slice none 0 0], .bool false]) (by simp [results, Try.results45, go_sem, m0, m1, m2]) rfl ⟨none, 0, rfl, Sl.nil _ _ _ _ _ _ (by omega), ?_⟩
    exact hw1.trans (by (repeat' (first | with_reducible exact Below.refl _ _ | with_reducible assumption | with_reducible refine Below.drew ?_ | with_reducible refine Below.alloc ?_ ?_ _ | with_reducible refine Below.setCell ?_ ?_ _ | with_reducible refine Below.trans ?_ (Below.mono (by assumption) ?_) | ((try simp only [World.heap_size_alloc, World.heap_size_drew, World.heap_size_setCell]); omega))))
  | true =>
    obtain ⟨q0, q1, q2, q3, q4, _⟩ := bookOk_facts hok
    rw [HL.out] at q4
    have CO : ∀ W, Sl W lo hi 9 A n c (l.flatMap EntryD.ints) → Calls Try.prog 21 #[.agg #[.int .i64 b, .int .i64 t, .slice A n c]] W fun x w' => x = .returned (.bool true) ∧ Below W.heap.size W w' := fun W s => by
      have h7 := sBookOk_any b t A n c lo hi l W s
      rw [hok] at h7
      exact h7
    have HO := Lib.hid CO
    clear CO
    have HOK := Lib.hid hok
    generalize hr : grownM b t l es = r
    obtain ⟨rb, rt, rl, rok⟩ := r
    simp only
    have HR := Lib.hid hr
    clear hr
    have HCP := Lib.hid (fun W s => l8Copy_any b t A n c lo hi l W s (by omega))
    clear hok
    by_cases hm20 : 20 < m
    · have hgf : growM b t l es = none := growM_many HOK.out (by rw [HM.out]; exact hm20)
      have e0 : grownM b t l es = (b, t, l, false) := by unfold grownM; rw [if_pos HOK.out, hgf]
      have h9 := e0.symm.trans HR.out
      simp only [Prod.mk.injEq] at h9
      obtain ⟨rfl, rfl, rfl, rfl⟩ := h9
      clear e0 hgf HR
      have hgt : decide (20 < (m : Int)) = true := by simp; omega
      go_enter Try.func45, Try.ntmps45
      go_wp2_with fail
      (with_reducible refine (HO.out _ (h.below (B := w.heap.size) (by (repeat' (first | with_reducible exact Below.refl _ _ | with_reducible assumption | with_reducible refine Below.drew ?_ | with_reducible refine Below.alloc ?_ ?_ _ | with_reducible refine Below.setCell ?_ ?_ _ | with_reducible refine Below.trans ?_ (Below.mono (by assumption) ?_) | ((try simp only [World.heap_size_alloc, World.heap_size_drew, World.heap_size_setCell]); omega)))) hhi)).mono ?_); rintro _ w1 ⟨rfl, b1⟩
      have y1 := b1.size
      (try simp only [World.heap_size_alloc] at y1)
      have hw1 : Below w.heap.size w w1 := by (repeat' (first | with_reducible exact Below.refl _ _ | with_reducible assumption | with_reducible refine Below.drew ?_ | with_reducible refine Below.alloc ?_ ?_ _ | with_reducible refine Below.setCell ?_ ?_ _ | with_reducible refine Below.trans ?_ (Below.mono (by assumption) ?_) | ((try simp only [World.heap_size_alloc, World.heap_size_drew, World.heap_size_setCell]); omega)))
      have ab0 : w1.cell? ⟨w.heap.size, 0, none⟩ = some (.int .i64 b) := (b1.cell (p := ⟨w.heap.size, 0, none⟩) (by (try simp only [World.heap_size_alloc, World.heap_size_drew, World.heap_size_setCell]); omega)).trans (by simp)
      have ab1 : w1.cell? ⟨w.heap.size, 1, none⟩ = some (.int .i64 t) := (b1.cell (p := ⟨w.heap.size, 1, none⟩) (by (try simp only [World.heap_size_alloc, World.heap_size_drew, World.heap_size_setCell]); omega)).trans (by simp)
      have ab2 : w1.cell? ⟨w.heap.size, 2, none⟩ = some (.slice A n c) := (b1.cell (p := ⟨w.heap.size, 2, none⟩) (by (try simp only [World.heap_size_alloc, World.heap_size_drew, World.heap_size_setCell]); omega)).trans (by simp)
      have am0 : w1.cell? ⟨w.heap.size + 1, 0, none⟩ = some (.int .i64 0) := (b1.cell (p := ⟨w.heap.size + 1, 0, none⟩) (by (try simp only [World.heap_size_alloc, World.heap_size_drew, World.heap_size_setCell]); omega)).trans (by simp)
      have am1 : w1.cell? ⟨w.heap.size + 1, 1, none⟩ = some (.int .i64 0) := (b1.cell (p := ⟨w.heap.size + 1, 1, none⟩) (by (try simp only [World.heap_size_alloc, World.heap_size_drew, World.heap_size_setCell]); omega)).trans (by simp)
      have am2 : w1.cell? ⟨w.heap.size + 1, 2, none⟩ = some (.slice none 0 0) := (b1.cell (p := ⟨w.heap.size + 1, 2, none⟩) (by (try simp only [World.heap_size_alloc, World.heap_size_drew, World.heap_size_setCell]); omega)).trans (by simp)
      have az0 : w1.frozen? ⟨w.heap.size + 1, 0, none⟩ = false := (b1.frozen (p := ⟨w.heap.size + 1, 0, none⟩) (by (try simp only [World.heap_size_alloc, World.heap_size_drew, World.heap_size_setCell]); omega)).trans (by simp)
      have az1 : w1.frozen? ⟨w.heap.size + 1, 1, none⟩ = false := (b1.frozen (p := ⟨w.heap.size + 1, 1, none⟩) (by (try simp only [World.heap_size_alloc, World.heap_size_drew, World.heap_size_setCell]); omega)).trans (by simp)
      have az2 : w1.frozen? ⟨w.heap.size + 1, 2, none⟩ = false := (b1.frozen (p := ⟨w.heap.size + 1, 2, none⟩) (by (try simp only [World.heap_size_alloc, World.heap_size_drew, World.heap_size_setCell]); omega)).trans (by simp)
      have BK : ∀ W, Below w1.heap.size w1 W → (W.cell? ⟨w.heap.size, 0, none⟩ = some (.int .i64 b) ∧ W.cell? ⟨w.heap.size, 1, none⟩ = some (.int .i64 t) ∧ W.cell? ⟨w.heap.size, 2, none⟩ = some (.slice A n c) ∧ W.cell? ⟨w.heap.size + 1, 0, none⟩ = some (.int .i64 0) ∧ W.cell? ⟨w.heap.size + 1, 1, none⟩ = some (.int .i64 0) ∧ W.cell? ⟨w.heap.size + 1, 2, none⟩ = some (.slice none 0 0) ∧ W.frozen? ⟨w.heap.size + 1, 0, none⟩ = false ∧ W.frozen? ⟨w.heap.size + 1, 1, none⟩ = false ∧ W.frozen? ⟨w.heap.size + 1, 2, none⟩ = false) := fun W hb => ⟨(hb.cell (p := ⟨w.heap.size, 0, none⟩) (show w.heap.size < w1.heap.size by omega)).trans ab0, (hb.cell (p := ⟨w.heap.size, 1, none⟩) (show w.heap.size < w1.heap.size by omega)).trans ab1, (hb.cell (p := ⟨w.heap.size, 2, none⟩) (show w.heap.size < w1.heap.size by omega)).trans ab2, (hb.cell (p := ⟨w.heap.size + 1, 0, none⟩) (show w.heap.size + 1 < w1.heap.size by omega)).trans am0, (hb.cell (p := ⟨w.heap.size + 1, 1, none⟩) (show w.heap.size + 1 < w1.heap.size by omega)).trans am1, (hb.cell (p := ⟨w.heap.size + 1, 2, none⟩) (show w.heap.size + 1 < w1.heap.size by omega)).trans am2, (hb.frozen (p := ⟨w.heap.size + 1, 0, none⟩) (show w.heap.size + 1 < w1.heap.size by omega)).trans az0, (hb.frozen (p := ⟨w.heap.size + 1, 1, none⟩) (show w.heap.size + 1 < w1.heap.size by omega)).trans az1, (hb.frozen (p := ⟨w.heap.size + 1, 2, none⟩) (show w.heap.size + 1 < w1.heap.size by omega)).trans az2⟩
      have HBK := Lib.hid BK
      obtain ⟨aa0, aa1, aa2, -⟩ := BK w1 (Below.refl _ _)
      clear BK
      go_wp2_with fail
      (with_reducible refine (HCP.out _ (h.below hw1 hhi)).mono ?_); rintro _ w2 ⟨A2, c2, rfl, s2, b2⟩
      have y2 := b2.size
      have hz1 : w.heap.size + 1 < w1.heap.size := by omega
      have V2 : Below w2.heap.size w2 (w2.alloc (.cells #[.int .i64 b, .int .i64 t, .slice A2 n c2] 29)) := by (repeat' (first | with_reducible exact Below.refl _ _ | with_reducible assumption | with_reducible refine Below.drew ?_ | with_reducible refine Below.alloc ?_ ?_ _ | with_reducible refine Below.setCell ?_ ?_ _ | with_reducible refine Below.trans ?_ (Below.mono (by assumption) ?_) | ((try simp only [World.heap_size_alloc, World.heap_size_drew, World.heap_size_setCell]); omega)))
      have S2 := Lib.hid (s2.below V2 (Nat.le_refl _))
      have R2 := Lib.hid (Rec3.new w2 (.int .i64 b) (.int .i64 t) (.slice A2 n c2) 29)
      have HB2 := Lib.hid (b2.trans (V2.mono y2))
      have HW1 := Lib.hid hw1
      clear s2 V2 b2 hw1 b1 aa0 aa1 aa2 ab0 ab1 ab2 am0 am1 am2 az0 az1 az2
      obtain ⟨cc0, cc1, cc2, m0, m1, m2, z0, z1, z2⟩ := HBK.out _ HB2.out
      obtain ⟨r0, r1, r2, -, -, -⟩ := R2.out
      clear cc0 cc1 cc2
      go_wp2_with fail
      refine bodyPost_ret (v := .tuple #[.agg #[.int .i64 b, .int .i64 t, .slice A2 n c2], .bool false]) (by simp [results, Try.results45, go_sem, m0, m1, m2]) rfl ⟨A2, c2, by first | rfl | rw [HL.out], ?_, ?_⟩
      · (try rw [HL.out])
        refine Sl.mono (Sl.upd (lo' := w.heap.size + 1) (hi' := w.heap.size + 2) S2.out ?_ (.inr (by omega))) (by omega) (by (try simp only [World.heap_size_alloc, World.heap_size_drew, World.heap_size_setCell]); omega)
        (repeat' (first | with_reducible exact Upd.refl _ _ _ | with_reducible assumption | with_reducible refine Upd.drew ?_ | with_reducible refine Upd.alloc ?_ _ | with_reducible refine Upd.setCell ?_ ?_ ?_ _ | (simp only []; omega) | omega))
      · have c9 := (HW1.out.trans (HB2.out.mono (by omega)))
        (repeat' (first | with_reducible exact Below.refl _ _ | with_reducible assumption | with_reducible refine Below.drew ?_ | with_reducible refine Below.alloc ?_ ?_ _ | with_reducible refine Below.setCell ?_ ?_ _ | with_reducible refine Below.trans ?_ (Below.mono (by assumption) ?_) | ((try simp only [World.heap_size_alloc, World.heap_size_drew, World.heap_size_setCell]); omega)))
    · have hgt : decide (20 < (m : Int)) = false := by simp; omega
      go_enter Try.func45, Try.ntmps45
      go_wp2_with fail
      (with_reducible refine (HO.out _ (h.below (B := w.heap.size) (by (repeat' (first | with_reducible exact Below.refl _ _ | with_reducible assumption | with_reducible refine Below.drew ?_ | with_reducible refine Below.alloc ?_ ?_ _ | with_reducible refine Below.setCell ?_ ?_ _ | with_reducible refine Below.trans ?_ (Below.mono (by assumption) ?_) | ((try simp only [World.heap_size_alloc, World.heap_size_drew, World.heap_size_setCell]); omega)))) hhi)).mono ?_); rintro _ w1 ⟨rfl, b1⟩
      have y1 := b1.size
      (try simp only [World.heap_size_alloc] at y1)
      have hw1 : Below w.heap.size w w1 := by (repeat' (first | with_reducible exact Below.refl _ _ | with_reducible assumption | with_reducible refine Below.drew ?_ | with_reducible refine Below.alloc ?_ ?_ _ | with_reducible refine Below.setCell ?_ ?_ _ | with_reducible refine Below.trans ?_ (Below.mono (by assumption) ?_) | ((try simp only [World.heap_size_alloc, World.heap_size_drew, World.heap_size_setCell]); omega)))
      have ab0 : w1.cell? ⟨w.heap.size, 0, none⟩ = some (.int .i64 b) := (b1.cell (p := ⟨w.heap.size, 0, none⟩) (by (try simp only [World.heap_size_alloc, World.heap_size_drew, World.heap_size_setCell]); omega)).trans (by simp)
      have ab1 : w1.cell? ⟨w.heap.size, 1, none⟩ = some (.int .i64 t) := (b1.cell (p := ⟨w.heap.size, 1, none⟩) (by (try simp only [World.heap_size_alloc, World.heap_size_drew, World.heap_size_setCell]); omega)).trans (by simp)
      have ab2 : w1.cell? ⟨w.heap.size, 2, none⟩ = some (.slice A n c) := (b1.cell (p := ⟨w.heap.size, 2, none⟩) (by (try simp only [World.heap_size_alloc, World.heap_size_drew, World.heap_size_setCell]); omega)).trans (by simp)
      have am0 : w1.cell? ⟨w.heap.size + 1, 0, none⟩ = some (.int .i64 0) := (b1.cell (p := ⟨w.heap.size + 1, 0, none⟩) (by (try simp only [World.heap_size_alloc, World.heap_size_drew, World.heap_size_setCell]); omega)).trans (by simp)
      have am1 : w1.cell? ⟨w.heap.size + 1, 1, none⟩ = some (.int .i64 0) := (b1.cell (p := ⟨w.heap.size + 1, 1, none⟩) (by (try simp only [World.heap_size_alloc, World.heap_size_drew, World.heap_size_setCell]); omega)).trans (by simp)
      have am2 : w1.cell? ⟨w.heap.size + 1, 2, none⟩ = some (.slice none 0 0) := (b1.cell (p := ⟨w.heap.size + 1, 2, none⟩) (by (try simp only [World.heap_size_alloc, World.heap_size_drew, World.heap_size_setCell]); omega)).trans (by simp)
      have az0 : w1.frozen? ⟨w.heap.size + 1, 0, none⟩ = false := (b1.frozen (p := ⟨w.heap.size + 1, 0, none⟩) (by (try simp only [World.heap_size_alloc, World.heap_size_drew, World.heap_size_setCell]); omega)).trans (by simp)
      have az1 : w1.frozen? ⟨w.heap.size + 1, 1, none⟩ = false := (b1.frozen (p := ⟨w.heap.size + 1, 1, none⟩) (by (try simp only [World.heap_size_alloc, World.heap_size_drew, World.heap_size_setCell]); omega)).trans (by simp)
      have az2 : w1.frozen? ⟨w.heap.size + 1, 2, none⟩ = false := (b1.frozen (p := ⟨w.heap.size + 1, 2, none⟩) (by (try simp only [World.heap_size_alloc, World.heap_size_drew, World.heap_size_setCell]); omega)).trans (by simp)
      have BK : ∀ W, Below w1.heap.size w1 W → (W.cell? ⟨w.heap.size, 0, none⟩ = some (.int .i64 b) ∧ W.cell? ⟨w.heap.size, 1, none⟩ = some (.int .i64 t) ∧ W.cell? ⟨w.heap.size, 2, none⟩ = some (.slice A n c) ∧ W.cell? ⟨w.heap.size + 1, 0, none⟩ = some (.int .i64 0) ∧ W.cell? ⟨w.heap.size + 1, 1, none⟩ = some (.int .i64 0) ∧ W.cell? ⟨w.heap.size + 1, 2, none⟩ = some (.slice none 0 0) ∧ W.frozen? ⟨w.heap.size + 1, 0, none⟩ = false ∧ W.frozen? ⟨w.heap.size + 1, 1, none⟩ = false ∧ W.frozen? ⟨w.heap.size + 1, 2, none⟩ = false) := fun W hb => ⟨(hb.cell (p := ⟨w.heap.size, 0, none⟩) (show w.heap.size < w1.heap.size by omega)).trans ab0, (hb.cell (p := ⟨w.heap.size, 1, none⟩) (show w.heap.size < w1.heap.size by omega)).trans ab1, (hb.cell (p := ⟨w.heap.size, 2, none⟩) (show w.heap.size < w1.heap.size by omega)).trans ab2, (hb.cell (p := ⟨w.heap.size + 1, 0, none⟩) (show w.heap.size + 1 < w1.heap.size by omega)).trans am0, (hb.cell (p := ⟨w.heap.size + 1, 1, none⟩) (show w.heap.size + 1 < w1.heap.size by omega)).trans am1, (hb.cell (p := ⟨w.heap.size + 1, 2, none⟩) (show w.heap.size + 1 < w1.heap.size by omega)).trans am2, (hb.frozen (p := ⟨w.heap.size + 1, 0, none⟩) (show w.heap.size + 1 < w1.heap.size by omega)).trans az0, (hb.frozen (p := ⟨w.heap.size + 1, 1, none⟩) (show w.heap.size + 1 < w1.heap.size by omega)).trans az1, (hb.frozen (p := ⟨w.heap.size + 1, 2, none⟩) (show w.heap.size + 1 < w1.heap.size by omega)).trans az2⟩
      have HBK := Lib.hid BK
      obtain ⟨aa0, aa1, aa2, -⟩ := BK w1 (Below.refl _ _)
      clear BK
      go_wp2_with fail
      (with_reducible refine (HCP.out _ (h.below hw1 hhi)).mono ?_); rintro _ w2 ⟨A2, c2, rfl, s2, b2⟩
      have y2 := b2.size
      have hz1 : w.heap.size + 1 < w1.heap.size := by omega
      have V2 : Below w2.heap.size w2 (w2.alloc (.cells #[.int .i64 b, .int .i64 t, .slice A2 n c2] 29)) := by (repeat' (first | with_reducible exact Below.refl _ _ | with_reducible assumption | with_reducible refine Below.drew ?_ | with_reducible refine Below.alloc ?_ ?_ _ | with_reducible refine Below.setCell ?_ ?_ _ | with_reducible refine Below.trans ?_ (Below.mono (by assumption) ?_) | ((try simp only [World.heap_size_alloc, World.heap_size_drew, World.heap_size_setCell]); omega)))
      have S2 := Lib.hid (s2.below V2 (Nat.le_refl _))
      have R2 := Lib.hid (Rec3.new w2 (.int .i64 b) (.int .i64 t) (.slice A2 n c2) 29)
      have HB2 := Lib.hid (b2.trans (V2.mono y2))
      have HW1 := Lib.hid hw1
      clear s2 V2 b2 hw1 b1 aa0 aa1 aa2 ab0 ab1 ab2 am0 am1 am2 az0 az1 az2
      go_wp2_with fail
      go_loopw [7, 8, 9] (fun i _ _ wr => SgRel w1 w2.heap.size m b t l es i wr) (fun i _ _ _ => m - (intOf i).toNat)
      case atStart => exact ⟨0, l, A2, c2, w1.heap.size, w2.heap.size, Nat.zero_le _, rfl, rfl, by rw [HL.out]; exact R2.out, by rw [HL.out]; exact S2, .inl (Nat.le_refl _), Nat.le_refl _, by (try simp only [World.heap_size_alloc, World.heap_size_drew, World.heap_size_setCell]); omega, HB2.out⟩
      case round =>
        obtain ⟨j, k, Ak, ck, slo, shi, hj, rfl, hg, hrec, hsk, hho, hlo, hhs, hb⟩ := hrel
        have hbz := hb.size
        have hkb := growM_ok HOK.out hg.out
        have hkl := (bookOk_iff.1 hkb).2.2.2.1
        have HKB := Lib.hid hkb
        have HB := Lib.hid hb
        have HREC := Lib.hid hrec
        have hz := hrec.lt
        have HW : Hid (Below w.heap.size w wr) := Lib.hid (HW1.out.trans (hb.mono (by omega)))
        clear hkb
        by_cases hlt : j < m
        · obtain ⟨g, off, e, rfl, _, hg1, he, p0, p1, p2, p3, p4, p5, p6, p7, p8⟩ := h'.entry hlt
          have hgw := Nat.lt_of_lt_of_le hg1 hhi'
          have r0 := (HW.out.cell (p := ⟨g, off + j * 9, none⟩) hgw).trans p0
          have r1 := (HW.out.cell (p := ⟨g, off + j * 9 + 1, none⟩) hgw).trans p1
          have r2 := (HW.out.cell (p := ⟨g, off + j * 9 + 2, none⟩) hgw).trans p2
          have r3 := (HW.out.cell (p := ⟨g, off + j * 9 + 3, none⟩) hgw).trans p3
          have r4 := (HW.out.cell (p := ⟨g, off + j * 9 + 4, none⟩) hgw).trans p4
          have r5 := (HW.out.cell (p := ⟨g, off + j * 9 + 5, none⟩) hgw).trans p5
          have r6 := (HW.out.cell (p := ⟨g, off + j * 9 + 6, none⟩) hgw).trans p6
          have r7 := (HW.out.cell (p := ⟨g, off + j * 9 + 7, none⟩) hgw).trans p7
          have r8 := (HW.out.cell (p := ⟨g, off + j * 9 + 8, none⟩) hgw).trans p8
          clear p0 p1 p2 p3 p4 p5 p6 p7 p8
          have HE := Lib.hid he
          obtain ⟨c0, c1, c2', -, -, -⟩ := id hrec
          clear he hb hrec
          have CAP : ∀ W, Sl W slo shi 9 Ak k.length ck (k.flatMap EntryD.ints) → Calls Try.prog 41 #[.agg #[.int .i64 b, .int .i64 t, .slice Ak k.length ck], .agg #[.int .i64 e.index, .int .i64 e.time, .int .i64 e.client, .int .i64 e.seq, .int .i64 e.op.kind, .int .i64 e.op.a, .int .i64 e.op.b, .int .i64 e.op.c, .int .i64 e.op.d]] W (BookBRes W (appendedM b t k e).1 (appendedM b t k e).2.1 (appendedM b t k e).2.2.1.length ((appendedM b t k e).2.2.1.flatMap EntryD.ints) (appendedM b t k e).2.2.2) := fun W s => sAppended_any b t Ak k.length ck _ _ k e W s
          have SK : ∀ W, Below wr.heap.size wr W → (W.cell? ⟨w2.heap.size, 0, none⟩ = some (.int .i64 b) ∧ W.cell? ⟨w2.heap.size, 1, none⟩ = some (.int .i64 t) ∧ W.cell? ⟨w2.heap.size, 2, none⟩ = some (.slice Ak k.length ck) ∧ W.cell? ⟨g, off + j * 9, none⟩ = some (.int .i64 e.index) ∧ W.cell? ⟨g, off + j * 9 + 1, none⟩ = some (.int .i64 e.time) ∧ W.cell? ⟨g, off + j * 9 + 2, none⟩ = some (.int .i64 e.client) ∧ W.cell? ⟨g, off + j * 9 + 3, none⟩ = some (.int .i64 e.seq) ∧ W.cell? ⟨g, off + j * 9 + 4, none⟩ = some (.int .i64 e.op.kind) ∧ W.cell? ⟨g, off + j * 9 + 5, none⟩ = some (.int .i64 e.op.a) ∧ W.cell? ⟨g, off + j * 9 + 6, none⟩ = some (.int .i64 e.op.b) ∧ W.cell? ⟨g, off + j * 9 + 7, none⟩ = some (.int .i64 e.op.c) ∧ W.cell? ⟨g, off + j * 9 + 8, none⟩ = some (.int .i64 e.op.d) ∧ Below wr.heap.size wr W) := fun W hbW => ⟨(hbW.cell (p := ⟨w2.heap.size, 0, none⟩) hz).trans c0, (hbW.cell (p := ⟨w2.heap.size, 1, none⟩) hz).trans c1, (hbW.cell (p := ⟨w2.heap.size, 2, none⟩) hz).trans c2', (hbW.cell (p := ⟨g, off + j * 9, none⟩) (show g < wr.heap.size by omega)).trans r0, (hbW.cell (p := ⟨g, off + j * 9 + 1, none⟩) (show g < wr.heap.size by omega)).trans r1, (hbW.cell (p := ⟨g, off + j * 9 + 2, none⟩) (show g < wr.heap.size by omega)).trans r2, (hbW.cell (p := ⟨g, off + j * 9 + 3, none⟩) (show g < wr.heap.size by omega)).trans r3, (hbW.cell (p := ⟨g, off + j * 9 + 4, none⟩) (show g < wr.heap.size by omega)).trans r4, (hbW.cell (p := ⟨g, off + j * 9 + 5, none⟩) (show g < wr.heap.size by omega)).trans r5, (hbW.cell (p := ⟨g, off + j * 9 + 6, none⟩) (show g < wr.heap.size by omega)).trans r6, (hbW.cell (p := ⟨g, off + j * 9 + 7, none⟩) (show g < wr.heap.size by omega)).trans r7, (hbW.cell (p := ⟨g, off + j * 9 + 8, none⟩) (show g < wr.heap.size by omega)).trans r8, hbW⟩
          have HSK := Lib.hid SK
          clear SK
          have hgr : g < wr.heap.size := by omega
          have hjm : (j : Int) < (m : Int) := by omega
          cases hf : fitsM b t k e with
          | true =>
            have e1 : appendedM b t k e = (b, t, k ++ [e], true) := by simp [appendedM, HKB.out, hf]
            rw [e1] at CAP
            simp only at CAP
            obtain ⟨kn, hkn⟩ : ∃ kn, (k ++ [e]).length = kn := ⟨_, rfl⟩
            obtain ⟨kz, hkz⟩ : ∃ kz, (k ++ [e]).flatMap EntryD.ints = kz := ⟨_, rfl⟩
            rw [hkn, hkz] at CAP
            have HCAP := Lib.hid CAP
            have HF := Lib.hid hf
            have HKN := Lib.hid hkn
            have HKZ := Lib.hid hkz
            clear e1 CAP hf hkn hkz
            go_upto_region 9 with fail
            go_cut [8, 9] (fun s8 s9 wx => BoxRel wr b t kn kz s8 wx ∧ s9 = .bool true ∧ Below wr.heap.size wr wx)
            case first =>
              obtain ⟨fx0, fx1, fx2, fx3, fx4, fx5, fx6, fx7, fx8, fx9, fx10, fx11, -⟩ := HSK.out wr (Below.refl _ _)
              go_region_held3 (fun w' => w'.cell? ⟨w2.heap.size, 0, none⟩ = some (.int .i64 b) ∧ w'.cell? ⟨w2.heap.size, 1, none⟩ = some (.int .i64 t) ∧ w'.cell? ⟨w2.heap.size, 2, none⟩ = some (.slice Ak k.length ck) ∧ w'.cell? ⟨g, off + j * 9, none⟩ = some (.int .i64 e.index) ∧ w'.cell? ⟨g, off + j * 9 + 1, none⟩ = some (.int .i64 e.time) ∧ w'.cell? ⟨g, off + j * 9 + 2, none⟩ = some (.int .i64 e.client) ∧ w'.cell? ⟨g, off + j * 9 + 3, none⟩ = some (.int .i64 e.seq) ∧ w'.cell? ⟨g, off + j * 9 + 4, none⟩ = some (.int .i64 e.op.kind) ∧ w'.cell? ⟨g, off + j * 9 + 5, none⟩ = some (.int .i64 e.op.a) ∧ w'.cell? ⟨g, off + j * 9 + 6, none⟩ = some (.int .i64 e.op.b) ∧ w'.cell? ⟨g, off + j * 9 + 7, none⟩ = some (.int .i64 e.op.c) ∧ w'.cell? ⟨g, off + j * 9 + 8, none⟩ = some (.int .i64 e.op.d) ∧ Below wr.heap.size wr w')
                (first | (refine HSK.out _ ?_; (repeat' (first | with_reducible exact Below.refl _ _ | with_reducible assumption | with_reducible refine Below.drew ?_ | with_reducible refine Below.alloc ?_ ?_ _ | with_reducible refine Below.setCell ?_ ?_ _ | with_reducible refine Below.trans ?_ (Below.mono (by assumption) ?_) | ((try simp only [World.heap_size_alloc, World.heap_size_drew, World.heap_size_setCell]); omega)))) | (go_split_ands; refine HSK.out _ ?_; (repeat' (first | with_reducible exact Below.refl _ _ | with_reducible assumption | with_reducible refine Below.drew ?_ | with_reducible refine Below.alloc ?_ ?_ _ | with_reducible refine Below.setCell ?_ ?_ _ | with_reducible refine Below.trans ?_ (Below.mono (by assumption) ?_) | ((try simp only [World.heap_size_alloc, World.heap_size_drew, World.heap_size_setCell]); omega)))))
                (first | (go_at_call 41; (with_reducible refine (HCAP.out _ (hsk.out.below (B := wr.heap.size) (by (repeat' (first | with_reducible exact Below.refl _ _ | with_reducible assumption | with_reducible refine Below.drew ?_ | with_reducible refine Below.alloc ?_ ?_ _ | with_reducible refine Below.setCell ?_ ?_ _ | with_reducible refine Below.trans ?_ (Below.mono (by assumption) ?_) | ((try simp only [World.heap_size_alloc, World.heap_size_drew, World.heap_size_setCell]); omega)))) hhs)).mono ?_); rintro _ w9 ⟨A9, c9, rfl, s9, b9⟩; have hb9 : Below wr.heap.size wr w9 := (by (repeat' (first | with_reducible exact Below.refl _ _ | with_reducible assumption | with_reducible refine Below.drew ?_ | with_reducible refine Below.alloc ?_ ?_ _ | with_reducible refine Below.setCell ?_ ?_ _ | with_reducible refine Below.trans ?_ (Below.mono (by assumption) ?_) | ((try simp only [World.heap_size_alloc, World.heap_size_drew, World.heap_size_setCell]); omega)))); have y9 := b9.size; (try simp only [World.heap_size_alloc, World.heap_size_drew] at y9); (try have k9 : Rec3 w9 wr.heap.size (.int .i64 0) (.int .i64 0) (.slice none 0 0) := (by first | exact (Rec3.new wr (.int .i64 0) (.int .i64 0) (.slice none 0 0) 29).below b9 (by (try simp only [World.heap_size_alloc, World.heap_size_drew, World.heap_size_setCell]); omega) | exact (Rec3.new wr.drew (.int .i64 0) (.int .i64 0) (.slice none 0 0) 29).below b9 (by (try simp only [World.heap_size_alloc, World.heap_size_drew, World.heap_size_setCell]); omega))); (try obtain ⟨ka, kb, kc, kd, ke, kf⟩ := id k9)))
              all_goals
                go_wp2_with fail
                go_meet
                first
                  | exact ⟨BoxRel.new s9 (by omega) (by first | exact Nat.le_refl _ | ((try simp only [World.heap_size_alloc, World.heap_size_drew, World.heap_size_setCell]); omega)) (Nat.le_refl _), rfl, by (repeat' (first | with_reducible exact Below.refl _ _ | with_reducible assumption | with_reducible refine Below.drew ?_ | with_reducible refine Below.alloc ?_ ?_ _ | with_reducible refine Below.setCell ?_ ?_ _ | with_reducible refine Below.trans ?_ (Below.mono (by assumption) ?_) | ((try simp only [World.heap_size_alloc, World.heap_size_drew, World.heap_size_setCell]); omega)))⟩
                  | exact ⟨BoxRel.set k9 s9 (Nat.le_refl _) (by (try simp only [World.heap_size_alloc, World.heap_size_drew, World.heap_size_setCell]); omega) (Nat.le_refl _), rfl, by (repeat' (first | with_reducible exact Below.refl _ _ | with_reducible assumption | with_reducible refine Below.drew ?_ | with_reducible refine Below.alloc ?_ ?_ _ | with_reducible refine Below.setCell ?_ ?_ _ | with_reducible refine Below.trans ?_ (Below.mono (by assumption) ?_) | ((try simp only [World.heap_size_alloc, World.heap_size_drew, World.heap_size_setCell]); omega)))⟩
            case rest =>
              obtain ⟨⟨g9, lo9, hi9, A9, c9, rfl, hg9, r9, s9, hl9, hh9, ho9⟩, rfl, b9⟩ := hcut
              have y9 := b9.size
              have RO := Lib.hid (HREC.out.below b9 hz)
              obtain ⟨x0, x1, x2, -, -, -⟩ := id r9
              obtain ⟨v0, v1, v2, vf0, vf1, vf2⟩ := id RO.out
              have hu : Upd w2.heap.size (w2.heap.size + 1) wc (((wc.setCell ⟨w2.heap.size, 0, none⟩ (.int .i64 b)).setCell ⟨w2.heap.size, 1, none⟩ (.int .i64 t)).setCell ⟨w2.heap.size, 2, none⟩ (.slice A9 kn c9)) := (((Upd.refl _ _ _).setCell (p := ⟨w2.heap.size, 0, none⟩) (Nat.le_refl _) (Nat.lt_succ_self _) _).setCell (p := ⟨w2.heap.size, 1, none⟩) (Nat.le_refl _) (Nat.lt_succ_self _) _).setCell (p := ⟨w2.heap.size, 2, none⟩) (Nat.le_refl _) (Nat.lt_succ_self _) _
              have SN := Lib.hid (s9.upd hu (.inr (by omega)))
              have BN := Lib.hid ((HB.out.trans (b9.mono hbz)).trans (hu.below y2 (by omega)))
              have RN := Lib.hid (Rec3.set RO.out (.int .i64 b) (.int .i64 t) (.slice A9 kn c9))
              have hh10 : hi9 ≤ (((wc.setCell ⟨w2.heap.size, 0, none⟩ (.int .i64 b)).setCell ⟨w2.heap.size, 1, none⟩ (.int .i64 t)).setCell ⟨w2.heap.size, 2, none⟩ (.slice A9 kn c9)).heap.size := by (try simp only [World.heap_size_alloc, World.heap_size_drew, World.heap_size_setCell]); omega
              clear hu s9 b9 r9
              go_wp2_with fail
              go_roundw
              case rel =>
                obtain rfl := HKN.out
                obtain rfl := HKZ.out
                exact ⟨j + 1, k ++ [e], A9, c9, lo9, hi9, hlt, by go_num, Lib.hid (growM_take_succ hg.out HE.out HF.out), RN.out, SN, .inr (by omega), by omega, hh10, BN.out⟩
              case measure => simp [intOf]; omega
          | false =>
            have e1 : appendedM b t k e = (b, t, k, false) := by simp [appendedM, HKB.out, hf]
            rw [e1] at CAP
            simp only at CAP
            have HCAP := Lib.hid CAP
            have hgf : growM b t l es = none := growM_fail hg.out HE.out hf
            have e0 : grownM b t l es = (b, t, l, false) := by unfold grownM; rw [if_pos HOK.out, hgf]
            have h9 := e0.symm.trans HR.out
            simp only [Prod.mk.injEq] at h9
            obtain ⟨rfl, rfl, rfl, rfl⟩ := h9
            clear e0 hgf hf hg HR e1 CAP
            go_upto_region 9 with fail
            go_cut [8, 9] (fun s8 s9 wx => BoxRel wr b t k.length (k.flatMap EntryD.ints) s8 wx ∧ s9 = .bool false ∧ Below wr.heap.size wr wx)
            case first =>
              obtain ⟨fx0, fx1, fx2, fx3, fx4, fx5, fx6, fx7, fx8, fx9, fx10, fx11, -⟩ := HSK.out wr (Below.refl _ _)
              go_region_held3 (fun w' => w'.cell? ⟨w2.heap.size, 0, none⟩ = some (.int .i64 b) ∧ w'.cell? ⟨w2.heap.size, 1, none⟩ = some (.int .i64 t) ∧ w'.cell? ⟨w2.heap.size, 2, none⟩ = some (.slice Ak k.length ck) ∧ w'.cell? ⟨g, off + j * 9, none⟩ = some (.int .i64 e.index) ∧ w'.cell? ⟨g, off + j * 9 + 1, none⟩ = some (.int .i64 e.time) ∧ w'.cell? ⟨g, off + j * 9 + 2, none⟩ = some (.int .i64 e.client) ∧ w'.cell? ⟨g, off + j * 9 + 3, none⟩ = some (.int .i64 e.seq) ∧ w'.cell? ⟨g, off + j * 9 + 4, none⟩ = some (.int .i64 e.op.kind) ∧ w'.cell? ⟨g, off + j * 9 + 5, none⟩ = some (.int .i64 e.op.a) ∧ w'.cell? ⟨g, off + j * 9 + 6, none⟩ = some (.int .i64 e.op.b) ∧ w'.cell? ⟨g, off + j * 9 + 7, none⟩ = some (.int .i64 e.op.c) ∧ w'.cell? ⟨g, off + j * 9 + 8, none⟩ = some (.int .i64 e.op.d) ∧ Below wr.heap.size wr w')
                (first | (refine HSK.out _ ?_; (repeat' (first | with_reducible exact Below.refl _ _ | with_reducible assumption | with_reducible refine Below.drew ?_ | with_reducible refine Below.alloc ?_ ?_ _ | with_reducible refine Below.setCell ?_ ?_ _ | with_reducible refine Below.trans ?_ (Below.mono (by assumption) ?_) | ((try simp only [World.heap_size_alloc, World.heap_size_drew, World.heap_size_setCell]); omega)))) | (go_split_ands; refine HSK.out _ ?_; (repeat' (first | with_reducible exact Below.refl _ _ | with_reducible assumption | with_reducible refine Below.drew ?_ | with_reducible refine Below.alloc ?_ ?_ _ | with_reducible refine Below.setCell ?_ ?_ _ | with_reducible refine Below.trans ?_ (Below.mono (by assumption) ?_) | ((try simp only [World.heap_size_alloc, World.heap_size_drew, World.heap_size_setCell]); omega)))))
                (first | (go_at_call 41; (with_reducible refine (HCAP.out _ (hsk.out.below (B := wr.heap.size) (by (repeat' (first | with_reducible exact Below.refl _ _ | with_reducible assumption | with_reducible refine Below.drew ?_ | with_reducible refine Below.alloc ?_ ?_ _ | with_reducible refine Below.setCell ?_ ?_ _ | with_reducible refine Below.trans ?_ (Below.mono (by assumption) ?_) | ((try simp only [World.heap_size_alloc, World.heap_size_drew, World.heap_size_setCell]); omega)))) hhs)).mono ?_); rintro _ w9 ⟨A9, c9, rfl, s9, b9⟩; have hb9 : Below wr.heap.size wr w9 := (by (repeat' (first | with_reducible exact Below.refl _ _ | with_reducible assumption | with_reducible refine Below.drew ?_ | with_reducible refine Below.alloc ?_ ?_ _ | with_reducible refine Below.setCell ?_ ?_ _ | with_reducible refine Below.trans ?_ (Below.mono (by assumption) ?_) | ((try simp only [World.heap_size_alloc, World.heap_size_drew, World.heap_size_setCell]); omega)))); have y9 := b9.size; (try simp only [World.heap_size_alloc, World.heap_size_drew] at y9); (try have k9 : Rec3 w9 wr.heap.size (.int .i64 0) (.int .i64 0) (.slice none 0 0) := (by first | exact (Rec3.new wr (.int .i64 0) (.int .i64 0) (.slice none 0 0) 29).below b9 (by (try simp only [World.heap_size_alloc, World.heap_size_drew, World.heap_size_setCell]); omega) | exact (Rec3.new wr.drew (.int .i64 0) (.int .i64 0) (.slice none 0 0) 29).below b9 (by (try simp only [World.heap_size_alloc, World.heap_size_drew, World.heap_size_setCell]); omega))); (try obtain ⟨ka, kb, kc, kd, ke, kf⟩ := id k9)))
              all_goals
                go_wp2_with fail
                go_meet
                first
                  | exact ⟨BoxRel.new s9 (by omega) (by first | exact Nat.le_refl _ | ((try simp only [World.heap_size_alloc, World.heap_size_drew, World.heap_size_setCell]); omega)) (Nat.le_refl _), rfl, by (repeat' (first | with_reducible exact Below.refl _ _ | with_reducible assumption | with_reducible refine Below.drew ?_ | with_reducible refine Below.alloc ?_ ?_ _ | with_reducible refine Below.setCell ?_ ?_ _ | with_reducible refine Below.trans ?_ (Below.mono (by assumption) ?_) | ((try simp only [World.heap_size_alloc, World.heap_size_drew, World.heap_size_setCell]); omega)))⟩
                  | exact ⟨BoxRel.set k9 s9 (Nat.le_refl _) (by (try simp only [World.heap_size_alloc, World.heap_size_drew, World.heap_size_setCell]); omega) (Nat.le_refl _), rfl, by (repeat' (first | with_reducible exact Below.refl _ _ | with_reducible assumption | with_reducible refine Below.drew ?_ | with_reducible refine Below.alloc ?_ ?_ _ | with_reducible refine Below.setCell ?_ ?_ _ | with_reducible refine Below.trans ?_ (Below.mono (by assumption) ?_) | ((try simp only [World.heap_size_alloc, World.heap_size_drew, World.heap_size_setCell]); omega)))⟩
            case rest =>
              obtain ⟨⟨g9, lo9, hi9, A9, c9, rfl, hg9, r9, s9, hl9, hh9, ho9⟩, rfl, b9⟩ := hcut
              have y9 := b9.size
              have hb3 := HB.out.trans (b9.mono hbz)
              have hw3 := HW1.out.trans (hb3.mono (by omega))
              obtain ⟨cc0, cc1, cc2, m0, m1, m2, z0, z1, z2⟩ := HBK.out wc hb3
              clear z0 z1 z2 m0 m1 m2 r9 s9
              go_wp2_with fail
              (with_reducible refine (HCP.out _ (h.below hw3 hhi)).mono ?_); rintro _ w5 ⟨A5, c5, rfl, s5, b5⟩
              have y5 := b5.size
              have hb5 : Below w1.heap.size w1 w5 := hb3.trans (b5.mono (by omega))
              clear cc0 cc1 cc2
              obtain ⟨cc0, cc1, cc2, m0, m1, m2, z0, z1, z2⟩ := HBK.out w5 hb5
              go_wp2_with fail
              refine bodyPost_ret (v := .tuple #[.agg #[.int .i64 b, .int .i64 t, .slice A5 n c5], .bool false]) (by simp [results, Try.results45, go_sem, m0, m1, m2]) rfl ⟨A5, c5, by first | rfl | rw [HL.out], ?_, ?_⟩
              · (try rw [HL.out])
                refine Sl.mono (Sl.upd (lo' := w.heap.size + 1) (hi' := w.heap.size + 2) s5 ?_ (.inr (by omega))) (by omega) (by (try simp only [World.heap_size_alloc, World.heap_size_drew, World.heap_size_setCell]); omega)
                (repeat' (first | with_reducible exact Upd.refl _ _ _ | with_reducible assumption | with_reducible refine Upd.drew ?_ | with_reducible refine Upd.alloc ?_ _ | with_reducible refine Upd.setCell ?_ ?_ ?_ _ | (simp only []; omega) | omega))
              · have c9 := (hw3.trans (b5.mono (by omega)))
                (repeat' (first | with_reducible exact Below.refl _ _ | with_reducible assumption | with_reducible refine Below.drew ?_ | with_reducible refine Below.alloc ?_ ?_ _ | with_reducible refine Below.setCell ?_ ?_ _ | with_reducible refine Below.trans ?_ (Below.mono (by assumption) ?_) | ((try simp only [World.heap_size_alloc, World.heap_size_drew, World.heap_size_setCell]); omega)))
        · have hjm : j = m := by omega
          subst hjm
          have hgf : growM b t l es = some k := by
            have := hg.out
            rwa [List.take_of_length_le (by rw [HM.out]; omega)] at this
          have e0 : grownM b t l es = (b, t, k, true) := by unfold grownM; rw [if_pos HOK.out, hgf]
          have h9 := e0.symm.trans HR.out
          simp only [Prod.mk.injEq] at h9
          obtain ⟨rfl, rfl, rfl, rfl⟩ := h9
          obtain ⟨cc0, cc1, cc2, m0, m1, m2, z0, z1, z2⟩ := HBK.out wr HB.out
          obtain ⟨c0, c1, c2', -, -, -⟩ := id hrec
          have HREC2 := Lib.hid hrec
          clear e0 hgf hg HR cc0 cc1 cc2 hb hrec
          go_wp2_with fail
          refine bodyPost_ret (v := .tuple #[.agg #[.int .i64 b, .int .i64 t, .slice Ak k.length ck], .bool true]) (by simp [results, Try.results45, go_sem, m0, m1, m2]) rfl ⟨Ak, ck, by first | rfl | rw [HL.out], ?_, ?_⟩
          · (try rw [HL.out])
            refine Sl.mono (Sl.upd (lo' := w.heap.size + 1) (hi' := w.heap.size + 2) hsk.out ?_ (.inr (by omega))) (by omega) (by (try simp only [World.heap_size_alloc, World.heap_size_drew, World.heap_size_setCell]); omega)
            (repeat' (first | with_reducible exact Upd.refl _ _ _ | with_reducible assumption | with_reducible refine Upd.drew ?_ | with_reducible refine Upd.alloc ?_ _ | with_reducible refine Upd.setCell ?_ ?_ ?_ _ | (simp only []; omega) | omega))
          · have c9 := HW.out
            (repeat' (first | with_reducible exact Below.refl _ _ | with_reducible assumption | with_reducible refine Below.drew ?_ | with_reducible refine Below.alloc ?_ ?_ _ | with_reducible refine Below.setCell ?_ ?_ _ | with_reducible refine Below.trans ?_ (Below.mono (by assumption) ?_) | ((try simp only [World.heap_size_alloc, World.heap_size_drew, World.heap_size_setCell]); omega)))

end Go.Proofs.Ytijefbmnhcecmaa
