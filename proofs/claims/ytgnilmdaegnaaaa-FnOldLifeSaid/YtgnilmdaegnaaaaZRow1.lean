/- From a sector's row back to a head: what the program's and the reference's functions return. No conditions. -/
import Derived.Test.YtgnilmdaegnaaaaZHRow
import Derived.Test.YtgnilmdaegnaaaaZSlot2
import Derived.StillTailTactics
import Derived.Deep.DeepCutAuto
import Derived.IntWalk
set_option linter.unusedSimpArgs false
set_option linter.unusedVariables false
namespace Go.Proofs.Ytgnilmdaegnaaaa
open Go.RowKit
def rowMark (zs : List Int) (j : Nat) : List MarkD := if zs.getD (3 + 2 * j) 0 = 0 ∧ zs.getD (4 + 2 * j) 0 = 0 then [] else [⟨2 + (j : Int), zs.getD (3 + 2 * j) 0, zs.getD (4 + 2 * j) 0⟩]
def rowMarks (zs : List Int) : Nat → List MarkD
  | 0 => []
  | j + 1 => rowMarks zs j ++ rowMark zs j
theorem rowMarks_len (zs : List Int) : ∀ j, (rowMarks zs j).length ≤ j
  | 0 => Nat.le_refl _
  | j + 1 => by
    have h := rowMarks_len zs j
    simp only [rowMarks, List.length_append, rowMark]
    split <;> simp <;> omega
def rowHead (zs : List Int) : Int × Int × Int × List MarkD × Bool :=
  if zs.length = 13 ∧ zs.getD 11 0 = zs.getD 0 0 ∧ zs.getD 12 0 = zs.getD 0 0 ∧ headOk (zs.getD 0 0) (zs.getD 1 0) (zs.getD 2 0) (rowMarks zs 4) = true then (zs.getD 0 0, zs.getD 1 0, zs.getD 2 0, rowMarks zs 4, true) else (0, 0, 0, [], false)
theorem gcellO {w w' : World} {o : Option Nat} (hg : w.grownBy w' o) {b : Nat} (hb : b < w.heap.size) (hne : ∀ g, o = some g → g ≠ b) : (∀ q, w'.cell? ⟨b, q, none⟩ = w.cell? ⟨b, q, none⟩) ∧ (∀ q, w'.frozen? ⟨b, q, none⟩ = w.frozen? ⟨b, q, none⟩) := by
  have h := hg.block b hb (fun e => hne b e.symm rfl)
  exact ⟨fun q => World.cell?_of_block (w := w) (a := ⟨b, q, none⟩) h, fun q => World.frozen?_of_block (w := w) (a := ⟨b, q, none⟩) h⟩
theorem Own.setC {w : World} {base e k : Nat} {v : Value} {n : Nat} {zs : List Int} (h : Own w base e k v n zs) {B : Nat} (hne : ∀ g, v.ownBlock = some g → g ≠ B) (q : Nat) (x : Value) : Own (w.setCell ⟨B, q, none⟩ x) base e k v n zs := by
  refine ⟨h.1, ?_⟩
  rcases h.2 with hn | ⟨g, cap, cur, hv, hg, hh, r⟩
  · exact .inl hn
  · refine .inr ⟨g, cap, cur, hv, hg, ?_, r⟩
    have hu : Upd B (B + 1) w (w.setCell ⟨B, q, none⟩ x) := (Upd.refl B (B + 1) w).setCell (p := ⟨B, q, none⟩) (Nat.le_refl _) (Nat.lt_succ_self _) _
    have hgb := hne g (by rw [hv]; rfl)
    rw [hu.block g (Array.getElem?_eq_some_iff.1 hh).1 (by omega)]
    exact hh
/-- The head that is being built, in its box. -/
def RhBox (w0 : World) (E : Nat) (a b c : Int) (l : List MarkD) (v : Value) (wr : World) : Prop :=
  Own wr w0.heap.size E 3 v l.length (l.flatMap MarkD.ints) ∧ (∀ g, v.ownBlock = some g → g ≠ w0.heap.size) ∧ wr.cell? ⟨w0.heap.size, 0, none⟩ = some (.int .i64 a) ∧ wr.cell? ⟨w0.heap.size, 1, none⟩ = some (.int .i64 b) ∧ wr.cell? ⟨w0.heap.size, 2, none⟩ = some (.int .i64 c) ∧
    wr.cell? ⟨w0.heap.size, 3, none⟩ = some v ∧ wr.frozen? ⟨w0.heap.size, 3, none⟩ = false ∧ w0.heap.size < wr.heap.size ∧ Below w0.heap.size w0 wr
theorem RhBox.step {w0 w4 : World} {E : Nat} {a b c : Int} {l : List MarkD} {m : MarkD} {v x : Value} (ho : Own w4 w0.heap.size E 3 v (l.length + 1) (l.flatMap MarkD.ints ++ m.ints)) (hne : ∀ g, v.ownBlock = some g → g ≠ w0.heap.size) (c0 : w4.cell? ⟨w0.heap.size, 0, none⟩ = some (.int .i64 a)) (c1 : w4.cell? ⟨w0.heap.size, 1, none⟩ = some (.int .i64 b))
    (c2 : w4.cell? ⟨w0.heap.size, 2, none⟩ = some (.int .i64 c)) (c3 : w4.cell? ⟨w0.heap.size, 3, none⟩ = some x) (f3 : w4.frozen? ⟨w0.heap.size, 3, none⟩ = false) (hz : w0.heap.size < w4.heap.size) (hb : Below w0.heap.size w0 w4) : RhBox w0 E a b c (l ++ [m]) v (w4.setCell ⟨w0.heap.size, 3, none⟩ v) :=
  ⟨by
    have := Own.setC ho hne 3 v
    rw [List.length_append, List.flatMap_append]
    simpa using this, hne, (World.cell?_setCell_other _ _ _ _ (by simp)).trans c0, (World.cell?_setCell_other _ _ _ _ (by simp)).trans c1, (World.cell?_setCell_other _ _ _ _ (by simp)).trans c2, World.cell?_setCell_same _ _ _ c3, (World.frozen?_setCell _ _ _ _).trans f3, by rw [World.heap_size_setCell]; exact hz, hb.setCell (p := ⟨w0.heap.size, 3, none⟩) (Nat.le_refl _) _⟩
set_option maxRecDepth 100000 in
set_option maxHeartbeats 8000000 in
theorem rowHead_any (A : Option Addr) (n c lo hi : Nat) (zs : List Int) (w : World) (h : Sl w lo hi 1 A n c zs) :
    Calls Try.prog 32 #[.slice A n c] w (HeadBRes w (rowHead zs).1 (rowHead zs).2.1 (rowHead zs).2.2.1 (rowHead zs).2.2.2.1.length ((rowHead zs).2.2.2.1.flatMap MarkD.ints) (rowHead zs).2.2.2.2) := by
  have hmin : min hi w.heap.size ≤ w.heap.size := Nat.min_le_right _ _
  have hn : n ≤ 9223372036854775807 := Nat.le_trans h.cap h.big
  by_cases h13 : n = 13
  · subst h13
    have hzl : zs.length = 13 := by have := h.len; omega
    obtain ⟨g, off, rfl, hlo, hhi, hI⟩ := (h.fit (by omega)).lie (by omega)
    have hgw : g < w.heap.size := by omega
    have hcap := h.cap
    have hbig := h.big
    have p0 := (hI.getD (j := 0) (by omega)).1
    have p1 := (hI.getD (j := 1) (by omega)).1
    have p2 := (hI.getD (j := 2) (by omega)).1
    have p3 := (hI.getD (j := 3) (by omega)).1
    have p4 := (hI.getD (j := 4) (by omega)).1
    have p5 := (hI.getD (j := 5) (by omega)).1
    have p6 := (hI.getD (j := 6) (by omega)).1
    have p7 := (hI.getD (j := 7) (by omega)).1
    have p8 := (hI.getD (j := 8) (by omega)).1
    have p9 := (hI.getD (j := 9) (by omega)).1
    have p10 := (hI.getD (j := 10) (by omega)).1
    have p11 := (hI.getD (j := 11) (by omega)).1
    have p12 := (hI.getD (j := 12) (by omega)).1
    simp only [Nat.add_zero] at p0
    obtain ⟨q0, hq0⟩ : ∃ x, zs.getD 0 0 = x := ⟨_, rfl⟩
    rw [hq0] at p0
    obtain ⟨q1, hq1⟩ : ∃ x, zs.getD 1 0 = x := ⟨_, rfl⟩
    rw [hq1] at p1
    obtain ⟨q2, hq2⟩ : ∃ x, zs.getD 2 0 = x := ⟨_, rfl⟩
    rw [hq2] at p2
    obtain ⟨q3, hq3⟩ : ∃ x, zs.getD 3 0 = x := ⟨_, rfl⟩
    rw [hq3] at p3
    obtain ⟨q4, hq4⟩ : ∃ x, zs.getD 4 0 = x := ⟨_, rfl⟩
    rw [hq4] at p4
    obtain ⟨q5, hq5⟩ : ∃ x, zs.getD 5 0 = x := ⟨_, rfl⟩
    rw [hq5] at p5
    obtain ⟨q6, hq6⟩ : ∃ x, zs.getD 6 0 = x := ⟨_, rfl⟩
    rw [hq6] at p6
    obtain ⟨q7, hq7⟩ : ∃ x, zs.getD 7 0 = x := ⟨_, rfl⟩
    rw [hq7] at p7
    obtain ⟨q8, hq8⟩ : ∃ x, zs.getD 8 0 = x := ⟨_, rfl⟩
    rw [hq8] at p8
    obtain ⟨q9, hq9⟩ : ∃ x, zs.getD 9 0 = x := ⟨_, rfl⟩
    rw [hq9] at p9
    obtain ⟨q10, hq10⟩ : ∃ x, zs.getD 10 0 = x := ⟨_, rfl⟩
    rw [hq10] at p10
    obtain ⟨q11, hq11⟩ : ∃ x, zs.getD 11 0 = x := ⟨_, rfl⟩
    rw [hq11] at p11
    obtain ⟨q12, hq12⟩ : ∃ x, zs.getD 12 0 = x := ⟨_, rfl⟩
    rw [hq12] at p12
    have HII := Lib.hid hI
    have HZL := Lib.hid hzl
    have HQ := Lib.hid (And.intro hq0 (And.intro hq1 (And.intro hq2 (And.intro hq11 hq12))))
    have HM0 : Hid (rowMark zs 0 = if q3 = 0 ∧ q4 = 0 then [] else [⟨2 + (0 : Int), q3, q4⟩]) := Lib.hid (by unfold rowMark; rw [show 3 + 2 * 0 = 3 from rfl, show 4 + 2 * 0 = 4 from rfl, hq3, hq4]; rfl)
    have HM1 : Hid (rowMark zs 1 = if q5 = 0 ∧ q6 = 0 then [] else [⟨2 + (1 : Int), q5, q6⟩]) := Lib.hid (by unfold rowMark; rw [show 3 + 2 * 1 = 5 from rfl, show 4 + 2 * 1 = 6 from rfl, hq5, hq6]; rfl)
    have HM2 : Hid (rowMark zs 2 = if q7 = 0 ∧ q8 = 0 then [] else [⟨2 + (2 : Int), q7, q8⟩]) := Lib.hid (by unfold rowMark; rw [show 3 + 2 * 2 = 7 from rfl, show 4 + 2 * 2 = 8 from rfl, hq7, hq8]; rfl)
    have HM3 : Hid (rowMark zs 3 = if q9 = 0 ∧ q10 = 0 then [] else [⟨2 + (3 : Int), q9, q10⟩]) := Lib.hid (by unfold rowMark; rw [show 3 + 2 * 3 = 9 from rfl, show 4 + 2 * 3 = 10 from rfl, hq9, hq10]; rfl)
    clear hzl hI h hq0 hq1 hq2 hq3 hq4 hq5 hq6 hq7 hq8 hq9 hq10 hq11 hq12
    generalize hr : rowHead zs = r
    obtain ⟨ru, rb, rt, rl, rok⟩ := r
    simp only
    have HR := Lib.hid hr
    clear hr
    go_enter Try.func32, Try.ntmps32
    go_wp2_with fail
    obtain ⟨w3, hw3e⟩ : ∃ x, x = (w.alloc (.cells #[.int .i64 0, .int .i64 0, .int .i64 0, .slice none 0 0] 49)) := ⟨_, rfl⟩
    have hq : Below (w.alloc (.cells #[.int .i64 0, .int .i64 0, .int .i64 0, .slice none 0 0] 49)).heap.size (w.alloc (.cells #[.int .i64 0, .int .i64 0, .int .i64 0, .slice none 0 0] 49)) w3 := by rw [hw3e]; exact Below.refl _ _
    have y3 := hq.size
    simp only [World.heap_size_alloc] at y3
    have n0 : w3.cell? ⟨w.heap.size, 0, none⟩ = some (.int .i64 0) := (hq.cell (p := ⟨w.heap.size, 0, none⟩) (by (try simp only [World.heap_size_alloc, World.heap_size_drew, World.heap_size_setCell]); omega)).trans (by simp)
    have nz0 : w3.frozen? ⟨w.heap.size, 0, none⟩ = false := (hq.frozen (p := ⟨w.heap.size, 0, none⟩) (by (try simp only [World.heap_size_alloc, World.heap_size_drew, World.heap_size_setCell]); omega)).trans (by simp)
    have n1 : w3.cell? ⟨w.heap.size, 1, none⟩ = some (.int .i64 0) := (hq.cell (p := ⟨w.heap.size, 1, none⟩) (by (try simp only [World.heap_size_alloc, World.heap_size_drew, World.heap_size_setCell]); omega)).trans (by simp)
    have nz1 : w3.frozen? ⟨w.heap.size, 1, none⟩ = false := (hq.frozen (p := ⟨w.heap.size, 1, none⟩) (by (try simp only [World.heap_size_alloc, World.heap_size_drew, World.heap_size_setCell]); omega)).trans (by simp)
    have n2 : w3.cell? ⟨w.heap.size, 2, none⟩ = some (.int .i64 0) := (hq.cell (p := ⟨w.heap.size, 2, none⟩) (by (try simp only [World.heap_size_alloc, World.heap_size_drew, World.heap_size_setCell]); omega)).trans (by simp)
    have nz2 : w3.frozen? ⟨w.heap.size, 2, none⟩ = false := (hq.frozen (p := ⟨w.heap.size, 2, none⟩) (by (try simp only [World.heap_size_alloc, World.heap_size_drew, World.heap_size_setCell]); omega)).trans (by simp)
    have n3 : w3.cell? ⟨w.heap.size, 3, none⟩ = some (.slice none 0 0) := (hq.cell (p := ⟨w.heap.size, 3, none⟩) (by (try simp only [World.heap_size_alloc, World.heap_size_drew, World.heap_size_setCell]); omega)).trans (by simp)
    have nz3 : w3.frozen? ⟨w.heap.size, 3, none⟩ = false := (hq.frozen (p := ⟨w.heap.size, 3, none⟩) (by (try simp only [World.heap_size_alloc, World.heap_size_drew, World.heap_size_setCell]); omega)).trans (by simp)
    have hw3 : Below w.heap.size w w3 := ((Below.refl _ _).alloc (Nat.le_refl _) _).trans (hq.mono (by (try simp only [World.heap_size_alloc, World.heap_size_drew, World.heap_size_setCell]); omega))
    have hz0 : w.heap.size < w3.heap.size := by omega
    rw [← hw3e]
    clear hw3e hq
    have a0 := (hw3.cell (p := ⟨g, off, none⟩) hgw).trans p0
    have a1 := (hw3.cell (p := ⟨g, off + 1, none⟩) hgw).trans p1
    have a2 := (hw3.cell (p := ⟨g, off + 2, none⟩) hgw).trans p2
    have hg3 : g < w3.heap.size := by omega
    have ka0 := (World.cell?_alloc_lt (w := w3) (a := ⟨g, off, none⟩) (.cells #[.int .i64 0, .int .i64 0, .int .i64 0, .slice none 0 0] 49) hg3).trans a0
    have ka1 := (World.cell?_alloc_lt (w := w3) (a := ⟨g, off + 1, none⟩) (.cells #[.int .i64 0, .int .i64 0, .int .i64 0, .slice none 0 0] 49) hg3).trans a1
    have ka2 := (World.cell?_alloc_lt (w := w3) (a := ⟨g, off + 2, none⟩) (.cells #[.int .i64 0, .int .i64 0, .int .i64 0, .slice none 0 0] 49) hg3).trans a2
    go_wp2_with fail
    go_region
    go_wp2_with fail
    go_loopw [5, 6, 7] (fun k _ _ wr => ∃ (j : Nat) (v : Value), j ≤ 4 ∧ k = .int .i64 ((j : Int)) ∧ RhBox w3 117 q0 q1 q2 (rowMarks zs j) v wr) (fun k _ _ _ => 6 - (intOf k).toNat)
    case atStart => exact ⟨0, .slice none 0 0, by omega, rfl, Own.nil _ _ _ _, fun g hg => by simp [Value.ownBlock] at hg, by simp, by simp, by simp, by simp, by simp, by simp, by (repeat' (first | with_reducible exact Below.refl _ _ | with_reducible assumption | with_reducible refine Below.drew ?_ | with_reducible refine Below.alloc ?_ ?_ _ | with_reducible refine Below.setCell ?_ ?_ _ | with_reducible refine Below.trans ?_ (Below.mono (by assumption) ?_) | ((try simp only [World.heap_size_alloc, World.heap_size_drew, World.heap_size_setCell]); omega)))⟩
    case round =>
      clear a0 a1 a2 ka0 ka1 ka2
      obtain ⟨j, v, hj, rfl, ho, hne, c0, c1, c2, c3, f3, hz, hb⟩ := hrel
      have hbz := hb.size
      have hw4 : Below w.heap.size w wr := hw3.trans (hb.mono (by omega))
      have hll := rowMarks_len zs j
      have HO := Lib.hid ho
      have HB := Lib.hid hb
      have HNE := Lib.hid hne
      have HW4 := Lib.hid hw4
      by_cases hlt : j < 4
      · have hcase : j = 0 ∨ j = 1 ∨ j = 2 ∨ j = 3 := by omega
        clear ho hb hne
        rcases hcase with rfl | rfl | rfl | rfl
        · have a3 := (hw4.cell (p := ⟨g, off + 3, none⟩) hgw).trans p3
          have a4 := (hw4.cell (p := ⟨g, off + 4, none⟩) hgw).trans p4
          have hmr : rowMarks zs (0 + 1) = rowMarks zs 0 ++ rowMark zs 0 := rfl
          rw [HM0.out] at hmr
          have HMR := Lib.hid hmr
          clear hmr
          generalize hml : rowMarks zs 0 = ml at *
          clear hml
          have hww0 : IntKind.i64.wrap 0 = 0 := IntWalk.i64_in _ (by omega)
          have hww3 : IntKind.i64.wrap 3 = 3 := IntWalk.i64_in _ (by omega)
          have hww4 : IntKind.i64.wrap 4 = 4 := IntWalk.i64_in _ (by omega)
          have fa3 := fun d os => cell_regrown a3 d os
          have fa4 := fun d os => cell_regrown a4 d os
          by_cases hs : q3 = 0
          · by_cases hi' : q4 = 0
            · have HC := Lib.hid (And.intro hs hi')
              have ds : (q3 != 0) = false := by simp [hs]
              have di : (q4 != 0) = false := by simp [hi']
              clear hs hi'
              go_wp2_with fail
              refine wp_region_quiet_below (by kernel_rfl) (by kernel_rfl) ?_; (repeat (first | go_big_quiet_step (fail) | quiet_step (fail))); refine wpQuiet_nil ?_; intro _ hw'; obtain ⟨⟨nq, osq⟩, hw''⟩ := hw'; subst hw''; have hq := below_regrown wr nq osq; generalize Sort.grow (redrawn wr nq) osq = w4 at *
              have y4 := hq.size
              have hb4 := HB.out.trans (hq.mono hbz)
              have e0 := (hq.cell (p := ⟨w3.heap.size, 0, none⟩) hz).trans c0
              have e1 := (hq.cell (p := ⟨w3.heap.size, 1, none⟩) hz).trans c1
              have e2 := (hq.cell (p := ⟨w3.heap.size, 2, none⟩) hz).trans c2
              have e3 := (hq.cell (p := ⟨w3.heap.size, 3, none⟩) hz).trans c3
              have ef := (hq.frozen (p := ⟨w3.heap.size, 3, none⟩) hz).trans f3
              have HO4 := Lib.hid (HO.out.kept hq)
              clear hq
              go_wp2_with fail
              go_roundw
              case rel => exact ⟨1, _, by omega, by go_num, by rw [HMR.out, if_pos HC.out, List.append_nil]; exact ⟨HO4.out, HNE.out, e0, e1, e2, e3, ef, by omega, hb4⟩⟩
              case measure => simp [intOf]
            · have HC : Hid (¬ (q3 = 0 ∧ q4 = 0)) := Lib.hid (fun h' => hi' h'.2)
              have ds : (q3 != 0) = false := by simp [hs]
              have di : (q4 != 0) = true := by simpa using hi'
              clear hs hi'
              go_wp2_with fail
              refine wp_region_quiet_below (by kernel_rfl) (by kernel_rfl) ?_; (repeat (first | go_big_quiet_step (fail) | quiet_step (fail))); refine wpQuiet_nil ?_; intro _ hw'; obtain ⟨⟨nq, osq⟩, hw''⟩ := hw'; subst hw''; have hq := below_regrown wr nq osq; generalize Sort.grow (redrawn wr nq) osq = w4 at *
              have y4 := hq.size
              have hb4 := HB.out.trans (hq.mono hbz)
              have e0 := (hq.cell (p := ⟨w3.heap.size, 0, none⟩) hz).trans c0
              have e1 := (hq.cell (p := ⟨w3.heap.size, 1, none⟩) hz).trans c1
              have e2 := (hq.cell (p := ⟨w3.heap.size, 2, none⟩) hz).trans c2
              have e3 := (hq.cell (p := ⟨w3.heap.size, 3, none⟩) hz).trans c3
              have ef := (hq.frozen (p := ⟨w3.heap.size, 3, none⟩) hz).trans f3
              have HO4 := Lib.hid (HO.out.kept hq)
              clear hq
              have hz4 : w3.heap.size < w4.heap.size := by omega
              have HS1 : Hid (Sl (w4.alloc (.cells #[.int .i64 2, .int .i64 q3, .int .i64 q4] 117)) w4.heap.size (w4.alloc (.cells #[.int .i64 2, .int .i64 q3, .int .i64 q4] 117)).heap.size 3 (some ⟨w4.heap.size, 0, none⟩) 1 1 [2, q3, q4]) := Lib.hid ⟨rfl, by omega, by omega, fun _ => ⟨_, 0, rfl, by (try simp only [World.heap_size_alloc, World.heap_size_drew, World.heap_size_setCell]); omega, by simp, ints_new w4 117 [2, q3, q4]⟩⟩
              have HO5 : Hid (Own (w4.alloc (.cells #[.int .i64 2, .int .i64 q3, .int .i64 q4] 117)) w3.heap.size 117 3 v ml.length (ml.flatMap MarkD.ints)) := Lib.hid (HO4.out.kept ((Below.refl _ _).alloc (Nat.le_refl _) _))
              have hb5 : Hid (Below w3.heap.size w3 (w4.alloc (.cells #[.int .i64 2, .int .i64 q3, .int .i64 q4] 117))) := Lib.hid (hb4.alloc (by omega) _)
              go_wp2_with (at_builtin; go_loud (refine wpList_append_sl _ rfl (.tmp 45) (.tmp 51) 47 rfl w3.heap.size 117 Try.underlying47 infoMark rfl (by omega) _ _ _ rfl HO5.out _ 1 1 _ _ [2, q3, q4] rfl HS1.out (by omega) (by omega) (by (try simp only [World.heap_size_alloc, World.heap_size_drew, World.heap_size_setCell]); omega) ?_); intro v4 w6 o4 g4 a4; obtain ⟨k4c, k4f⟩ := gcellO g4 (b := w3.heap.size) (by (try simp only [World.heap_size_alloc, World.heap_size_drew, World.heap_size_setCell]); omega) (fun g hg => HNE.out g hg); have u0 := (k4c 0).trans ((World.cell?_alloc_lt _ _ _ hz4).trans e0); have u1 := (k4c 1).trans ((World.cell?_alloc_lt _ _ _ hz4).trans e1); have u2 := (k4c 2).trans ((World.cell?_alloc_lt _ _ _ hz4).trans e2); have u3 := (k4c 3).trans ((World.cell?_alloc_lt _ _ _ hz4).trans e3); have uz := (k4f 3).trans ((frozen_alloc_lt0 _ _ (p := ⟨w3.heap.size, 3, none⟩) hz4).trans ef); have y5 := g4.size; have hb6 := hb5.out.trans (grown_below g4 (by (try simp only [World.heap_size_alloc, World.heap_size_drew, World.heap_size_setCell]); omega) (fun g hg => (Own.lt HO5.out g hg).1)); have hn4 : ∀ g, v4.ownBlock = some g → g ≠ w3.heap.size := (fun g hg => by rcases a4 with a4 | a4 <;> rw [a4] at hg; exact HNE.out g hg; (injection hg with hg; simp only [World.heap_size_alloc] at hg; omega)); obtain ⟨A4, c4, rfl, s4⟩ := o4.sl; have HO6 := Lib.hid o4; have HN4 := Lib.hid hn4; have HB6 := Lib.hid hb6; clear o4 g4 a4 s4 k4c k4f hn4 hb6)
              (try simp only [World.heap_size_alloc] at y5)
              go_roundw
              case rel => exact ⟨1, _, by omega, by go_num, by rw [HMR.out, if_neg HC.out]; exact RhBox.step (m := ⟨2 + (0 : Int), q3, q4⟩) HO6.out HN4.out u0 u1 u2 u3 uz (by omega) HB6.out⟩
              case measure => simp [intOf]
          · have HC : Hid (¬ (q3 = 0 ∧ q4 = 0)) := Lib.hid (fun h' => hs h'.1)
            have ds : (q3 != 0) = true := by simpa using hs
            clear hs
            go_wp2_with fail
            refine wp_region_quiet_below (by kernel_rfl) (by kernel_rfl) ?_; (repeat (first | go_big_quiet_step (fail) | quiet_step (fail))); refine wpQuiet_nil ?_; intro _ hw'; obtain ⟨⟨nq, osq⟩, hw''⟩ := hw'; subst hw''; have hq := below_regrown wr nq osq; generalize Sort.grow (redrawn wr nq) osq = w4 at *
            have y4 := hq.size
            have hb4 := HB.out.trans (hq.mono hbz)
            have e0 := (hq.cell (p := ⟨w3.heap.size, 0, none⟩) hz).trans c0
            have e1 := (hq.cell (p := ⟨w3.heap.size, 1, none⟩) hz).trans c1
            have e2 := (hq.cell (p := ⟨w3.heap.size, 2, none⟩) hz).trans c2
            have e3 := (hq.cell (p := ⟨w3.heap.size, 3, none⟩) hz).trans c3
            have ef := (hq.frozen (p := ⟨w3.heap.size, 3, none⟩) hz).trans f3
            have HO4 := Lib.hid (HO.out.kept hq)
            clear hq
            have hz4 : w3.heap.size < w4.heap.size := by omega
            have HS1 : Hid (Sl (w4.alloc (.cells #[.int .i64 2, .int .i64 q3, .int .i64 q4] 117)) w4.heap.size (w4.alloc (.cells #[.int .i64 2, .int .i64 q3, .int .i64 q4] 117)).heap.size 3 (some ⟨w4.heap.size, 0, none⟩) 1 1 [2, q3, q4]) := Lib.hid ⟨rfl, by omega, by omega, fun _ => ⟨_, 0, rfl, by (try simp only [World.heap_size_alloc, World.heap_size_drew, World.heap_size_setCell]); omega, by simp, ints_new w4 117 [2, q3, q4]⟩⟩
            have HO5 : Hid (Own (w4.alloc (.cells #[.int .i64 2, .int .i64 q3, .int .i64 q4] 117)) w3.heap.size 117 3 v ml.length (ml.flatMap MarkD.ints)) := Lib.hid (HO4.out.kept ((Below.refl _ _).alloc (Nat.le_refl _) _))
            have hb5 : Hid (Below w3.heap.size w3 (w4.alloc (.cells #[.int .i64 2, .int .i64 q3, .int .i64 q4] 117))) := Lib.hid (hb4.alloc (by omega) _)
            go_wp2_with (at_builtin; go_loud (refine wpList_append_sl _ rfl (.tmp 45) (.tmp 51) 47 rfl w3.heap.size 117 Try.underlying47 infoMark rfl (by omega) _ _ _ rfl HO5.out _ 1 1 _ _ [2, q3, q4] rfl HS1.out (by omega) (by omega) (by (try simp only [World.heap_size_alloc, World.heap_size_drew, World.heap_size_setCell]); omega) ?_); intro v4 w6 o4 g4 a4; obtain ⟨k4c, k4f⟩ := gcellO g4 (b := w3.heap.size) (by (try simp only [World.heap_size_alloc, World.heap_size_drew, World.heap_size_setCell]); omega) (fun g hg => HNE.out g hg); have u0 := (k4c 0).trans ((World.cell?_alloc_lt _ _ _ hz4).trans e0); have u1 := (k4c 1).trans ((World.cell?_alloc_lt _ _ _ hz4).trans e1); have u2 := (k4c 2).trans ((World.cell?_alloc_lt _ _ _ hz4).trans e2); have u3 := (k4c 3).trans ((World.cell?_alloc_lt _ _ _ hz4).trans e3); have uz := (k4f 3).trans ((frozen_alloc_lt0 _ _ (p := ⟨w3.heap.size, 3, none⟩) hz4).trans ef); have y5 := g4.size; have hb6 := hb5.out.trans (grown_below g4 (by (try simp only [World.heap_size_alloc, World.heap_size_drew, World.heap_size_setCell]); omega) (fun g hg => (Own.lt HO5.out g hg).1)); have hn4 : ∀ g, v4.ownBlock = some g → g ≠ w3.heap.size := (fun g hg => by rcases a4 with a4 | a4 <;> rw [a4] at hg; exact HNE.out g hg; (injection hg with hg; simp only [World.heap_size_alloc] at hg; omega)); obtain ⟨A4, c4, rfl, s4⟩ := o4.sl; have HO6 := Lib.hid o4; have HN4 := Lib.hid hn4; have HB6 := Lib.hid hb6; clear o4 g4 a4 s4 k4c k4f hn4 hb6)
            (try simp only [World.heap_size_alloc] at y5)
            go_roundw
            case rel => exact ⟨1, _, by omega, by go_num, by rw [HMR.out, if_neg HC.out]; exact RhBox.step (m := ⟨2 + (0 : Int), q3, q4⟩) HO6.out HN4.out u0 u1 u2 u3 uz (by omega) HB6.out⟩
            case measure => simp [intOf]
        · have a5 := (hw4.cell (p := ⟨g, off + 5, none⟩) hgw).trans p5
          have a6 := (hw4.cell (p := ⟨g, off + 6, none⟩) hgw).trans p6
          have hmr : rowMarks zs (1 + 1) = rowMarks zs 1 ++ rowMark zs 1 := rfl
          rw [HM1.out] at hmr
          have HMR := Lib.hid hmr
          clear hmr
          generalize hml : rowMarks zs 1 = ml at *
          clear hml
          have hww2 : IntKind.i64.wrap 2 = 2 := IntWalk.i64_in _ (by omega)
          have hww5 : IntKind.i64.wrap 5 = 5 := IntWalk.i64_in _ (by omega)
          have hww6 : IntKind.i64.wrap 6 = 6 := IntWalk.i64_in _ (by omega)
          have fa5 := fun d os => cell_regrown a5 d os
          have fa6 := fun d os => cell_regrown a6 d os
          by_cases hs : q5 = 0
          · by_cases hi' : q6 = 0
            · have HC := Lib.hid (And.intro hs hi')
              have ds : (q5 != 0) = false := by simp [hs]
              have di : (q6 != 0) = false := by simp [hi']
              clear hs hi'
              go_wp2_with fail
              refine wp_region_quiet_below (by kernel_rfl) (by kernel_rfl) ?_; (repeat (first | go_big_quiet_step (fail) | quiet_step (fail))); refine wpQuiet_nil ?_; intro _ hw'; obtain ⟨⟨nq, osq⟩, hw''⟩ := hw'; subst hw''; have hq := below_regrown wr nq osq; generalize Sort.grow (redrawn wr nq) osq = w4 at *
              have y4 := hq.size
              have hb4 := HB.out.trans (hq.mono hbz)
              have e0 := (hq.cell (p := ⟨w3.heap.size, 0, none⟩) hz).trans c0
              have e1 := (hq.cell (p := ⟨w3.heap.size, 1, none⟩) hz).trans c1
              have e2 := (hq.cell (p := ⟨w3.heap.size, 2, none⟩) hz).trans c2
              have e3 := (hq.cell (p := ⟨w3.heap.size, 3, none⟩) hz).trans c3
              have ef := (hq.frozen (p := ⟨w3.heap.size, 3, none⟩) hz).trans f3
              have HO4 := Lib.hid (HO.out.kept hq)
              clear hq
              go_wp2_with fail
              go_roundw
              case rel => exact ⟨2, _, by omega, by go_num, by rw [HMR.out, if_pos HC.out, List.append_nil]; exact ⟨HO4.out, HNE.out, e0, e1, e2, e3, ef, by omega, hb4⟩⟩
              case measure => simp [intOf]
            · have HC : Hid (¬ (q5 = 0 ∧ q6 = 0)) := Lib.hid (fun h' => hi' h'.2)
              have ds : (q5 != 0) = false := by simp [hs]
              have di : (q6 != 0) = true := by simpa using hi'
              clear hs hi'
              go_wp2_with fail
              refine wp_region_quiet_below (by kernel_rfl) (by kernel_rfl) ?_; (repeat (first | go_big_quiet_step (fail) | quiet_step (fail))); refine wpQuiet_nil ?_; intro _ hw'; obtain ⟨⟨nq, osq⟩, hw''⟩ := hw'; subst hw''; have hq := below_regrown wr nq osq; generalize Sort.grow (redrawn wr nq) osq = w4 at *
              have y4 := hq.size
              have hb4 := HB.out.trans (hq.mono hbz)
              have e0 := (hq.cell (p := ⟨w3.heap.size, 0, none⟩) hz).trans c0
              have e1 := (hq.cell (p := ⟨w3.heap.size, 1, none⟩) hz).trans c1
              have e2 := (hq.cell (p := ⟨w3.heap.size, 2, none⟩) hz).trans c2
              have e3 := (hq.cell (p := ⟨w3.heap.size, 3, none⟩) hz).trans c3
              have ef := (hq.frozen (p := ⟨w3.heap.size, 3, none⟩) hz).trans f3
              have HO4 := Lib.hid (HO.out.kept hq)
              clear hq
              have hz4 : w3.heap.size < w4.heap.size := by omega
              have HS1 : Hid (Sl (w4.alloc (.cells #[.int .i64 3, .int .i64 q5, .int .i64 q6] 117)) w4.heap.size (w4.alloc (.cells #[.int .i64 3, .int .i64 q5, .int .i64 q6] 117)).heap.size 3 (some ⟨w4.heap.size, 0, none⟩) 1 1 [3, q5, q6]) := Lib.hid ⟨rfl, by omega, by omega, fun _ => ⟨_, 0, rfl, by (try simp only [World.heap_size_alloc, World.heap_size_drew, World.heap_size_setCell]); omega, by simp, ints_new w4 117 [3, q5, q6]⟩⟩
              have HO5 : Hid (Own (w4.alloc (.cells #[.int .i64 3, .int .i64 q5, .int .i64 q6] 117)) w3.heap.size 117 3 v ml.length (ml.flatMap MarkD.ints)) := Lib.hid (HO4.out.kept ((Below.refl _ _).alloc (Nat.le_refl _) _))
              have hb5 : Hid (Below w3.heap.size w3 (w4.alloc (.cells #[.int .i64 3, .int .i64 q5, .int .i64 q6] 117))) := Lib.hid (hb4.alloc (by omega) _)
              go_wp2_with (at_builtin; go_loud (refine wpList_append_sl _ rfl (.tmp 45) (.tmp 51) 47 rfl w3.heap.size 117 Try.underlying47 infoMark rfl (by omega) _ _ _ rfl HO5.out _ 1 1 _ _ [3, q5, q6] rfl HS1.out (by omega) (by omega) (by (try simp only [World.heap_size_alloc, World.heap_size_drew, World.heap_size_setCell]); omega) ?_); intro v4 w6 o4 g4 a4; obtain ⟨k4c, k4f⟩ := gcellO g4 (b := w3.heap.size) (by (try simp only [World.heap_size_alloc, World.heap_size_drew, World.heap_size_setCell]); omega) (fun g hg => HNE.out g hg); have u0 := (k4c 0).trans ((World.cell?_alloc_lt _ _ _ hz4).trans e0); have u1 := (k4c 1).trans ((World.cell?_alloc_lt _ _ _ hz4).trans e1); have u2 := (k4c 2).trans ((World.cell?_alloc_lt _ _ _ hz4).trans e2); have u3 := (k4c 3).trans ((World.cell?_alloc_lt _ _ _ hz4).trans e3); have uz := (k4f 3).trans ((frozen_alloc_lt0 _ _ (p := ⟨w3.heap.size, 3, none⟩) hz4).trans ef); have y5 := g4.size; have hb6 := hb5.out.trans (grown_below g4 (by (try simp only [World.heap_size_alloc, World.heap_size_drew, World.heap_size_setCell]); omega) (fun g hg => (Own.lt HO5.out g hg).1)); have hn4 : ∀ g, v4.ownBlock = some g → g ≠ w3.heap.size := (fun g hg => by rcases a4 with a4 | a4 <;> rw [a4] at hg; exact HNE.out g hg; (injection hg with hg; simp only [World.heap_size_alloc] at hg; omega)); obtain ⟨A4, c4, rfl, s4⟩ := o4.sl; have HO6 := Lib.hid o4; have HN4 := Lib.hid hn4; have HB6 := Lib.hid hb6; clear o4 g4 a4 s4 k4c k4f hn4 hb6)
              (try simp only [World.heap_size_alloc] at y5)
              go_roundw
              case rel => exact ⟨2, _, by omega, by go_num, by rw [HMR.out, if_neg HC.out]; exact RhBox.step (m := ⟨2 + (1 : Int), q5, q6⟩) HO6.out HN4.out u0 u1 u2 u3 uz (by omega) HB6.out⟩
              case measure => simp [intOf]
          · have HC : Hid (¬ (q5 = 0 ∧ q6 = 0)) := Lib.hid (fun h' => hs h'.1)
            have ds : (q5 != 0) = true := by simpa using hs
            clear hs
            go_wp2_with fail
            refine wp_region_quiet_below (by kernel_rfl) (by kernel_rfl) ?_; (repeat (first | go_big_quiet_step (fail) | quiet_step (fail))); refine wpQuiet_nil ?_; intro _ hw'; obtain ⟨⟨nq, osq⟩, hw''⟩ := hw'; subst hw''; have hq := below_regrown wr nq osq; generalize Sort.grow (redrawn wr nq) osq = w4 at *
            have y4 := hq.size
            have hb4 := HB.out.trans (hq.mono hbz)
            have e0 := (hq.cell (p := ⟨w3.heap.size, 0, none⟩) hz).trans c0
            have e1 := (hq.cell (p := ⟨w3.heap.size, 1, none⟩) hz).trans c1
            have e2 := (hq.cell (p := ⟨w3.heap.size, 2, none⟩) hz).trans c2
            have e3 := (hq.cell (p := ⟨w3.heap.size, 3, none⟩) hz).trans c3
            have ef := (hq.frozen (p := ⟨w3.heap.size, 3, none⟩) hz).trans f3
            have HO4 := Lib.hid (HO.out.kept hq)
            clear hq
            have hz4 : w3.heap.size < w4.heap.size := by omega
            have HS1 : Hid (Sl (w4.alloc (.cells #[.int .i64 3, .int .i64 q5, .int .i64 q6] 117)) w4.heap.size (w4.alloc (.cells #[.int .i64 3, .int .i64 q5, .int .i64 q6] 117)).heap.size 3 (some ⟨w4.heap.size, 0, none⟩) 1 1 [3, q5, q6]) := Lib.hid ⟨rfl, by omega, by omega, fun _ => ⟨_, 0, rfl, by (try simp only [World.heap_size_alloc, World.heap_size_drew, World.heap_size_setCell]); omega, by simp, ints_new w4 117 [3, q5, q6]⟩⟩
            have HO5 : Hid (Own (w4.alloc (.cells #[.int .i64 3, .int .i64 q5, .int .i64 q6] 117)) w3.heap.size 117 3 v ml.length (ml.flatMap MarkD.ints)) := Lib.hid (HO4.out.kept ((Below.refl _ _).alloc (Nat.le_refl _) _))
            have hb5 : Hid (Below w3.heap.size w3 (w4.alloc (.cells #[.int .i64 3, .int .i64 q5, .int .i64 q6] 117))) := Lib.hid (hb4.alloc (by omega) _)
            go_wp2_with (at_builtin; go_loud (refine wpList_append_sl _ rfl (.tmp 45) (.tmp 51) 47 rfl w3.heap.size 117 Try.underlying47 infoMark rfl (by omega) _ _ _ rfl HO5.out _ 1 1 _ _ [3, q5, q6] rfl HS1.out (by omega) (by omega) (by (try simp only [World.heap_size_alloc, World.heap_size_drew, World.heap_size_setCell]); omega) ?_); intro v4 w6 o4 g4 a4; obtain ⟨k4c, k4f⟩ := gcellO g4 (b := w3.heap.size) (by (try simp only [World.heap_size_alloc, World.heap_size_drew, World.heap_size_setCell]); omega) (fun g hg => HNE.out g hg); have u0 := (k4c 0).trans ((World.cell?_alloc_lt _ _ _ hz4).trans e0); have u1 := (k4c 1).trans ((World.cell?_alloc_lt _ _ _ hz4).trans e1); have u2 := (k4c 2).trans ((World.cell?_alloc_lt _ _ _ hz4).trans e2); have u3 := (k4c 3).trans ((World.cell?_alloc_lt _ _ _ hz4).trans e3); have uz := (k4f 3).trans ((frozen_alloc_lt0 _ _ (p := ⟨w3.heap.size, 3, none⟩) hz4).trans ef); have y5 := g4.size; have hb6 := hb5.out.trans (grown_below g4 (by (try simp only [World.heap_size_alloc, World.heap_size_drew, World.heap_size_setCell]); omega) (fun g hg => (Own.lt HO5.out g hg).1)); have hn4 : ∀ g, v4.ownBlock = some g → g ≠ w3.heap.size := (fun g hg => by rcases a4 with a4 | a4 <;> rw [a4] at hg; exact HNE.out g hg; (injection hg with hg; simp only [World.heap_size_alloc] at hg; omega)); obtain ⟨A4, c4, rfl, s4⟩ := o4.sl; have HO6 := Lib.hid o4; have HN4 := Lib.hid hn4; have HB6 := Lib.hid hb6; clear o4 g4 a4 s4 k4c k4f hn4 hb6)
            (try simp only [World.heap_size_alloc] at y5)
            go_roundw
            case rel => exact ⟨2, _, by omega, by go_num, by rw [HMR.out, if_neg HC.out]; exact RhBox.step (m := ⟨2 + (1 : Int), q5, q6⟩) HO6.out HN4.out u0 u1 u2 u3 uz (by omega) HB6.out⟩
            case measure => simp [intOf]
        · have a7 := (hw4.cell (p := ⟨g, off + 7, none⟩) hgw).trans p7
          have a8 := (hw4.cell (p := ⟨g, off + 8, none⟩) hgw).trans p8
          have hmr : rowMarks zs (2 + 1) = rowMarks zs 2 ++ rowMark zs 2 := rfl
          rw [HM2.out] at hmr
          have HMR := Lib.hid hmr
          clear hmr
          generalize hml : rowMarks zs 2 = ml at *
          clear hml
          have hww4 : IntKind.i64.wrap 4 = 4 := IntWalk.i64_in _ (by omega)
          have hww7 : IntKind.i64.wrap 7 = 7 := IntWalk.i64_in _ (by omega)
          have hww8 : IntKind.i64.wrap 8 = 8 := IntWalk.i64_in _ (by omega)
          have fa7 := fun d os => cell_regrown a7 d os
          have fa8 := fun d os => cell_regrown a8 d os
          by_cases hs : q7 = 0
          · by_cases hi' : q8 = 0
            · have HC := Lib.hid (And.intro hs hi')
              have ds : (q7 != 0) = false := by simp [hs]
              have di : (q8 != 0) = false := by simp [hi']
              clear hs hi'
              go_wp2_with fail
              refine wp_region_quiet_below (by kernel_rfl) (by kernel_rfl) ?_; (repeat (first | go_big_quiet_step (fail) | quiet_step (fail))); refine wpQuiet_nil ?_; intro _ hw'; obtain ⟨⟨nq, osq⟩, hw''⟩ := hw'; subst hw''; have hq := below_regrown wr nq osq; generalize Sort.grow (redrawn wr nq) osq = w4 at *
              have y4 := hq.size
              have hb4 := HB.out.trans (hq.mono hbz)
              have e0 := (hq.cell (p := ⟨w3.heap.size, 0, none⟩) hz).trans c0
              have e1 := (hq.cell (p := ⟨w3.heap.size, 1, none⟩) hz).trans c1
              have e2 := (hq.cell (p := ⟨w3.heap.size, 2, none⟩) hz).trans c2
              have e3 := (hq.cell (p := ⟨w3.heap.size, 3, none⟩) hz).trans c3
              have ef := (hq.frozen (p := ⟨w3.heap.size, 3, none⟩) hz).trans f3
              have HO4 := Lib.hid (HO.out.kept hq)
              clear hq
              go_wp2_with fail
              go_roundw
              case rel => exact ⟨3, _, by omega, by go_num, by rw [HMR.out, if_pos HC.out, List.append_nil]; exact ⟨HO4.out, HNE.out, e0, e1, e2, e3, ef, by omega, hb4⟩⟩
              case measure => simp [intOf]
            · have HC : Hid (¬ (q7 = 0 ∧ q8 = 0)) := Lib.hid (fun h' => hi' h'.2)
              have ds : (q7 != 0) = false := by simp [hs]
              have di : (q8 != 0) = true := by simpa using hi'
              clear hs hi'
              go_wp2_with fail
              refine wp_region_quiet_below (by kernel_rfl) (by kernel_rfl) ?_; (repeat (first | go_big_quiet_step (fail) | quiet_step (fail))); refine wpQuiet_nil ?_; intro _ hw'; obtain ⟨⟨nq, osq⟩, hw''⟩ := hw'; subst hw''; have hq := below_regrown wr nq osq; generalize Sort.grow (redrawn wr nq) osq = w4 at *
              have y4 := hq.size
              have hb4 := HB.out.trans (hq.mono hbz)
              have e0 := (hq.cell (p := ⟨w3.heap.size, 0, none⟩) hz).trans c0
              have e1 := (hq.cell (p := ⟨w3.heap.size, 1, none⟩) hz).trans c1
              have e2 := (hq.cell (p := ⟨w3.heap.size, 2, none⟩) hz).trans c2
              have e3 := (hq.cell (p := ⟨w3.heap.size, 3, none⟩) hz).trans c3
              have ef := (hq.frozen (p := ⟨w3.heap.size, 3, none⟩) hz).trans f3
              have HO4 := Lib.hid (HO.out.kept hq)
              clear hq
              have hz4 : w3.heap.size < w4.heap.size := by omega
              have HS1 : Hid (Sl (w4.alloc (.cells #[.int .i64 4, .int .i64 q7, .int .i64 q8] 117)) w4.heap.size (w4.alloc (.cells #[.int .i64 4, .int .i64 q7, .int .i64 q8] 117)).heap.size 3 (some ⟨w4.heap.size, 0, none⟩) 1 1 [4, q7, q8]) := Lib.hid ⟨rfl, by omega, by omega, fun _ => ⟨_, 0, rfl, by (try simp only [World.heap_size_alloc, World.heap_size_drew, World.heap_size_setCell]); omega, by simp, ints_new w4 117 [4, q7, q8]⟩⟩
              have HO5 : Hid (Own (w4.alloc (.cells #[.int .i64 4, .int .i64 q7, .int .i64 q8] 117)) w3.heap.size 117 3 v ml.length (ml.flatMap MarkD.ints)) := Lib.hid (HO4.out.kept ((Below.refl _ _).alloc (Nat.le_refl _) _))
              have hb5 : Hid (Below w3.heap.size w3 (w4.alloc (.cells #[.int .i64 4, .int .i64 q7, .int .i64 q8] 117))) := Lib.hid (hb4.alloc (by omega) _)
              go_wp2_with (at_builtin; go_loud (refine wpList_append_sl _ rfl (.tmp 45) (.tmp 51) 47 rfl w3.heap.size 117 Try.underlying47 infoMark rfl (by omega) _ _ _ rfl HO5.out _ 1 1 _ _ [4, q7, q8] rfl HS1.out (by omega) (by omega) (by (try simp only [World.heap_size_alloc, World.heap_size_drew, World.heap_size_setCell]); omega) ?_); intro v4 w6 o4 g4 a4; obtain ⟨k4c, k4f⟩ := gcellO g4 (b := w3.heap.size) (by (try simp only [World.heap_size_alloc, World.heap_size_drew, World.heap_size_setCell]); omega) (fun g hg => HNE.out g hg); have u0 := (k4c 0).trans ((World.cell?_alloc_lt _ _ _ hz4).trans e0); have u1 := (k4c 1).trans ((World.cell?_alloc_lt _ _ _ hz4).trans e1); have u2 := (k4c 2).trans ((World.cell?_alloc_lt _ _ _ hz4).trans e2); have u3 := (k4c 3).trans ((World.cell?_alloc_lt _ _ _ hz4).trans e3); have uz := (k4f 3).trans ((frozen_alloc_lt0 _ _ (p := ⟨w3.heap.size, 3, none⟩) hz4).trans ef); have y5 := g4.size; have hb6 := hb5.out.trans (grown_below g4 (by (try simp only [World.heap_size_alloc, World.heap_size_drew, World.heap_size_setCell]); omega) (fun g hg => (Own.lt HO5.out g hg).1)); have hn4 : ∀ g, v4.ownBlock = some g → g ≠ w3.heap.size := (fun g hg => by rcases a4 with a4 | a4 <;> rw [a4] at hg; exact HNE.out g hg; (injection hg with hg; simp only [World.heap_size_alloc] at hg; omega)); obtain ⟨A4, c4, rfl, s4⟩ := o4.sl; have HO6 := Lib.hid o4; have HN4 := Lib.hid hn4; have HB6 := Lib.hid hb6; clear o4 g4 a4 s4 k4c k4f hn4 hb6)
              (try simp only [World.heap_size_alloc] at y5)
              go_roundw
              case rel => exact ⟨3, _, by omega, by go_num, by rw [HMR.out, if_neg HC.out]; exact RhBox.step (m := ⟨2 + (2 : Int), q7, q8⟩) HO6.out HN4.out u0 u1 u2 u3 uz (by omega) HB6.out⟩
              case measure => simp [intOf]
          · have HC : Hid (¬ (q7 = 0 ∧ q8 = 0)) := Lib.hid (fun h' => hs h'.1)
            have ds : (q7 != 0) = true := by simpa using hs
            clear hs
            go_wp2_with fail
            refine wp_region_quiet_below (by kernel_rfl) (by kernel_rfl) ?_; (repeat (first | go_big_quiet_step (fail) | quiet_step (fail))); refine wpQuiet_nil ?_; intro _ hw'; obtain ⟨⟨nq, osq⟩, hw''⟩ := hw'; subst hw''; have hq := below_regrown wr nq osq; generalize Sort.grow (redrawn wr nq) osq = w4 at *
            have y4 := hq.size
            have hb4 := HB.out.trans (hq.mono hbz)
            have e0 := (hq.cell (p := ⟨w3.heap.size, 0, none⟩) hz).trans c0
            have e1 := (hq.cell (p := ⟨w3.heap.size, 1, none⟩) hz).trans c1
            have e2 := (hq.cell (p := ⟨w3.heap.size, 2, none⟩) hz).trans c2
            have e3 := (hq.cell (p := ⟨w3.heap.size, 3, none⟩) hz).trans c3
            have ef := (hq.frozen (p := ⟨w3.heap.size, 3, none⟩) hz).trans f3
            have HO4 := Lib.hid (HO.out.kept hq)
            clear hq
            have hz4 : w3.heap.size < w4.heap.size := by omega
            have HS1 : Hid (Sl (w4.alloc (.cells #[.int .i64 4, .int .i64 q7, .int .i64 q8] 117)) w4.heap.size (w4.alloc (.cells #[.int .i64 4, .int .i64 q7, .int .i64 q8] 117)).heap.size 3 (some ⟨w4.heap.size, 0, none⟩) 1 1 [4, q7, q8]) := Lib.hid ⟨rfl, by omega, by omega, fun _ => ⟨_, 0, rfl, by (try simp only [World.heap_size_alloc, World.heap_size_drew, World.heap_size_setCell]); omega, by simp, ints_new w4 117 [4, q7, q8]⟩⟩
            have HO5 : Hid (Own (w4.alloc (.cells #[.int .i64 4, .int .i64 q7, .int .i64 q8] 117)) w3.heap.size 117 3 v ml.length (ml.flatMap MarkD.ints)) := Lib.hid (HO4.out.kept ((Below.refl _ _).alloc (Nat.le_refl _) _))
            have hb5 : Hid (Below w3.heap.size w3 (w4.alloc (.cells #[.int .i64 4, .int .i64 q7, .int .i64 q8] 117))) := Lib.hid (hb4.alloc (by omega) _)
            go_wp2_with (at_builtin; go_loud (refine wpList_append_sl _ rfl (.tmp 45) (.tmp 51) 47 rfl w3.heap.size 117 Try.underlying47 infoMark rfl (by omega) _ _ _ rfl HO5.out _ 1 1 _ _ [4, q7, q8] rfl HS1.out (by omega) (by omega) (by (try simp only [World.heap_size_alloc, World.heap_size_drew, World.heap_size_setCell]); omega) ?_); intro v4 w6 o4 g4 a4; obtain ⟨k4c, k4f⟩ := gcellO g4 (b := w3.heap.size) (by (try simp only [World.heap_size_alloc, World.heap_size_drew, World.heap_size_setCell]); omega) (fun g hg => HNE.out g hg); have u0 := (k4c 0).trans ((World.cell?_alloc_lt _ _ _ hz4).trans e0); have u1 := (k4c 1).trans ((World.cell?_alloc_lt _ _ _ hz4).trans e1); have u2 := (k4c 2).trans ((World.cell?_alloc_lt _ _ _ hz4).trans e2); have u3 := (k4c 3).trans ((World.cell?_alloc_lt _ _ _ hz4).trans e3); have uz := (k4f 3).trans ((frozen_alloc_lt0 _ _ (p := ⟨w3.heap.size, 3, none⟩) hz4).trans ef); have y5 := g4.size; have hb6 := hb5.out.trans (grown_below g4 (by (try simp only [World.heap_size_alloc, World.heap_size_drew, World.heap_size_setCell]); omega) (fun g hg => (Own.lt HO5.out g hg).1)); have hn4 : ∀ g, v4.ownBlock = some g → g ≠ w3.heap.size := (fun g hg => by rcases a4 with a4 | a4 <;> rw [a4] at hg; exact HNE.out g hg; (injection hg with hg; simp only [World.heap_size_alloc] at hg; omega)); obtain ⟨A4, c4, rfl, s4⟩ := o4.sl; have HO6 := Lib.hid o4; have HN4 := Lib.hid hn4; have HB6 := Lib.hid hb6; clear o4 g4 a4 s4 k4c k4f hn4 hb6)
            (try simp only [World.heap_size_alloc] at y5)
            go_roundw
            case rel => exact ⟨3, _, by omega, by go_num, by rw [HMR.out, if_neg HC.out]; exact RhBox.step (m := ⟨2 + (2 : Int), q7, q8⟩) HO6.out HN4.out u0 u1 u2 u3 uz (by omega) HB6.out⟩
            case measure => simp [intOf]
        · have a9 := (hw4.cell (p := ⟨g, off + 9, none⟩) hgw).trans p9
          have a10 := (hw4.cell (p := ⟨g, off + 10, none⟩) hgw).trans p10
          have hmr : rowMarks zs (3 + 1) = rowMarks zs 3 ++ rowMark zs 3 := rfl
          rw [HM3.out] at hmr
          have HMR := Lib.hid hmr
          clear hmr
          generalize hml : rowMarks zs 3 = ml at *
          clear hml
          have hww6 : IntKind.i64.wrap 6 = 6 := IntWalk.i64_in _ (by omega)
          have hww9 : IntKind.i64.wrap 9 = 9 := IntWalk.i64_in _ (by omega)
          have hww10 : IntKind.i64.wrap 10 = 10 := IntWalk.i64_in _ (by omega)
          have fa9 := fun d os => cell_regrown a9 d os
          have fa10 := fun d os => cell_regrown a10 d os
          by_cases hs : q9 = 0
          · by_cases hi' : q10 = 0
            · have HC := Lib.hid (And.intro hs hi')
              have ds : (q9 != 0) = false := by simp [hs]
              have di : (q10 != 0) = false := by simp [hi']
              clear hs hi'
              go_wp2_with fail
              refine wp_region_quiet_below (by kernel_rfl) (by kernel_rfl) ?_; (repeat (first | go_big_quiet_step (fail) | quiet_step (fail))); refine wpQuiet_nil ?_; intro _ hw'; obtain ⟨⟨nq, osq⟩, hw''⟩ := hw'; subst hw''; have hq := below_regrown wr nq osq; generalize Sort.grow (redrawn wr nq) osq = w4 at *
              have y4 := hq.size
              have hb4 := HB.out.trans (hq.mono hbz)
              have e0 := (hq.cell (p := ⟨w3.heap.size, 0, none⟩) hz).trans c0
              have e1 := (hq.cell (p := ⟨w3.heap.size, 1, none⟩) hz).trans c1
              have e2 := (hq.cell (p := ⟨w3.heap.size, 2, none⟩) hz).trans c2
              have e3 := (hq.cell (p := ⟨w3.heap.size, 3, none⟩) hz).trans c3
              have ef := (hq.frozen (p := ⟨w3.heap.size, 3, none⟩) hz).trans f3
              have HO4 := Lib.hid (HO.out.kept hq)
              clear hq
              go_wp2_with fail
              go_roundw
              case rel => exact ⟨4, _, by omega, by go_num, by rw [HMR.out, if_pos HC.out, List.append_nil]; exact ⟨HO4.out, HNE.out, e0, e1, e2, e3, ef, by omega, hb4⟩⟩
              case measure => simp [intOf]
            · have HC : Hid (¬ (q9 = 0 ∧ q10 = 0)) := Lib.hid (fun h' => hi' h'.2)
              have ds : (q9 != 0) = false := by simp [hs]
              have di : (q10 != 0) = true := by simpa using hi'
              clear hs hi'
              go_wp2_with fail
              refine wp_region_quiet_below (by kernel_rfl) (by kernel_rfl) ?_; (repeat (first | go_big_quiet_step (fail) | quiet_step (fail))); refine wpQuiet_nil ?_; intro _ hw'; obtain ⟨⟨nq, osq⟩, hw''⟩ := hw'; subst hw''; have hq := below_regrown wr nq osq; generalize Sort.grow (redrawn wr nq) osq = w4 at *
              have y4 := hq.size
              have hb4 := HB.out.trans (hq.mono hbz)
              have e0 := (hq.cell (p := ⟨w3.heap.size, 0, none⟩) hz).trans c0
              have e1 := (hq.cell (p := ⟨w3.heap.size, 1, none⟩) hz).trans c1
              have e2 := (hq.cell (p := ⟨w3.heap.size, 2, none⟩) hz).trans c2
              have e3 := (hq.cell (p := ⟨w3.heap.size, 3, none⟩) hz).trans c3
              have ef := (hq.frozen (p := ⟨w3.heap.size, 3, none⟩) hz).trans f3
              have HO4 := Lib.hid (HO.out.kept hq)
              clear hq
              have hz4 : w3.heap.size < w4.heap.size := by omega
              have HS1 : Hid (Sl (w4.alloc (.cells #[.int .i64 5, .int .i64 q9, .int .i64 q10] 117)) w4.heap.size (w4.alloc (.cells #[.int .i64 5, .int .i64 q9, .int .i64 q10] 117)).heap.size 3 (some ⟨w4.heap.size, 0, none⟩) 1 1 [5, q9, q10]) := Lib.hid ⟨rfl, by omega, by omega, fun _ => ⟨_, 0, rfl, by (try simp only [World.heap_size_alloc, World.heap_size_drew, World.heap_size_setCell]); omega, by simp, ints_new w4 117 [5, q9, q10]⟩⟩
              have HO5 : Hid (Own (w4.alloc (.cells #[.int .i64 5, .int .i64 q9, .int .i64 q10] 117)) w3.heap.size 117 3 v ml.length (ml.flatMap MarkD.ints)) := Lib.hid (HO4.out.kept ((Below.refl _ _).alloc (Nat.le_refl _) _))
              have hb5 : Hid (Below w3.heap.size w3 (w4.alloc (.cells #[.int .i64 5, .int .i64 q9, .int .i64 q10] 117))) := Lib.hid (hb4.alloc (by omega) _)
              go_wp2_with (at_builtin; go_loud (refine wpList_append_sl _ rfl (.tmp 45) (.tmp 51) 47 rfl w3.heap.size 117 Try.underlying47 infoMark rfl (by omega) _ _ _ rfl HO5.out _ 1 1 _ _ [5, q9, q10] rfl HS1.out (by omega) (by omega) (by (try simp only [World.heap_size_alloc, World.heap_size_drew, World.heap_size_setCell]); omega) ?_); intro v4 w6 o4 g4 a4; obtain ⟨k4c, k4f⟩ := gcellO g4 (b := w3.heap.size) (by (try simp only [World.heap_size_alloc, World.heap_size_drew, World.heap_size_setCell]); omega) (fun g hg => HNE.out g hg); have u0 := (k4c 0).trans ((World.cell?_alloc_lt _ _ _ hz4).trans e0); have u1 := (k4c 1).trans ((World.cell?_alloc_lt _ _ _ hz4).trans e1); have u2 := (k4c 2).trans ((World.cell?_alloc_lt _ _ _ hz4).trans e2); have u3 := (k4c 3).trans ((World.cell?_alloc_lt _ _ _ hz4).trans e3); have uz := (k4f 3).trans ((frozen_alloc_lt0 _ _ (p := ⟨w3.heap.size, 3, none⟩) hz4).trans ef); have y5 := g4.size; have hb6 := hb5.out.trans (grown_below g4 (by (try simp only [World.heap_size_alloc, World.heap_size_drew, World.heap_size_setCell]); omega) (fun g hg => (Own.lt HO5.out g hg).1)); have hn4 : ∀ g, v4.ownBlock = some g → g ≠ w3.heap.size := (fun g hg => by rcases a4 with a4 | a4 <;> rw [a4] at hg; exact HNE.out g hg; (injection hg with hg; simp only [World.heap_size_alloc] at hg; omega)); obtain ⟨A4, c4, rfl, s4⟩ := o4.sl; have HO6 := Lib.hid o4; have HN4 := Lib.hid hn4; have HB6 := Lib.hid hb6; clear o4 g4 a4 s4 k4c k4f hn4 hb6)
              (try simp only [World.heap_size_alloc] at y5)
              go_roundw
              case rel => exact ⟨4, _, by omega, by go_num, by rw [HMR.out, if_neg HC.out]; exact RhBox.step (m := ⟨2 + (3 : Int), q9, q10⟩) HO6.out HN4.out u0 u1 u2 u3 uz (by omega) HB6.out⟩
              case measure => simp [intOf]
          · have HC : Hid (¬ (q9 = 0 ∧ q10 = 0)) := Lib.hid (fun h' => hs h'.1)
            have ds : (q9 != 0) = true := by simpa using hs
            clear hs
            go_wp2_with fail
            refine wp_region_quiet_below (by kernel_rfl) (by kernel_rfl) ?_; (repeat (first | go_big_quiet_step (fail) | quiet_step (fail))); refine wpQuiet_nil ?_; intro _ hw'; obtain ⟨⟨nq, osq⟩, hw''⟩ := hw'; subst hw''; have hq := below_regrown wr nq osq; generalize Sort.grow (redrawn wr nq) osq = w4 at *
            have y4 := hq.size
            have hb4 := HB.out.trans (hq.mono hbz)
            have e0 := (hq.cell (p := ⟨w3.heap.size, 0, none⟩) hz).trans c0
            have e1 := (hq.cell (p := ⟨w3.heap.size, 1, none⟩) hz).trans c1
            have e2 := (hq.cell (p := ⟨w3.heap.size, 2, none⟩) hz).trans c2
            have e3 := (hq.cell (p := ⟨w3.heap.size, 3, none⟩) hz).trans c3
            have ef := (hq.frozen (p := ⟨w3.heap.size, 3, none⟩) hz).trans f3
            have HO4 := Lib.hid (HO.out.kept hq)
            clear hq
            have hz4 : w3.heap.size < w4.heap.size := by omega
            have HS1 : Hid (Sl (w4.alloc (.cells #[.int .i64 5, .int .i64 q9, .int .i64 q10] 117)) w4.heap.size (w4.alloc (.cells #[.int .i64 5, .int .i64 q9, .int .i64 q10] 117)).heap.size 3 (some ⟨w4.heap.size, 0, none⟩) 1 1 [5, q9, q10]) := Lib.hid ⟨rfl, by omega, by omega, fun _ => ⟨_, 0, rfl, by (try simp only [World.heap_size_alloc, World.heap_size_drew, World.heap_size_setCell]); omega, by simp, ints_new w4 117 [5, q9, q10]⟩⟩
            have HO5 : Hid (Own (w4.alloc (.cells #[.int .i64 5, .int .i64 q9, .int .i64 q10] 117)) w3.heap.size 117 3 v ml.length (ml.flatMap MarkD.ints)) := Lib.hid (HO4.out.kept ((Below.refl _ _).alloc (Nat.le_refl _) _))
            have hb5 : Hid (Below w3.heap.size w3 (w4.alloc (.cells #[.int .i64 5, .int .i64 q9, .int .i64 q10] 117))) := Lib.hid (hb4.alloc (by omega) _)
            go_wp2_with (at_builtin; go_loud (refine wpList_append_sl _ rfl (.tmp 45) (.tmp 51) 47 rfl w3.heap.size 117 Try.underlying47 infoMark rfl (by omega) _ _ _ rfl HO5.out _ 1 1 _ _ [5, q9, q10] rfl HS1.out (by omega) (by omega) (by (try simp only [World.heap_size_alloc, World.heap_size_drew, World.heap_size_setCell]); omega) ?_); intro v4 w6 o4 g4 a4; obtain ⟨k4c, k4f⟩ := gcellO g4 (b := w3.heap.size) (by (try simp only [World.heap_size_alloc, World.heap_size_drew, World.heap_size_setCell]); omega) (fun g hg => HNE.out g hg); have u0 := (k4c 0).trans ((World.cell?_alloc_lt _ _ _ hz4).trans e0); have u1 := (k4c 1).trans ((World.cell?_alloc_lt _ _ _ hz4).trans e1); have u2 := (k4c 2).trans ((World.cell?_alloc_lt _ _ _ hz4).trans e2); have u3 := (k4c 3).trans ((World.cell?_alloc_lt _ _ _ hz4).trans e3); have uz := (k4f 3).trans ((frozen_alloc_lt0 _ _ (p := ⟨w3.heap.size, 3, none⟩) hz4).trans ef); have y5 := g4.size; have hb6 := hb5.out.trans (grown_below g4 (by (try simp only [World.heap_size_alloc, World.heap_size_drew, World.heap_size_setCell]); omega) (fun g hg => (Own.lt HO5.out g hg).1)); have hn4 : ∀ g, v4.ownBlock = some g → g ≠ w3.heap.size := (fun g hg => by rcases a4 with a4 | a4 <;> rw [a4] at hg; exact HNE.out g hg; (injection hg with hg; simp only [World.heap_size_alloc] at hg; omega)); obtain ⟨A4, c4, rfl, s4⟩ := o4.sl; have HO6 := Lib.hid o4; have HN4 := Lib.hid hn4; have HB6 := Lib.hid hb6; clear o4 g4 a4 s4 k4c k4f hn4 hb6)
            (try simp only [World.heap_size_alloc] at y5)
            go_roundw
            case rel => exact ⟨4, _, by omega, by go_num, by rw [HMR.out, if_neg HC.out]; exact RhBox.step (m := ⟨2 + (3 : Int), q9, q10⟩) HO6.out HN4.out u0 u1 u2 u3 uz (by omega) HB6.out⟩
            case measure => simp [intOf]
      · have hj4 : j = 4 := by omega
        subst hj4
        obtain ⟨Ak, ck, rfl, sk⟩ := ho.sl
        have SK := Lib.hid sk
        clear sk ho hb hne
        generalize hml : rowMarks zs 4 = ml at *
        have HML := Lib.hid hml
        clear hml
        have hcond : (zs.length = 13 ∧ zs.getD 11 0 = zs.getD 0 0 ∧ zs.getD 12 0 = zs.getD 0 0 ∧ headOk (zs.getD 0 0) (zs.getD 1 0) (zs.getD 2 0) (rowMarks zs 4) = true) = (q11 = q0 ∧ q12 = q0 ∧ headOk q0 q1 q2 ml = true) := by
          rw [HQ.out.1, HQ.out.2.1, HQ.out.2.2.1, HQ.out.2.2.2.1, HQ.out.2.2.2.2, HML.out, HZL.out]
          simp
        cases hok : headOk q0 q1 q2 ml with
        | false =>
          have h9 : rowHead zs = (0, 0, 0, [], false) := by
            unfold rowHead
            rw [if_neg (by rw [hcond]; exact (fun h' => by rw [hok] at h'; exact absurd h'.2.2 (by simp)))]
          replace h9 := h9.symm.trans HR.out
          simp only [Prod.mk.injEq] at h9
          obtain ⟨rfl, rfl, rfl, rfl, rfl⟩ := h9
          clear HR hcond
          have CO : ∀ W, Sl W w3.heap.size wr.heap.size 3 Ak ml.length ck (ml.flatMap MarkD.ints) → Calls Try.prog 29 #[.agg #[.int .i64 q0, .int .i64 q1, .int .i64 q2, .slice Ak ml.length ck]] W fun x w' => x = .returned (.bool false) ∧ Below W.heap.size W w' := fun W s => by
            have h7 := headOk_any q0 q1 q2 Ak ml.length ck _ _ ml W s
            rw [hok] at h7
            exact h7
          have HCO := Lib.hid CO
          clear CO
          clear hok
          have fc0 := fun d os => cell_regrown c0 d os
          have fc1 := fun d os => cell_regrown c1 d os
          have fc2 := fun d os => cell_regrown c2 d os
          have fc3 := fun d os => cell_regrown c3 d os
          have a11 := (HW4.out.cell (p := ⟨g, off + 11, none⟩) hgw).trans p11
          have fa11 := fun d os => cell_regrown a11 d os
          have a12 := (HW4.out.cell (p := ⟨g, off + 12, none⟩) hgw).trans p12
          have fa12 := fun d os => cell_regrown a12 d os
          have hz9 : wr.heap.size ≤ wr.heap.size := Nat.le_refl _
          go_wp2_with fail
          refine wp_region_quiet_below (by kernel_rfl) (by kernel_rfl) ?_; (repeat (first | go_big_quiet_step ((first | (go_at_call 29; with_reducible exact Calls.regrown_of (HCO.out _ (SK.out.below (below_regrown _ _ _) (Nat.le_refl _)))))) | quiet_step ((first | (go_at_call 29; with_reducible exact Calls.regrown_of (HCO.out _ (SK.out.below (below_regrown _ _ _) (Nat.le_refl _)))))))); refine wpQuiet_nil ?_; intro _ hw'; obtain ⟨⟨nq, osq⟩, hw''⟩ := hw'; subst hw''; have hq := below_regrown wr nq osq; generalize Sort.grow (redrawn wr nq) osq = w5 at *
          have y5 := hq.size
          have hb5 := HB.out.trans (hq.mono (by omega))
          have HBW := Lib.hid hq
          have d0 := (hq.cell (p := ⟨w3.heap.size, 0, none⟩) hz).trans c0
          have d1 := (hq.cell (p := ⟨w3.heap.size, 1, none⟩) hz).trans c1
          have d2 := (hq.cell (p := ⟨w3.heap.size, 2, none⟩) hz).trans c2
          have d3 := (hq.cell (p := ⟨w3.heap.size, 3, none⟩) hz).trans c3
          have m0 : w5.cell? ⟨w.heap.size, 0, none⟩ = some (.int .i64 0) := (hb5.cell (p := ⟨w.heap.size, 0, none⟩) hz0).trans n0
          have z0 : w5.frozen? ⟨w.heap.size, 0, none⟩ = false := (hb5.frozen (p := ⟨w.heap.size, 0, none⟩) hz0).trans nz0
          have m1 : w5.cell? ⟨w.heap.size, 1, none⟩ = some (.int .i64 0) := (hb5.cell (p := ⟨w.heap.size, 1, none⟩) hz0).trans n1
          have z1 : w5.frozen? ⟨w.heap.size, 1, none⟩ = false := (hb5.frozen (p := ⟨w.heap.size, 1, none⟩) hz0).trans nz1
          have m2 : w5.cell? ⟨w.heap.size, 2, none⟩ = some (.int .i64 0) := (hb5.cell (p := ⟨w.heap.size, 2, none⟩) hz0).trans n2
          have z2 : w5.frozen? ⟨w.heap.size, 2, none⟩ = false := (hb5.frozen (p := ⟨w.heap.size, 2, none⟩) hz0).trans nz2
          have m3 : w5.cell? ⟨w.heap.size, 3, none⟩ = some (.slice none 0 0) := (hb5.cell (p := ⟨w.heap.size, 3, none⟩) hz0).trans n3
          have z3 : w5.frozen? ⟨w.heap.size, 3, none⟩ = false := (hb5.frozen (p := ⟨w.heap.size, 3, none⟩) hz0).trans nz3
          clear hb5 hq
          go_wp2_with fail
          refine bodyPost_ret (v := .tuple #[.agg #[.int .i64 0, .int .i64 0, .int .i64 0, .slice none 0 0], .bool false]) (by simp [results, Try.results32, go_sem, m0, m1, m2, m3, z0, z1, z2, z3]) rfl ⟨none, 0, rfl, Sl.nil _ _ _ _ _ _ (by omega), ?_⟩
          have c9 : Below w.heap.size w w5 := HW4.out.trans (HBW.out.mono (by omega))
          (repeat' (first | with_reducible exact Below.refl _ _ | with_reducible assumption | with_reducible refine Below.drew ?_ | with_reducible refine Below.alloc ?_ ?_ _ | with_reducible refine Below.setCell ?_ ?_ _ | with_reducible refine Below.trans ?_ (Below.mono (by assumption) ?_) | ((try simp only [World.heap_size_alloc, World.heap_size_drew, World.heap_size_setCell]); omega)))
        | true =>
          by_cases e11 : q11 = q0
          · by_cases e12 : q12 = q0
            · have E11 := Lib.hid e11
              have E12 := Lib.hid e12
              have d11 : (q11 != q0) = false := by simp [e11]
              have d12 : (q12 != q0) = false := by simp [e12]
              clear e11 e12
              have h9 : rowHead zs = (q0, q1, q2, ml, true) := by
                unfold rowHead
                rw [if_pos (by rw [hcond]; exact ⟨E11.out, E12.out, hok⟩), HQ.out.1, HQ.out.2.1, HQ.out.2.2.1, HML.out]
              replace h9 := h9.symm.trans HR.out
              simp only [Prod.mk.injEq] at h9
              obtain ⟨rfl, rfl, rfl, rfl, rfl⟩ := h9
              clear HR hcond
              have CO : ∀ W, Sl W w3.heap.size wr.heap.size 3 Ak ml.length ck (ml.flatMap MarkD.ints) → Calls Try.prog 29 #[.agg #[.int .i64 q0, .int .i64 q1, .int .i64 q2, .slice Ak ml.length ck]] W fun x w' => x = .returned (.bool true) ∧ Below W.heap.size W w' := fun W s => by
                have h7 := headOk_any q0 q1 q2 Ak ml.length ck _ _ ml W s
                rw [hok] at h7
                exact h7
              have HCO := Lib.hid CO
              clear CO
              clear hok
              have fc0 := fun d os => cell_regrown c0 d os
              have fc1 := fun d os => cell_regrown c1 d os
              have fc2 := fun d os => cell_regrown c2 d os
              have fc3 := fun d os => cell_regrown c3 d os
              have a11 := (HW4.out.cell (p := ⟨g, off + 11, none⟩) hgw).trans p11
              have fa11 := fun d os => cell_regrown a11 d os
              have a12 := (HW4.out.cell (p := ⟨g, off + 12, none⟩) hgw).trans p12
              have fa12 := fun d os => cell_regrown a12 d os
              have hz9 : wr.heap.size ≤ wr.heap.size := Nat.le_refl _
              go_wp2_with fail
              refine wp_region_quiet_below (by kernel_rfl) (by kernel_rfl) ?_; (repeat (first | go_big_quiet_step ((first | (go_at_call 29; with_reducible exact Calls.regrown_of (HCO.out _ (SK.out.below (below_regrown _ _ _) (Nat.le_refl _)))))) | quiet_step ((first | (go_at_call 29; with_reducible exact Calls.regrown_of (HCO.out _ (SK.out.below (below_regrown _ _ _) (Nat.le_refl _)))))))); refine wpQuiet_nil ?_; intro _ hw'; obtain ⟨⟨nq, osq⟩, hw''⟩ := hw'; subst hw''; have hq := below_regrown wr nq osq; generalize Sort.grow (redrawn wr nq) osq = w5 at *
              have y5 := hq.size
              have hb5 := HB.out.trans (hq.mono (by omega))
              have HBW := Lib.hid hq
              have d0 := (hq.cell (p := ⟨w3.heap.size, 0, none⟩) hz).trans c0
              have d1 := (hq.cell (p := ⟨w3.heap.size, 1, none⟩) hz).trans c1
              have d2 := (hq.cell (p := ⟨w3.heap.size, 2, none⟩) hz).trans c2
              have d3 := (hq.cell (p := ⟨w3.heap.size, 3, none⟩) hz).trans c3
              have m0 : w5.cell? ⟨w.heap.size, 0, none⟩ = some (.int .i64 0) := (hb5.cell (p := ⟨w.heap.size, 0, none⟩) hz0).trans n0
              have z0 : w5.frozen? ⟨w.heap.size, 0, none⟩ = false := (hb5.frozen (p := ⟨w.heap.size, 0, none⟩) hz0).trans nz0
              have m1 : w5.cell? ⟨w.heap.size, 1, none⟩ = some (.int .i64 0) := (hb5.cell (p := ⟨w.heap.size, 1, none⟩) hz0).trans n1
              have z1 : w5.frozen? ⟨w.heap.size, 1, none⟩ = false := (hb5.frozen (p := ⟨w.heap.size, 1, none⟩) hz0).trans nz1
              have m2 : w5.cell? ⟨w.heap.size, 2, none⟩ = some (.int .i64 0) := (hb5.cell (p := ⟨w.heap.size, 2, none⟩) hz0).trans n2
              have z2 : w5.frozen? ⟨w.heap.size, 2, none⟩ = false := (hb5.frozen (p := ⟨w.heap.size, 2, none⟩) hz0).trans nz2
              have m3 : w5.cell? ⟨w.heap.size, 3, none⟩ = some (.slice none 0 0) := (hb5.cell (p := ⟨w.heap.size, 3, none⟩) hz0).trans n3
              have z3 : w5.frozen? ⟨w.heap.size, 3, none⟩ = false := (hb5.frozen (p := ⟨w.heap.size, 3, none⟩) hz0).trans nz3
              clear hb5 hq
              go_wp2_with fail
              refine bodyPost_ret (v := .tuple #[.agg #[.int .i64 q0, .int .i64 q1, .int .i64 q2, .slice Ak ml.length ck], .bool true]) (by simp [results, Try.results32, go_sem, m0, m1, m2, m3, z0, z1, z2, z3]) rfl ⟨Ak, ck, rfl, ?_, ?_⟩
              · refine Sl.mono (Sl.upd (lo' := w.heap.size) (hi' := w.heap.size + 1) (SK.out.below (B := wr.heap.size) (w' := w5) HBW.out (Nat.le_refl _)) ?_ (.inr (by omega))) (by omega) (by (try simp only [World.heap_size_alloc, World.heap_size_drew, World.heap_size_setCell]); omega)
                (repeat' (first | with_reducible exact Upd.refl _ _ _ | with_reducible assumption | with_reducible refine Upd.drew ?_ | with_reducible refine Upd.alloc ?_ _ | with_reducible refine Upd.setCell ?_ ?_ ?_ _ | (simp only []; omega) | omega))
              · have c9 : Below w.heap.size w w5 := HW4.out.trans (HBW.out.mono (by omega))
                (repeat' (first | with_reducible exact Below.refl _ _ | with_reducible assumption | with_reducible refine Below.drew ?_ | with_reducible refine Below.alloc ?_ ?_ _ | with_reducible refine Below.setCell ?_ ?_ _ | with_reducible refine Below.trans ?_ (Below.mono (by assumption) ?_) | ((try simp only [World.heap_size_alloc, World.heap_size_drew, World.heap_size_setCell]); omega)))
            · have E12 := Lib.hid e12
              have d11 : (q11 != q0) = false := by simp [e11]
              have d12 : (q12 != q0) = true := by simpa using e12
              clear e11 e12
              have h9 : rowHead zs = (0, 0, 0, [], false) := by
                unfold rowHead
                rw [if_neg (by rw [hcond]; exact (fun h' => E12.out h'.2.1))]
              replace h9 := h9.symm.trans HR.out
              simp only [Prod.mk.injEq] at h9
              obtain ⟨rfl, rfl, rfl, rfl, rfl⟩ := h9
              clear HR hcond
              have CO : ∀ W, Sl W w3.heap.size wr.heap.size 3 Ak ml.length ck (ml.flatMap MarkD.ints) → Calls Try.prog 29 #[.agg #[.int .i64 q0, .int .i64 q1, .int .i64 q2, .slice Ak ml.length ck]] W fun x w' => x = .returned (.bool true) ∧ Below W.heap.size W w' := fun W s => by
                have h7 := headOk_any q0 q1 q2 Ak ml.length ck _ _ ml W s
                rw [hok] at h7
                exact h7
              have HCO := Lib.hid CO
              clear CO
              clear hok
              have fc0 := fun d os => cell_regrown c0 d os
              have fc1 := fun d os => cell_regrown c1 d os
              have fc2 := fun d os => cell_regrown c2 d os
              have fc3 := fun d os => cell_regrown c3 d os
              have a11 := (HW4.out.cell (p := ⟨g, off + 11, none⟩) hgw).trans p11
              have fa11 := fun d os => cell_regrown a11 d os
              have a12 := (HW4.out.cell (p := ⟨g, off + 12, none⟩) hgw).trans p12
              have fa12 := fun d os => cell_regrown a12 d os
              have hz9 : wr.heap.size ≤ wr.heap.size := Nat.le_refl _
              go_wp2_with fail
              refine wp_region_quiet_below (by kernel_rfl) (by kernel_rfl) ?_; (repeat (first | go_big_quiet_step ((first | (go_at_call 29; with_reducible exact Calls.regrown_of (HCO.out _ (SK.out.below (below_regrown _ _ _) (Nat.le_refl _)))))) | quiet_step ((first | (go_at_call 29; with_reducible exact Calls.regrown_of (HCO.out _ (SK.out.below (below_regrown _ _ _) (Nat.le_refl _)))))))); refine wpQuiet_nil ?_; intro _ hw'; obtain ⟨⟨nq, osq⟩, hw''⟩ := hw'; subst hw''; have hq := below_regrown wr nq osq; generalize Sort.grow (redrawn wr nq) osq = w5 at *
              have y5 := hq.size
              have hb5 := HB.out.trans (hq.mono (by omega))
              have HBW := Lib.hid hq
              have d0 := (hq.cell (p := ⟨w3.heap.size, 0, none⟩) hz).trans c0
              have d1 := (hq.cell (p := ⟨w3.heap.size, 1, none⟩) hz).trans c1
              have d2 := (hq.cell (p := ⟨w3.heap.size, 2, none⟩) hz).trans c2
              have d3 := (hq.cell (p := ⟨w3.heap.size, 3, none⟩) hz).trans c3
              have m0 : w5.cell? ⟨w.heap.size, 0, none⟩ = some (.int .i64 0) := (hb5.cell (p := ⟨w.heap.size, 0, none⟩) hz0).trans n0
              have z0 : w5.frozen? ⟨w.heap.size, 0, none⟩ = false := (hb5.frozen (p := ⟨w.heap.size, 0, none⟩) hz0).trans nz0
              have m1 : w5.cell? ⟨w.heap.size, 1, none⟩ = some (.int .i64 0) := (hb5.cell (p := ⟨w.heap.size, 1, none⟩) hz0).trans n1
              have z1 : w5.frozen? ⟨w.heap.size, 1, none⟩ = false := (hb5.frozen (p := ⟨w.heap.size, 1, none⟩) hz0).trans nz1
              have m2 : w5.cell? ⟨w.heap.size, 2, none⟩ = some (.int .i64 0) := (hb5.cell (p := ⟨w.heap.size, 2, none⟩) hz0).trans n2
              have z2 : w5.frozen? ⟨w.heap.size, 2, none⟩ = false := (hb5.frozen (p := ⟨w.heap.size, 2, none⟩) hz0).trans nz2
              have m3 : w5.cell? ⟨w.heap.size, 3, none⟩ = some (.slice none 0 0) := (hb5.cell (p := ⟨w.heap.size, 3, none⟩) hz0).trans n3
              have z3 : w5.frozen? ⟨w.heap.size, 3, none⟩ = false := (hb5.frozen (p := ⟨w.heap.size, 3, none⟩) hz0).trans nz3
              clear hb5 hq
              go_wp2_with fail
              refine bodyPost_ret (v := .tuple #[.agg #[.int .i64 0, .int .i64 0, .int .i64 0, .slice none 0 0], .bool false]) (by simp [results, Try.results32, go_sem, m0, m1, m2, m3, z0, z1, z2, z3]) rfl ⟨none, 0, rfl, Sl.nil _ _ _ _ _ _ (by omega), ?_⟩
              have c9 : Below w.heap.size w w5 := HW4.out.trans (HBW.out.mono (by omega))
              (repeat' (first | with_reducible exact Below.refl _ _ | with_reducible assumption | with_reducible refine Below.drew ?_ | with_reducible refine Below.alloc ?_ ?_ _ | with_reducible refine Below.setCell ?_ ?_ _ | with_reducible refine Below.trans ?_ (Below.mono (by assumption) ?_) | ((try simp only [World.heap_size_alloc, World.heap_size_drew, World.heap_size_setCell]); omega)))
          · have E11 := Lib.hid e11
            have d11 : (q11 != q0) = true := by simpa using e11
            clear e11
            have h9 : rowHead zs = (0, 0, 0, [], false) := by
              unfold rowHead
              rw [if_neg (by rw [hcond]; exact (fun h' => E11.out h'.1))]
            replace h9 := h9.symm.trans HR.out
            simp only [Prod.mk.injEq] at h9
            obtain ⟨rfl, rfl, rfl, rfl, rfl⟩ := h9
            clear HR hcond
            have CO : ∀ W, Sl W w3.heap.size wr.heap.size 3 Ak ml.length ck (ml.flatMap MarkD.ints) → Calls Try.prog 29 #[.agg #[.int .i64 q0, .int .i64 q1, .int .i64 q2, .slice Ak ml.length ck]] W fun x w' => x = .returned (.bool true) ∧ Below W.heap.size W w' := fun W s => by
              have h7 := headOk_any q0 q1 q2 Ak ml.length ck _ _ ml W s
              rw [hok] at h7
              exact h7
            have HCO := Lib.hid CO
            clear CO
            clear hok
            have fc0 := fun d os => cell_regrown c0 d os
            have fc1 := fun d os => cell_regrown c1 d os
            have fc2 := fun d os => cell_regrown c2 d os
            have fc3 := fun d os => cell_regrown c3 d os
            have a11 := (HW4.out.cell (p := ⟨g, off + 11, none⟩) hgw).trans p11
            have fa11 := fun d os => cell_regrown a11 d os
            have a12 := (HW4.out.cell (p := ⟨g, off + 12, none⟩) hgw).trans p12
            have fa12 := fun d os => cell_regrown a12 d os
            have hz9 : wr.heap.size ≤ wr.heap.size := Nat.le_refl _
            go_wp2_with fail
            refine wp_region_quiet_below (by kernel_rfl) (by kernel_rfl) ?_; (repeat (first | go_big_quiet_step ((first | (go_at_call 29; with_reducible exact Calls.regrown_of (HCO.out _ (SK.out.below (below_regrown _ _ _) (Nat.le_refl _)))))) | quiet_step ((first | (go_at_call 29; with_reducible exact Calls.regrown_of (HCO.out _ (SK.out.below (below_regrown _ _ _) (Nat.le_refl _)))))))); refine wpQuiet_nil ?_; intro _ hw'; obtain ⟨⟨nq, osq⟩, hw''⟩ := hw'; subst hw''; have hq := below_regrown wr nq osq; generalize Sort.grow (redrawn wr nq) osq = w5 at *
            have y5 := hq.size
            have hb5 := HB.out.trans (hq.mono (by omega))
            have HBW := Lib.hid hq
            have d0 := (hq.cell (p := ⟨w3.heap.size, 0, none⟩) hz).trans c0
            have d1 := (hq.cell (p := ⟨w3.heap.size, 1, none⟩) hz).trans c1
            have d2 := (hq.cell (p := ⟨w3.heap.size, 2, none⟩) hz).trans c2
            have d3 := (hq.cell (p := ⟨w3.heap.size, 3, none⟩) hz).trans c3
            have m0 : w5.cell? ⟨w.heap.size, 0, none⟩ = some (.int .i64 0) := (hb5.cell (p := ⟨w.heap.size, 0, none⟩) hz0).trans n0
            have z0 : w5.frozen? ⟨w.heap.size, 0, none⟩ = false := (hb5.frozen (p := ⟨w.heap.size, 0, none⟩) hz0).trans nz0
            have m1 : w5.cell? ⟨w.heap.size, 1, none⟩ = some (.int .i64 0) := (hb5.cell (p := ⟨w.heap.size, 1, none⟩) hz0).trans n1
            have z1 : w5.frozen? ⟨w.heap.size, 1, none⟩ = false := (hb5.frozen (p := ⟨w.heap.size, 1, none⟩) hz0).trans nz1
            have m2 : w5.cell? ⟨w.heap.size, 2, none⟩ = some (.int .i64 0) := (hb5.cell (p := ⟨w.heap.size, 2, none⟩) hz0).trans n2
            have z2 : w5.frozen? ⟨w.heap.size, 2, none⟩ = false := (hb5.frozen (p := ⟨w.heap.size, 2, none⟩) hz0).trans nz2
            have m3 : w5.cell? ⟨w.heap.size, 3, none⟩ = some (.slice none 0 0) := (hb5.cell (p := ⟨w.heap.size, 3, none⟩) hz0).trans n3
            have z3 : w5.frozen? ⟨w.heap.size, 3, none⟩ = false := (hb5.frozen (p := ⟨w.heap.size, 3, none⟩) hz0).trans nz3
            clear hb5 hq
            go_wp2_with fail
            refine bodyPost_ret (v := .tuple #[.agg #[.int .i64 0, .int .i64 0, .int .i64 0, .slice none 0 0], .bool false]) (by simp [results, Try.results32, go_sem, m0, m1, m2, m3, z0, z1, z2, z3]) rfl ⟨none, 0, rfl, Sl.nil _ _ _ _ _ _ (by omega), ?_⟩
            have c9 : Below w.heap.size w w5 := HW4.out.trans (HBW.out.mono (by omega))
            (repeat' (first | with_reducible exact Below.refl _ _ | with_reducible assumption | with_reducible refine Below.drew ?_ | with_reducible refine Below.alloc ?_ ?_ _ | with_reducible refine Below.setCell ?_ ?_ _ | with_reducible refine Below.trans ?_ (Below.mono (by assumption) ?_) | ((try simp only [World.heap_size_alloc, World.heap_size_drew, World.heap_size_setCell]); omega)))
  · have e0 : rowHead zs = (0, 0, 0, [], false) := if_neg (fun h' => h13 (by have := h.len; omega))
    rw [e0]
    clear e0 h
    have d13 : (((n : Nat) : Int) != 13) = true := by simp; omega
    go_enter Try.func32, Try.ntmps32
    go_wp2_with fail
    refine bodyPost_ret (v := .tuple #[.agg #[.int .i64 0, .int .i64 0, .int .i64 0, .slice none 0 0], .bool false]) (by simp [results, Try.results32, go_sem]) rfl ⟨none, 0, rfl, Sl.nil _ _ _ _ _ _ (by omega), ?_⟩
    (repeat' (first | with_reducible exact Below.refl _ _ | with_reducible assumption | with_reducible refine Below.drew ?_ | with_reducible refine Below.alloc ?_ ?_ _ | with_reducible refine Below.setCell ?_ ?_ _ | with_reducible refine Below.trans ?_ (Below.mono (by assumption) ?_) | ((try simp only [World.heap_size_alloc, World.heap_size_drew, World.heap_size_setCell]); omega)))
end Go.Proofs.Ytgnilmdaegnaaaa
