/- Disks: what the laws' helpers do with them: conversions and comparisons. No conditions. -/
import Derived.Test.YtgnilmdaegnaaaaDk1
import Derived.Lib.QuietBelow
import Derived.BigQuiet
set_option linter.unusedSimpArgs false
set_option linter.unusedVariables false
namespace Go.Proofs.Ytgnilmdaegnaaaa
open Go.RowKit

theorem infoI64S : (Try.prog.info? 28).map (fun i => (i.zero, i.size, i.bytes)) = some (some (.slice none 0 0), 1, 24) := by kernel_rfl
theorem infoWrite : (Try.prog.info? 135).map (fun i => (i.zero, i.size, i.bytes)) = some (some (.agg #[.int .i64 0, .slice none 0 0]), 2, 32) := by kernel_rfl
theorem make_any {P : Program} {t e : TypeId} {z : Value} {k bytes : Nat} (ht : P.underlying t = some (.slice e)) (hi : (P.info? e).map (fun i => (i.zero, i.size, i.bytes)) = some (some z, k, bytes)) (n : Nat) (hb : bytes * n ≤ 281474976710656) (hn : n ≤ 9223372036854775807) :
    ∃ arr : Array Value, arr.size = n * k ∧ ∀ w : World, (Instr.makeSlice t (.int .i64 (n : Int)) (.int .i64 (n : Int))).run P w = .ok (.slice (some ⟨w.heap.size, 0, none⟩) n n) (w.alloc (.cells arr e)) := by
  obtain ⟨i, h1, h2, h3, h4⟩ := info_parts hi
  have hb' : (i.bytes : Int) * (n : Int) ≤ 281474976710656 := by
    have h : ((i.bytes * n : Nat) : Int) ≤ 281474976710656 := by rw [h4]; omega
    rwa [Int.natCast_mul] at h
  refine ⟨madeCells z.cells (n * k), by simp [madeCells], fun w => ?_⟩
  have hr := run_make (P := P) w t e i z ht h1 h2 .i64 .i64 n n (by omega) (by omega) hb' (by omega)
  simp only [Int.toNat_natCast] at hr
  rw [hr, h3]
/-- m cells of block g are there, and may be written. -/
def There (w : World) (g m : Nat) : Prop := ∀ j, j < m → (w.cell? ⟨g, j, none⟩).isSome = true ∧ w.frozen? ⟨g, j, none⟩ = false
theorem There.new (w : World) (arr : Array Value) (e : TypeId) : There (w.alloc (.cells arr e)) w.heap.size arr.size := fun j hj => by
  refine ⟨?_, by simp⟩
  rw [World.cell?_alloc_new]
  simp [hj]
theorem There.below {w w' : World} {g m B : Nat} (h : There w g m) (hb : Below B w w') (hg : g < B) : There w' g m := fun j hj => by
  rw [hb.cell (p := ⟨g, j, none⟩) hg, hb.frozen (p := ⟨g, j, none⟩) hg]
  exact h j hj
theorem There.set {w : World} {g m : Nat} (h : There w g m) (i : Nat) (v : Value) : There (w.setCell ⟨g, i, none⟩ v) g m := fun j hj => by
  rw [World.frozen?_setCell]
  refine ⟨?_, (h j hj).2⟩
  by_cases e : i = j
  · subst e
    obtain ⟨u, hu⟩ := Option.isSome_iff_exists.1 (h i hj).1
    rw [World.cell?_setCell_same _ _ _ hu]
    rfl
  · rw [World.cell?_setCell_other _ _ _ _ (by simp <;> omega)]
    exact (h j hj).1

def RRes (w : World) (n : Nat) (rows : List (List Int)) (e : Ending) (w' : World) : Prop := ∃ A c, e = .returned (.slice A n c) ∧ SlR w' w.heap.size w'.heap.size A n c rows ∧ Below w.heap.size w w'
def WRes (w : World) (n : Nat) (ws : List WriteD) (e : Ending) (w' : World) : Prop := ∃ A c, e = .returned (.slice A n c) ∧ SlW w' w.heap.size w'.heap.size A n c ws ∧ Below w.heap.size w w'
def RowsSoFar (w : World) (rows : List (List Int)) (m : Nat) (wr : World) : Prop :=
  ∀ (j : Nat) (r : List Int), j < m → rows[j]? = some r → ∃ Aj nj cj, wr.cell? ⟨w.heap.size, j, none⟩ = some (.slice Aj nj cj) ∧ Sl wr (w.heap.size + 1) wr.heap.size 1 Aj nj cj r
def WritesSoFar (w : World) (ws : List WriteD) (m : Nat) (wr : World) : Prop :=
  ∀ (j : Nat) (r : WriteD), j < m → ws[j]? = some r → ∃ Aj nj cj, wr.cell? ⟨w.heap.size, j * 2, none⟩ = some (.int .i64 r.at_) ∧ wr.cell? ⟨w.heap.size, j * 2 + 1, none⟩ = some (.slice Aj nj cj) ∧ Sl wr (w.heap.size + 1) wr.heap.size 1 Aj nj cj r.row
theorem RowsSoFar.step {w wr w1 : World} {rows : List (List Int)} {m : Nat} {r : List Int} {A1 : Option Addr} {n1 q1 : Nat} (h : RowsSoFar w rows m wr) (hr : rows[m]? = some r) (b1 : Below wr.heap.size wr w1) (hz : w.heap.size < wr.heap.size) (s1 : Sl w1 wr.heap.size w1.heap.size 1 A1 n1 q1 r) (ht : (w1.cell? ⟨w.heap.size, m, none⟩).isSome = true) :
    RowsSoFar w rows (m + 1) (w1.setCell ⟨w.heap.size, m, none⟩ (.slice A1 n1 q1)) := by
  have hu : Upd w.heap.size (w.heap.size + 1) w1 (w1.setCell ⟨w.heap.size, m, none⟩ (.slice A1 n1 q1)) := (Upd.refl _ _ _).setCell (p := ⟨w.heap.size, m, none⟩) (Nat.le_refl _) (show w.heap.size < w.heap.size + 1 by omega) _
  intro j r' hj hr'
  have hy := b1.size
  rcases Nat.lt_succ_iff_lt_or_eq.1 hj with h5 | rfl
  · obtain ⟨Aj, nj, cj, h1, h2⟩ := h j r' h5 hr'
    refine ⟨Aj, nj, cj, ?_, ((h2.below b1 (Nat.le_refl _)).upd hu (.inr (Nat.le_refl _))).mono (Nat.le_refl _) (by rw [World.heap_size_setCell]; exact hy)⟩
    rw [World.cell?_setCell_other _ _ _ _ (by simp <;> omega)]
    exact (b1.cell (p := ⟨w.heap.size, j, none⟩) hz).trans h1
  · rw [hr] at hr'
    injection hr' with hr'
    subst hr'
    obtain ⟨u, hu2⟩ := Option.isSome_iff_exists.1 ht
    exact ⟨A1, n1, q1, World.cell?_setCell_same _ _ _ hu2, (s1.upd hu (.inr (by omega))).mono (by omega) (by rw [World.heap_size_setCell]; exact Nat.le_refl _)⟩
theorem WritesSoFar.step {w wr w1 : World} {rows : List WriteD} {m : Nat} {r : WriteD} {A1 : Option Addr} {n1 q1 : Nat} (h : WritesSoFar w rows m wr) (hr : rows[m]? = some r) (b1 : Below wr.heap.size wr w1) (hz : w.heap.size < wr.heap.size) (s1 : Sl w1 wr.heap.size w1.heap.size 1 A1 n1 q1 r.row) (ht : (w1.cell? ⟨w.heap.size, m * 2, none⟩).isSome = true) (ht1 : (w1.cell? ⟨w.heap.size, m * 2 + 1, none⟩).isSome = true) :
    WritesSoFar w rows (m + 1) ((w1.setCell ⟨w.heap.size, m * 2, none⟩ (.int .i64 r.at_)).setCell ⟨w.heap.size, m * 2 + 1, none⟩ (.slice A1 n1 q1)) := by
  have hu : Upd w.heap.size (w.heap.size + 1) w1 ((w1.setCell ⟨w.heap.size, m * 2, none⟩ (.int .i64 r.at_)).setCell ⟨w.heap.size, m * 2 + 1, none⟩ (.slice A1 n1 q1)) := ((Upd.refl _ _ _).setCell (p := ⟨w.heap.size, m * 2, none⟩) (Nat.le_refl _) (show w.heap.size < w.heap.size + 1 by omega) _).setCell (p := ⟨w.heap.size, m * 2 + 1, none⟩) (Nat.le_refl _) (show w.heap.size < w.heap.size + 1 by omega) _
  intro j r' hj hr'
  have hy := b1.size
  rcases Nat.lt_succ_iff_lt_or_eq.1 hj with h5 | rfl
  · obtain ⟨Aj, nj, cj, h1, h2, h3⟩ := h j r' h5 hr'
    refine ⟨Aj, nj, cj, ?_, ?_, ((h3.below b1 (Nat.le_refl _)).upd hu (.inr (Nat.le_refl _))).mono (Nat.le_refl _) (by rw [World.heap_size_setCell, World.heap_size_setCell]; exact hy)⟩
    · rw [World.cell?_setCell_other _ _ _ _ (by simp <;> omega), World.cell?_setCell_other _ _ _ _ (by simp <;> omega)]
      exact (b1.cell (p := ⟨w.heap.size, j * 2, none⟩) hz).trans h1
    · rw [World.cell?_setCell_other _ _ _ _ (by simp <;> omega), World.cell?_setCell_other _ _ _ _ (by simp <;> omega)]
      exact (b1.cell (p := ⟨w.heap.size, j * 2 + 1, none⟩) hz).trans h2
  · rw [hr] at hr'
    injection hr' with hr'
    subst hr'
    obtain ⟨u, hu2⟩ := Option.isSome_iff_exists.1 ht
    obtain ⟨u1, hu3⟩ := Option.isSome_iff_exists.1 ht1
    refine ⟨A1, n1, q1, ?_, ?_, (s1.upd hu (.inr (by omega))).mono (by omega) (by rw [World.heap_size_setCell, World.heap_size_setCell]; exact Nat.le_refl _)⟩
    · rw [World.cell?_setCell_other _ _ _ _ (by simp)]
      exact World.cell?_setCell_same _ _ _ hu2
    · exact World.cell?_setCell_same _ _ _ ((World.cell?_setCell_other _ _ _ _ (by simp)).trans hu3)
theorem RowsSoFar.done {w wr : World} {rows : List (List Int)} {n : Nat} (h : RowsSoFar w rows n wr) (hl : rows.length = n) (hn : n ≤ 1048576) (hz : w.heap.size < wr.heap.size) : SlR wr w.heap.size wr.heap.size (some ⟨w.heap.size, 0, none⟩) n n rows :=
  ⟨hl, Nat.le_refl _, by omega, fun j r hr => by
    obtain ⟨Aj, nj, cj, h1, h2⟩ := h j r (by have := (List.getElem?_eq_some_iff.1 hr).1; omega) hr
    exact ⟨w.heap.size, 0, Aj, nj, cj, rfl, Nat.le_refl _, hz, by rw [Nat.zero_add]; exact h1, h2.mono (by omega) (Nat.le_refl _)⟩⟩
theorem WritesSoFar.done {w wr : World} {rows : List WriteD} {n : Nat} (h : WritesSoFar w rows n wr) (hl : rows.length = n) (hn : n ≤ 1048576) (hz : w.heap.size < wr.heap.size) : SlW wr w.heap.size wr.heap.size (some ⟨w.heap.size, 0, none⟩) n n rows :=
  ⟨hl, Nat.le_refl _, by omega, fun j r hr => by
    obtain ⟨Aj, nj, cj, h1, h2, h3⟩ := h j r (by have := (List.getElem?_eq_some_iff.1 hr).1; omega) hr
    exact ⟨w.heap.size, 0, Aj, nj, cj, rfl, Nat.le_refl _, hz, by rw [Nat.zero_add]; exact h1, by rw [Nat.zero_add]; exact h2, h3.mono (by omega) (Nat.le_refl _)⟩⟩
set_option maxRecDepth 100000 in
set_option maxHeartbeats 4000000 in
theorem toInt64SS_any (A : Option Addr) (n c : Nat) (rows : List (List Int)) (w : World) (h : ArgR w A n c rows) (hn : n ≤ 1048576) (hrow : ∀ r ∈ rows, (r).length ≤ 1048576) :
    Calls Try.prog 139 #[.slice A n c] w (RRes w n rows) := by
  have H := Lib.hid h
  have HR := Lib.hid hrow
  obtain ⟨arr, harr, hmk⟩ := make_any (P := Try.prog) Try.underlying57 infoI64S n (by omega) (by omega)
  have hth : There (w.alloc (.cells arr 28)) w.heap.size (n * 1) := by rw [← harr]; exact There.new _ _ _
  have HTH := Lib.hid hth
  clear h hrow harr hth
  go_enter Try.func139, Try.ntmps139
  go_wp2_with fail
  go_loopw [4] (fun i wr => ∃ m : Nat, m ≤ n ∧ i = .int .i64 (m : Nat) ∧ Below w.heap.size w wr ∧ w.heap.size < wr.heap.size ∧ Hid (There wr w.heap.size (n * 1)) ∧ Hid (RowsSoFar w rows m wr)) (fun i _ => n - (intOf i).toNat)
  case atStart => exact ⟨0, Nat.zero_le _, rfl, by (repeat' (first | with_reducible exact Below.refl _ _ | with_reducible assumption | with_reducible refine Below.drew ?_ | with_reducible refine Below.alloc ?_ ?_ _ | with_reducible refine Below.setCell ?_ ?_ _ | with_reducible refine Below.trans ?_ (Below.mono (by assumption) ?_) | ((try simp only [World.heap_size_alloc, World.heap_size_drew, World.heap_size_setCell]); omega))), by simp, HTH.out, fun j r hj => absurd hj (by omega)⟩
  case round =>
    clear hmk HTH
    obtain ⟨m, hm, rfl, hb, hz, hT, hS⟩ := hrel
    by_cases hlt : m < n
    · obtain ⟨r, hr⟩ : ∃ r, rows[m]? = some r := ⟨rows[m]'(by rw [H.out.len]; exact hlt), List.getElem?_eq_getElem _⟩
      obtain ⟨a, Aj, nj, cj, rfl, ha, hc0, hsl⟩ := H.out.lie m r hr
      have k0 := (hb.cell (p := a.add m) (by rw [add_block]; exact ha)).trans hc0
      clear hc0
      have hnj : nj ≤ 1048576 := by
        have h8 := HR.out r (List.mem_of_getElem? hr)
        have h9 := hsl.len
        omega
      have HSL := Lib.hid (hsl.below hb)
      have HR2 := Lib.hid hr
      clear hr hsl
      go_wp2_with fail
      (with_reducible refine (toInt64S_any _ _ _ r _ HSL.out hnj).mono ?_); rintro _ w1 ⟨A1, q1, rfl, s1, b1⟩
      have y1 := b1.size
      have T1 := hT.out.below b1 hz
      obtain ⟨o0, p0⟩ := Option.isSome_iff_exists.1 (T1 m (by omega)).1
      have f0 := (T1 m (by omega)).2
      have HS1 := Lib.hid s1
      have HT1 := Lib.hid T1
      have HB1 := Lib.hid b1
      have HB := Lib.hid hb
      clear s1 T1 b1 hb
      go_wp2_with fail
      go_roundw
      case rel => exact ⟨m + 1, hlt, by go_num, (HB.out.trans (HB1.out.mono (by omega))).setCell (p := ⟨w.heap.size, m, none⟩) (Nat.le_refl _) _, by rw [World.heap_size_setCell]; omega, Lib.hid (HT1.out.set _ _), Lib.hid (RowsSoFar.step hS.out HR2.out HB1.out hz HS1.out (HT1.out m (by omega)).1)⟩
      case measure => simp [intOf]; omega
    · have hmn : m = n := by omega
      subst hmn
      go_wp2_with fail
      go_ret
      exact ⟨_, _, rfl, hS.out.done H.out.len hn hz, hb⟩
set_option maxRecDepth 100000 in
set_option maxHeartbeats 1000000 in
theorem toWrite_any (q : Int) (A : Option Addr) (n c : Nat) (zs : List Int) (w : World) (h : ArgSl w 1 A n c zs) (hn : n ≤ 1048576) :
    Calls Try.prog 171 #[.agg #[.int .i64 q, .slice A n c]] w fun e w' => ∃ A1 c1, e = .returned (.agg #[.int .i64 q, .slice A1 n c1]) ∧ Sl w' w.heap.size w'.heap.size 1 A1 n c1 zs ∧ Below w.heap.size w w' := by
  have H := Lib.hid h
  clear h
  go_enter Try.func171, Try.ntmps171
  go_wp2_with fail
  (with_reducible refine (toInt64S_any _ _ _ zs _ (H.out.below (by (repeat' (first | with_reducible exact Below.refl _ _ | with_reducible assumption | with_reducible refine Below.drew ?_ | with_reducible refine Below.alloc ?_ ?_ _ | with_reducible refine Below.setCell ?_ ?_ _ | with_reducible refine Below.trans ?_ (Below.mono (by assumption) ?_) | ((try simp only [World.heap_size_alloc, World.heap_size_drew, World.heap_size_setCell]); omega))))) hn).mono ?_); rintro _ w1 ⟨A1, q1, rfl, s1, b1⟩
  obtain ⟨b1_c, b1_f⟩ := bcell b1
  have y1 := b1.size
  (try simp only [World.heap_size_alloc, World.heap_size_setCell] at y1)
  have z0 : w.heap.size < w1.heap.size := by omega
  have z1 : w.heap.size + 1 < w1.heap.size := by omega
  have z2 : w.heap.size + 1 + 1 < w1.heap.size := by omega
  go_wp2_with fail
  refine bodyPost_ret (v := .agg #[.int .i64 q, .slice A1 n q1]) (by simp [results, Try.results171, go_sem, b1_c, b1_f, z0, z1, z2]) rfl ⟨A1, q1, rfl, ?_, ?_⟩
  · clear b1_c b1_f
    have s2 := s1.mono (lo' := w.heap.size + 3) (by (try simp only [World.heap_size_alloc, World.heap_size_drew, World.heap_size_setCell]); omega) (Nat.le_refl _)
    refine Sl.mono (Sl.upd (lo' := w.heap.size) (hi' := w.heap.size + 3) s2 ?_ (.inr (Nat.le_refl _))) (by omega) (by (try simp only [World.heap_size_alloc, World.heap_size_drew, World.heap_size_setCell]); omega)
    (repeat' (first | with_reducible exact Upd.refl _ _ _ | with_reducible refine Upd.setCell ?_ ?_ ?_ _ | (simp only []; omega) | omega))
  · clear b1_c b1_f
    (repeat' (first | with_reducible exact Below.refl _ _ | with_reducible assumption | with_reducible refine Below.drew ?_ | with_reducible refine Below.alloc ?_ ?_ _ | with_reducible refine Below.setCell ?_ ?_ _ | with_reducible refine Below.trans ?_ (Below.mono (by assumption) ?_) | ((try simp only [World.heap_size_alloc, World.heap_size_drew, World.heap_size_setCell]); omega)))
set_option maxRecDepth 100000 in
set_option maxHeartbeats 4000000 in
theorem toWriteS_any (A : Option Addr) (n c : Nat) (rows : List WriteD) (w : World) (h : ArgW w A n c rows) (hn : n ≤ 1048576) (hrow : ∀ r ∈ rows, (r.row).length ≤ 1048576) :
    Calls Try.prog 140 #[.slice A n c] w (WRes w n rows) := by
  have H := Lib.hid h
  have HR := Lib.hid hrow
  obtain ⟨arr, harr, hmk⟩ := make_any (P := Try.prog) Try.underlying65 infoWrite n (by omega) (by omega)
  have hth : There (w.alloc (.cells arr 135)) w.heap.size (n * 2) := by rw [← harr]; exact There.new _ _ _
  have HTH := Lib.hid hth
  clear h hrow harr hth
  go_enter Try.func140, Try.ntmps140
  go_wp2_with fail
  go_loopw [4] (fun i wr => ∃ m : Nat, m ≤ n ∧ i = .int .i64 (m : Nat) ∧ Below w.heap.size w wr ∧ w.heap.size < wr.heap.size ∧ Hid (There wr w.heap.size (n * 2)) ∧ Hid (WritesSoFar w rows m wr)) (fun i _ => n - (intOf i).toNat)
  case atStart => exact ⟨0, Nat.zero_le _, rfl, by (repeat' (first | with_reducible exact Below.refl _ _ | with_reducible assumption | with_reducible refine Below.drew ?_ | with_reducible refine Below.alloc ?_ ?_ _ | with_reducible refine Below.setCell ?_ ?_ _ | with_reducible refine Below.trans ?_ (Below.mono (by assumption) ?_) | ((try simp only [World.heap_size_alloc, World.heap_size_drew, World.heap_size_setCell]); omega))), by simp, HTH.out, fun j r hj => absurd hj (by omega)⟩
  case round =>
    clear hmk HTH
    obtain ⟨m, hm, rfl, hb, hz, hT, hS⟩ := hrel
    by_cases hlt : m < n
    · obtain ⟨r, hr⟩ : ∃ r, rows[m]? = some r := ⟨rows[m]'(by rw [H.out.len]; exact hlt), List.getElem?_eq_getElem _⟩
      obtain ⟨a, Aj, nj, cj, rfl, ha, hc0, hc1, hsl⟩ := H.out.lie m r hr
      have k0 := (hb.cell (p := a.add (m * 2)) (by rw [add_block]; exact ha)).trans hc0
      have k1 := (hb.cell (p := ⟨(a.add (m * 2)).block, (a.add (m * 2)).off + 1, none⟩) (by simp only; rw [add_block]; exact ha)).trans hc1
      clear hc0 hc1
      have hnj : nj ≤ 1048576 := by
        have h8 := HR.out r (List.mem_of_getElem? hr)
        have h9 := hsl.len
        omega
      have HSL := Lib.hid (hsl.below hb)
      have HR2 := Lib.hid hr
      clear hr hsl
      go_wp2_with fail
      (with_reducible refine (toWrite_any _ _ _ _ r.row _ HSL.out hnj).mono ?_); rintro _ w1 ⟨A1, q1, rfl, s1, b1⟩
      have y1 := b1.size
      have T1 := hT.out.below b1 hz
      obtain ⟨o0, p0⟩ := Option.isSome_iff_exists.1 (T1 (m * 2) (by omega)).1
      have f0 := (T1 (m * 2) (by omega)).2
      obtain ⟨o1, p1⟩ := Option.isSome_iff_exists.1 (T1 (m * 2 + 1) (by omega)).1
      have f1 := (T1 (m * 2 + 1) (by omega)).2
      have HS1 := Lib.hid s1
      have HT1 := Lib.hid T1
      have HB1 := Lib.hid b1
      have HB := Lib.hid hb
      clear s1 T1 b1 hb
      go_wp2_with fail
      go_roundw
      case rel => exact ⟨m + 1, hlt, by go_num, ((HB.out.trans (HB1.out.mono (by omega))).setCell (p := ⟨w.heap.size, m * 2, none⟩) (Nat.le_refl _) _).setCell (p := ⟨w.heap.size, m * 2 + 1, none⟩) (Nat.le_refl _) _, by rw [World.heap_size_setCell, World.heap_size_setCell]; omega, Lib.hid ((HT1.out.set _ _).set _ _), Lib.hid (WritesSoFar.step hS.out HR2.out HB1.out hz HS1.out (HT1.out (m * 2) (by omega)).1 (HT1.out (m * 2 + 1) (by omega)).1)⟩
      case measure => simp [intOf]; omega
    · have hmn : m = n := by omega
      subst hmn
      go_wp2_with fail
      go_ret
      exact ⟨_, _, rfl, hS.out.done H.out.len hn hz, hb⟩

end Go.Proofs.Ytgnilmdaegnaaaa
