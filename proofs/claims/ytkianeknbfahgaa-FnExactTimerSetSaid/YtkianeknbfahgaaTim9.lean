/- A timer set: what the reference's function returns. No conditions. -/
import Derived.Test.YtkianeknbfahgaaTim7
set_option linter.unusedSimpArgs false
set_option linter.unusedVariables false
namespace Go.Proofs.Ytkianeknbfahgaa
open Go.RowKit

theorem insT_at {l : List TimerD} {x : TimerD} {m : Nat} (hm : m ≤ l.length) (h1 : ∀ j y, j < m → l[j]? = some y → timerLess y x = true) (h2 : ∀ y, l[m]? = some y → timerLess y x = false) : insT l x = l.take m ++ x :: l.drop m := by
  have ha : l.takeWhile (fun t => timerLess t x) = l.take m ∧ l.dropWhile (fun t => timerLess t x) = l.drop m := by
    induction m generalizing l with
    | zero =>
      cases l with
      | nil => simp
      | cons y ys =>
        have := h2 y (by simp)
        simp [List.takeWhile_cons, List.dropWhile_cons, this]
    | succ n ih =>
      cases l with
      | nil => simp at hm
      | cons y ys =>
        have hy := h1 0 y (by omega) (by simp)
        have := ih (l := ys) (by simpa using hm) (fun j z hj hz => h1 (j + 1) z (by omega) (by simpa using hz)) (fun z hz => h2 z (by simpa using hz))
        simp [List.takeWhile_cons, List.dropWhile_cons, hy, this]
  unfold insT
  rw [ha.1, ha.2]
theorem run_frontT (A : Option Addr) (n c j : Nat) (hj : j ≤ c) (W : World) : (Instr.sliceAt 40 (.slice A n c) none (some (.int .i64 (j : Int))) none).run Try.prog W = .ok (.slice A j c) W := by
  have h2 : (j : Int) ≤ (c : Int) := by omega
  obtain ⟨i, h1, _, _, _⟩ := info_parts infoTimer
  by_cases hc : c = 0
  · subst hc
    obtain rfl : j = 0 := by omega
    simp [Instr.sliceAt, Instr.slice, run_underlying Try.underlying40, Instr.sliceBounds, run_sliceBound, sizeOf, typeInfo, h1]
  · simp [Instr.sliceAt, Instr.slice, run_underlying Try.underlying40, Instr.sliceBounds, run_sliceBound, sizeOf, typeInfo, h1, h2, hc, hj]
    cases A <;> simp [Addr.add]
theorem run_tailT (A : Option Addr) (n c j : Nat) (hj : j ≤ n) (W : World) : (Instr.sliceAt 40 (.slice A n c) (some (.int .i64 (j : Int))) none none).run Try.prog W = .ok (.slice (if c = j then A else A.map (·.add (j * 2))) (n - j) (c - j)) W := by
  have h2 : (j : Int) ≤ (n : Int) := by omega
  obtain ⟨i, h1, _, h3, _⟩ := info_parts infoTimer
  simp [Instr.sliceAt, Instr.slice, run_underlying Try.underlying40, Instr.sliceBounds, run_sliceBound, sizeOf, typeInfo, h1, h2, h3, hj]
theorem Sl.cutTailT {w : World} {lo hi : Nat} {A : Option Addr} {n c j : Nat} {l : List TimerD} (h : Sl w lo hi 2 A n c (l.flatMap TimerD.ints)) (hj : j ≤ n) : Sl w lo hi 2 (if c = j then A else A.map (·.add (j * 2))) (n - j) (c - j) ((l.drop j).flatMap TimerD.ints) := by
  have hl := h.len
  have hc := h.cap
  have hb := h.big
  refine ⟨?_, by omega, by omega, fun hj0 => ?_⟩
  · rw [flat_drop TimerD.ints_len, List.length_drop, hl, Nat.sub_mul]
  · obtain ⟨g, off, e, h1, h2, h3⟩ := h.lie (by omega)
    have hcj : ¬ c = j := by omega
    refine ⟨g, off + j * 2, ?_, h1, h2, ?_⟩
    · rw [if_neg hcj, e]; simp [Addr.add]
    · rw [flat_drop TimerD.ints_len]
      intro i z hz
      rw [List.getElem?_drop] at hz
      have := h3 (j * 2 + i) z hz
      rw [← Nat.add_assoc] at this
      exact this
/-- What lies behind place j. -/
theorem tailT_at (A : Option Addr) (n c j : Nat) (hj : j ≤ n) : ∃ B, (∀ W, (Instr.sliceAt 40 (.slice A n c) (some (.int .i64 (j : Int))) none none).run Try.prog W = .ok (.slice B (n - j) (c - j)) W) ∧
    ∀ (W : World) (lo hi : Nat) (l : List TimerD), Sl W lo hi 2 A n c (l.flatMap TimerD.ints) → Sl W lo hi 2 B (n - j) (c - j) ((l.drop j).flatMap TimerD.ints) :=
  ⟨_, fun W => run_tailT A n c j hj W, fun _ _ _ _ h => h.cutTailT hj⟩

theorem gcellT {w w' : World} {o : Option Nat} (hg : w.grownBy w' o) {b : Nat} (hb : b < w.heap.size) (hne : ∀ g, o = some g → g ≠ b) : (∀ q, w'.cell? ⟨b, q, none⟩ = w.cell? ⟨b, q, none⟩) ∧ (∀ q, w'.frozen? ⟨b, q, none⟩ = w.frozen? ⟨b, q, none⟩) := by
  have h := hg.block b hb (fun e => hne b e.symm rfl)
  exact ⟨fun q => World.cell?_of_block (w := w) (a := ⟨b, q, none⟩) h, fun q => World.frozen?_of_block (w := w) (a := ⟨b, q, none⟩) h⟩
theorem srcT (W : World) (q d : Int) : Sl (W.alloc (.cells #[.int .i64 q, .int .i64 d] 60)) W.heap.size (W.heap.size + 1) 2 (some ⟨W.heap.size, 0, none⟩) 1 1 [q, d] :=
  ⟨rfl, by omega, by omega, fun _ => ⟨_, 0, rfl, Nat.le_refl _, by omega, ints_new W 60 [q, d]⟩⟩
set_option maxRecDepth 100000 in
set_option maxHeartbeats 4000000 in
theorem sTimerSet_any (A : Option Addr) (n c lo hi : Nat) (l : List TimerD) (q d : Int) (w : World) (h : Sl w lo hi 2 A n c (l.flatMap TimerD.ints)) :
    Calls Try.prog 35 #[.slice A n c, .int .i64 q, .int .i64 d] w (SlBRes w 2 (timerSet l q d).1.length ((timerSet l q d).1.flatMap TimerD.ints, (timerSet l q d).2)) := by
  have hn : n ≤ 9223372036854775807 := Nat.le_trans h.cap h.big
  have HL := Lib.hid (h.count TimerD.ints_len (by omega) : l.length = n)
  replace h := h.fit (by omega)
  have hhi : min hi w.heap.size ≤ w.heap.size := Nat.min_le_right _ _
  generalize min hi w.heap.size = hi at h hhi
  cases hok : timersOk l with
  | false =>
    have e : timerSet l q d = ([], false) := by simp [timerSet, hok]
    rw [e]
    clear e
    have CO : ∀ W, Sl W lo hi 2 A n c (l.flatMap TimerD.ints) → Calls Try.prog 31 #[.slice A n c] W fun x w' => x = .returned (.bool false) ∧ Below W.heap.size W w' := fun W s => by
      have h7 := sTimersOk_any A n c lo hi l W s
      rw [hok] at h7
      exact h7
    have HO := Lib.hid CO
    clear CO
    go_enter Try.func35, Try.ntmps35
    go_wp2_with fail
    (with_reducible refine (HO.out _ (h.below (B := w.heap.size) (by (repeat' (first | with_reducible exact Below.refl _ _ | with_reducible assumption | with_reducible refine Below.drew ?_ | with_reducible refine Below.alloc ?_ ?_ _ | with_reducible refine Below.setCell ?_ ?_ _ | with_reducible refine Below.trans ?_ (Below.mono (by assumption) ?_) | ((try simp only [World.heap_size_alloc, World.heap_size_drew, World.heap_size_setCell]); omega)))) hhi)).mono ?_); rintro _ w1 ⟨rfl, b1⟩
    have y1 := b1.size
    (try simp only [World.heap_size_alloc, World.heap_size_drew] at y1)
    have hw1 : Below w.heap.size w w1 := by (repeat' (first | with_reducible exact Below.refl _ _ | with_reducible assumption | with_reducible refine Below.drew ?_ | with_reducible refine Below.alloc ?_ ?_ _ | with_reducible refine Below.setCell ?_ ?_ _ | with_reducible refine Below.trans ?_ (Below.mono (by assumption) ?_) | ((try simp only [World.heap_size_alloc, World.heap_size_drew, World.heap_size_setCell]); omega)))
    go_wp2_with fail
    go_ret2
    exact SlBRes.none (by (repeat' (first | with_reducible exact Below.refl _ _ | with_reducible assumption | with_reducible refine Below.drew ?_ | with_reducible refine Below.alloc ?_ ?_ _ | with_reducible refine Below.setCell ?_ ?_ _ | with_reducible refine Below.trans ?_ (Below.mono (by assumption) ?_) | ((try simp only [World.heap_size_alloc, World.heap_size_drew, World.heap_size_setCell]); omega)))) _ _ _ (by omega)
  | true =>
    have hshort : n ≤ 16 := by rw [← HL.out]; exact timersOk_len hok
    obtain ⟨rl, hrl⟩ : ∃ rl, rl = without l q := ⟨_, rfl⟩
    obtain ⟨rn, hrn⟩ : ∃ rn, rn = rl.length := ⟨_, rfl⟩
    have hrn16 : rn ≤ 16 := by
      rw [hrn, hrl]
      exact Nat.le_trans (List.length_filter_le _ _) (timersOk_len hok)
    obtain ⟨ol, hol⟩ : ∃ ol, ol = insT rl (⟨q, d⟩ : TimerD) := ⟨_, rfl⟩
    have e : timerSet l q d = if timersOk ol then (ol, true) else (l, false) := by rw [hol, hrl]; simp [timerSet, hok]
    have hsl : ol.length = rn + 1 := by rw [hol, hrn]; exact insT_len _ _
    rw [e]
    clear e
    obtain ⟨bo, hbo⟩ : ∃ bo, timersOk ol = bo := ⟨_, rfl⟩
    rw [hbo]
    have HFIN : Hid (∀ A n c lo hi W, Sl W lo hi 2 A n c (ol.flatMap TimerD.ints) → Calls Try.prog 31 #[.slice A n c] W fun x w' => x = .returned (.bool bo) ∧ Below W.heap.size W w') := fun A n c lo hi W s => by
      have h7 := sTimersOk_any A n c lo hi ol W s
      rw [hbo] at h7
      exact h7
    clear hbo
    obtain ⟨r, hr⟩ : ∃ r : List TimerD × Bool, r = (if bo = true then (ol, true) else (l, false)) := ⟨_, rfl⟩
    rw [← hr]
    have HR := Lib.hid hr
    clear hr
    have HWO : Hid (∀ A n c lo hi W, Sl W lo hi 2 A n c (l.flatMap TimerD.ints) → Calls Try.prog 66 #[.slice A n c, .int .i64 q] W (SlRes W 2 rn (rl.flatMap TimerD.ints))) := fun A n c lo hi W s => by
      have hl2 : l.length = n := by have := s.count TimerD.ints_len (by omega); exact this
      have h7 := l6Without_any A n c lo hi l q W s (by have := timersOk_len hok; omega)
      rw [← hrl, ← hrn] at h7
      exact h7
    have HOL := Lib.hid hol
    have HSL := Lib.hid hsl
    have HRN := Lib.hid hrn
    clear hol hsl hrn hrl
    have CO : ∀ W, Sl W lo hi 2 A n c (l.flatMap TimerD.ints) → Calls Try.prog 31 #[.slice A n c] W fun x w' => x = .returned (.bool true) ∧ Below W.heap.size W w' := fun W s => by
      have h7 := sTimersOk_any A n c lo hi l W s
      rw [hok] at h7
      exact h7
    have HO := Lib.hid CO
    clear CO
    go_enter Try.func35, Try.ntmps35
    go_wp2_with fail
    (with_reducible refine (HO.out _ (h.below (B := w.heap.size) (by (repeat' (first | with_reducible exact Below.refl _ _ | with_reducible assumption | with_reducible refine Below.drew ?_ | with_reducible refine Below.alloc ?_ ?_ _ | with_reducible refine Below.setCell ?_ ?_ _ | with_reducible refine Below.trans ?_ (Below.mono (by assumption) ?_) | ((try simp only [World.heap_size_alloc, World.heap_size_drew, World.heap_size_setCell]); omega)))) hhi)).mono ?_); rintro _ w1 ⟨rfl, b1⟩
    have y1 := b1.size
    (try simp only [World.heap_size_alloc, World.heap_size_drew] at y1)
    have hw1 : Below w.heap.size w w1 := by (repeat' (first | with_reducible exact Below.refl _ _ | with_reducible assumption | with_reducible refine Below.drew ?_ | with_reducible refine Below.alloc ?_ ?_ _ | with_reducible refine Below.setCell ?_ ?_ _ | with_reducible refine Below.trans ?_ (Below.mono (by assumption) ?_) | ((try simp only [World.heap_size_alloc, World.heap_size_drew, World.heap_size_setCell]); omega)))
    have h2 : Sl (w1.alloc (.cells #[.int .i64 q, .int .i64 d] 60)) lo hi 2 A n c (l.flatMap TimerD.ints) := h.below (B := w.heap.size) (by (repeat' (first | with_reducible exact Below.refl _ _ | with_reducible assumption | with_reducible refine Below.drew ?_ | with_reducible refine Below.alloc ?_ ?_ _ | with_reducible refine Below.setCell ?_ ?_ _ | with_reducible refine Below.trans ?_ (Below.mono (by assumption) ?_) | ((try simp only [World.heap_size_alloc, World.heap_size_drew, World.heap_size_setCell]); omega)))) hhi
    have H2 := Lib.hid h2
    clear h2
    go_wp2_with fail
    (with_reducible refine (HWO.out _ _ _ _ _ _ H2.out).mono ?_); rintro _ w3 ⟨A3, c3, rfl, s3, b3⟩
    have y3 := b3.size
    simp only [World.heap_size_alloc] at y3
    have x0 : w3.cell? ⟨w1.heap.size, 0, none⟩ = some (.int .i64 q) := (b3.cell (p := ⟨w1.heap.size, 0, none⟩) (by (try simp only [World.heap_size_alloc, World.heap_size_drew, World.heap_size_setCell]); omega)).trans (by simp)
    have x1 : w3.cell? ⟨w1.heap.size, 1, none⟩ = some (.int .i64 d) := (b3.cell (p := ⟨w1.heap.size, 1, none⟩) (by (try simp only [World.heap_size_alloc, World.heap_size_drew, World.heap_size_setCell]); omega)).trans (by simp)
    have hw3 : Below w.heap.size w w3 := by (repeat' (first | with_reducible exact Below.refl _ _ | with_reducible assumption | with_reducible refine Below.drew ?_ | with_reducible refine Below.alloc ?_ ?_ _ | with_reducible refine Below.setCell ?_ ?_ _ | with_reducible refine Below.trans ?_ (Below.mono (by assumption) ?_) | ((try simp only [World.heap_size_alloc, World.heap_size_drew, World.heap_size_setCell]); omega)))
    have S3 := Lib.hid s3
    have HW3 := Lib.hid hw3
    clear s3 b3 hw3
    go_wp2_with fail
    go_loopw [10] (fun i wr => ∃ m : Nat, m ≤ rn ∧ i = .int .i64 m ∧ Below w3.heap.size w3 wr ∧ Hid (∀ j y, j < m → rl[j]? = some y → timerLess y ⟨q, d⟩ = true)) (fun i _ => rn - (intOf i).toNat)
    case atStart => exact ⟨0, Nat.zero_le _, rfl, Below.refl _ _, fun j y hj => absurd hj (by omega)⟩
    case round =>
      obtain ⟨m, hm, rfl, hb, hp⟩ := hrel
      have r8 := (hb.cell (p := ⟨w1.heap.size, 0, none⟩) (show w1.heap.size < w3.heap.size by omega)).trans x0
      have r9 := (hb.cell (p := ⟨w1.heap.size, 1, none⟩) (show w1.heap.size < w3.heap.size by omega)).trans x1
      have fr8 := fun d os => cell_regrown r8 d os
      have fr9 := fun d os => cell_regrown r9 d os
      by_cases hlt : m < rn
      · obtain ⟨g, off, e, hA3, _, hg, he, p0, p1⟩ := S3.out.timer hlt
        have hls0 : True := trivial
        cases hls : timerLess e ⟨q, d⟩ with
        | true =>
          subst hA3
          have r0 := (hb.cell (p := ⟨g, off + m * 2, none⟩) hg).trans p0
          have r1 := (hb.cell (p := ⟨g, off + m * 2 + 1, none⟩) hg).trans p1
          have fr0 := fun d os => cell_regrown r0 d os
          have fr1 := fun d os => cell_regrown r1 d os
          have HE := Lib.hid he
          have HLS := Lib.hid hls
          have CE : ∀ W, Calls Try.prog 58 #[.agg #[.int .i64 e.id, .int .i64 e.due], .agg #[.int .i64 q, .int .i64 d]] W fun x w' => x = .returned (.bool true) ∧ Below W.heap.size W w' := fun W => by
            have h7 := l6Less_any e.id e.due q d W
            rw [show timerLess ⟨e.id, e.due⟩ ⟨q, d⟩ = true from hls] at h7
            exact h7
          have HCE := Lib.hid CE
          clear CE
          clear he p0 p1 hls
          go_wp2_with fail
          refine wp_region_quiet_below (by kernel_rfl) (by kernel_rfl) ?_; (repeat (first | go_big_quiet_step ((go_at_call 58; with_reducible exact Calls.regrown_of (HCE.out _))) | quiet_step ((go_at_call 58; with_reducible exact Calls.regrown_of (HCE.out _))))); refine wpQuiet_nil ?_; intro _ hw'; obtain ⟨⟨nq, osq⟩, hw''⟩ := hw'; subst hw''; have hq := below_regrown wr nq osq; generalize Sort.grow (redrawn wr nq) osq = w4 at *
          have y4 := hq.size
          go_wp2_with fail
          go_roundw
          case rel => exact ⟨m + 1, hlt, by go_num, hb.trans (hq.mono hb.size), fun j y hj hy => by
            rcases Nat.lt_succ_iff_lt_or_eq.1 hj with h5 | rfl
            · exact hp.out j y h5 hy
            · rw [HE.out] at hy; injection hy with hy; subst hy; exact HLS.out⟩
          case measure => simp [intOf]; omega
        | false =>
          have hins : insT rl (⟨q, d⟩ : TimerD) = rl.take m ++ (⟨q, d⟩ : TimerD) :: rl.drop m := insT_at (by rw [← HRN.out]; omega) hp.out (fun y hy => by rw [he] at hy; injection hy with hy; subst hy; exact hls)
          have r0 := (hb.cell (p := ⟨g, off + m * 2, none⟩) hg).trans p0
          have r1 := (hb.cell (p := ⟨g, off + m * 2 + 1, none⟩) hg).trans p1
          have fr0 := fun d os => cell_regrown r0 d os
          have fr1 := fun d os => cell_regrown r1 d os
          have CE : ∀ W, Calls Try.prog 58 #[.agg #[.int .i64 e.id, .int .i64 e.due], .agg #[.int .i64 q, .int .i64 d]] W fun x w' => x = .returned (.bool false) ∧ Below W.heap.size W w' := fun W => by
            have h7 := l6Less_any e.id e.due q d W
            rw [show timerLess ⟨e.id, e.due⟩ ⟨q, d⟩ = false from hls] at h7
            exact h7
          have HCE := Lib.hid CE
          clear CE
          clear he p0 p1 hls
          subst hA3
          go_wp2_with fail
          refine wp_region_quiet_below (by kernel_rfl) (by kernel_rfl) ?_; (repeat (first | go_big_quiet_step ((go_at_call 58; with_reducible exact Calls.regrown_of (HCE.out _))) | quiet_step ((go_at_call 58; with_reducible exact Calls.regrown_of (HCE.out _))))); refine wpQuiet_nil ?_; intro _ hw'; obtain ⟨⟨nq, osq⟩, hw''⟩ := hw'; subst hw''; have hq := below_regrown wr nq osq; generalize Sort.grow (redrawn wr nq) osq = w4 at *
          have y4 := hq.size
          have y3w := hb.size
          have hb4 : Below w3.heap.size w3 w4 := hb.trans (hq.mono hb.size)
          have HINS : Hid (ol = rl.take m ++ (⟨q, d⟩ : TimerD) :: rl.drop m) := Lib.hid (HOL.out.trans hins)
          have k0 := (hb4.cell (p := ⟨w1.heap.size, 0, none⟩) (show w1.heap.size < w3.heap.size by omega)).trans x0
          have k1 := (hb4.cell (p := ⟨w1.heap.size, 1, none⟩) (show w1.heap.size < w3.heap.size by omega)).trans x1
          have hw4 : Below w.heap.size w w4 := HW3.out.trans (hb4.mono (by omega))
          have S4 := Lib.hid (S3.out.below hb4 (Nat.le_refl _))
          clear hq hins
          have hfr : ∀ W, (Instr.sliceAt 40 (.slice (some ⟨g, off, none⟩) rn c3) none (some (.int .i64 (m : Int))) none).run Try.prog W = .ok (.slice (some ⟨g, off, none⟩) m c3) W := fun W => run_frontT _ rn c3 m (by have := S3.out.cap; omega) W
          go_wp2_with fail
          have SK : ∀ W, Below w4.heap.size w4 W → (W.cell? ⟨w1.heap.size, 0, none⟩ = some (.int .i64 q) ∧ W.cell? ⟨w1.heap.size, 1, none⟩ = some (.int .i64 d) ∧ Below w4.heap.size w4 W) := fun W hb => ⟨(hb.cell (p := ⟨w1.heap.size, 0, none⟩) (show w1.heap.size < w4.heap.size by omega)).trans k0, (hb.cell (p := ⟨w1.heap.size, 1, none⟩) (show w1.heap.size < w4.heap.size by omega)).trans k1, hb⟩
          have HSK := Lib.hid SK
          clear SK
          have SP := Lib.hid (S4.out.early TimerD.ints_len (m := m) (by omega))
          have hbase : w.heap.size ≤ w4.heap.size := hw4.size
          have OA : Hid (Own (w4.alloc (.cells #[] 60)).drew w4.heap.size 60 2 (.slice (some ⟨w4.heap.size, 0, none⟩) 0 0) 0 []) := Lib.hid ((Own.new w4 60 2 [] (n := 0) rfl (Nat.le_refl _) (by omega)).kept (Below.drew (Below.refl _ _)))
          have OB : Hid (Own ((w4.alloc (.cells #[] 60)).alloc (.cells #[.int .i64 q, .int .i64 d] 60)).drew w4.heap.size 60 2 (.slice (some ⟨w4.heap.size, 0, none⟩) 0 0) 0 []) := Lib.hid ((Own.new w4 60 2 [] (n := 0) rfl (Nat.le_refl _) (by omega)).kept (Below.drew ((Below.refl _ _).alloc (Nat.le_refl _) _)))
          have OC : Hid (Own ((w4.alloc (.cells #[.int .i64 q, .int .i64 d] 60)).alloc (.cells #[] 60)).drew w4.heap.size 60 2 (.slice (some ⟨w4.heap.size + 1, 0, none⟩) 0 0) 0 []) := Lib.hid (by
            have h9 := (Own.new (w4.alloc (.cells #[.int .i64 q, .int .i64 d] 60)) (base := w4.heap.size) 60 2 [] (n := 0) rfl (by (try simp only [World.heap_size_alloc, World.heap_size_drew, World.heap_size_setCell]); omega) (by omega)).kept (Below.drew (Below.refl _ _))
            rw [World.heap_size_alloc] at h9
            exact h9)
          have XB : Hid (Ints ((w4.alloc (.cells #[] 60)).alloc (.cells #[.int .i64 q, .int .i64 d] 60)).drew (w4.heap.size + 1) 0 [q, d]) := Lib.hid (by
            have h9 := ints_new (w4.alloc (.cells #[] 60)) 60 [q, d]
            rw [World.heap_size_alloc] at h9
            exact h9)
          have XC : Hid (Ints ((w4.alloc (.cells #[.int .i64 q, .int .i64 d] 60)).alloc (.cells #[] 60)).drew w4.heap.size 0 [q, d]) := Lib.hid (Ints.below (B := w4.heap.size + 1) (ints_new w4 60 [q, d]) (Below.drew (Below.alloc (Below.refl _ _) (by (try simp only [World.heap_size_alloc, World.heap_size_drew, World.heap_size_setCell]); omega) _)) (by omega))
          go_region_held3 (fun w' => w'.cell? ⟨w1.heap.size, 0, none⟩ = some (.int .i64 q) ∧ w'.cell? ⟨w1.heap.size, 1, none⟩ = some (.int .i64 d) ∧ Below w4.heap.size w4 w')
            (first | (refine HSK.out _ ?_; (repeat' (first | with_reducible exact Below.refl _ _ | with_reducible assumption | with_reducible refine Below.drew ?_ | with_reducible refine Below.alloc ?_ ?_ _ | with_reducible refine Below.setCell ?_ ?_ _ | with_reducible refine Below.trans ?_ (Below.mono (by assumption) ?_) | ((try simp only [World.heap_size_alloc, World.heap_size_drew, World.heap_size_setCell]); omega)))) | (go_split_ands; refine HSK.out _ ?_; (repeat' (first | with_reducible exact Below.refl _ _ | with_reducible assumption | with_reducible refine Below.drew ?_ | with_reducible refine Below.alloc ?_ ?_ _ | with_reducible refine Below.setCell ?_ ?_ _ | with_reducible refine Below.trans ?_ (Below.mono (by assumption) ?_) | ((try simp only [World.heap_size_alloc, World.heap_size_drew, World.heap_size_setCell]); omega)))))
            (first | (go_loud (refine step_append_sl _ (by rfl) (.tmp 36) (.tmp 39) 40 (by rfl) w4.heap.size 60 Try.underlying40 infoTimer (by rfl) (by omega) _ 0 [] (by rfl) OA.out (some ⟨g, off, none⟩) m c3 _ _ ((rl.take m).flatMap TimerD.ints) (by rfl) (SP.out.below (B := w4.heap.size) (by (repeat' (first | with_reducible exact Below.refl _ _ | with_reducible assumption | with_reducible refine Below.drew ?_ | with_reducible refine Below.alloc ?_ ?_ _ | with_reducible refine Below.setCell ?_ ?_ _ | with_reducible refine Below.trans ?_ (Below.mono (by assumption) ?_) | ((try simp only [World.heap_size_alloc, World.heap_size_drew, World.heap_size_setCell]); omega)))) (by omega)) (by omega) (by omega) (by (try simp only [World.heap_size_alloc, World.heap_size_drew, World.heap_size_setCell]); omega) ?_); intro v5 w5 o5 g5 a5; have y5 := g5.size; (try simp only [World.heap_size_alloc, World.heap_size_drew] at y5); have c5 : Below w4.heap.size w4 w5 := Below.trans (by (repeat' (first | with_reducible exact Below.refl _ _ | with_reducible assumption | with_reducible refine Below.drew ?_ | with_reducible refine Below.alloc ?_ ?_ _ | with_reducible refine Below.setCell ?_ ?_ _ | with_reducible refine Below.trans ?_ (Below.mono (by assumption) ?_) | ((try simp only [World.heap_size_alloc, World.heap_size_drew, World.heap_size_setCell]); omega)))) (grown_below (base := w4.heap.size) g5 (by (try simp only [World.heap_size_alloc, World.heap_size_drew, World.heap_size_setCell]); omega) (fun g hg => by simp [Value.ownBlock] at hg; omega)); obtain ⟨A5, cc5, rfl, s5⟩ := o5.sl; rw [Nat.zero_add, List.nil_append] at o5; simp only [Nat.zero_add]; have O5 := Lib.hid o5; clear o5 g5 a5 s5) | (go_loud (refine step_append_sl _ (by rfl) (.tmp 36) (.tmp 39) 40 (by rfl) w4.heap.size 60 Try.underlying40 infoTimer (by rfl) (by omega) _ 0 [] (by rfl) OB.out (some ⟨g, off, none⟩) m c3 _ _ ((rl.take m).flatMap TimerD.ints) (by rfl) (SP.out.below (B := w4.heap.size) (by (repeat' (first | with_reducible exact Below.refl _ _ | with_reducible assumption | with_reducible refine Below.drew ?_ | with_reducible refine Below.alloc ?_ ?_ _ | with_reducible refine Below.setCell ?_ ?_ _ | with_reducible refine Below.trans ?_ (Below.mono (by assumption) ?_) | ((try simp only [World.heap_size_alloc, World.heap_size_drew, World.heap_size_setCell]); omega)))) (by omega)) (by omega) (by omega) (by (try simp only [World.heap_size_alloc, World.heap_size_drew, World.heap_size_setCell]); omega) ?_); intro v5 w5 o5 g5 a5; have y5 := g5.size; (try simp only [World.heap_size_alloc, World.heap_size_drew] at y5); have c5 : Below w4.heap.size w4 w5 := Below.trans (by (repeat' (first | with_reducible exact Below.refl _ _ | with_reducible assumption | with_reducible refine Below.drew ?_ | with_reducible refine Below.alloc ?_ ?_ _ | with_reducible refine Below.setCell ?_ ?_ _ | with_reducible refine Below.trans ?_ (Below.mono (by assumption) ?_) | ((try simp only [World.heap_size_alloc, World.heap_size_drew, World.heap_size_setCell]); omega)))) (grown_below (base := w4.heap.size) g5 (by (try simp only [World.heap_size_alloc, World.heap_size_drew, World.heap_size_setCell]); omega) (fun g hg => by simp [Value.ownBlock] at hg; omega)); obtain ⟨kxc, kxf⟩ := gcellT g5 (b := (w4.heap.size + 1)) (by (try simp only [World.heap_size_alloc, World.heap_size_drew, World.heap_size_setCell]); omega) (fun g hg => by simp [Value.ownBlock] at hg; omega); have IX : Hid (Sl w5 w4.heap.size w5.heap.size 2 (some ⟨(w4.heap.size + 1), 0, none⟩) 1 1 [q, d]) := Lib.hid ⟨rfl, by omega, by omega, fun _ => ⟨(w4.heap.size + 1), 0, rfl, by omega, by omega, fun j z hz => by rw [kxc, kxf]; exact XB.out j z hz⟩⟩; clear kxc kxf; obtain ⟨A5, cc5, rfl, s5⟩ := o5.sl; rw [Nat.zero_add, List.nil_append] at o5; simp only [Nat.zero_add]; have O5 := Lib.hid o5; clear o5 g5 a5 s5) | (go_loud (refine step_append_sl _ (by rfl) (.tmp 36) (.tmp 39) 40 (by rfl) w4.heap.size 60 Try.underlying40 infoTimer (by rfl) (by omega) _ 0 [] (by rfl) OC.out (some ⟨g, off, none⟩) m c3 _ _ ((rl.take m).flatMap TimerD.ints) (by rfl) (SP.out.below (B := w4.heap.size) (by (repeat' (first | with_reducible exact Below.refl _ _ | with_reducible assumption | with_reducible refine Below.drew ?_ | with_reducible refine Below.alloc ?_ ?_ _ | with_reducible refine Below.setCell ?_ ?_ _ | with_reducible refine Below.trans ?_ (Below.mono (by assumption) ?_) | ((try simp only [World.heap_size_alloc, World.heap_size_drew, World.heap_size_setCell]); omega)))) (by omega)) (by omega) (by omega) (by (try simp only [World.heap_size_alloc, World.heap_size_drew, World.heap_size_setCell]); omega) ?_); intro v5 w5 o5 g5 a5; have y5 := g5.size; (try simp only [World.heap_size_alloc, World.heap_size_drew] at y5); have c5 : Below w4.heap.size w4 w5 := Below.trans (by (repeat' (first | with_reducible exact Below.refl _ _ | with_reducible assumption | with_reducible refine Below.drew ?_ | with_reducible refine Below.alloc ?_ ?_ _ | with_reducible refine Below.setCell ?_ ?_ _ | with_reducible refine Below.trans ?_ (Below.mono (by assumption) ?_) | ((try simp only [World.heap_size_alloc, World.heap_size_drew, World.heap_size_setCell]); omega)))) (grown_below (base := w4.heap.size) g5 (by (try simp only [World.heap_size_alloc, World.heap_size_drew, World.heap_size_setCell]); omega) (fun g hg => by simp [Value.ownBlock] at hg; omega)); obtain ⟨kxc, kxf⟩ := gcellT g5 (b := w4.heap.size) (by (try simp only [World.heap_size_alloc, World.heap_size_drew, World.heap_size_setCell]); omega) (fun g hg => by simp [Value.ownBlock] at hg; omega); have IX : Hid (Sl w5 w4.heap.size w5.heap.size 2 (some ⟨w4.heap.size, 0, none⟩) 1 1 [q, d]) := Lib.hid ⟨rfl, by omega, by omega, fun _ => ⟨w4.heap.size, 0, rfl, by omega, by omega, fun j z hz => by rw [kxc, kxf]; exact XC.out j z hz⟩⟩; clear kxc kxf; obtain ⟨A5, cc5, rfl, s5⟩ := o5.sl; rw [Nat.zero_add, List.nil_append] at o5; simp only [Nat.zero_add]; have O5 := Lib.hid o5; clear o5 g5 a5 s5) | (go_loud (refine step_append_sl _ (by rfl) (.tmp 40) (.tmp 42) 40 (by rfl) w4.heap.size 60 Try.underlying40 infoTimer (by rfl) (by omega) _ m ((rl.take m).flatMap TimerD.ints) (by rfl) (O5.out.kept ((Below.refl _ _).alloc (Nat.le_refl _) (.cells #[.int .i64 q, .int .i64 d] 60))) (some ⟨w5.heap.size, 0, none⟩) 1 1 _ _ [q, d] (by rfl) (srcT w5 q d) (by omega) (by omega) (by (try simp only [World.heap_size_alloc, World.heap_size_drew, World.heap_size_setCell]); omega) ?_); intro v6 w6 o6 g6 a6; have y6 := g6.size; (try simp only [World.heap_size_alloc, World.heap_size_drew] at y6); have c6 : Below w4.heap.size w4 w6 := Below.trans (by (repeat' (first | with_reducible exact Below.refl _ _ | with_reducible assumption | with_reducible refine Below.drew ?_ | with_reducible refine Below.alloc ?_ ?_ _ | with_reducible refine Below.setCell ?_ ?_ _ | with_reducible refine Below.trans ?_ (Below.mono (by assumption) ?_) | ((try simp only [World.heap_size_alloc, World.heap_size_drew, World.heap_size_setCell]); omega)))) (grown_below (base := w4.heap.size) g6 (by (try simp only [World.heap_size_alloc, World.heap_size_drew, World.heap_size_setCell]); omega) (fun g hg => (Own.lt (O5.out.kept ((Below.refl _ _).alloc (Nat.le_refl _) (.cells #[.int .i64 q, .int .i64 d] 60))) g hg).1)); obtain ⟨A6, cc6, rfl, s6⟩ := o6.sl; have O6 := Lib.hid o6; clear o6 g6 a6 s6) | (go_loud (refine step_append_sl _ (by rfl) (.tmp 40) (.tmp 42) 40 (by rfl) w4.heap.size 60 Try.underlying40 infoTimer (by rfl) (by omega) _ m ((rl.take m).flatMap TimerD.ints) (by rfl) O5.out (some ⟨w4.heap.size + 1, 0, none⟩) 1 1 _ _ [q, d] (by rfl) IX.out (by omega) (by omega) (by (try simp only [World.heap_size_alloc, World.heap_size_drew, World.heap_size_setCell]); omega) ?_); intro v6 w6 o6 g6 a6; have y6 := g6.size; (try simp only [World.heap_size_alloc, World.heap_size_drew] at y6); have c6 : Below w4.heap.size w4 w6 := Below.trans (by (repeat' (first | with_reducible exact Below.refl _ _ | with_reducible assumption | with_reducible refine Below.drew ?_ | with_reducible refine Below.alloc ?_ ?_ _ | with_reducible refine Below.setCell ?_ ?_ _ | with_reducible refine Below.trans ?_ (Below.mono (by assumption) ?_) | ((try simp only [World.heap_size_alloc, World.heap_size_drew, World.heap_size_setCell]); omega)))) (grown_below (base := w4.heap.size) g6 (by (try simp only [World.heap_size_alloc, World.heap_size_drew, World.heap_size_setCell]); omega) (fun g hg => (Own.lt O5.out g hg).1)); obtain ⟨A6, cc6, rfl, s6⟩ := o6.sl; have O6 := Lib.hid o6; clear o6 g6 a6 s6) | (go_loud (refine step_append_sl _ (by rfl) (.tmp 40) (.tmp 42) 40 (by rfl) w4.heap.size 60 Try.underlying40 infoTimer (by rfl) (by omega) _ m ((rl.take m).flatMap TimerD.ints) (by rfl) O5.out (some ⟨w4.heap.size, 0, none⟩) 1 1 _ _ [q, d] (by rfl) IX.out (by omega) (by omega) (by (try simp only [World.heap_size_alloc, World.heap_size_drew, World.heap_size_setCell]); omega) ?_); intro v6 w6 o6 g6 a6; have y6 := g6.size; (try simp only [World.heap_size_alloc, World.heap_size_drew] at y6); have c6 : Below w4.heap.size w4 w6 := Below.trans (by (repeat' (first | with_reducible exact Below.refl _ _ | with_reducible assumption | with_reducible refine Below.drew ?_ | with_reducible refine Below.alloc ?_ ?_ _ | with_reducible refine Below.setCell ?_ ?_ _ | with_reducible refine Below.trans ?_ (Below.mono (by assumption) ?_) | ((try simp only [World.heap_size_alloc, World.heap_size_drew, World.heap_size_setCell]); omega)))) (grown_below (base := w4.heap.size) g6 (by (try simp only [World.heap_size_alloc, World.heap_size_drew, World.heap_size_setCell]); omega) (fun g hg => (Own.lt O5.out g hg).1)); obtain ⟨A6, cc6, rfl, s6⟩ := o6.sl; have O6 := Lib.hid o6; clear o6 g6 a6 s6))
          all_goals
            have hw6 : Below w.heap.size w w6 := hw4.trans (c6.mono hbase)
            have S6 := Lib.hid (S4.out.below c6 (by omega))
            have HW6 := Lib.hid hw6
            clear c6 hw6
            obtain ⟨B, hB, hBs⟩ := tailT_at (some ⟨g, off, none⟩) rn c3 m (by omega)
            have HBS := Lib.hid (hBs w6 _ _ rl S6.out)
            clear hBs
            go_wp2_with (at_builtin; go_loud (refine wpList_append_sl _ rfl (.tmp 44) (.tmp 47) 40 rfl w4.heap.size 60 Try.underlying40 infoTimer rfl (by omega) _ _ _ rfl O6.out _ _ _ _ _ _ rfl HBS.out (by omega) (by omega) (by omega) ?_); intro v7 w7 o7 g7 a7)
            have y7 := g7.size
            have hw7 : Below w.heap.size w w7 := HW6.out.trans (grown_below g7 (by omega) (fun g hg => Nat.le_trans hbase (Own.lt O6.out g hg).1))
            obtain ⟨A7, c7, rfl, s7⟩ := o7.sl
            have hn7 : m + 1 + (rn - m) = rn + 1 := by omega
            rw [hn7] at s7 ⊢
            have S7 : Hid (Sl w7 w4.heap.size w7.heap.size 2 A7 (rn + 1) c7 (ol.flatMap TimerD.ints)) := Lib.hid (by
              rw [HINS.out, List.flatMap_append, List.flatMap_cons]
              rw [List.append_assoc] at s7
              exact s7)
            have HW7 := Lib.hid hw7
            clear s7 o7 g7 a7 hn7 hw7
            go_wp2_with fail
            (with_reducible refine (HFIN.out _ _ _ _ _ _ S7.out).mono ?_); rintro _ w8 ⟨rfl, b8⟩
            have y8 := b8.size
            have hw1 : Below w.heap.size w w8 := HW7.out.trans (b8.mono (by omega))
            have HB8 := Lib.hid hw1
            have S8 := Lib.hid (S7.out.below b8 (by omega))
            clear b8
            cases bo with
            | true =>
              have H9 : Hid (r = (ol, true)) := Lib.hid (HR.out.trans (if_pos rfl))
              clear HR hw1
              go_wp2_with fail
              go_ret2
              rw [H9.out]
              dsimp only
              rw [HSL.out]
              exact ⟨_, c7, rfl, S8.out.mono hbase (by omega), HB8.out⟩
            | false =>
              have H9 : Hid (r = (l, false)) := Lib.hid (HR.out.trans (if_neg (by simp)))
              clear HR
              have hs9 : Sl (w8.alloc (.cells #[] 60)) lo hi 2 A n c (l.flatMap TimerD.ints) := h.below (B := w.heap.size) (by (repeat' (first | with_reducible exact Below.refl _ _ | with_reducible assumption | with_reducible refine Below.drew ?_ | with_reducible refine Below.alloc ?_ ?_ _ | with_reducible refine Below.setCell ?_ ?_ _ | with_reducible refine Below.trans ?_ (Below.mono (by assumption) ?_) | ((try simp only [World.heap_size_alloc, World.heap_size_drew, World.heap_size_setCell]); omega)))) hhi
              have ho2 : Own (w8.alloc (.cells #[] 60)) w.heap.size 60 2 (.slice (some ⟨w8.heap.size, 0, none⟩) 0 0) 0 [] := Own.new w8 60 2 [] rfl (by omega) (by omega)
              have HS9 := Lib.hid hs9
              have HO2 := Lib.hid ho2
              clear hs9 ho2
              go_wp2_with (at_builtin; go_loud (refine wpList_append_sl _ rfl (.tmp 52) (.tmp 53) 40 rfl w.heap.size 60 Try.underlying40 infoTimer rfl (by omega) _ _ _ rfl HO2.out _ n c _ _ (l.flatMap TimerD.ints) rfl HS9.out (by omega) (by omega) (by (try simp only [World.heap_size_alloc, World.heap_size_drew, World.heap_size_setCell]); omega) ?_); intro v2 w9 o2 g2 a2)
              have hb9 : Below w.heap.size w w9 := (hw1.alloc (by (try simp only [World.heap_size_alloc, World.heap_size_drew, World.heap_size_setCell]); omega) _).trans (grown_below g2 (by (try simp only [World.heap_size_alloc, World.heap_size_drew, World.heap_size_setCell]); omega) (fun g hg => (Own.lt HO2.out g hg).1))
              have y2 := g2.size
              (try simp only [World.heap_size_alloc, World.heap_size_drew] at y2)
              obtain ⟨A9, c9, rfl, s9⟩ := o2.sl
              rw [Nat.zero_add, List.nil_append] at s9
              simp only [Nat.zero_add]
              have S9 := Lib.hid s9
              go_wp2_with fail
              go_ret2
              rw [H9.out]
              dsimp only
              rw [HL.out]
              exact ⟨A9, c9, rfl, S9.out, hb9⟩
      · have hmr : m = rn := by omega
        have hins : insT rl (⟨q, d⟩ : TimerD) = rl.take m ++ (⟨q, d⟩ : TimerD) :: rl.drop m := insT_at (by rw [← HRN.out]; omega) hp.out (fun y hy => by rw [List.getElem?_eq_none (by rw [← HRN.out]; omega)] at hy; cases hy)
        clear hmr
        go_wp2_with fail
        refine wp_region_quiet_below (by kernel_rfl) (by kernel_rfl) ?_; (repeat (first | go_big_quiet_step (fail) | quiet_step (fail))); refine wpQuiet_nil ?_; intro _ hw'; obtain ⟨⟨nq, osq⟩, hw''⟩ := hw'; subst hw''; have hq := below_regrown wr nq osq; generalize Sort.grow (redrawn wr nq) osq = w4 at *
        have y4 := hq.size
        have y3w := hb.size
        have hb4 : Below w3.heap.size w3 w4 := hb.trans (hq.mono hb.size)
        have HINS : Hid (ol = rl.take m ++ (⟨q, d⟩ : TimerD) :: rl.drop m) := Lib.hid (HOL.out.trans hins)
        have k0 := (hb4.cell (p := ⟨w1.heap.size, 0, none⟩) (show w1.heap.size < w3.heap.size by omega)).trans x0
        have k1 := (hb4.cell (p := ⟨w1.heap.size, 1, none⟩) (show w1.heap.size < w3.heap.size by omega)).trans x1
        have hw4 : Below w.heap.size w w4 := HW3.out.trans (hb4.mono (by omega))
        have S4 := Lib.hid (S3.out.below hb4 (Nat.le_refl _))
        clear hq hins
        have hfr : ∀ W, (Instr.sliceAt 40 (.slice A3 rn c3) none (some (.int .i64 (m : Int))) none).run Try.prog W = .ok (.slice A3 m c3) W := fun W => run_frontT _ rn c3 m (by have := S3.out.cap; omega) W
        go_wp2_with fail
        have SK : ∀ W, Below w4.heap.size w4 W → (W.cell? ⟨w1.heap.size, 0, none⟩ = some (.int .i64 q) ∧ W.cell? ⟨w1.heap.size, 1, none⟩ = some (.int .i64 d) ∧ Below w4.heap.size w4 W) := fun W hb => ⟨(hb.cell (p := ⟨w1.heap.size, 0, none⟩) (show w1.heap.size < w4.heap.size by omega)).trans k0, (hb.cell (p := ⟨w1.heap.size, 1, none⟩) (show w1.heap.size < w4.heap.size by omega)).trans k1, hb⟩
        have HSK := Lib.hid SK
        clear SK
        have SP := Lib.hid (S4.out.early TimerD.ints_len (m := m) (by omega))
        have hbase : w.heap.size ≤ w4.heap.size := hw4.size
        have OA : Hid (Own (w4.alloc (.cells #[] 60)).drew w4.heap.size 60 2 (.slice (some ⟨w4.heap.size, 0, none⟩) 0 0) 0 []) := Lib.hid ((Own.new w4 60 2 [] (n := 0) rfl (Nat.le_refl _) (by omega)).kept (Below.drew (Below.refl _ _)))
        have OB : Hid (Own ((w4.alloc (.cells #[] 60)).alloc (.cells #[.int .i64 q, .int .i64 d] 60)).drew w4.heap.size 60 2 (.slice (some ⟨w4.heap.size, 0, none⟩) 0 0) 0 []) := Lib.hid ((Own.new w4 60 2 [] (n := 0) rfl (Nat.le_refl _) (by omega)).kept (Below.drew ((Below.refl _ _).alloc (Nat.le_refl _) _)))
        have OC : Hid (Own ((w4.alloc (.cells #[.int .i64 q, .int .i64 d] 60)).alloc (.cells #[] 60)).drew w4.heap.size 60 2 (.slice (some ⟨w4.heap.size + 1, 0, none⟩) 0 0) 0 []) := Lib.hid (by
          have h9 := (Own.new (w4.alloc (.cells #[.int .i64 q, .int .i64 d] 60)) (base := w4.heap.size) 60 2 [] (n := 0) rfl (by (try simp only [World.heap_size_alloc, World.heap_size_drew, World.heap_size_setCell]); omega) (by omega)).kept (Below.drew (Below.refl _ _))
          rw [World.heap_size_alloc] at h9
          exact h9)
        have XB : Hid (Ints ((w4.alloc (.cells #[] 60)).alloc (.cells #[.int .i64 q, .int .i64 d] 60)).drew (w4.heap.size + 1) 0 [q, d]) := Lib.hid (by
          have h9 := ints_new (w4.alloc (.cells #[] 60)) 60 [q, d]
          rw [World.heap_size_alloc] at h9
          exact h9)
        have XC : Hid (Ints ((w4.alloc (.cells #[.int .i64 q, .int .i64 d] 60)).alloc (.cells #[] 60)).drew w4.heap.size 0 [q, d]) := Lib.hid (Ints.below (B := w4.heap.size + 1) (ints_new w4 60 [q, d]) (Below.drew (Below.alloc (Below.refl _ _) (by (try simp only [World.heap_size_alloc, World.heap_size_drew, World.heap_size_setCell]); omega) _)) (by omega))
        go_region_held3 (fun w' => w'.cell? ⟨w1.heap.size, 0, none⟩ = some (.int .i64 q) ∧ w'.cell? ⟨w1.heap.size, 1, none⟩ = some (.int .i64 d) ∧ Below w4.heap.size w4 w')
          (first | (refine HSK.out _ ?_; (repeat' (first | with_reducible exact Below.refl _ _ | with_reducible assumption | with_reducible refine Below.drew ?_ | with_reducible refine Below.alloc ?_ ?_ _ | with_reducible refine Below.setCell ?_ ?_ _ | with_reducible refine Below.trans ?_ (Below.mono (by assumption) ?_) | ((try simp only [World.heap_size_alloc, World.heap_size_drew, World.heap_size_setCell]); omega)))) | (go_split_ands; refine HSK.out _ ?_; (repeat' (first | with_reducible exact Below.refl _ _ | with_reducible assumption | with_reducible refine Below.drew ?_ | with_reducible refine Below.alloc ?_ ?_ _ | with_reducible refine Below.setCell ?_ ?_ _ | with_reducible refine Below.trans ?_ (Below.mono (by assumption) ?_) | ((try simp only [World.heap_size_alloc, World.heap_size_drew, World.heap_size_setCell]); omega)))))
          (first | (go_loud (refine step_append_sl _ (by rfl) (.tmp 36) (.tmp 39) 40 (by rfl) w4.heap.size 60 Try.underlying40 infoTimer (by rfl) (by omega) _ 0 [] (by rfl) OA.out A3 m c3 _ _ ((rl.take m).flatMap TimerD.ints) (by rfl) (SP.out.below (B := w4.heap.size) (by (repeat' (first | with_reducible exact Below.refl _ _ | with_reducible assumption | with_reducible refine Below.drew ?_ | with_reducible refine Below.alloc ?_ ?_ _ | with_reducible refine Below.setCell ?_ ?_ _ | with_reducible refine Below.trans ?_ (Below.mono (by assumption) ?_) | ((try simp only [World.heap_size_alloc, World.heap_size_drew, World.heap_size_setCell]); omega)))) (by omega)) (by omega) (by omega) (by (try simp only [World.heap_size_alloc, World.heap_size_drew, World.heap_size_setCell]); omega) ?_); intro v5 w5 o5 g5 a5; have y5 := g5.size; (try simp only [World.heap_size_alloc, World.heap_size_drew] at y5); have c5 : Below w4.heap.size w4 w5 := Below.trans (by (repeat' (first | with_reducible exact Below.refl _ _ | with_reducible assumption | with_reducible refine Below.drew ?_ | with_reducible refine Below.alloc ?_ ?_ _ | with_reducible refine Below.setCell ?_ ?_ _ | with_reducible refine Below.trans ?_ (Below.mono (by assumption) ?_) | ((try simp only [World.heap_size_alloc, World.heap_size_drew, World.heap_size_setCell]); omega)))) (grown_below (base := w4.heap.size) g5 (by (try simp only [World.heap_size_alloc, World.heap_size_drew, World.heap_size_setCell]); omega) (fun g hg => by simp [Value.ownBlock] at hg; omega)); obtain ⟨A5, cc5, rfl, s5⟩ := o5.sl; rw [Nat.zero_add, List.nil_append] at o5; simp only [Nat.zero_add]; have O5 := Lib.hid o5; clear o5 g5 a5 s5) | (go_loud (refine step_append_sl _ (by rfl) (.tmp 36) (.tmp 39) 40 (by rfl) w4.heap.size 60 Try.underlying40 infoTimer (by rfl) (by omega) _ 0 [] (by rfl) OB.out A3 m c3 _ _ ((rl.take m).flatMap TimerD.ints) (by rfl) (SP.out.below (B := w4.heap.size) (by (repeat' (first | with_reducible exact Below.refl _ _ | with_reducible assumption | with_reducible refine Below.drew ?_ | with_reducible refine Below.alloc ?_ ?_ _ | with_reducible refine Below.setCell ?_ ?_ _ | with_reducible refine Below.trans ?_ (Below.mono (by assumption) ?_) | ((try simp only [World.heap_size_alloc, World.heap_size_drew, World.heap_size_setCell]); omega)))) (by omega)) (by omega) (by omega) (by (try simp only [World.heap_size_alloc, World.heap_size_drew, World.heap_size_setCell]); omega) ?_); intro v5 w5 o5 g5 a5; have y5 := g5.size; (try simp only [World.heap_size_alloc, World.heap_size_drew] at y5); have c5 : Below w4.heap.size w4 w5 := Below.trans (by (repeat' (first | with_reducible exact Below.refl _ _ | with_reducible assumption | with_reducible refine Below.drew ?_ | with_reducible refine Below.alloc ?_ ?_ _ | with_reducible refine Below.setCell ?_ ?_ _ | with_reducible refine Below.trans ?_ (Below.mono (by assumption) ?_) | ((try simp only [World.heap_size_alloc, World.heap_size_drew, World.heap_size_setCell]); omega)))) (grown_below (base := w4.heap.size) g5 (by (try simp only [World.heap_size_alloc, World.heap_size_drew, World.heap_size_setCell]); omega) (fun g hg => by simp [Value.ownBlock] at hg; omega)); obtain ⟨kxc, kxf⟩ := gcellT g5 (b := (w4.heap.size + 1)) (by (try simp only [World.heap_size_alloc, World.heap_size_drew, World.heap_size_setCell]); omega) (fun g hg => by simp [Value.ownBlock] at hg; omega); have IX : Hid (Sl w5 w4.heap.size w5.heap.size 2 (some ⟨(w4.heap.size + 1), 0, none⟩) 1 1 [q, d]) := Lib.hid ⟨rfl, by omega, by omega, fun _ => ⟨(w4.heap.size + 1), 0, rfl, by omega, by omega, fun j z hz => by rw [kxc, kxf]; exact XB.out j z hz⟩⟩; clear kxc kxf; obtain ⟨A5, cc5, rfl, s5⟩ := o5.sl; rw [Nat.zero_add, List.nil_append] at o5; simp only [Nat.zero_add]; have O5 := Lib.hid o5; clear o5 g5 a5 s5) | (go_loud (refine step_append_sl _ (by rfl) (.tmp 36) (.tmp 39) 40 (by rfl) w4.heap.size 60 Try.underlying40 infoTimer (by rfl) (by omega) _ 0 [] (by rfl) OC.out A3 m c3 _ _ ((rl.take m).flatMap TimerD.ints) (by rfl) (SP.out.below (B := w4.heap.size) (by (repeat' (first | with_reducible exact Below.refl _ _ | with_reducible assumption | with_reducible refine Below.drew ?_ | with_reducible refine Below.alloc ?_ ?_ _ | with_reducible refine Below.setCell ?_ ?_ _ | with_reducible refine Below.trans ?_ (Below.mono (by assumption) ?_) | ((try simp only [World.heap_size_alloc, World.heap_size_drew, World.heap_size_setCell]); omega)))) (by omega)) (by omega) (by omega) (by (try simp only [World.heap_size_alloc, World.heap_size_drew, World.heap_size_setCell]); omega) ?_); intro v5 w5 o5 g5 a5; have y5 := g5.size; (try simp only [World.heap_size_alloc, World.heap_size_drew] at y5); have c5 : Below w4.heap.size w4 w5 := Below.trans (by (repeat' (first | with_reducible exact Below.refl _ _ | with_reducible assumption | with_reducible refine Below.drew ?_ | with_reducible refine Below.alloc ?_ ?_ _ | with_reducible refine Below.setCell ?_ ?_ _ | with_reducible refine Below.trans ?_ (Below.mono (by assumption) ?_) | ((try simp only [World.heap_size_alloc, World.heap_size_drew, World.heap_size_setCell]); omega)))) (grown_below (base := w4.heap.size) g5 (by (try simp only [World.heap_size_alloc, World.heap_size_drew, World.heap_size_setCell]); omega) (fun g hg => by simp [Value.ownBlock] at hg; omega)); obtain ⟨kxc, kxf⟩ := gcellT g5 (b := w4.heap.size) (by (try simp only [World.heap_size_alloc, World.heap_size_drew, World.heap_size_setCell]); omega) (fun g hg => by simp [Value.ownBlock] at hg; omega); have IX : Hid (Sl w5 w4.heap.size w5.heap.size 2 (some ⟨w4.heap.size, 0, none⟩) 1 1 [q, d]) := Lib.hid ⟨rfl, by omega, by omega, fun _ => ⟨w4.heap.size, 0, rfl, by omega, by omega, fun j z hz => by rw [kxc, kxf]; exact XC.out j z hz⟩⟩; clear kxc kxf; obtain ⟨A5, cc5, rfl, s5⟩ := o5.sl; rw [Nat.zero_add, List.nil_append] at o5; simp only [Nat.zero_add]; have O5 := Lib.hid o5; clear o5 g5 a5 s5) | (go_loud (refine step_append_sl _ (by rfl) (.tmp 40) (.tmp 42) 40 (by rfl) w4.heap.size 60 Try.underlying40 infoTimer (by rfl) (by omega) _ m ((rl.take m).flatMap TimerD.ints) (by rfl) (O5.out.kept ((Below.refl _ _).alloc (Nat.le_refl _) (.cells #[.int .i64 q, .int .i64 d] 60))) (some ⟨w5.heap.size, 0, none⟩) 1 1 _ _ [q, d] (by rfl) (srcT w5 q d) (by omega) (by omega) (by (try simp only [World.heap_size_alloc, World.heap_size_drew, World.heap_size_setCell]); omega) ?_); intro v6 w6 o6 g6 a6; have y6 := g6.size; (try simp only [World.heap_size_alloc, World.heap_size_drew] at y6); have c6 : Below w4.heap.size w4 w6 := Below.trans (by (repeat' (first | with_reducible exact Below.refl _ _ | with_reducible assumption | with_reducible refine Below.drew ?_ | with_reducible refine Below.alloc ?_ ?_ _ | with_reducible refine Below.setCell ?_ ?_ _ | with_reducible refine Below.trans ?_ (Below.mono (by assumption) ?_) | ((try simp only [World.heap_size_alloc, World.heap_size_drew, World.heap_size_setCell]); omega)))) (grown_below (base := w4.heap.size) g6 (by (try simp only [World.heap_size_alloc, World.heap_size_drew, World.heap_size_setCell]); omega) (fun g hg => (Own.lt (O5.out.kept ((Below.refl _ _).alloc (Nat.le_refl _) (.cells #[.int .i64 q, .int .i64 d] 60))) g hg).1)); obtain ⟨A6, cc6, rfl, s6⟩ := o6.sl; have O6 := Lib.hid o6; clear o6 g6 a6 s6) | (go_loud (refine step_append_sl _ (by rfl) (.tmp 40) (.tmp 42) 40 (by rfl) w4.heap.size 60 Try.underlying40 infoTimer (by rfl) (by omega) _ m ((rl.take m).flatMap TimerD.ints) (by rfl) O5.out (some ⟨w4.heap.size + 1, 0, none⟩) 1 1 _ _ [q, d] (by rfl) IX.out (by omega) (by omega) (by (try simp only [World.heap_size_alloc, World.heap_size_drew, World.heap_size_setCell]); omega) ?_); intro v6 w6 o6 g6 a6; have y6 := g6.size; (try simp only [World.heap_size_alloc, World.heap_size_drew] at y6); have c6 : Below w4.heap.size w4 w6 := Below.trans (by (repeat' (first | with_reducible exact Below.refl _ _ | with_reducible assumption | with_reducible refine Below.drew ?_ | with_reducible refine Below.alloc ?_ ?_ _ | with_reducible refine Below.setCell ?_ ?_ _ | with_reducible refine Below.trans ?_ (Below.mono (by assumption) ?_) | ((try simp only [World.heap_size_alloc, World.heap_size_drew, World.heap_size_setCell]); omega)))) (grown_below (base := w4.heap.size) g6 (by (try simp only [World.heap_size_alloc, World.heap_size_drew, World.heap_size_setCell]); omega) (fun g hg => (Own.lt O5.out g hg).1)); obtain ⟨A6, cc6, rfl, s6⟩ := o6.sl; have O6 := Lib.hid o6; clear o6 g6 a6 s6) | (go_loud (refine step_append_sl _ (by rfl) (.tmp 40) (.tmp 42) 40 (by rfl) w4.heap.size 60 Try.underlying40 infoTimer (by rfl) (by omega) _ m ((rl.take m).flatMap TimerD.ints) (by rfl) O5.out (some ⟨w4.heap.size, 0, none⟩) 1 1 _ _ [q, d] (by rfl) IX.out (by omega) (by omega) (by (try simp only [World.heap_size_alloc, World.heap_size_drew, World.heap_size_setCell]); omega) ?_); intro v6 w6 o6 g6 a6; have y6 := g6.size; (try simp only [World.heap_size_alloc, World.heap_size_drew] at y6); have c6 : Below w4.heap.size w4 w6 := Below.trans (by (repeat' (first | with_reducible exact Below.refl _ _ | with_reducible assumption | with_reducible refine Below.drew ?_ | with_reducible refine Below.alloc ?_ ?_ _ | with_reducible refine Below.setCell ?_ ?_ _ | with_reducible refine Below.trans ?_ (Below.mono (by assumption) ?_) | ((try simp only [World.heap_size_alloc, World.heap_size_drew, World.heap_size_setCell]); omega)))) (grown_below (base := w4.heap.size) g6 (by (try simp only [World.heap_size_alloc, World.heap_size_drew, World.heap_size_setCell]); omega) (fun g hg => (Own.lt O5.out g hg).1)); obtain ⟨A6, cc6, rfl, s6⟩ := o6.sl; have O6 := Lib.hid o6; clear o6 g6 a6 s6))
        all_goals
          have hw6 : Below w.heap.size w w6 := hw4.trans (c6.mono hbase)
          have S6 := Lib.hid (S4.out.below c6 (by omega))
          have HW6 := Lib.hid hw6
          clear c6 hw6
          obtain ⟨B, hB, hBs⟩ := tailT_at A3 rn c3 m (by omega)
          have HBS := Lib.hid (hBs w6 _ _ rl S6.out)
          clear hBs
          go_wp2_with (at_builtin; go_loud (refine wpList_append_sl _ rfl (.tmp 44) (.tmp 47) 40 rfl w4.heap.size 60 Try.underlying40 infoTimer rfl (by omega) _ _ _ rfl O6.out _ _ _ _ _ _ rfl HBS.out (by omega) (by omega) (by omega) ?_); intro v7 w7 o7 g7 a7)
          have y7 := g7.size
          have hw7 : Below w.heap.size w w7 := HW6.out.trans (grown_below g7 (by omega) (fun g hg => Nat.le_trans hbase (Own.lt O6.out g hg).1))
          obtain ⟨A7, c7, rfl, s7⟩ := o7.sl
          have hn7 : m + 1 + (rn - m) = rn + 1 := by omega
          rw [hn7] at s7 ⊢
          have S7 : Hid (Sl w7 w4.heap.size w7.heap.size 2 A7 (rn + 1) c7 (ol.flatMap TimerD.ints)) := Lib.hid (by
            rw [HINS.out, List.flatMap_append, List.flatMap_cons]
            rw [List.append_assoc] at s7
            exact s7)
          have HW7 := Lib.hid hw7
          clear s7 o7 g7 a7 hn7 hw7
          go_wp2_with fail
          (with_reducible refine (HFIN.out _ _ _ _ _ _ S7.out).mono ?_); rintro _ w8 ⟨rfl, b8⟩
          have y8 := b8.size
          have hw1 : Below w.heap.size w w8 := HW7.out.trans (b8.mono (by omega))
          have HB8 := Lib.hid hw1
          have S8 := Lib.hid (S7.out.below b8 (by omega))
          clear b8
          cases bo with
          | true =>
            have H9 : Hid (r = (ol, true)) := Lib.hid (HR.out.trans (if_pos rfl))
            clear HR hw1
            go_wp2_with fail
            go_ret2
            rw [H9.out]
            dsimp only
            rw [HSL.out]
            exact ⟨_, c7, rfl, S8.out.mono hbase (by omega), HB8.out⟩
          | false =>
            have H9 : Hid (r = (l, false)) := Lib.hid (HR.out.trans (if_neg (by simp)))
            clear HR
            have hs9 : Sl (w8.alloc (.cells #[] 60)) lo hi 2 A n c (l.flatMap TimerD.ints) := h.below (B := w.heap.size) (by (repeat' (first | with_reducible exact Below.refl _ _ | with_reducible assumption | with_reducible refine Below.drew ?_ | with_reducible refine Below.alloc ?_ ?_ _ | with_reducible refine Below.setCell ?_ ?_ _ | with_reducible refine Below.trans ?_ (Below.mono (by assumption) ?_) | ((try simp only [World.heap_size_alloc, World.heap_size_drew, World.heap_size_setCell]); omega)))) hhi
            have ho2 : Own (w8.alloc (.cells #[] 60)) w.heap.size 60 2 (.slice (some ⟨w8.heap.size, 0, none⟩) 0 0) 0 [] := Own.new w8 60 2 [] rfl (by omega) (by omega)
            have HS9 := Lib.hid hs9
            have HO2 := Lib.hid ho2
            clear hs9 ho2
            go_wp2_with (at_builtin; go_loud (refine wpList_append_sl _ rfl (.tmp 52) (.tmp 53) 40 rfl w.heap.size 60 Try.underlying40 infoTimer rfl (by omega) _ _ _ rfl HO2.out _ n c _ _ (l.flatMap TimerD.ints) rfl HS9.out (by omega) (by omega) (by (try simp only [World.heap_size_alloc, World.heap_size_drew, World.heap_size_setCell]); omega) ?_); intro v2 w9 o2 g2 a2)
            have hb9 : Below w.heap.size w w9 := (hw1.alloc (by (try simp only [World.heap_size_alloc, World.heap_size_drew, World.heap_size_setCell]); omega) _).trans (grown_below g2 (by (try simp only [World.heap_size_alloc, World.heap_size_drew, World.heap_size_setCell]); omega) (fun g hg => (Own.lt HO2.out g hg).1))
            have y2 := g2.size
            (try simp only [World.heap_size_alloc, World.heap_size_drew] at y2)
            obtain ⟨A9, c9, rfl, s9⟩ := o2.sl
            rw [Nat.zero_add, List.nil_append] at s9
            simp only [Nat.zero_add]
            have S9 := Lib.hid s9
            go_wp2_with fail
            go_ret2
            rw [H9.out]
            dsimp only
            rw [HL.out]
            exact ⟨A9, c9, rfl, S9.out, hb9⟩

end Go.Proofs.Ytkianeknbfahgaa
