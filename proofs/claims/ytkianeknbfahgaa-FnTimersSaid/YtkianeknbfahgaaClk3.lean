/- The greatest and the smallest clock: what the program's and the reference's functions return. No conditions. -/
import Derived.Test.YtkianeknbfahgaaClk2
set_option linter.unusedSimpArgs false
set_option linter.unusedVariables false
namespace Go.Proofs.Ytkianeknbfahgaa
open Go.RowKit

def maxTo (zs : List Int) : Nat → Int
  | 0 => zs.getD 0 0
  | m + 1 => max (maxTo zs m) (zs.getD m 0)
def minTo (zs : List Int) : Nat → Int
  | 0 => zs.getD 0 0
  | m + 1 => min (minTo zs m) (zs.getD m 0)
theorem maxTo_one {zs : List Int} {x : Int} (h : zs[0]? = some x) : maxTo zs 1 = x := by simp [maxTo, List.getD, h]
theorem minTo_one {zs : List Int} {x : Int} (h : zs[0]? = some x) : minTo zs 1 = x := by simp [minTo, List.getD, h]
theorem maxTo_succ {zs : List Int} {m : Nat} {x : Int} (h : zs[m]? = some x) : maxTo zs (m + 1) = max (maxTo zs m) x := by simp [maxTo, List.getD, h]
theorem minTo_succ {zs : List Int} {m : Nat} {x : Int} (h : zs[m]? = some x) : minTo zs (m + 1) = min (minTo zs m) x := by simp [minTo, List.getD, h]

set_option maxHeartbeats 400000 in
theorem l1Max_any (a b : Int) (w : World) : Calls Try.prog 46 #[.int .i64 a, .int .i64 b] w fun e w' => e = .returned (.int .i64 (max a b)) ∧ w = w' := by
  by_cases h : b < a
  · go_enter Try.func46, Try.ntmps46
    go_wp2
    go_ret
    exact ⟨by rw [Int.max_eq_left (by omega)]; rfl, rfl⟩
  · go_enter Try.func46, Try.ntmps46
    go_wp2
    go_ret
    exact ⟨by rw [Int.max_eq_right (by omega)]; rfl, rfl⟩
set_option maxHeartbeats 400000 in
theorem l1Min_any (a b : Int) (w : World) : Calls Try.prog 55 #[.int .i64 a, .int .i64 b] w fun e w' => e = .returned (.int .i64 (min a b)) ∧ w = w' := by
  by_cases h : a < b
  · go_enter Try.func55, Try.ntmps55
    go_wp2
    go_ret
    exact ⟨by rw [Int.min_eq_left (by omega)]; rfl, rfl⟩
  · go_enter Try.func55, Try.ntmps55
    go_wp2
    go_ret
    exact ⟨by rw [Int.min_eq_right (by omega)]; rfl, rfl⟩
theorem max_if (y e : Int) : (if y < e then e else y) = max y e := by rw [Int.max_def]; split <;> split <;> omega
theorem min_if (y e : Int) : (if e < y then e else y) = min y e := by rw [Int.min_def]; split <;> split <;> omega
def latest (zs : List Int) : Int := if clocksOk zs then maxTo zs 6 else 0
def apartIn (zs : List Int) : Int := if clocksOk zs then maxTo zs 6 - minTo zs 6 else 0
theorem getD_btw {zs : List Int} (h : clocksOk zs = true) (j : Nat) : 0 ≤ zs.getD j 0 ∧ zs.getD j 0 ≤ 1000000 := by
  by_cases hj : j < zs.length
  · exact clocksOk_at h (j := j) (by simp [List.getD, List.getElem?_eq_getElem hj])
  · simp [List.getD, List.getElem?_eq_none (Nat.not_lt.1 hj)]
theorem maxTo_btw {zs : List Int} (h : clocksOk zs = true) : 0 ≤ maxTo zs 6 ∧ maxTo zs 6 ≤ 1000000 := by
  have h2 : ∀ m, 0 ≤ maxTo zs m ∧ maxTo zs m ≤ 1000000 := fun m => by
    induction m with
    | zero => exact getD_btw h 0
    | succ m ih => have := getD_btw h m; simp only [maxTo]; omega
  exact h2 6
theorem minTo_btw {zs : List Int} (h : clocksOk zs = true) : 0 ≤ minTo zs 6 ∧ minTo zs 6 ≤ 1000000 := by
  have h2 : ∀ m, 0 ≤ minTo zs m ∧ minTo zs m ≤ 1000000 := fun m => by
    induction m with
    | zero => exact getD_btw h 0
    | succ m ih => have := getD_btw h m; simp only [minTo]; omega
  exact h2 6

set_option maxHeartbeats 800000 in
theorem slicesMax_any (A : Option Addr) (c lo hi : Nat) (zs : List Int) (w : World) (h : Sl w lo hi 1 A 6 c zs) :
    Calls Try.prog 48 #[.slice A 6 c] w fun e w' => e = .returned (.int .i64 (maxTo zs 6)) ∧ Below w.heap.size w w' := by
  have H := Lib.hid (h.fit (by omega))
  obtain ⟨g, off, x, rfl, _, hg, hx, p0⟩ := H.out.int (show 0 < 6 by omega)
  rw [Nat.add_zero] at p0
  have HX := Lib.hid hx
  clear h hx
  go_enter Try.func48, Try.ntmps48
  go_wp2
  go_loopw [3, 4] (fun v i wr => ∃ (m : Nat) (y : Int), m ≤ 6 ∧ i = .int .i64 m ∧ v = .int .i64 y ∧ Hid (y = maxTo zs m) ∧ Below w.heap.size w wr) (fun _ i _ => 6 - (intOf i).toNat)
  case atStart => exact ⟨1, x, by omega, rfl, rfl, (maxTo_one HX.out).symm, Below.refl _ _⟩
  case round =>
    obtain ⟨m, y, hm, rfl, rfl, hy, hb⟩ := hrel
    by_cases hlt : m < 6
    · obtain ⟨g2, off2, e, hA, _, hg, he, p1⟩ := H.out.int hlt
      injection hA with hA
      injection hA with hA hB
      subst hA
      subst hB
      have hg1 := Nat.lt_of_lt_of_le hg (Nat.min_le_right _ _)
      have r0 := (hb.cell (p := ⟨g, off + m, none⟩) hg1).trans p1
      have HE := Lib.hid he
      clear he p1
      go_wp2
      go_roundw
      case rel => exact ⟨m + 1, _, hlt, by go_num, rfl, by rw [maxTo_succ HE.out, ← hy.out]; exact max_if _ _, hb⟩
      case measure => simp [intOf]; omega
    · have hmn : m = 6 := by omega
      subst hmn
      go_wp2
      go_ret
      exact ⟨by rw [← hy.out]; rfl, hb⟩
set_option maxHeartbeats 800000 in
theorem slicesMin_any (A : Option Addr) (c lo hi : Nat) (zs : List Int) (w : World) (h : Sl w lo hi 1 A 6 c zs) :
    Calls Try.prog 56 #[.slice A 6 c] w fun e w' => e = .returned (.int .i64 (minTo zs 6)) ∧ Below w.heap.size w w' := by
  have H := Lib.hid (h.fit (by omega))
  obtain ⟨g, off, x, rfl, _, hg, hx, p0⟩ := H.out.int (show 0 < 6 by omega)
  rw [Nat.add_zero] at p0
  have HX := Lib.hid hx
  clear h hx
  go_enter Try.func56, Try.ntmps56
  go_wp2
  go_loopw [3, 4] (fun v i wr => ∃ (m : Nat) (y : Int), m ≤ 6 ∧ i = .int .i64 m ∧ v = .int .i64 y ∧ Hid (y = minTo zs m) ∧ Below w.heap.size w wr) (fun _ i _ => 6 - (intOf i).toNat)
  case atStart => exact ⟨1, x, by omega, rfl, rfl, (minTo_one HX.out).symm, Below.refl _ _⟩
  case round =>
    obtain ⟨m, y, hm, rfl, rfl, hy, hb⟩ := hrel
    by_cases hlt : m < 6
    · obtain ⟨g2, off2, e, hA, _, hg, he, p1⟩ := H.out.int hlt
      injection hA with hA
      injection hA with hA hB
      subst hA
      subst hB
      have hg1 := Nat.lt_of_lt_of_le hg (Nat.min_le_right _ _)
      have r0 := (hb.cell (p := ⟨g, off + m, none⟩) hg1).trans p1
      have HE := Lib.hid he
      clear he p1
      go_wp2
      go_roundw
      case rel => exact ⟨m + 1, _, hlt, by go_num, rfl, by rw [minTo_succ HE.out, ← hy.out]; exact min_if _ _, hb⟩
      case measure => simp [intOf]; omega
    · have hmn : m = 6 := by omega
      subst hmn
      go_wp2
      go_ret
      exact ⟨by rw [← hy.out]; rfl, hb⟩
set_option maxHeartbeats 800000 in
theorem sLatest_any (A : Option Addr) (n c lo hi : Nat) (zs : List Int) (w : World) (h : Sl w lo hi 1 A n c zs) :
    Calls Try.prog 14 #[.slice A n c] w fun e w' => e = .returned (.int .i64 (latest zs)) ∧ Below w.heap.size w w' := by
  have hl : zs.length = n := by have := h.len; omega
  have hn9 : n ≤ 9223372036854775807 := Nat.le_trans h.cap h.big
  replace h := h.fit (by omega)
  have hhi : min hi w.heap.size ≤ w.heap.size := Nat.min_le_right _ _
  generalize min hi w.heap.size = hi at h hhi
  cases hok : clocksOk zs with
  | false =>
    have e : latest zs = 0 := by simp [latest, hok]
    rw [e]
    clear e
    have CO : ∀ W, Sl W lo hi 1 A n c zs → Calls Try.prog 45 #[.slice A n c] W fun x w' => x = .returned (.bool false) ∧ Below W.heap.size W w' := fun W s => by
      have h7 := sClocksOk_any A n c lo hi zs W s
      rw [hok] at h7
      exact h7
    have HO := Lib.hid CO
    clear CO
    go_enter Try.func14, Try.ntmps14
    go_wp2_with fail
    (with_reducible refine (HO.out _ (h.below (B := w.heap.size) (by (repeat' (first | with_reducible exact Below.refl _ _ | with_reducible assumption | with_reducible refine Below.drew ?_ | with_reducible refine Below.alloc ?_ ?_ _ | with_reducible refine Below.setCell ?_ ?_ _ | with_reducible refine Below.trans ?_ (Below.mono (by assumption) ?_) | ((try simp only [World.heap_size_alloc, World.heap_size_drew, World.heap_size_setCell]); omega)))) hhi)).mono ?_); rintro _ w1 ⟨rfl, b1⟩
    have y1 := b1.size
    go_wp2_with fail
    go_ret
    exact ⟨rfl, b1⟩
  | true =>
    have h6 : n = 6 := by rw [← hl]; exact clocksOk_six hok
    subst h6
    have e : latest zs = maxTo zs 6 := by simp [latest, hok]
    rw [e]
    clear e
    have CO : ∀ W, Sl W lo hi 1 A 6 c zs → Calls Try.prog 45 #[.slice A 6 c] W fun x w' => x = .returned (.bool true) ∧ Below W.heap.size W w' := fun W s => by
      have h7 := sClocksOk_any A 6 c lo hi zs W s
      rw [hok] at h7
      exact h7
    have HO := Lib.hid CO
    clear CO
    obtain ⟨g, off, x, rfl, _, hg, hx, p0⟩ := h.int (show 0 < 6 by omega)
    rw [Nat.add_zero] at p0
    have HX := Lib.hid hx
    clear hx
    go_enter Try.func14, Try.ntmps14
    go_wp2_with fail
    (with_reducible refine (HO.out _ (h.below (B := w.heap.size) (by (repeat' (first | with_reducible exact Below.refl _ _ | with_reducible assumption | with_reducible refine Below.drew ?_ | with_reducible refine Below.alloc ?_ ?_ _ | with_reducible refine Below.setCell ?_ ?_ _ | with_reducible refine Below.trans ?_ (Below.mono (by assumption) ?_) | ((try simp only [World.heap_size_alloc, World.heap_size_drew, World.heap_size_setCell]); omega)))) hhi)).mono ?_); rintro _ w1 ⟨rfl, b1⟩
    have y1 := b1.size
    have r0 := (b1.cell (p := ⟨g, off, none⟩) (show g < w.heap.size by omega)).trans p0
    have H : Hid (Sl w lo (min hi w.heap.size) 1 (some ⟨g, off, none⟩) 6 c zs) := h.fit (by omega)
    go_wp2_with fail
    go_loopw [3, 4] (fun v i wr => ∃ (m : Nat) (y : Int), m ≤ 6 ∧ i = .int .i64 m ∧ v = .int .i64 y ∧ Hid (y = maxTo zs m) ∧ Below w.heap.size w wr) (fun _ i _ => 6 - (intOf i).toNat)
    case atStart => exact ⟨1, x, by omega, rfl, rfl, (maxTo_one HX.out).symm, b1⟩
    case round =>
      obtain ⟨m, y, hm, rfl, rfl, hy, hb⟩ := hrel
      by_cases hlt : m < 6
      · obtain ⟨g2, off2, e, hA, _, hg, he, p1⟩ := H.out.int hlt
        injection hA with hA
        injection hA with hA hB
        subst hA
        subst hB
        have hg1 := Nat.lt_of_lt_of_le hg (Nat.min_le_right _ _)
        have r0 := (hb.cell (p := ⟨g, off + m, none⟩) hg1).trans p1
        have HE := Lib.hid he
        clear he p1
        go_wp2_with fail
        (with_reducible refine (l1Max_any _ _ _).mono ?_); rintro _ _ ⟨rfl, rfl⟩
        go_wp2_with fail
        go_roundw
        case rel => exact ⟨m + 1, _, hlt, by go_num, rfl, by rw [maxTo_succ HE.out, ← hy.out]; exact (rfl : _ = _), hb⟩
        case measure => simp [intOf]; omega
      · have hmn : m = 6 := by omega
        subst hmn
        go_wp2
        go_ret
        exact ⟨by rw [← hy.out]; rfl, hb⟩
set_option maxHeartbeats 800000 in
theorem latest_any (A : Option Addr) (n c lo hi : Nat) (zs : List Int) (w : World) (h : Sl w lo hi 1 A n c zs) :
    Calls Try.prog 16 #[.slice A n c] w fun e w' => e = .returned (.int .i64 (latest zs)) ∧ Below w.heap.size w w' := by
  have hl : zs.length = n := by have := h.len; omega
  have hn9 : n ≤ 9223372036854775807 := Nat.le_trans h.cap h.big
  replace h := h.fit (by omega)
  have hhi : min hi w.heap.size ≤ w.heap.size := Nat.min_le_right _ _
  generalize min hi w.heap.size = hi at h hhi
  cases hok : clocksOk zs with
  | false =>
    have e : latest zs = 0 := by simp [latest, hok]
    rw [e]
    clear e
    have CO : ∀ W, Sl W lo hi 1 A n c zs → Calls Try.prog 47 #[.slice A n c] W fun x w' => x = .returned (.bool false) ∧ Below W.heap.size W w' := fun W s => by
      have h7 := clocksOk_any A n c lo hi zs W s
      rw [hok] at h7
      exact h7
    have HO := Lib.hid CO
    clear CO
    go_enter Try.func16, Try.ntmps16
    go_wp2_with fail
    (with_reducible refine (HO.out _ (h.below (B := w.heap.size) (by (repeat' (first | with_reducible exact Below.refl _ _ | with_reducible assumption | with_reducible refine Below.drew ?_ | with_reducible refine Below.alloc ?_ ?_ _ | with_reducible refine Below.setCell ?_ ?_ _ | with_reducible refine Below.trans ?_ (Below.mono (by assumption) ?_) | ((try simp only [World.heap_size_alloc, World.heap_size_drew, World.heap_size_setCell]); omega)))) hhi)).mono ?_); rintro _ w1 ⟨rfl, b1⟩
    have y1 := b1.size
    go_wp2_with fail
    go_ret
    exact ⟨rfl, b1⟩
  | true =>
    have h6 : n = 6 := by rw [← hl]; exact clocksOk_six hok
    subst h6
    have e : latest zs = maxTo zs 6 := by simp [latest, hok]
    rw [e]
    clear e
    have CO : ∀ W, Sl W lo hi 1 A 6 c zs → Calls Try.prog 47 #[.slice A 6 c] W fun x w' => x = .returned (.bool true) ∧ Below W.heap.size W w' := fun W s => by
      have h7 := clocksOk_any A 6 c lo hi zs W s
      rw [hok] at h7
      exact h7
    have HO := Lib.hid CO
    clear CO
    go_enter Try.func16, Try.ntmps16
    go_wp2_with fail
    (with_reducible refine (HO.out _ (h.below (B := w.heap.size) (by (repeat' (first | with_reducible exact Below.refl _ _ | with_reducible assumption | with_reducible refine Below.drew ?_ | with_reducible refine Below.alloc ?_ ?_ _ | with_reducible refine Below.setCell ?_ ?_ _ | with_reducible refine Below.trans ?_ (Below.mono (by assumption) ?_) | ((try simp only [World.heap_size_alloc, World.heap_size_drew, World.heap_size_setCell]); omega)))) hhi)).mono ?_); rintro _ w1 ⟨rfl, b1⟩
    have y1 := b1.size
    have h1 := h.below b1 hhi
    go_wp2_with fail
    (with_reducible refine (slicesMax_any _ _ _ _ _ _ h1).mono ?_); rintro _ w2 ⟨rfl, b2⟩
    have y2 := b2.size
    go_wp2_with fail
    go_ret
    exact ⟨rfl, by (repeat' (first | with_reducible exact Below.refl _ _ | with_reducible assumption | with_reducible refine Below.drew ?_ | with_reducible refine Below.alloc ?_ ?_ _ | with_reducible refine Below.setCell ?_ ?_ _ | with_reducible refine Below.trans ?_ (Below.mono (by assumption) ?_) | ((try simp only [World.heap_size_alloc, World.heap_size_drew, World.heap_size_setCell]); omega)))⟩
set_option maxHeartbeats 800000 in
theorem sApartIn_any (A : Option Addr) (n c lo hi : Nat) (zs : List Int) (w : World) (h : Sl w lo hi 1 A n c zs) :
    Calls Try.prog 24 #[.slice A n c] w fun e w' => e = .returned (.int .i64 (apartIn zs)) ∧ Below w.heap.size w w' := by
  have hl : zs.length = n := by have := h.len; omega
  have hn9 : n ≤ 9223372036854775807 := Nat.le_trans h.cap h.big
  replace h := h.fit (by omega)
  have hhi : min hi w.heap.size ≤ w.heap.size := Nat.min_le_right _ _
  generalize min hi w.heap.size = hi at h hhi
  cases hok : clocksOk zs with
  | false =>
    have e : apartIn zs = 0 := by simp [apartIn, hok]
    rw [e]
    clear e
    have CO : ∀ W, Sl W lo hi 1 A n c zs → Calls Try.prog 45 #[.slice A n c] W fun x w' => x = .returned (.bool false) ∧ Below W.heap.size W w' := fun W s => by
      have h7 := sClocksOk_any A n c lo hi zs W s
      rw [hok] at h7
      exact h7
    have HO := Lib.hid CO
    clear CO
    go_enter Try.func24, Try.ntmps24
    go_wp2_with fail
    (with_reducible refine (HO.out _ (h.below (B := w.heap.size) (by (repeat' (first | with_reducible exact Below.refl _ _ | with_reducible assumption | with_reducible refine Below.drew ?_ | with_reducible refine Below.alloc ?_ ?_ _ | with_reducible refine Below.setCell ?_ ?_ _ | with_reducible refine Below.trans ?_ (Below.mono (by assumption) ?_) | ((try simp only [World.heap_size_alloc, World.heap_size_drew, World.heap_size_setCell]); omega)))) hhi)).mono ?_); rintro _ w1 ⟨rfl, b1⟩
    have y1 := b1.size
    go_wp2_with fail
    go_ret
    exact ⟨rfl, b1⟩
  | true =>
    have h6 : n = 6 := by rw [← hl]; exact clocksOk_six hok
    subst h6
    have e : apartIn zs = maxTo zs 6 - minTo zs 6 := by simp [apartIn, hok]
    rw [e]
    clear e
    obtain ⟨mx0, mx1⟩ := maxTo_btw hok
    obtain ⟨mn0, mn1⟩ := minTo_btw hok
    have CO : ∀ W, Sl W lo hi 1 A 6 c zs → Calls Try.prog 45 #[.slice A 6 c] W fun x w' => x = .returned (.bool true) ∧ Below W.heap.size W w' := fun W s => by
      have h7 := sClocksOk_any A 6 c lo hi zs W s
      rw [hok] at h7
      exact h7
    have HO := Lib.hid CO
    clear CO
    have HL := fun W s => sLatest_any A 6 c lo hi zs W s
    rw [show latest zs = maxTo zs 6 by simp [latest, hok]] at HL
    have HLA := Lib.hid HL
    clear HL
    obtain ⟨g, off, x, rfl, _, hg, hx, p0⟩ := h.int (show 0 < 6 by omega)
    rw [Nat.add_zero] at p0
    have HX := Lib.hid hx
    clear hx
    go_enter Try.func24, Try.ntmps24
    go_wp2_with fail
    (with_reducible refine (HO.out _ (h.below (B := w.heap.size) (by (repeat' (first | with_reducible exact Below.refl _ _ | with_reducible assumption | with_reducible refine Below.drew ?_ | with_reducible refine Below.alloc ?_ ?_ _ | with_reducible refine Below.setCell ?_ ?_ _ | with_reducible refine Below.trans ?_ (Below.mono (by assumption) ?_) | ((try simp only [World.heap_size_alloc, World.heap_size_drew, World.heap_size_setCell]); omega)))) hhi)).mono ?_); rintro _ w1 ⟨rfl, b1⟩
    have y1 := b1.size
    have r0 := (b1.cell (p := ⟨g, off, none⟩) (show g < w.heap.size by omega)).trans p0
    have H : Hid (Sl w lo (min hi w.heap.size) 1 (some ⟨g, off, none⟩) 6 c zs) := h.fit (by omega)
    go_wp2_with fail
    go_loopw [3, 4] (fun v i wr => ∃ (m : Nat) (y : Int), m ≤ 6 ∧ i = .int .i64 m ∧ v = .int .i64 y ∧ Hid (y = minTo zs m) ∧ Below w.heap.size w wr) (fun _ i _ => 6 - (intOf i).toNat)
    case atStart => exact ⟨1, x, by omega, rfl, rfl, (minTo_one HX.out).symm, b1⟩
    case round =>
      obtain ⟨m, y, hm, rfl, rfl, hy, hb⟩ := hrel
      by_cases hlt : m < 6
      · obtain ⟨g2, off2, e, hA, _, hg, he, p1⟩ := H.out.int hlt
        injection hA with hA
        injection hA with hA hB
        subst hA
        subst hB
        have hg1 := Nat.lt_of_lt_of_le hg (Nat.min_le_right _ _)
        have r0 := (hb.cell (p := ⟨g, off + m, none⟩) hg1).trans p1
        have HE := Lib.hid he
        clear he p1
        go_wp2_with fail
        (with_reducible refine (l1Min_any _ _ _).mono ?_); rintro _ _ ⟨rfl, rfl⟩
        go_wp2_with fail
        go_roundw
        case rel => exact ⟨m + 1, _, hlt, by go_num, rfl, by rw [minTo_succ HE.out, ← hy.out]; exact (rfl : _ = _), hb⟩
        case measure => simp [intOf]; omega
      · have hmn : m = 6 := by omega
        subst hmn
        have yb := hb.size
        have hgo := Lib.hid (h.below (B := w.heap.size) hb hhi)
        go_wp2_with fail
        (with_reducible refine (HLA.out _ hgo.out).mono ?_); rintro _ w2 ⟨rfl, b2⟩
        have hyy := hy.out
        subst hyy
        go_wp2_with fail
        go_ret
        exact ⟨by simp, by (repeat' (first | with_reducible exact Below.refl _ _ | with_reducible assumption | with_reducible refine Below.drew ?_ | with_reducible refine Below.alloc ?_ ?_ _ | with_reducible refine Below.setCell ?_ ?_ _ | with_reducible refine Below.trans ?_ (Below.mono (by assumption) ?_) | ((try simp only [World.heap_size_alloc, World.heap_size_drew, World.heap_size_setCell]); omega)))⟩
set_option maxHeartbeats 800000 in
theorem apartIn_any (A : Option Addr) (n c lo hi : Nat) (zs : List Int) (w : World) (h : Sl w lo hi 1 A n c zs) :
    Calls Try.prog 25 #[.slice A n c] w fun e w' => e = .returned (.int .i64 (apartIn zs)) ∧ Below w.heap.size w w' := by
  have hl : zs.length = n := by have := h.len; omega
  have hn9 : n ≤ 9223372036854775807 := Nat.le_trans h.cap h.big
  replace h := h.fit (by omega)
  have hhi : min hi w.heap.size ≤ w.heap.size := Nat.min_le_right _ _
  generalize min hi w.heap.size = hi at h hhi
  cases hok : clocksOk zs with
  | false =>
    have e : apartIn zs = 0 := by simp [apartIn, hok]
    rw [e]
    clear e
    have CO : ∀ W, Sl W lo hi 1 A n c zs → Calls Try.prog 47 #[.slice A n c] W fun x w' => x = .returned (.bool false) ∧ Below W.heap.size W w' := fun W s => by
      have h7 := clocksOk_any A n c lo hi zs W s
      rw [hok] at h7
      exact h7
    have HO := Lib.hid CO
    clear CO
    go_enter Try.func25, Try.ntmps25
    go_wp2_with fail
    (with_reducible refine (HO.out _ (h.below (B := w.heap.size) (by (repeat' (first | with_reducible exact Below.refl _ _ | with_reducible assumption | with_reducible refine Below.drew ?_ | with_reducible refine Below.alloc ?_ ?_ _ | with_reducible refine Below.setCell ?_ ?_ _ | with_reducible refine Below.trans ?_ (Below.mono (by assumption) ?_) | ((try simp only [World.heap_size_alloc, World.heap_size_drew, World.heap_size_setCell]); omega)))) hhi)).mono ?_); rintro _ w1 ⟨rfl, b1⟩
    have y1 := b1.size
    go_wp2_with fail
    go_ret
    exact ⟨rfl, b1⟩
  | true =>
    have h6 : n = 6 := by rw [← hl]; exact clocksOk_six hok
    subst h6
    have e : apartIn zs = maxTo zs 6 - minTo zs 6 := by simp [apartIn, hok]
    rw [e]
    clear e
    obtain ⟨mx0, mx1⟩ := maxTo_btw hok
    obtain ⟨mn0, mn1⟩ := minTo_btw hok
    have CO : ∀ W, Sl W lo hi 1 A 6 c zs → Calls Try.prog 47 #[.slice A 6 c] W fun x w' => x = .returned (.bool true) ∧ Below W.heap.size W w' := fun W s => by
      have h7 := clocksOk_any A 6 c lo hi zs W s
      rw [hok] at h7
      exact h7
    have HO := Lib.hid CO
    clear CO
    go_enter Try.func25, Try.ntmps25
    go_wp2_with fail
    (with_reducible refine (HO.out _ (h.below (B := w.heap.size) (by (repeat' (first | with_reducible exact Below.refl _ _ | with_reducible assumption | with_reducible refine Below.drew ?_ | with_reducible refine Below.alloc ?_ ?_ _ | with_reducible refine Below.setCell ?_ ?_ _ | with_reducible refine Below.trans ?_ (Below.mono (by assumption) ?_) | ((try simp only [World.heap_size_alloc, World.heap_size_drew, World.heap_size_setCell]); omega)))) hhi)).mono ?_); rintro _ w1 ⟨rfl, b1⟩
    have y1 := b1.size
    have h1 := h.below b1 hhi
    go_wp2_with fail
    (with_reducible refine (slicesMax_any _ _ _ _ _ _ h1).mono ?_); rintro _ w2 ⟨rfl, b2⟩
    have y2 := b2.size
    go_wp2_with fail
    (with_reducible refine (slicesMin_any _ _ _ _ _ _ (h1.below b2 (by omega))).mono ?_); rintro _ w3 ⟨rfl, b3⟩
    have y3 := b3.size
    go_wp2_with fail
    go_ret
    exact ⟨rfl, by (repeat' (first | with_reducible exact Below.refl _ _ | with_reducible assumption | with_reducible refine Below.drew ?_ | with_reducible refine Below.alloc ?_ ?_ _ | with_reducible refine Below.setCell ?_ ?_ _ | with_reducible refine Below.trans ?_ (Below.mono (by assumption) ?_) | ((try simp only [World.heap_size_alloc, World.heap_size_drew, World.heap_size_setCell]); omega)))⟩

end Go.Proofs.Ytkianeknbfahgaa
