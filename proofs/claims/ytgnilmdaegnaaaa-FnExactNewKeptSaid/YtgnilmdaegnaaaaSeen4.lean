/- Marks: the reference's mark of a client, fresh requests, the greatest index. No conditions. -/
import Derived.Test.YtgnilmdaegnaaaaSeen3
set_option linter.unusedSimpArgs false
set_option linter.unusedVariables false
namespace Go.Proofs.Ytgnilmdaegnaaaa
open Go.RowKit

set_option maxRecDepth 100000 in
set_option maxHeartbeats 1000000 in
theorem sMarkOf_any (A : Option Addr) (n c lo hi : Nat) (l : List MarkD) (q : Int) (w : World) (h : Sl w lo hi 3 A n c (l.flatMap MarkD.ints)) :
    Calls Try.prog 93 #[.slice A n c, .int .i64 q] w (MarkVRes w (markOf l q)) := by
  have hn : n ≤ 9223372036854775807 := Nat.le_trans h.cap h.big
  have HL := Lib.hid (h.count MarkD.ints_len (by omega) : l.length = n)
  replace h := h.fit (by omega)
  have hhi : min hi w.heap.size ≤ w.heap.size := Nat.min_le_right _ _
  generalize min hi w.heap.size = hi at h hhi
  cases hok : seenOk l with
  | false =>
    have e : markOf l q = zeroMark := by simp [markOf, hok]
    rw [e]
    clear e
    have CO : ∀ W, Sl W lo hi 3 A n c (l.flatMap MarkD.ints) → Calls Try.prog 83 #[.slice A n c] W fun x w' => x = .returned (.bool false) ∧ Below W.heap.size W w' := fun W s => by
      have h7 := sSeenOk_any A n c lo hi l W s
      rw [hok] at h7
      exact h7
    have HO := Lib.hid CO
    clear CO hok
    go_enter Try.func93, Try.ntmps93
    go_wp2_with fail
    (with_reducible refine (HO.out _ (h.below (B := w.heap.size) (by (repeat' (first | with_reducible exact Below.refl _ _ | with_reducible assumption | with_reducible refine Below.drew ?_ | with_reducible refine Below.alloc ?_ ?_ _ | with_reducible refine Below.setCell ?_ ?_ _ | with_reducible refine Below.trans ?_ (Below.mono (by assumption) ?_) | ((try simp only [World.heap_size_alloc, World.heap_size_drew, World.heap_size_setCell]); omega)))) hhi)).mono ?_); rintro _ w1 ⟨rfl, b1⟩
    obtain ⟨b1_c, b1_f⟩ := bcell b1
    have y1 := b1.size
    simp only [World.heap_size_alloc] at y1
    have y2 : w.heap.size < w1.heap.size := by omega
    go_wp2_with fail
    refine bodyPost_ret (v := .agg #[.int .i64 0, .int .i64 0, .int .i64 0]) (by simp [results, Try.results93, go_sem, b1_c, b1_f, y2]) rfl ⟨rfl, ?_⟩
    clear b1_c b1_f
    (repeat' (first | with_reducible exact Below.refl _ _ | with_reducible assumption | with_reducible refine Below.drew ?_ | with_reducible refine Below.alloc ?_ ?_ _ | with_reducible refine Below.setCell ?_ ?_ _ | with_reducible refine Below.trans ?_ (Below.mono (by assumption) ?_) | ((try simp only [World.heap_size_alloc, World.heap_size_drew, World.heap_size_setCell]); omega)))
  | true =>
    have e : markOf l q = markAt l q := by simp [markOf, hok]
    rw [e]
    clear e
    have hn4 : n ≤ 4 := by rw [← HL.out]; exact seenOk_len hok
    have CO : ∀ W, Sl W lo hi 3 A n c (l.flatMap MarkD.ints) → Calls Try.prog 83 #[.slice A n c] W fun x w' => x = .returned (.bool true) ∧ Below W.heap.size W w' := fun W s => by
      have h7 := sSeenOk_any A n c lo hi l W s
      rw [hok] at h7
      exact h7
    have HO := Lib.hid CO
    have H := Lib.hid h
    clear CO hok
    go_enter Try.func93, Try.ntmps93
    go_wp2_with fail
    (with_reducible refine (HO.out _ (h.below (B := w.heap.size) (by (repeat' (first | with_reducible exact Below.refl _ _ | with_reducible assumption | with_reducible refine Below.drew ?_ | with_reducible refine Below.alloc ?_ ?_ _ | with_reducible refine Below.setCell ?_ ?_ _ | with_reducible refine Below.trans ?_ (Below.mono (by assumption) ?_) | ((try simp only [World.heap_size_alloc, World.heap_size_drew, World.heap_size_setCell]); omega)))) hhi)).mono ?_); rintro _ w1 ⟨rfl, b1⟩
    have y1 := b1.size
    simp only [World.heap_size_alloc] at y1
    have hb1 : Below (w.heap.size + 1) (w.alloc (.cells #[.int .i64 0, .int .i64 0, .int .i64 0] 117)) w1 := by
      have h9 := b1
      rw [World.heap_size_alloc] at h9
      exact h9
    have HB1 := Lib.hid hb1
    clear hb1 b1 h
    go_wp2_with fail
    go_loop [5] (fun i => ∃ m : Nat, m ≤ n ∧ i = .int .i64 m ∧ Hid (∀ (j : Nat) (y : MarkD), j < m → l[j]? = some y → (y.client == q) = false)) (fun i => n - (intOf i).toNat)
    case atStart => exact ⟨0, Nat.zero_le _, rfl, fun j y hj => absurd hj (by omega)⟩
    case round =>
      obtain ⟨m, hm, rfl, hp⟩ := hrel
      have hb0 := HB1.out
      have hb : Below w.heap.size w w1 := ((Below.refl w.heap.size w).alloc (Nat.le_refl _) _).trans (hb0.mono (by omega))
      have k0 : w1.cell? ⟨w.heap.size, 0, none⟩ = some (.int .i64 0) := by rw [hb0.cell (p := ⟨w.heap.size, 0, none⟩) (show w.heap.size < w.heap.size + 1 by omega)]; simp
      have k1 : w1.cell? ⟨w.heap.size, 1, none⟩ = some (.int .i64 0) := by rw [hb0.cell (p := ⟨w.heap.size, 1, none⟩) (show w.heap.size < w.heap.size + 1 by omega)]; simp
      have k2 : w1.cell? ⟨w.heap.size, 2, none⟩ = some (.int .i64 0) := by rw [hb0.cell (p := ⟨w.heap.size, 2, none⟩) (show w.heap.size < w.heap.size + 1 by omega)]; simp
      have f0 : w1.frozen? ⟨w.heap.size, 0, none⟩ = false := by rw [hb0.frozen (p := ⟨w.heap.size, 0, none⟩) (show w.heap.size < w.heap.size + 1 by omega)]; simp
      have f1 : w1.frozen? ⟨w.heap.size, 1, none⟩ = false := by rw [hb0.frozen (p := ⟨w.heap.size, 1, none⟩) (show w.heap.size < w.heap.size + 1 by omega)]; simp
      have f2 : w1.frozen? ⟨w.heap.size, 2, none⟩ = false := by rw [hb0.frozen (p := ⟨w.heap.size, 2, none⟩) (show w.heap.size < w.heap.size + 1 by omega)]; simp
      by_cases hlt : m < n
      · obtain ⟨g, off, e, rfl, _, hg, he, p0, p1, p2⟩ := H.out.mark hlt
        have hg1 : g < w.heap.size := by omega
        have HE := Lib.hid he
        have r0 := (hb.cell (p := ⟨g, off + m * 3, none⟩) hg1).trans p0
        have r1 := (hb.cell (p := ⟨g, off + m * 3 + 1, none⟩) hg1).trans p1
        have r2 := (hb.cell (p := ⟨g, off + m * 3 + 2, none⟩) hg1).trans p2
        have HB := Lib.hid hb
        clear he p0 p1 p2 hb hb0
        by_cases hq : e.client = q
        · have hq1 : (e.client == q) = true := by simpa using hq
          have HQ := Lib.hid hq
          clear hq
          go_wp2
          refine bodyPost_ret (v := .agg #[.int .i64 e.client, .int .i64 e.seq, .int .i64 e.index]) (by simp [results, Try.results93, go_sem, k0, k1, k2]) rfl ⟨?_, ?_⟩
          · rw [markAt_hit HE.out HQ.out hp.out]
          · have hb := HB.out
            (repeat' (first | with_reducible exact Below.refl _ _ | with_reducible assumption | with_reducible refine Below.drew ?_ | with_reducible refine Below.alloc ?_ ?_ _ | with_reducible refine Below.setCell ?_ ?_ _ | with_reducible refine Below.trans ?_ (Below.mono (by assumption) ?_) | ((try simp only [World.heap_size_alloc, World.heap_size_drew, World.heap_size_setCell]); omega)))
        · have hq1 : (e.client == q) = false := by simpa using hq
          have HQ := Lib.hid hq1
          clear hq
          go_wp2
          go_round
          case rel => exact ⟨m + 1, hlt, by go_num, fun j y hj hy => by
            rcases Nat.lt_succ_iff_lt_or_eq.1 hj with h5 | rfl
            · exact hp.out j y h5 hy
            · rw [HE.out] at hy; injection hy with hy; subst hy; exact HQ.out⟩
          case measure => simp [intOf]; omega
      · have HB := Lib.hid hb
        clear hb hb0
        go_wp2
        refine bodyPost_ret (v := .agg #[.int .i64 0, .int .i64 0, .int .i64 0]) (by simp [results, Try.results93, go_sem, k0, k1, k2]) rfl ⟨?_, ?_⟩
        · rw [markAt_miss (fun j y hj hy => hp.out j y (by rw [HL.out] at hj; omega) hy)]
          rfl
        · have hb := HB.out
          (repeat' (first | with_reducible exact Below.refl _ _ | with_reducible assumption | with_reducible refine Below.drew ?_ | with_reducible refine Below.alloc ?_ ?_ _ | with_reducible refine Below.setCell ?_ ?_ _ | with_reducible refine Below.trans ?_ (Below.mono (by assumption) ?_) | ((try simp only [World.heap_size_alloc, World.heap_size_drew, World.heap_size_setCell]); omega)))
set_option maxRecDepth 100000 in
set_option maxHeartbeats 1000000 in
theorem lastIdx_any (A : Option Addr) (n c lo hi : Nat) (l : List MarkD) (w : World) (h : Sl w lo hi 3 A n c (l.flatMap MarkD.ints)) :
    Calls Try.prog 89 #[.slice A n c] w fun e w' => e = .returned (.int .i64 (lastIdx l)) ∧ Below w.heap.size w w' := by
  have hn : n ≤ 9223372036854775807 := Nat.le_trans h.cap h.big
  have HL := Lib.hid (h.count MarkD.ints_len (by omega) : l.length = n)
  have H := Lib.hid (h.fit (by omega))
  clear h
  go_enter Try.func89, Try.ntmps89
  go_wp2
  go_loopw [3, 5, 8] (fun v _ i wr => ∃ (m : Nat) (x : Int), m ≤ n ∧ i = .int .i64 m ∧ v = .int .i64 x ∧ Below w.heap.size w wr ∧ Hid (x = lastIdx (l.take m))) (fun _ _ i _ => n - (intOf i).toNat)
  case atStart => exact ⟨0, 0, Nat.zero_le _, rfl, rfl, Below.refl _ _, rfl⟩
  case round =>
    obtain ⟨m, x, hm, rfl, rfl, hb, hp⟩ := hrel
    have hbz := hb.size
    by_cases hlt : m < n
    · obtain ⟨g, off, e, rfl, _, hg, he, p0, p1, p2⟩ := H.out.mark hlt
      have hg1 := Nat.lt_of_lt_of_le hg (Nat.min_le_right _ _)
      have HE := Lib.hid he
      have r0 := (hb.cell (p := ⟨g, off + m * 3, none⟩) hg1).trans p0
      have r1 := (hb.cell (p := ⟨g, off + m * 3 + 1, none⟩) hg1).trans p1
      have r2 := (hb.cell (p := ⟨g, off + m * 3 + 2, none⟩) hg1).trans p2
      have hgw : g < wr.heap.size := Nat.lt_of_lt_of_le hg1 hb.size
      clear he p0 p1 p2
      go_wp2
      go_roundw
      case rel => exact ⟨m + 1, _, hlt, by go_num, rfl, by (repeat' (first | with_reducible exact Below.refl _ _ | with_reducible assumption | with_reducible refine Below.drew ?_ | with_reducible refine Below.alloc ?_ ?_ _ | with_reducible refine Below.setCell ?_ ?_ _ | with_reducible refine Below.trans ?_ (Below.mono (by assumption) ?_) | ((try simp only [World.heap_size_alloc, World.heap_size_drew, World.heap_size_setCell]); omega))), by show _ = lastIdx (l.take (m + 1)); rw [lastIdx_take HE.out, ← hp.out]; first | rfl | (rw [Int.max_def]; split <;> (first | rfl | omega | (split <;> (first | rfl | omega))))⟩
      case measure => simp [intOf]; omega
    · go_wp2
      go_ret
      exact ⟨by rw [hp.out, List.take_of_length_le (by rw [HL.out]; omega)]; rfl, hb⟩

set_option maxRecDepth 100000 in
set_option maxHeartbeats 400000 in
theorem l1Max_any (a b : Int) (w : World) : Calls Try.prog 133 #[.int .i64 a, .int .i64 b] w fun e w' => e = .returned (.int .i64 (max a b)) ∧ w = w' := by
  by_cases h : b < a
  · go_enter Try.func133, Try.ntmps133
    go_wp2
    go_ret
    exact ⟨by rw [Int.max_eq_left (by omega)]; rfl, rfl⟩
  · go_enter Try.func133, Try.ntmps133
    go_wp2
    go_ret
    exact ⟨by rw [Int.max_eq_right (by omega)]; rfl, rfl⟩
set_option maxRecDepth 100000 in
set_option maxHeartbeats 1000000 in
theorem sLastSeen_any (A : Option Addr) (n c lo hi : Nat) (l : List MarkD) (w : World) (h : Sl w lo hi 3 A n c (l.flatMap MarkD.ints)) :
    Calls Try.prog 84 #[.slice A n c] w fun e w' => e = .returned (.int .i64 (lastSeen l)) ∧ Below w.heap.size w w' := by
  have hn : n ≤ 9223372036854775807 := Nat.le_trans h.cap h.big
  have HL := Lib.hid (h.count MarkD.ints_len (by omega) : l.length = n)
  replace h := h.fit (by omega)
  have hhi : min hi w.heap.size ≤ w.heap.size := Nat.min_le_right _ _
  generalize min hi w.heap.size = hi at h hhi
  cases hok : seenOk l with
  | false =>
    have e : lastSeen l = 0 := by simp [lastSeen, hok]
    rw [e]
    clear e
    have CO : ∀ W, Sl W lo hi 3 A n c (l.flatMap MarkD.ints) → Calls Try.prog 83 #[.slice A n c] W fun x w' => x = .returned (.bool false) ∧ Below W.heap.size W w' := fun W s => by
      have h7 := sSeenOk_any A n c lo hi l W s
      rw [hok] at h7
      exact h7
    have HO := Lib.hid CO
    clear CO
    clear hok
    go_enter Try.func84, Try.ntmps84
    go_wp2_with fail
    (with_reducible refine (HO.out _ (h.below (B := w.heap.size) (by (repeat' (first | with_reducible exact Below.refl _ _ | with_reducible assumption | with_reducible refine Below.drew ?_ | with_reducible refine Below.alloc ?_ ?_ _ | with_reducible refine Below.setCell ?_ ?_ _ | with_reducible refine Below.trans ?_ (Below.mono (by assumption) ?_) | ((try simp only [World.heap_size_alloc, World.heap_size_drew, World.heap_size_setCell]); omega)))) hhi)).mono ?_); rintro _ w1 ⟨rfl, b1⟩
    go_wp2_with fail
    go_ret
    exact ⟨rfl, by (repeat' (first | with_reducible exact Below.refl _ _ | with_reducible assumption | with_reducible refine Below.drew ?_ | with_reducible refine Below.alloc ?_ ?_ _ | with_reducible refine Below.setCell ?_ ?_ _ | with_reducible refine Below.trans ?_ (Below.mono (by assumption) ?_) | ((try simp only [World.heap_size_alloc, World.heap_size_drew, World.heap_size_setCell]); omega)))⟩
  | true =>
    have e : lastSeen l = lastIdx l := by simp [lastSeen, hok]
    rw [e]
    clear e
    have CO : ∀ W, Sl W lo hi 3 A n c (l.flatMap MarkD.ints) → Calls Try.prog 83 #[.slice A n c] W fun x w' => x = .returned (.bool true) ∧ Below W.heap.size W w' := fun W s => by
      have h7 := sSeenOk_any A n c lo hi l W s
      rw [hok] at h7
      exact h7
    have HO := Lib.hid CO
    clear CO
    have H := Lib.hid h
    clear hok
    go_enter Try.func84, Try.ntmps84
    go_wp2_with fail
    (with_reducible refine (HO.out _ (h.below (B := w.heap.size) (by (repeat' (first | with_reducible exact Below.refl _ _ | with_reducible assumption | with_reducible refine Below.drew ?_ | with_reducible refine Below.alloc ?_ ?_ _ | with_reducible refine Below.setCell ?_ ?_ _ | with_reducible refine Below.trans ?_ (Below.mono (by assumption) ?_) | ((try simp only [World.heap_size_alloc, World.heap_size_drew, World.heap_size_setCell]); omega)))) hhi)).mono ?_); rintro _ w1 ⟨rfl, b1⟩
    have hw1 : Below w.heap.size w w1 := by (repeat' (first | with_reducible exact Below.refl _ _ | with_reducible assumption | with_reducible refine Below.drew ?_ | with_reducible refine Below.alloc ?_ ?_ _ | with_reducible refine Below.setCell ?_ ?_ _ | with_reducible refine Below.trans ?_ (Below.mono (by assumption) ?_) | ((try simp only [World.heap_size_alloc, World.heap_size_drew, World.heap_size_setCell]); omega)))
    clear h
    go_wp2_with fail
    go_loop [3, 4] (fun v i => ∃ (m : Nat) (x : Int), m ≤ n ∧ i = .int .i64 m ∧ v = .int .i64 x ∧ Hid (x = lastIdx (l.take m))) (fun _ i => n - (intOf i).toNat)
    case atStart => exact ⟨0, 0, Nat.zero_le _, rfl, rfl, rfl⟩
    case round =>
      obtain ⟨m, x, hm, rfl, rfl, hp⟩ := hrel
      by_cases hlt : m < n
      · obtain ⟨g, off, e, rfl, _, hg, he, p0, p1, p2⟩ := H.out.mark hlt
        have hg1 : g < w.heap.size := by omega
        have HE := Lib.hid he
        have r2 := (hw1.cell (p := ⟨g, off + m * 3 + 2, none⟩) hg1).trans p2
        clear he p0 p1 p2
        go_wp2_with (go_at_call 133; refine (l1Max_any _ _ _).mono ?_; rintro e2 w2 ⟨rfl, rfl⟩)
        go_round
        case rel => exact ⟨m + 1, _, hlt, by go_num, rfl, by show _ = lastIdx (l.take (m + 1)); rw [lastIdx_take HE.out, ← hp.out]⟩
        case measure => simp [intOf]; omega
      · go_wp2
        go_ret
        exact ⟨by rw [hp.out, List.take_of_length_le (by rw [HL.out]; omega)]; rfl, hw1⟩
set_option maxRecDepth 100000 in
set_option maxHeartbeats 1000000 in
theorem sFreshIn_any (A : Option Addr) (n c lo hi : Nat) (l : List MarkD) (q s : Int) (w : World) (h : Sl w lo hi 3 A n c (l.flatMap MarkD.ints)) :
    Calls Try.prog 177 #[.slice A n c, .int .i64 q, .int .i64 s] w (BoolRes w (freshIn l q s)) := by
  replace h := h.fit (by omega)
  have hhi : min hi w.heap.size ≤ w.heap.size := Nat.min_le_right _ _
  generalize min hi w.heap.size = hi at h hhi
  cases hok : seenOk l with
  | false =>
    have e : freshIn l q s = false := by simp [freshIn, hok]
    rw [e]
    clear e
    have CO : ∀ W, Sl W lo hi 3 A n c (l.flatMap MarkD.ints) → Calls Try.prog 83 #[.slice A n c] W fun x w' => x = .returned (.bool false) ∧ Below W.heap.size W w' := fun W s => by
      have h7 := sSeenOk_any A n c lo hi l W s
      rw [hok] at h7
      exact h7
    have HO := Lib.hid CO
    clear CO
    clear hok
    go_enter Try.func177, Try.ntmps177
    go_wp2_with fail
    (with_reducible refine (HO.out _ (h.below (B := w.heap.size) (by (repeat' (first | with_reducible exact Below.refl _ _ | with_reducible assumption | with_reducible refine Below.drew ?_ | with_reducible refine Below.alloc ?_ ?_ _ | with_reducible refine Below.setCell ?_ ?_ _ | with_reducible refine Below.trans ?_ (Below.mono (by assumption) ?_) | ((try simp only [World.heap_size_alloc, World.heap_size_drew, World.heap_size_setCell]); omega)))) hhi)).mono ?_); rintro _ w1 ⟨rfl, b1⟩
    go_wp2_with fail
    go_ret
    exact ⟨rfl, by (repeat' (first | with_reducible exact Below.refl _ _ | with_reducible assumption | with_reducible refine Below.drew ?_ | with_reducible refine Below.alloc ?_ ?_ _ | with_reducible refine Below.setCell ?_ ?_ _ | with_reducible refine Below.trans ?_ (Below.mono (by assumption) ?_) | ((try simp only [World.heap_size_alloc, World.heap_size_drew, World.heap_size_setCell]); omega)))⟩
  | true =>
    have CO : ∀ W, Sl W lo hi 3 A n c (l.flatMap MarkD.ints) → Calls Try.prog 83 #[.slice A n c] W fun x w' => x = .returned (.bool true) ∧ Below W.heap.size W w' := fun W s => by
      have h7 := sSeenOk_any A n c lo hi l W s
      rw [hok] at h7
      exact h7
    have HO := Lib.hid CO
    clear CO
    cases hA : btw q 2 5 with
    | false =>
      have e : freshIn l q s = false := by simp [freshIn, hok, hA]
      rw [e]
      clear e hok
      go_enter Try.func177, Try.ntmps177
      go_wp2_with fail
      (with_reducible refine (HO.out _ (h.below (B := w.heap.size) (by (repeat' (first | with_reducible exact Below.refl _ _ | with_reducible assumption | with_reducible refine Below.drew ?_ | with_reducible refine Below.alloc ?_ ?_ _ | with_reducible refine Below.setCell ?_ ?_ _ | with_reducible refine Below.trans ?_ (Below.mono (by assumption) ?_) | ((try simp only [World.heap_size_alloc, World.heap_size_drew, World.heap_size_setCell]); omega)))) hhi)).mono ?_); rintro _ w1 ⟨rfl, b1⟩
      go_wp2_with (first | (go_at_call 123; refine (sAskerOk_any _ _).mono ?_; rintro e2 w2 ⟨rfl, rfl⟩) | (go_at_call 124; refine (l7Seq_any _ _).mono ?_; rintro e2 w2 ⟨rfl, rfl⟩))
      go_ret
      exact ⟨rfl, by (repeat' (first | with_reducible exact Below.refl _ _ | with_reducible assumption | with_reducible refine Below.drew ?_ | with_reducible refine Below.alloc ?_ ?_ _ | with_reducible refine Below.setCell ?_ ?_ _ | with_reducible refine Below.trans ?_ (Below.mono (by assumption) ?_) | ((try simp only [World.heap_size_alloc, World.heap_size_drew, World.heap_size_setCell]); omega)))⟩
    | true =>
      cases hS : btw s 1 2000 with
      | false =>
        have e : freshIn l q s = false := by simp [freshIn, hok, hA, hS]
        rw [e]
        clear e hok
        go_enter Try.func177, Try.ntmps177
        go_wp2_with fail
        (with_reducible refine (HO.out _ (h.below (B := w.heap.size) (by (repeat' (first | with_reducible exact Below.refl _ _ | with_reducible assumption | with_reducible refine Below.drew ?_ | with_reducible refine Below.alloc ?_ ?_ _ | with_reducible refine Below.setCell ?_ ?_ _ | with_reducible refine Below.trans ?_ (Below.mono (by assumption) ?_) | ((try simp only [World.heap_size_alloc, World.heap_size_drew, World.heap_size_setCell]); omega)))) hhi)).mono ?_); rintro _ w1 ⟨rfl, b1⟩
        go_wp2_with (first | (go_at_call 123; refine (sAskerOk_any _ _).mono ?_; rintro e2 w2 ⟨rfl, rfl⟩) | (go_at_call 124; refine (l7Seq_any _ _).mono ?_; rintro e2 w2 ⟨rfl, rfl⟩))
        go_ret
        exact ⟨rfl, by (repeat' (first | with_reducible exact Below.refl _ _ | with_reducible assumption | with_reducible refine Below.drew ?_ | with_reducible refine Below.alloc ?_ ?_ _ | with_reducible refine Below.setCell ?_ ?_ _ | with_reducible refine Below.trans ?_ (Below.mono (by assumption) ?_) | ((try simp only [World.heap_size_alloc, World.heap_size_drew, World.heap_size_setCell]); omega)))⟩
      | true =>
        have e : freshIn l q s = decide ((markAt l q).seq < s) := by simp [freshIn, hok, hA, hS, markOf]
        have CM : ∀ W, Sl W lo hi 3 A n c (l.flatMap MarkD.ints) → Calls Try.prog 93 #[.slice A n c, .int .i64 q] W (MarkVRes W (markAt l q)) := fun W s => by
          have h7 := sMarkOf_any A n c lo hi l q W s
          rw [show markOf l q = markAt l q by simp [markOf, hok]] at h7
          exact h7
        have HM := Lib.hid CM
        rw [e]
        generalize markAt l q = mk at HM CM
        clear e hok CM
        have hfd : ∀ W : World, (Instr.field 117 (.agg #[.int .i64 mk.client, .int .i64 mk.seq, .int .i64 mk.index]) 1).run Try.prog W = .ok (.int .i64 mk.seq) W := fun _ => by kernel_rfl
        go_enter Try.func177, Try.ntmps177
        go_wp2_with fail
        (with_reducible refine (HO.out _ (h.below (B := w.heap.size) (by (repeat' (first | with_reducible exact Below.refl _ _ | with_reducible assumption | with_reducible refine Below.drew ?_ | with_reducible refine Below.alloc ?_ ?_ _ | with_reducible refine Below.setCell ?_ ?_ _ | with_reducible refine Below.trans ?_ (Below.mono (by assumption) ?_) | ((try simp only [World.heap_size_alloc, World.heap_size_drew, World.heap_size_setCell]); omega)))) hhi)).mono ?_); rintro _ w1 ⟨rfl, b1⟩
        have hw1 : Below w.heap.size w w1 := by (repeat' (first | with_reducible exact Below.refl _ _ | with_reducible assumption | with_reducible refine Below.drew ?_ | with_reducible refine Below.alloc ?_ ?_ _ | with_reducible refine Below.setCell ?_ ?_ _ | with_reducible refine Below.trans ?_ (Below.mono (by assumption) ?_) | ((try simp only [World.heap_size_alloc, World.heap_size_drew, World.heap_size_setCell]); omega)))
        go_wp2_with (first | (go_at_call 123; refine (sAskerOk_any _ _).mono ?_; rintro e2 w2 ⟨rfl, rfl⟩) | (go_at_call 124; refine (l7Seq_any _ _).mono ?_; rintro e2 w2 ⟨rfl, rfl⟩))
        (with_reducible refine (HM.out _ (h.below hw1 hhi)).mono ?_); rintro _ w2 ⟨rfl, b2⟩
        go_wp2_with fail
        go_ret
        have y1 := b1.size
        exact ⟨rfl, by (repeat' (first | with_reducible exact Below.refl _ _ | with_reducible assumption | with_reducible refine Below.drew ?_ | with_reducible refine Below.alloc ?_ ?_ _ | with_reducible refine Below.setCell ?_ ?_ _ | with_reducible refine Below.trans ?_ (Below.mono (by assumption) ?_) | ((try simp only [World.heap_size_alloc, World.heap_size_drew, World.heap_size_setCell]); omega)))⟩

end Go.Proofs.Ytgnilmdaegnaaaa
