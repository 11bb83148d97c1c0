/- Parts of slices of entries, compared: for the law of a book's parts. No conditions. -/
import Derived.Test.YtijefbmnhcecmaaBookG
import Derived.Test.YtijefbmnhcecmaaCut
import Derived.Test.YtijefbmnhcecmaaPart1
import Derived.Lib.QuietBelow
import Derived.BigQuiet
set_option linter.unusedSimpArgs false
set_option linter.unusedVariables false
namespace Go.Proofs.Ytijefbmnhcecmaa
open Go.RowKit

theorem filter_index {l : List EntryD} (h : bookOk 0 0 l = true) {k : Nat} : l.filter (fromP ((k : Int) + 1)) = l.drop k := by
  have hi : ∀ (j : Nat) (x : EntryD), l[j]? = some x → x.index = (j : Int) + 1 := fun j x hx => by have := book_index h j x hx; omega
  have e : l.filter (fromP ((k : Int) + 1)) = (l.take k).filter (fromP ((k : Int) + 1)) ++ (l.drop k).filter (fromP ((k : Int) + 1)) := by rw [← List.filter_append, List.take_append_drop]
  have h1 : (l.take k).filter (fromP ((k : Int) + 1)) = [] := by
    rw [List.filter_eq_nil_iff]
    intro x hx
    obtain ⟨j, hj, rfl⟩ := List.getElem_of_mem hx
    rw [List.length_take] at hj
    have := hi j _ (List.getElem?_eq_getElem (show j < l.length by omega))
    simp only [List.getElem_take, fromP, decide_eq_true_eq]
    omega
  have h2 : (l.drop k).filter (fromP ((k : Int) + 1)) = l.drop k := by
    rw [List.filter_eq_self]
    intro x hx
    obtain ⟨j, hj, rfl⟩ := List.getElem_of_mem hx
    rw [List.length_drop] at hj
    have := hi (k + j) _ (List.getElem?_eq_getElem (show k + j < l.length by omega))
    simp only [List.getElem_drop, fromP, decide_eq_true_eq]
    omega
  rw [e, h1, h2, List.nil_append]
theorem partOf_book {l : List EntryD} (h : bookOk 0 0 l = true) {k s to : Nat} (hk : k ≤ l.length) (ht : to = min (k + s) l.length) : partOfM 0 0 l ((k : Int) + 1) (s : Int) = (l.drop k).take (to - k) := by
  unfold partOfM
  rw [if_pos h, filter_index h, Int.toNat_natCast]
  by_cases hs : k + s ≤ l.length
  · rw [show to - k = s by omega]
  · rw [List.take_of_length_le (by rw [List.length_drop]; omega), List.take_of_length_le (by rw [List.length_drop]; omega)]
theorem run_mid (A : Option Addr) (n c j k : Nat) (hj : j ≤ k) (hk : k ≤ c) (W : World) : (Instr.sliceAt 27 (.slice A n c) (some (.int .i64 (j : Int))) (some (.int .i64 (k : Int))) none).run Try.prog W = .ok (.slice (if c = j then A else A.map (·.add (j * 9))) (k - j) (c - j)) W := by
  have h2 : (k : Int) ≤ (c : Int) := by omega
  have h3 : (j : Int) ≤ (k : Int) := by omega
  obtain ⟨i, h1, _, h4, _⟩ := info_parts infoEntry
  simp [Instr.sliceAt, Instr.slice, run_underlying Try.underlying27, Instr.sliceBounds, run_sliceBound, sizeOf, typeInfo, h1, h2, h3, h4, hj, hk]
theorem mid_at (A : Option Addr) (n c j k : Nat) (hj : j ≤ k) (hk : k ≤ n) (hc : n ≤ c) : ∃ B, (∀ W, (Instr.sliceAt 27 (.slice A n c) (some (.int .i64 (j : Int))) (some (.int .i64 (k : Int))) none).run Try.prog W = .ok (.slice B (k - j) (c - j)) W) ∧
    ∀ (W : World) (lo hi : Nat) (l : List EntryD), Sl W lo hi 9 A n c (l.flatMap EntryD.ints) → Sl W lo hi 9 B (k - j) (c - j) (((l.drop j).take (k - j)).flatMap EntryD.ints) :=
  ⟨_, fun W => run_mid A n c j k hj (by omega) W, fun _ _ _ _ h => (h.cutTail EntryD.ints_len (show j ≤ n by omega)).cutFront EntryD.ints_len (by omega)⟩

set_option maxRecDepth 100000 in
set_option maxHeartbeats 2000000 in
theorem w9Same_any (A B : Option Addr) (n c d lo hi lo' hi' : Nat) (l : List EntryD) (w : World) (h : Sl w lo hi 9 A n c (l.flatMap EntryD.ints)) (k : Sl w lo' hi' 9 B n d (l.flatMap EntryD.ints)) :
    Calls Try.prog 53 #[.slice A n c, .slice B n d] w fun e w' => e = .returned (.bool true) ∧ Below w.heap.size w w' := by
  have hn : n ≤ 9223372036854775807 := Nat.le_trans h.cap h.big
  have H := Lib.hid (h.fit (by omega))
  have K := Lib.hid (k.fit (by omega))
  clear h k
  go_enter Try.func53, Try.ntmps53
  go_wp2
  go_loopw [5] (fun i wr => ∃ m : Nat, m ≤ n ∧ i = .int .i64 m ∧ Below w.heap.size w wr) (fun i _ => n - (intOf i).toNat)
  case atStart => exact ⟨0, Nat.zero_le _, rfl, Below.refl _ _⟩
  case round =>
    obtain ⟨m, hm, rfl, hb⟩ := hrel
    by_cases hlt : m < n
    · obtain ⟨g, off, e, rfl, _, hg, he, p0, p1, p2, p3, p4, p5, p6, p7, p8⟩ := H.out.entry hlt
      obtain ⟨g', off', e', rfl, _, hg', he', q0, q1, q2, q3, q4, q5, q6, q7, q8⟩ := K.out.entry hlt
      obtain rfl : e = e' := by rw [he] at he'; injection he'
      have hg1 := Nat.lt_of_lt_of_le hg (Nat.min_le_right _ _)
      have hg2 := Nat.lt_of_lt_of_le hg' (Nat.min_le_right _ _)
      have r0 := (hb.cell (p := ⟨g, off + m * 9, none⟩) hg1).trans p0
      have fr0 := fun d os => cell_regrown r0 d os
      have s0 := (hb.cell (p := ⟨g', off' + m * 9, none⟩) hg2).trans q0
      have fs0 := fun d os => cell_regrown s0 d os
      have r1 := (hb.cell (p := ⟨g, off + m * 9 + 1, none⟩) hg1).trans p1
      have fr1 := fun d os => cell_regrown r1 d os
      have s1 := (hb.cell (p := ⟨g', off' + m * 9 + 1, none⟩) hg2).trans q1
      have fs1 := fun d os => cell_regrown s1 d os
      have r2 := (hb.cell (p := ⟨g, off + m * 9 + 2, none⟩) hg1).trans p2
      have fr2 := fun d os => cell_regrown r2 d os
      have s2 := (hb.cell (p := ⟨g', off' + m * 9 + 2, none⟩) hg2).trans q2
      have fs2 := fun d os => cell_regrown s2 d os
      have r3 := (hb.cell (p := ⟨g, off + m * 9 + 3, none⟩) hg1).trans p3
      have fr3 := fun d os => cell_regrown r3 d os
      have s3 := (hb.cell (p := ⟨g', off' + m * 9 + 3, none⟩) hg2).trans q3
      have fs3 := fun d os => cell_regrown s3 d os
      have r4 := (hb.cell (p := ⟨g, off + m * 9 + 4, none⟩) hg1).trans p4
      have fr4 := fun d os => cell_regrown r4 d os
      have s4 := (hb.cell (p := ⟨g', off' + m * 9 + 4, none⟩) hg2).trans q4
      have fs4 := fun d os => cell_regrown s4 d os
      have r5 := (hb.cell (p := ⟨g, off + m * 9 + 5, none⟩) hg1).trans p5
      have fr5 := fun d os => cell_regrown r5 d os
      have s5 := (hb.cell (p := ⟨g', off' + m * 9 + 5, none⟩) hg2).trans q5
      have fs5 := fun d os => cell_regrown s5 d os
      have r6 := (hb.cell (p := ⟨g, off + m * 9 + 6, none⟩) hg1).trans p6
      have fr6 := fun d os => cell_regrown r6 d os
      have s6 := (hb.cell (p := ⟨g', off' + m * 9 + 6, none⟩) hg2).trans q6
      have fs6 := fun d os => cell_regrown s6 d os
      have r7 := (hb.cell (p := ⟨g, off + m * 9 + 7, none⟩) hg1).trans p7
      have fr7 := fun d os => cell_regrown r7 d os
      have s7 := (hb.cell (p := ⟨g', off' + m * 9 + 7, none⟩) hg2).trans q7
      have fs7 := fun d os => cell_regrown s7 d os
      have r8 := (hb.cell (p := ⟨g, off + m * 9 + 8, none⟩) hg1).trans p8
      have fr8 := fun d os => cell_regrown r8 d os
      have s8 := (hb.cell (p := ⟨g', off' + m * 9 + 8, none⟩) hg2).trans q8
      have fs8 := fun d os => cell_regrown s8 d os
      clear he he' p0 p1 p2 p3 p4 p5 p6 p7 p8 q0 q1 q2 q3 q4 q5 q6 q7 q8
      go_wp2
      refine wp_region_quiet_below (by kernel_rfl) (by kernel_rfl) ?_; (repeat (first | go_big_quiet_step (fail) | quiet_step (fail))); refine wpQuiet_nil ?_; intro _ hw'; obtain ⟨⟨nq, osq⟩, hw''⟩ := hw'; subst hw''; have hq := below_regrown wr nq osq; generalize Sort.grow (redrawn wr nq) osq = w1 at *
      have hb1 : Below w.heap.size w w1 := hb.trans (hq.mono hb.size)
      go_wp2
      go_roundw
      case rel => exact ⟨m + 1, by omega, by go_num, hb1⟩
      case measure => simp [intOf]; omega
    · go_wp2
      go_ret
      exact ⟨rfl, hb⟩

end Go.Proofs.Ytijefbmnhcecmaa
