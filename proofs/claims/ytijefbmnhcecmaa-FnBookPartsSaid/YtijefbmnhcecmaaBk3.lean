/- Books: what the program's and the reference's small functions on them return. No conditions. -/
import Derived.Test.YtijefbmnhcecmaaBk2
set_option linter.unusedSimpArgs false
set_option linter.unusedVariables false
namespace Go.Proofs.Ytijefbmnhcecmaa
open Go.RowKit

theorem bookOk_facts {b t : Int} {l : List EntryD} (h : bookOk b t l = true) : 0 ≤ b ∧ b ≤ 2000 ∧ 0 ≤ t ∧ t ≤ 1000000 ∧ l.length ≤ 20 ∧ entriesOk l = true := by
  simp only [bookOk, Bool.and_eq_true, btw_iff, decide_eq_true_eq] at h
  exact ⟨h.1.1, h.1.2, h.2.1.1, h.2.1.2, h.2.2.2.1, h.2.2.2.2.1⟩
def sameEnts (a b : List EntryD) : Bool := decide (a = b)
theorem sameEnts_len {a b : List EntryD} (h : a.length ≠ b.length) : sameEnts a b = false := by
  simp only [sameEnts, decide_eq_false_iff_not]
  intro e
  exact h (by rw [e])
theorem sameEnts_at {a b : List EntryD} {j : Nat} (h : a[j]? ≠ b[j]?) : sameEnts a b = false := by
  simp only [sameEnts, decide_eq_false_iff_not]
  intro e
  exact h (by rw [e])
theorem sameEnts_of {a b : List EntryD} {n : Nat} (ha : a.length = n) (hb : b.length = n) (h : ∀ j, j < n → a[j]? = b[j]?) : sameEnts a b = true := by
  simp only [sameEnts, decide_eq_true_eq]
  apply List.ext_getElem?
  intro j
  by_cases hj : j < n
  · exact h j hj
  · rw [List.getElem?_eq_none (by omega), List.getElem?_eq_none (by omega)]
def sameBook (b t : Int) (l : List EntryD) (b' t' : Int) (k : List EntryD) : Bool := (b == b') && ((t == t') && sameEnts l k)
def lastOfM (b t : Int) (l : List EntryD) : Int := if bookOk b t l then b + (l.length : Int) else 0
def timeAt (b t : Int) (l : List EntryD) (x : Int) : Int := if x = b then t else ((l[(x - b - 1).toNat]?).map (·.time)).getD 0
def lastTime (t : Int) (l : List EntryD) : Int := ((l[l.length - 1]?).map (·.time)).getD t
def timeOfM (b t : Int) (l : List EntryD) : Int := if bookOk b t l then lastTime t l else 0
def zeroEntry : EntryD := ⟨0, 0, 0, 0, ⟨0, 0, 0, 0, 0⟩⟩
def entryAtM (b t : Int) (l : List EntryD) (x : Int) : EntryD × Bool := if bookOk b t l && btw x (b + 1) (b + (l.length : Int)) then ((l[(x - b - 1).toNat]?).getD zeroEntry, true) else (zeroEntry, false)
theorem timeAt_last {b t : Int} {l : List EntryD} {n : Nat} (h : l.length = n) : timeAt b t l (b + (n : Int)) = lastTime t l := by
  unfold timeAt lastTime
  rw [h]
  by_cases hn : n = 0
  · subst hn
    have : l = [] := List.eq_nil_of_length_eq_zero h
    subst this
    simp
  · rw [if_neg (by omega), show (b + (n : Int) - b - 1).toNat = n - 1 by omega, List.getElem?_eq_getElem (show n - 1 < l.length by omega)]
    rfl
theorem entry_ne {a b : EntryD} (h : a ≠ b) : (¬ a.index = b.index) ∨ (a.index = b.index ∧ ¬ a.time = b.time) ∨ (a.index = b.index ∧ a.time = b.time ∧ ¬ a.client = b.client) ∨ (a.index = b.index ∧ a.time = b.time ∧ a.client = b.client ∧ ¬ a.seq = b.seq) ∨ (a.index = b.index ∧ a.time = b.time ∧ a.client = b.client ∧ a.seq = b.seq ∧ ¬ a.op.kind = b.op.kind) ∨ (a.index = b.index ∧ a.time = b.time ∧ a.client = b.client ∧ a.seq = b.seq ∧ a.op.kind = b.op.kind ∧ ¬ a.op.a = b.op.a) ∨ (a.index = b.index ∧ a.time = b.time ∧ a.client = b.client ∧ a.seq = b.seq ∧ a.op.kind = b.op.kind ∧ a.op.a = b.op.a ∧ ¬ a.op.b = b.op.b) ∨ (a.index = b.index ∧ a.time = b.time ∧ a.client = b.client ∧ a.seq = b.seq ∧ a.op.kind = b.op.kind ∧ a.op.a = b.op.a ∧ a.op.b = b.op.b ∧ ¬ a.op.c = b.op.c) ∨ (a.index = b.index ∧ a.time = b.time ∧ a.client = b.client ∧ a.seq = b.seq ∧ a.op.kind = b.op.kind ∧ a.op.a = b.op.a ∧ a.op.b = b.op.b ∧ a.op.c = b.op.c ∧ ¬ a.op.d = b.op.d) := by
  by_cases h0 : a.index = b.index
  · skip
    by_cases h1 : a.time = b.time
    · skip
      by_cases h2 : a.client = b.client
      · skip
        by_cases h3 : a.seq = b.seq
        · skip
          by_cases h4 : a.op.kind = b.op.kind
          · skip
            by_cases h5 : a.op.a = b.op.a
            · skip
              by_cases h6 : a.op.b = b.op.b
              · skip
                by_cases h7 : a.op.c = b.op.c
                · skip
                  by_cases h8 : a.op.d = b.op.d
                  · exact absurd (EntryD.ext h0 h1 h2 h3 (OpD.ext h4 h5 h6 h7 h8)) h
                  · exact .inr (.inr (.inr (.inr (.inr (.inr (.inr (.inr (⟨h0, h1, h2, h3, h4, h5, h6, h7, h8⟩))))))))
                · exact .inr (.inr (.inr (.inr (.inr (.inr (.inr (.inl ⟨h0, h1, h2, h3, h4, h5, h6, h7⟩)))))))
              · exact .inr (.inr (.inr (.inr (.inr (.inr (.inl ⟨h0, h1, h2, h3, h4, h5, h6⟩))))))
            · exact .inr (.inr (.inr (.inr (.inr (.inl ⟨h0, h1, h2, h3, h4, h5⟩)))))
          · exact .inr (.inr (.inr (.inr (.inl ⟨h0, h1, h2, h3, h4⟩))))
        · exact .inr (.inr (.inr (.inl ⟨h0, h1, h2, h3⟩)))
      · exact .inr (.inr (.inl ⟨h0, h1, h2⟩))
    · exact .inr (.inl ⟨h0, h1⟩)
  · exact .inl h0
set_option maxHeartbeats 4000000 in
theorem slicesEqualEntry_any (A B : Option Addr) (n c m d lo hi lo' hi' : Nat) (l k : List EntryD) (w : World) (h : Sl w lo hi 9 A n c (l.flatMap EntryD.ints)) (h' : Sl w lo' hi' 9 B m d (k.flatMap EntryD.ints)) :
    Calls Try.prog 55 #[.slice A n c, .slice B m d] w (BoolRes w (sameEnts l k)) := by
  have hn : n ≤ 9223372036854775807 := Nat.le_trans h.cap h.big
  have hm0 : m ≤ 9223372036854775807 := Nat.le_trans h'.cap h'.big
  have hl : l.length = n := h.count EntryD.ints_len (by omega)
  have hk : k.length = m := h'.count EntryD.ints_len (by omega)
  by_cases hnm : n = m
  · subst hnm
    have H := Lib.hid (h.fit (by omega))
    have K := Lib.hid (h'.fit (by omega))
    have HL := Lib.hid hl
    have HK := Lib.hid hk
    clear h h' hl hk
    go_enter Try.func55, Try.ntmps55
    go_wp2
    go_loopw [5, 13] (fun _ i wr => ∃ j : Nat, j ≤ n ∧ i = .int .i64 j ∧ Below w.heap.size w wr ∧ Hid (∀ q, q < j → l[q]? = k[q]?)) (fun _ i _ => n - (intOf i).toNat)
    case atStart => exact ⟨0, Nat.zero_le _, rfl, Below.refl _ _, fun j hj => absurd hj (by omega)⟩
    case round =>
      obtain ⟨j, hj, rfl, hb, hp⟩ := hrel
      by_cases hlt : j < n
      · obtain ⟨g, off, e, rfl, _, hg, he, p0, p1, p2, p3, p4, p5, p6, p7, p8⟩ := H.out.entry hlt
        obtain ⟨g', off', e', rfl, _, hg', he', q0, q1, q2, q3, q4, q5, q6, q7, q8⟩ := K.out.entry hlt
        have hg1 := Nat.lt_of_lt_of_le hg (Nat.min_le_right _ _)
        have hg2 := Nat.lt_of_lt_of_le hg' (Nat.min_le_right _ _)
        have HE := Lib.hid he
        have HE' := Lib.hid he'
        have r0 := (hb.cell (p := ⟨g, off + j * 9, none⟩) hg1).trans p0
        have s0 := (hb.cell (p := ⟨g', off' + j * 9, none⟩) hg2).trans q0
        have fr0 := fun d os => cell_regrown r0 d os
        have fs0 := fun d os => cell_regrown s0 d os
        have r1 := (hb.cell (p := ⟨g, off + j * 9 + 1, none⟩) hg1).trans p1
        have s1 := (hb.cell (p := ⟨g', off' + j * 9 + 1, none⟩) hg2).trans q1
        have fr1 := fun d os => cell_regrown r1 d os
        have fs1 := fun d os => cell_regrown s1 d os
        have r2 := (hb.cell (p := ⟨g, off + j * 9 + 2, none⟩) hg1).trans p2
        have s2 := (hb.cell (p := ⟨g', off' + j * 9 + 2, none⟩) hg2).trans q2
        have fr2 := fun d os => cell_regrown r2 d os
        have fs2 := fun d os => cell_regrown s2 d os
        have r3 := (hb.cell (p := ⟨g, off + j * 9 + 3, none⟩) hg1).trans p3
        have s3 := (hb.cell (p := ⟨g', off' + j * 9 + 3, none⟩) hg2).trans q3
        have fr3 := fun d os => cell_regrown r3 d os
        have fs3 := fun d os => cell_regrown s3 d os
        have r4 := (hb.cell (p := ⟨g, off + j * 9 + 4, none⟩) hg1).trans p4
        have s4 := (hb.cell (p := ⟨g', off' + j * 9 + 4, none⟩) hg2).trans q4
        have fr4 := fun d os => cell_regrown r4 d os
        have fs4 := fun d os => cell_regrown s4 d os
        have r5 := (hb.cell (p := ⟨g, off + j * 9 + 5, none⟩) hg1).trans p5
        have s5 := (hb.cell (p := ⟨g', off' + j * 9 + 5, none⟩) hg2).trans q5
        have fr5 := fun d os => cell_regrown r5 d os
        have fs5 := fun d os => cell_regrown s5 d os
        have r6 := (hb.cell (p := ⟨g, off + j * 9 + 6, none⟩) hg1).trans p6
        have s6 := (hb.cell (p := ⟨g', off' + j * 9 + 6, none⟩) hg2).trans q6
        have fr6 := fun d os => cell_regrown r6 d os
        have fs6 := fun d os => cell_regrown s6 d os
        have r7 := (hb.cell (p := ⟨g, off + j * 9 + 7, none⟩) hg1).trans p7
        have s7 := (hb.cell (p := ⟨g', off' + j * 9 + 7, none⟩) hg2).trans q7
        have fr7 := fun d os => cell_regrown r7 d os
        have fs7 := fun d os => cell_regrown s7 d os
        have r8 := (hb.cell (p := ⟨g, off + j * 9 + 8, none⟩) hg1).trans p8
        have s8 := (hb.cell (p := ⟨g', off' + j * 9 + 8, none⟩) hg2).trans q8
        have fr8 := fun d os => cell_regrown r8 d os
        have fs8 := fun d os => cell_regrown s8 d os
        clear he he' p0 q0 p1 q1 p2 q2 p3 q3 p4 q4 p5 q5 p6 q6 p7 q7 p8 q8
        by_cases hee : e = e'
        · subst hee
          go_wp2
          refine wp_region_quiet_below (by kernel_rfl) (by kernel_rfl) ?_; (repeat (first | go_big_quiet_step (fail) | quiet_step (fail))); refine wpQuiet_nil ?_; intro _ hw'; obtain ⟨⟨nq, osq⟩, hw''⟩ := hw'; subst hw''; have hq := below_regrown wr nq osq; generalize Sort.grow (redrawn wr nq) osq = w1 at *
          have hbz := hb.size
          have hbw : Below w.heap.size w w1 := by (repeat' (first | with_reducible exact Below.refl _ _ | with_reducible assumption | with_reducible refine Below.drew ?_ | with_reducible refine Below.alloc ?_ ?_ _ | with_reducible refine Below.setCell ?_ ?_ _ | with_reducible refine Below.trans ?_ (Below.mono (by assumption) ?_) | ((try simp only [World.heap_size_alloc, World.heap_size_drew, World.heap_size_setCell]); omega)))
          go_wp2
          go_roundw
          case rel => exact ⟨j + 1, hlt, by go_num, hbw, fun q hq => by
            rcases Nat.lt_succ_iff_lt_or_eq.1 hq with h5 | rfl
            · exact hp.out q h5
            · rw [HE.out, HE'.out]⟩
          case measure => simp [intOf]; omega
        · have hcs := entry_ne hee
          have HEE := Lib.hid hee
          clear hee
          rcases hcs with d0 | ⟨d0, d1⟩ | ⟨d0, d1, d2⟩ | ⟨d0, d1, d2, d3⟩ | ⟨d0, d1, d2, d3, d4⟩ | ⟨d0, d1, d2, d3, d4, d5⟩ | ⟨d0, d1, d2, d3, d4, d5, d6⟩ | ⟨d0, d1, d2, d3, d4, d5, d6, d7⟩ | ⟨d0, d1, d2, d3, d4, d5, d6, d7, d8⟩
          all_goals
            go_wp2
            refine wp_region_quiet_below (by kernel_rfl) (by kernel_rfl) ?_; (repeat (first | go_big_quiet_step (fail) | quiet_step (fail))); refine wpQuiet_nil ?_; intro _ hw'; obtain ⟨⟨nq, osq⟩, hw''⟩ := hw'; subst hw''; have hq := below_regrown wr nq osq; generalize Sort.grow (redrawn wr nq) osq = w1 at *
            have hbz := hb.size
            have hbw : Below w.heap.size w w1 := by (repeat' (first | with_reducible exact Below.refl _ _ | with_reducible assumption | with_reducible refine Below.drew ?_ | with_reducible refine Below.alloc ?_ ?_ _ | with_reducible refine Below.setCell ?_ ?_ _ | with_reducible refine Below.trans ?_ (Below.mono (by assumption) ?_) | ((try simp only [World.heap_size_alloc, World.heap_size_drew, World.heap_size_setCell]); omega)))
            go_wp2
            go_ret
            exact ⟨by rw [sameEnts_at (j := j) (by rw [HE.out, HE'.out]; intro h9; injection h9 with h9; exact HEE.out h9)]; rfl, hbw⟩
      · go_wp2
        go_ret
        have hjn : j = n := by omega
        subst hjn
        exact ⟨by rw [sameEnts_of HL.out HK.out hp.out]; rfl, hb⟩
  · have hne : ((n : Int) != (m : Int)) = true := by simp; omega
    rw [sameEnts_len (by omega)]
    clear hl hk h h'
    go_enter Try.func55, Try.ntmps55
    go_wp2
    go_ret
    exact ⟨rfl, Below.refl _ _⟩
set_option maxHeartbeats 4000000 in
theorem l8SameEntries_any (A B : Option Addr) (n c m d lo hi lo' hi' : Nat) (l k : List EntryD) (w : World) (h : Sl w lo hi 9 A n c (l.flatMap EntryD.ints)) (h' : Sl w lo' hi' 9 B m d (k.flatMap EntryD.ints)) :
    Calls Try.prog 54 #[.slice A n c, .slice B m d] w (BoolRes w (sameEnts l k)) := by
  have hn : n ≤ 9223372036854775807 := Nat.le_trans h.cap h.big
  have hm0 : m ≤ 9223372036854775807 := Nat.le_trans h'.cap h'.big
  have hl : l.length = n := h.count EntryD.ints_len (by omega)
  have hk : k.length = m := h'.count EntryD.ints_len (by omega)
  by_cases hnm : n = m
  · subst hnm
    have H := Lib.hid (h.fit (by omega))
    have K := Lib.hid (h'.fit (by omega))
    have HL := Lib.hid hl
    have HK := Lib.hid hk
    clear h h' hl hk
    go_enter Try.func54, Try.ntmps54
    go_wp2
    go_loopw [5] (fun i wr => ∃ j : Nat, j ≤ n ∧ i = .int .i64 j ∧ Below w.heap.size w wr ∧ Hid (∀ q, q < j → l[q]? = k[q]?)) (fun i _ => n - (intOf i).toNat)
    case atStart => exact ⟨0, Nat.zero_le _, rfl, Below.refl _ _, fun j hj => absurd hj (by omega)⟩
    case round =>
      obtain ⟨j, hj, rfl, hb, hp⟩ := hrel
      by_cases hlt : j < n
      · obtain ⟨g, off, e, rfl, _, hg, he, p0, p1, p2, p3, p4, p5, p6, p7, p8⟩ := H.out.entry hlt
        obtain ⟨g', off', e', rfl, _, hg', he', q0, q1, q2, q3, q4, q5, q6, q7, q8⟩ := K.out.entry hlt
        have hg1 := Nat.lt_of_lt_of_le hg (Nat.min_le_right _ _)
        have hg2 := Nat.lt_of_lt_of_le hg' (Nat.min_le_right _ _)
        have HE := Lib.hid he
        have HE' := Lib.hid he'
        have r0 := (hb.cell (p := ⟨g, off + j * 9, none⟩) hg1).trans p0
        have s0 := (hb.cell (p := ⟨g', off' + j * 9, none⟩) hg2).trans q0
        have fr0 := fun d os => cell_regrown r0 d os
        have fs0 := fun d os => cell_regrown s0 d os
        have r1 := (hb.cell (p := ⟨g, off + j * 9 + 1, none⟩) hg1).trans p1
        have s1 := (hb.cell (p := ⟨g', off' + j * 9 + 1, none⟩) hg2).trans q1
        have fr1 := fun d os => cell_regrown r1 d os
        have fs1 := fun d os => cell_regrown s1 d os
        have r2 := (hb.cell (p := ⟨g, off + j * 9 + 2, none⟩) hg1).trans p2
        have s2 := (hb.cell (p := ⟨g', off' + j * 9 + 2, none⟩) hg2).trans q2
        have fr2 := fun d os => cell_regrown r2 d os
        have fs2 := fun d os => cell_regrown s2 d os
        have r3 := (hb.cell (p := ⟨g, off + j * 9 + 3, none⟩) hg1).trans p3
        have s3 := (hb.cell (p := ⟨g', off' + j * 9 + 3, none⟩) hg2).trans q3
        have fr3 := fun d os => cell_regrown r3 d os
        have fs3 := fun d os => cell_regrown s3 d os
        have r4 := (hb.cell (p := ⟨g, off + j * 9 + 4, none⟩) hg1).trans p4
        have s4 := (hb.cell (p := ⟨g', off' + j * 9 + 4, none⟩) hg2).trans q4
        have fr4 := fun d os => cell_regrown r4 d os
        have fs4 := fun d os => cell_regrown s4 d os
        have r5 := (hb.cell (p := ⟨g, off + j * 9 + 5, none⟩) hg1).trans p5
        have s5 := (hb.cell (p := ⟨g', off' + j * 9 + 5, none⟩) hg2).trans q5
        have fr5 := fun d os => cell_regrown r5 d os
        have fs5 := fun d os => cell_regrown s5 d os
        have r6 := (hb.cell (p := ⟨g, off + j * 9 + 6, none⟩) hg1).trans p6
        have s6 := (hb.cell (p := ⟨g', off' + j * 9 + 6, none⟩) hg2).trans q6
        have fr6 := fun d os => cell_regrown r6 d os
        have fs6 := fun d os => cell_regrown s6 d os
        have r7 := (hb.cell (p := ⟨g, off + j * 9 + 7, none⟩) hg1).trans p7
        have s7 := (hb.cell (p := ⟨g', off' + j * 9 + 7, none⟩) hg2).trans q7
        have fr7 := fun d os => cell_regrown r7 d os
        have fs7 := fun d os => cell_regrown s7 d os
        have r8 := (hb.cell (p := ⟨g, off + j * 9 + 8, none⟩) hg1).trans p8
        have s8 := (hb.cell (p := ⟨g', off' + j * 9 + 8, none⟩) hg2).trans q8
        have fr8 := fun d os => cell_regrown r8 d os
        have fs8 := fun d os => cell_regrown s8 d os
        clear he he' p0 q0 p1 q1 p2 q2 p3 q3 p4 q4 p5 q5 p6 q6 p7 q7 p8 q8
        by_cases hee : e = e'
        · subst hee
          go_wp2
          refine wp_region_quiet_below (by kernel_rfl) (by kernel_rfl) ?_; (repeat (first | go_big_quiet_step (fail) | quiet_step (fail))); refine wpQuiet_nil ?_; intro _ hw'; obtain ⟨⟨nq, osq⟩, hw''⟩ := hw'; subst hw''; have hq := below_regrown wr nq osq; generalize Sort.grow (redrawn wr nq) osq = w1 at *
          have hbz := hb.size
          have hbw : Below w.heap.size w w1 := by (repeat' (first | with_reducible exact Below.refl _ _ | with_reducible assumption | with_reducible refine Below.drew ?_ | with_reducible refine Below.alloc ?_ ?_ _ | with_reducible refine Below.setCell ?_ ?_ _ | with_reducible refine Below.trans ?_ (Below.mono (by assumption) ?_) | ((try simp only [World.heap_size_alloc, World.heap_size_drew, World.heap_size_setCell]); omega)))
          go_wp2
          go_roundw
          case rel => exact ⟨j + 1, hlt, by go_num, hbw, fun q hq => by
            rcases Nat.lt_succ_iff_lt_or_eq.1 hq with h5 | rfl
            · exact hp.out q h5
            · rw [HE.out, HE'.out]⟩
          case measure => simp [intOf]; omega
        · have hcs := entry_ne hee
          have HEE := Lib.hid hee
          clear hee
          rcases hcs with d0 | ⟨d0, d1⟩ | ⟨d0, d1, d2⟩ | ⟨d0, d1, d2, d3⟩ | ⟨d0, d1, d2, d3, d4⟩ | ⟨d0, d1, d2, d3, d4, d5⟩ | ⟨d0, d1, d2, d3, d4, d5, d6⟩ | ⟨d0, d1, d2, d3, d4, d5, d6, d7⟩ | ⟨d0, d1, d2, d3, d4, d5, d6, d7, d8⟩
          all_goals
            go_wp2
            refine wp_region_quiet_below (by kernel_rfl) (by kernel_rfl) ?_; (repeat (first | go_big_quiet_step (fail) | quiet_step (fail))); refine wpQuiet_nil ?_; intro _ hw'; obtain ⟨⟨nq, osq⟩, hw''⟩ := hw'; subst hw''; have hq := below_regrown wr nq osq; generalize Sort.grow (redrawn wr nq) osq = w1 at *
            have hbz := hb.size
            have hbw : Below w.heap.size w w1 := by (repeat' (first | with_reducible exact Below.refl _ _ | with_reducible assumption | with_reducible refine Below.drew ?_ | with_reducible refine Below.alloc ?_ ?_ _ | with_reducible refine Below.setCell ?_ ?_ _ | with_reducible refine Below.trans ?_ (Below.mono (by assumption) ?_) | ((try simp only [World.heap_size_alloc, World.heap_size_drew, World.heap_size_setCell]); omega)))
            go_wp2
            go_ret
            exact ⟨by rw [sameEnts_at (j := j) (by rw [HE.out, HE'.out]; intro h9; injection h9 with h9; exact HEE.out h9)]; rfl, hbw⟩
      · go_wp2
        go_ret
        have hjn : j = n := by omega
        subst hjn
        exact ⟨by rw [sameEnts_of HL.out HK.out hp.out]; rfl, hb⟩
  · have hne : ((n : Int) != (m : Int)) = true := by simp; omega
    rw [sameEnts_len (by omega)]
    clear hl hk h h'
    go_enter Try.func54, Try.ntmps54
    go_wp2
    go_ret
    exact ⟨rfl, Below.refl _ _⟩
set_option maxHeartbeats 1000000 in
theorem sSameBook_any (b t : Int) (A : Option Addr) (n c lo hi : Nat) (l : List EntryD) (b' t' : Int) (B : Option Addr) (m d lo' hi' : Nat) (k : List EntryD) (w : World) (h : Sl w lo hi 9 A n c (l.flatMap EntryD.ints)) (h' : Sl w lo' hi' 9 B m d (k.flatMap EntryD.ints)) :
    Calls Try.prog 17 #[.agg #[.int .i64 b, .int .i64 t, .slice A n c], .agg #[.int .i64 b', .int .i64 t', .slice B m d]] w (BoolRes w (sameBook b t l b' t' k)) := by
  have e0 : sameBook b t l b' t' k = ((b == b') && ((t == t') && sameEnts l k)) := rfl
  rw [e0]
  clear e0
  by_cases hb : b = b'
  · have hb1 : (b == b') = true := by simpa using hb
    rw [hb1]
    by_cases ht : t = t'
    · have ht1 : (t == t') = true := by simpa using ht
      rw [ht1]
      have HC := Lib.hid (fun W s s' => l8SameEntries_any A B n c m d lo hi lo' hi' l k W s s')
      generalize sameEnts l k = r at HC
      have H := Lib.hid (h.fit (by omega))
      have K := Lib.hid (h'.fit (by omega))
      have HB := Lib.hid hb
      have HT := Lib.hid ht
      clear hb ht h h'
      go_enter Try.func17, Try.ntmps17
      go_wp2_with fail
      have hs2 : Below w.heap.size w ((w.alloc (.cells #[.int .i64 b, .int .i64 t, .slice A n c] 29)).alloc (.cells #[.int .i64 b', .int .i64 t', .slice B m d] 29)) := by (repeat' (first | with_reducible exact Below.refl _ _ | with_reducible assumption | with_reducible refine Below.drew ?_ | with_reducible refine Below.alloc ?_ ?_ _ | with_reducible refine Below.setCell ?_ ?_ _ | with_reducible refine Below.trans ?_ (Below.mono (by assumption) ?_) | ((try simp only [World.heap_size_alloc, World.heap_size_drew, World.heap_size_setCell]); omega)))
      (with_reducible refine (HC.out _ ((H.out.below hs2 (Nat.min_le_right _ _)).mono (Nat.le_refl _) (Nat.min_le_left _ _)) ((K.out.below hs2 (Nat.min_le_right _ _)).mono (Nat.le_refl _) (Nat.min_le_left _ _))).mono ?_); rintro _ w1 ⟨rfl, b1⟩
      have y1 := b1.size
      simp only [World.heap_size_alloc] at y1
      go_wp2_with fail
      go_ret
      exact ⟨by simp, by (repeat' (first | with_reducible exact Below.refl _ _ | with_reducible assumption | with_reducible refine Below.drew ?_ | with_reducible refine Below.alloc ?_ ?_ _ | with_reducible refine Below.setCell ?_ ?_ _ | with_reducible refine Below.trans ?_ (Below.mono (by assumption) ?_) | ((try simp only [World.heap_size_alloc, World.heap_size_drew, World.heap_size_setCell]); omega)))⟩
    · have ht1 : (t == t') = false := by simpa using ht
      rw [ht1]
      clear h h' ht hb
      go_enter Try.func17, Try.ntmps17
      go_wp2
      go_ret
      exact ⟨rfl, by (repeat' (first | with_reducible exact Below.refl _ _ | with_reducible assumption | with_reducible refine Below.drew ?_ | with_reducible refine Below.alloc ?_ ?_ _ | with_reducible refine Below.setCell ?_ ?_ _ | with_reducible refine Below.trans ?_ (Below.mono (by assumption) ?_) | ((try simp only [World.heap_size_alloc, World.heap_size_drew, World.heap_size_setCell]); omega)))⟩
  · have hb1 : (b == b') = false := by simpa using hb
    rw [hb1]
    clear h h' hb
    go_enter Try.func17, Try.ntmps17
    go_wp2
    go_ret
    exact ⟨rfl, by (repeat' (first | with_reducible exact Below.refl _ _ | with_reducible assumption | with_reducible refine Below.drew ?_ | with_reducible refine Below.alloc ?_ ?_ _ | with_reducible refine Below.setCell ?_ ?_ _ | with_reducible refine Below.trans ?_ (Below.mono (by assumption) ?_) | ((try simp only [World.heap_size_alloc, World.heap_size_drew, World.heap_size_setCell]); omega)))⟩
set_option maxHeartbeats 1000000 in
theorem sameBook_any (b t : Int) (A : Option Addr) (n c lo hi : Nat) (l : List EntryD) (b' t' : Int) (B : Option Addr) (m d lo' hi' : Nat) (k : List EntryD) (w : World) (h : Sl w lo hi 9 A n c (l.flatMap EntryD.ints)) (h' : Sl w lo' hi' 9 B m d (k.flatMap EntryD.ints)) :
    Calls Try.prog 19 #[.agg #[.int .i64 b, .int .i64 t, .slice A n c], .agg #[.int .i64 b', .int .i64 t', .slice B m d]] w (BoolRes w (sameBook b t l b' t' k)) := by
  have e0 : sameBook b t l b' t' k = ((b == b') && ((t == t') && sameEnts l k)) := rfl
  rw [e0]
  clear e0
  by_cases hb : b = b'
  · have hb1 : (b == b') = true := by simpa using hb
    rw [hb1]
    by_cases ht : t = t'
    · have ht1 : (t == t') = true := by simpa using ht
      rw [ht1]
      have HC := Lib.hid (fun W s s' => slicesEqualEntry_any A B n c m d lo hi lo' hi' l k W s s')
      generalize sameEnts l k = r at HC
      have H := Lib.hid (h.fit (by omega))
      have K := Lib.hid (h'.fit (by omega))
      have HB := Lib.hid hb
      have HT := Lib.hid ht
      clear hb ht h h'
      go_enter Try.func19, Try.ntmps19
      go_wp2_with fail
      have hs2 : Below w.heap.size w ((w.alloc (.cells #[.int .i64 b, .int .i64 t, .slice A n c] 29)).alloc (.cells #[.int .i64 b', .int .i64 t', .slice B m d] 29)) := by (repeat' (first | with_reducible exact Below.refl _ _ | with_reducible assumption | with_reducible refine Below.drew ?_ | with_reducible refine Below.alloc ?_ ?_ _ | with_reducible refine Below.setCell ?_ ?_ _ | with_reducible refine Below.trans ?_ (Below.mono (by assumption) ?_) | ((try simp only [World.heap_size_alloc, World.heap_size_drew, World.heap_size_setCell]); omega)))
      (with_reducible refine (HC.out _ ((H.out.below hs2 (Nat.min_le_right _ _)).mono (Nat.le_refl _) (Nat.min_le_left _ _)) ((K.out.below hs2 (Nat.min_le_right _ _)).mono (Nat.le_refl _) (Nat.min_le_left _ _))).mono ?_); rintro _ w1 ⟨rfl, b1⟩
      have y1 := b1.size
      simp only [World.heap_size_alloc] at y1
      go_wp2_with fail
      go_ret
      exact ⟨by simp, by (repeat' (first | with_reducible exact Below.refl _ _ | with_reducible assumption | with_reducible refine Below.drew ?_ | with_reducible refine Below.alloc ?_ ?_ _ | with_reducible refine Below.setCell ?_ ?_ _ | with_reducible refine Below.trans ?_ (Below.mono (by assumption) ?_) | ((try simp only [World.heap_size_alloc, World.heap_size_drew, World.heap_size_setCell]); omega)))⟩
    · have ht1 : (t == t') = false := by simpa using ht
      rw [ht1]
      clear h h' ht hb
      go_enter Try.func19, Try.ntmps19
      go_wp2
      go_ret
      exact ⟨rfl, by (repeat' (first | with_reducible exact Below.refl _ _ | with_reducible assumption | with_reducible refine Below.drew ?_ | with_reducible refine Below.alloc ?_ ?_ _ | with_reducible refine Below.setCell ?_ ?_ _ | with_reducible refine Below.trans ?_ (Below.mono (by assumption) ?_) | ((try simp only [World.heap_size_alloc, World.heap_size_drew, World.heap_size_setCell]); omega)))⟩
  · have hb1 : (b == b') = false := by simpa using hb
    rw [hb1]
    clear h h' hb
    go_enter Try.func19, Try.ntmps19
    go_wp2
    go_ret
    exact ⟨rfl, by (repeat' (first | with_reducible exact Below.refl _ _ | with_reducible assumption | with_reducible refine Below.drew ?_ | with_reducible refine Below.alloc ?_ ?_ _ | with_reducible refine Below.setCell ?_ ?_ _ | with_reducible refine Below.trans ?_ (Below.mono (by assumption) ?_) | ((try simp only [World.heap_size_alloc, World.heap_size_drew, World.heap_size_setCell]); omega)))⟩
set_option maxHeartbeats 400000 in
theorem l8Last_any (b t : Int) (A : Option Addr) (n c : Nat) (w : World) (h0 : 0 ≤ b) (h1 : b ≤ 2000) (hn : n ≤ 20) :
    Calls Try.prog 62 #[.agg #[.int .i64 b, .int .i64 t, .slice A n c]] w fun e w' => e = .returned (.int .i64 (b + (n : Int))) ∧ Below w.heap.size w w' := by
  go_enter Try.func62, Try.ntmps62
  go_wp2
  go_ret
  exact ⟨rfl, by (repeat' (first | with_reducible exact Below.refl _ _ | with_reducible assumption | with_reducible refine Below.drew ?_ | with_reducible refine Below.alloc ?_ ?_ _ | with_reducible refine Below.setCell ?_ ?_ _ | with_reducible refine Below.trans ?_ (Below.mono (by assumption) ?_) | ((try simp only [World.heap_size_alloc, World.heap_size_drew, World.heap_size_setCell]); omega)))⟩
set_option maxHeartbeats 400000 in
theorem lastOf_any (b t : Int) (A : Option Addr) (n c : Nat) (w : World) (h0 : 0 ≤ b) (h1 : b ≤ 2000) (hn : n ≤ 20) :
    Calls Try.prog 63 #[.agg #[.int .i64 b, .int .i64 t, .slice A n c]] w fun e w' => e = .returned (.int .i64 (b + (n : Int))) ∧ Below w.heap.size w w' := by
  go_enter Try.func63, Try.ntmps63
  go_wp2
  go_ret
  exact ⟨rfl, by (repeat' (first | with_reducible exact Below.refl _ _ | with_reducible assumption | with_reducible refine Below.drew ?_ | with_reducible refine Below.alloc ?_ ?_ _ | with_reducible refine Below.setCell ?_ ?_ _ | with_reducible refine Below.trans ?_ (Below.mono (by assumption) ?_) | ((try simp only [World.heap_size_alloc, World.heap_size_drew, World.heap_size_setCell]); omega)))⟩
set_option maxHeartbeats 1000000 in
theorem l8TimeAt_any (b t : Int) (A : Option Addr) (n c lo hi : Nat) (l : List EntryD) (x : Int) (w : World) (h : Sl w lo hi 9 A n c (l.flatMap EntryD.ints)) (h0 : 0 ≤ b) (h1 : b ≤ 2000) (hn : n ≤ 20) (hx0 : b ≤ x) (hx1 : x ≤ b + (n : Int)) :
    Calls Try.prog 65 #[.agg #[.int .i64 b, .int .i64 t, .slice A n c], .int .i64 x] w fun e w' => e = .returned (.int .i64 (timeAt b t l x)) ∧ Below w.heap.size w w' := by
  replace h := h.fit (by omega)
  by_cases hxb : x = b
  · rw [show timeAt b t l x = t by simp [timeAt, hxb]]
    have hx2 : (x == b) = true := by simpa using hxb
    clear hxb h
    go_enter Try.func65, Try.ntmps65
    go_wp2
    go_ret
    exact ⟨rfl, by (repeat' (first | with_reducible exact Below.refl _ _ | with_reducible assumption | with_reducible refine Below.drew ?_ | with_reducible refine Below.alloc ?_ ?_ _ | with_reducible refine Below.setCell ?_ ?_ _ | with_reducible refine Below.trans ?_ (Below.mono (by assumption) ?_) | ((try simp only [World.heap_size_alloc, World.heap_size_drew, World.heap_size_setCell]); omega)))⟩
  · obtain ⟨j, hj⟩ := Int.eq_ofNat_of_zero_le (show 0 ≤ x - b - 1 by omega)
    have hjn : j < n := by omega
    obtain ⟨g, off, e, rfl, _, hg, he, _, p1, _⟩ := h.entry hjn
    have hgw : g < w.heap.size := Nat.lt_of_lt_of_le hg (Nat.min_le_right _ _)
    have hx2 : (x == b) = false := by simpa using hxb
    have e0 : timeAt b t l x = e.time := by
      have : (x - b - 1).toNat = j := by omega
      simp [timeAt, hxb, this, he]
    rw [e0]
    have hx3 : x = b + 1 + (j : Int) := by omega
    have hx4 : b + 1 + (j : Int) - b = (j : Int) + 1 := by omega
    have hx5 : ((j : Nat) : Int) < (n : Int) := by omega
    clear e0 he hj hxb h
    subst hx3
    go_enter Try.func65, Try.ntmps65
    go_wp2
    go_ret
    exact ⟨rfl, by (repeat' (first | with_reducible exact Below.refl _ _ | with_reducible assumption | with_reducible refine Below.drew ?_ | with_reducible refine Below.alloc ?_ ?_ _ | with_reducible refine Below.setCell ?_ ?_ _ | with_reducible refine Below.trans ?_ (Below.mono (by assumption) ?_) | ((try simp only [World.heap_size_alloc, World.heap_size_drew, World.heap_size_setCell]); omega)))⟩
set_option maxHeartbeats 1000000 in
theorem timeOf1_any (b t : Int) (A : Option Addr) (n c lo hi : Nat) (l : List EntryD) (w : World) (h : Sl w lo hi 9 A n c (l.flatMap EntryD.ints)) (hn : n ≤ 1000) :
    Calls Try.prog 66 #[.agg #[.int .i64 b, .int .i64 t, .slice A n c]] w fun e w' => e = .returned (.int .i64 (lastTime t l)) ∧ Below w.heap.size w w' := by
  have hl : l.length = n := h.count EntryD.ints_len (by omega)
  replace h := h.fit (by omega)
  rcases Nat.eq_zero_or_pos n with rfl | hpos
  · obtain rfl : l = [] := List.eq_nil_of_length_eq_zero hl
    rw [show lastTime t [] = t from rfl]
    clear h hl
    go_enter Try.func66, Try.ntmps66
    go_wp2
    go_ret
    exact ⟨rfl, by (repeat' (first | with_reducible exact Below.refl _ _ | with_reducible assumption | with_reducible refine Below.drew ?_ | with_reducible refine Below.alloc ?_ ?_ _ | with_reducible refine Below.setCell ?_ ?_ _ | with_reducible refine Below.trans ?_ (Below.mono (by assumption) ?_) | ((try simp only [World.heap_size_alloc, World.heap_size_drew, World.heap_size_setCell]); omega)))⟩
  · obtain ⟨q, rfl⟩ : ∃ q, n = q + 1 := ⟨n - 1, by omega⟩
    obtain ⟨g, off, e, rfl, _, hg, he, _, p1, _⟩ := h.entry (show q < q + 1 by omega)
    have hgw : g < w.heap.size := Nat.lt_of_lt_of_le hg (Nat.min_le_right _ _)
    have e0 : lastTime t l = e.time := by
      unfold lastTime
      rw [hl, Nat.add_sub_cancel, he]
      rfl
    rw [e0]
    have hq1 : ((q : Int) + 1 == 0) = false := by rw [beq_eq_false_iff_ne]; omega
    clear e0 he hl h
    go_enter Try.func66, Try.ntmps66
    go_wp2
    go_ret
    exact ⟨rfl, by (repeat' (first | with_reducible exact Below.refl _ _ | with_reducible assumption | with_reducible refine Below.drew ?_ | with_reducible refine Below.alloc ?_ ?_ _ | with_reducible refine Below.setCell ?_ ?_ _ | with_reducible refine Below.trans ?_ (Below.mono (by assumption) ?_) | ((try simp only [World.heap_size_alloc, World.heap_size_drew, World.heap_size_setCell]); omega)))⟩
set_option maxHeartbeats 1000000 in
theorem sLastOf_any (b t : Int) (A : Option Addr) (n c lo hi : Nat) (l : List EntryD) (w : World) (h : Sl w lo hi 9 A n c (l.flatMap EntryD.ints)) :
    Calls Try.prog 26 #[.agg #[.int .i64 b, .int .i64 t, .slice A n c]] w fun e w' => e = .returned (.int .i64 (lastOfM b t l)) ∧ Below w.heap.size w w' := by
  have HL := Lib.hid (h.count EntryD.ints_len (by omega) : l.length = n)
  replace h := h.fit (by omega)
  have hhi : min hi w.heap.size ≤ w.heap.size := Nat.min_le_right _ _
  generalize min hi w.heap.size = hi at h hhi
  cases hok : bookOk b t l with
  | false =>
    have e0 : lastOfM b t l = 0 := by simp [lastOfM, hok]
    rw [e0]
    clear e0
    have CO : ∀ W, Sl W lo hi 9 A n c (l.flatMap EntryD.ints) → Calls Try.prog 21 #[.agg #[.int .i64 b, .int .i64 t, .slice A n c]] W fun x w' => x = .returned (.bool false) ∧ Below W.heap.size W w' := fun W s => by
      have h7 := sBookOk_any b t A n c lo hi l W s
      rw [hok] at h7
      exact h7
    have HO := Lib.hid CO
    clear CO
    clear hok
    go_enter Try.func26, Try.ntmps26
    go_wp2_with fail
    (with_reducible refine (HO.out _ (h.below (B := w.heap.size) (by (repeat' (first | with_reducible exact Below.refl _ _ | with_reducible assumption | with_reducible refine Below.drew ?_ | with_reducible refine Below.alloc ?_ ?_ _ | with_reducible refine Below.setCell ?_ ?_ _ | with_reducible refine Below.trans ?_ (Below.mono (by assumption) ?_) | ((try simp only [World.heap_size_alloc, World.heap_size_drew, World.heap_size_setCell]); omega)))) hhi)).mono ?_); rintro _ w1 ⟨rfl, b1⟩
    have y1 := b1.size
    (try simp only [World.heap_size_alloc] at y1)
    have hw1 : Below w.heap.size w w1 := by (repeat' (first | with_reducible exact Below.refl _ _ | with_reducible assumption | with_reducible refine Below.drew ?_ | with_reducible refine Below.alloc ?_ ?_ _ | with_reducible refine Below.setCell ?_ ?_ _ | with_reducible refine Below.trans ?_ (Below.mono (by assumption) ?_) | ((try simp only [World.heap_size_alloc, World.heap_size_drew, World.heap_size_setCell]); omega)))
    go_wp2_with fail
    go_ret
    exact ⟨rfl, hw1⟩
  | true =>
    have e0 : lastOfM b t l = b + (n : Int) := by simp [lastOfM, hok, ← HL.out]
    obtain ⟨q0, q1, q2, q3, q4, _⟩ := bookOk_facts hok
    rw [HL.out] at q4
    rw [e0]
    clear e0
    have CO : ∀ W, Sl W lo hi 9 A n c (l.flatMap EntryD.ints) → Calls Try.prog 21 #[.agg #[.int .i64 b, .int .i64 t, .slice A n c]] W fun x w' => x = .returned (.bool true) ∧ Below W.heap.size W w' := fun W s => by
      have h7 := sBookOk_any b t A n c lo hi l W s
      rw [hok] at h7
      exact h7
    have HO := Lib.hid CO
    clear CO
    clear hok
    go_enter Try.func26, Try.ntmps26
    go_wp2_with fail
    (with_reducible refine (HO.out _ (h.below (B := w.heap.size) (by (repeat' (first | with_reducible exact Below.refl _ _ | with_reducible assumption | with_reducible refine Below.drew ?_ | with_reducible refine Below.alloc ?_ ?_ _ | with_reducible refine Below.setCell ?_ ?_ _ | with_reducible refine Below.trans ?_ (Below.mono (by assumption) ?_) | ((try simp only [World.heap_size_alloc, World.heap_size_drew, World.heap_size_setCell]); omega)))) hhi)).mono ?_); rintro _ w1 ⟨rfl, b1⟩
    have y1 := b1.size
    (try simp only [World.heap_size_alloc] at y1)
    have hw1 : Below w.heap.size w w1 := by (repeat' (first | with_reducible exact Below.refl _ _ | with_reducible assumption | with_reducible refine Below.drew ?_ | with_reducible refine Below.alloc ?_ ?_ _ | with_reducible refine Below.setCell ?_ ?_ _ | with_reducible refine Below.trans ?_ (Below.mono (by assumption) ?_) | ((try simp only [World.heap_size_alloc, World.heap_size_drew, World.heap_size_setCell]); omega)))
    have v0 : w1.cell? ⟨w.heap.size, 0, none⟩ = some (.int .i64 b) := (b1.cell (p := ⟨w.heap.size, 0, none⟩) (by (try simp only [World.heap_size_alloc, World.heap_size_drew, World.heap_size_setCell]); omega)).trans (by simp)
    have v1 : w1.cell? ⟨w.heap.size, 1, none⟩ = some (.int .i64 t) := (b1.cell (p := ⟨w.heap.size, 1, none⟩) (by (try simp only [World.heap_size_alloc, World.heap_size_drew, World.heap_size_setCell]); omega)).trans (by simp)
    have v2 : w1.cell? ⟨w.heap.size, 2, none⟩ = some (.slice A n c) := (b1.cell (p := ⟨w.heap.size, 2, none⟩) (by (try simp only [World.heap_size_alloc, World.heap_size_drew, World.heap_size_setCell]); omega)).trans (by simp)
    go_wp2_with fail
    (with_reducible refine (l8Last_any b t A n c _ q0 q1 q4).mono ?_); rintro _ w2 ⟨rfl, b2⟩
    go_wp2_with fail
    go_ret
    exact ⟨rfl, by (repeat' (first | with_reducible exact Below.refl _ _ | with_reducible assumption | with_reducible refine Below.drew ?_ | with_reducible refine Below.alloc ?_ ?_ _ | with_reducible refine Below.setCell ?_ ?_ _ | with_reducible refine Below.trans ?_ (Below.mono (by assumption) ?_) | ((try simp only [World.heap_size_alloc, World.heap_size_drew, World.heap_size_setCell]); omega)))⟩
set_option maxHeartbeats 1000000 in
theorem lastOfM_any (b t : Int) (A : Option Addr) (n c lo hi : Nat) (l : List EntryD) (w : World) (h : Sl w lo hi 9 A n c (l.flatMap EntryD.ints)) :
    Calls Try.prog 27 #[.agg #[.int .i64 b, .int .i64 t, .slice A n c]] w fun e w' => e = .returned (.int .i64 (lastOfM b t l)) ∧ Below w.heap.size w w' := by
  have HL := Lib.hid (h.count EntryD.ints_len (by omega) : l.length = n)
  replace h := h.fit (by omega)
  have hhi : min hi w.heap.size ≤ w.heap.size := Nat.min_le_right _ _
  generalize min hi w.heap.size = hi at h hhi
  cases hok : bookOk b t l with
  | false =>
    have e0 : lastOfM b t l = 0 := by simp [lastOfM, hok]
    rw [e0]
    clear e0
    have CO : ∀ W, Sl W lo hi 9 A n c (l.flatMap EntryD.ints) → Calls Try.prog 22 #[.agg #[.int .i64 b, .int .i64 t, .slice A n c]] W fun x w' => x = .returned (.bool false) ∧ Below W.heap.size W w' := fun W s => by
      have h7 := bookOk_any b t A n c lo hi l W s
      rw [hok] at h7
      exact h7
    have HO := Lib.hid CO
    clear CO
    clear hok
    go_enter Try.func27, Try.ntmps27
    go_wp2_with fail
    (with_reducible refine (HO.out _ (h.below (B := w.heap.size) (by (repeat' (first | with_reducible exact Below.refl _ _ | with_reducible assumption | with_reducible refine Below.drew ?_ | with_reducible refine Below.alloc ?_ ?_ _ | with_reducible refine Below.setCell ?_ ?_ _ | with_reducible refine Below.trans ?_ (Below.mono (by assumption) ?_) | ((try simp only [World.heap_size_alloc, World.heap_size_drew, World.heap_size_setCell]); omega)))) hhi)).mono ?_); rintro _ w1 ⟨rfl, b1⟩
    have y1 := b1.size
    (try simp only [World.heap_size_alloc] at y1)
    have hw1 : Below w.heap.size w w1 := by (repeat' (first | with_reducible exact Below.refl _ _ | with_reducible assumption | with_reducible refine Below.drew ?_ | with_reducible refine Below.alloc ?_ ?_ _ | with_reducible refine Below.setCell ?_ ?_ _ | with_reducible refine Below.trans ?_ (Below.mono (by assumption) ?_) | ((try simp only [World.heap_size_alloc, World.heap_size_drew, World.heap_size_setCell]); omega)))
    go_wp2_with fail
    go_ret
    exact ⟨rfl, hw1⟩
  | true =>
    have e0 : lastOfM b t l = b + (n : Int) := by simp [lastOfM, hok, ← HL.out]
    obtain ⟨q0, q1, q2, q3, q4, _⟩ := bookOk_facts hok
    rw [HL.out] at q4
    rw [e0]
    clear e0
    have CO : ∀ W, Sl W lo hi 9 A n c (l.flatMap EntryD.ints) → Calls Try.prog 22 #[.agg #[.int .i64 b, .int .i64 t, .slice A n c]] W fun x w' => x = .returned (.bool true) ∧ Below W.heap.size W w' := fun W s => by
      have h7 := bookOk_any b t A n c lo hi l W s
      rw [hok] at h7
      exact h7
    have HO := Lib.hid CO
    clear CO
    clear hok
    go_enter Try.func27, Try.ntmps27
    go_wp2_with fail
    (with_reducible refine (HO.out _ (h.below (B := w.heap.size) (by (repeat' (first | with_reducible exact Below.refl _ _ | with_reducible assumption | with_reducible refine Below.drew ?_ | with_reducible refine Below.alloc ?_ ?_ _ | with_reducible refine Below.setCell ?_ ?_ _ | with_reducible refine Below.trans ?_ (Below.mono (by assumption) ?_) | ((try simp only [World.heap_size_alloc, World.heap_size_drew, World.heap_size_setCell]); omega)))) hhi)).mono ?_); rintro _ w1 ⟨rfl, b1⟩
    have y1 := b1.size
    (try simp only [World.heap_size_alloc] at y1)
    have hw1 : Below w.heap.size w w1 := by (repeat' (first | with_reducible exact Below.refl _ _ | with_reducible assumption | with_reducible refine Below.drew ?_ | with_reducible refine Below.alloc ?_ ?_ _ | with_reducible refine Below.setCell ?_ ?_ _ | with_reducible refine Below.trans ?_ (Below.mono (by assumption) ?_) | ((try simp only [World.heap_size_alloc, World.heap_size_drew, World.heap_size_setCell]); omega)))
    have v0 : w1.cell? ⟨w.heap.size, 0, none⟩ = some (.int .i64 b) := (b1.cell (p := ⟨w.heap.size, 0, none⟩) (by (try simp only [World.heap_size_alloc, World.heap_size_drew, World.heap_size_setCell]); omega)).trans (by simp)
    have v1 : w1.cell? ⟨w.heap.size, 1, none⟩ = some (.int .i64 t) := (b1.cell (p := ⟨w.heap.size, 1, none⟩) (by (try simp only [World.heap_size_alloc, World.heap_size_drew, World.heap_size_setCell]); omega)).trans (by simp)
    have v2 : w1.cell? ⟨w.heap.size, 2, none⟩ = some (.slice A n c) := (b1.cell (p := ⟨w.heap.size, 2, none⟩) (by (try simp only [World.heap_size_alloc, World.heap_size_drew, World.heap_size_setCell]); omega)).trans (by simp)
    go_wp2_with fail
    (with_reducible refine (lastOf_any b t A n c _ q0 q1 q4).mono ?_); rintro _ w2 ⟨rfl, b2⟩
    go_wp2_with fail
    go_ret
    exact ⟨rfl, by (repeat' (first | with_reducible exact Below.refl _ _ | with_reducible assumption | with_reducible refine Below.drew ?_ | with_reducible refine Below.alloc ?_ ?_ _ | with_reducible refine Below.setCell ?_ ?_ _ | with_reducible refine Below.trans ?_ (Below.mono (by assumption) ?_) | ((try simp only [World.heap_size_alloc, World.heap_size_drew, World.heap_size_setCell]); omega)))⟩
set_option maxHeartbeats 1000000 in
theorem sTimeOf_any (b t : Int) (A : Option Addr) (n c lo hi : Nat) (l : List EntryD) (w : World) (h : Sl w lo hi 9 A n c (l.flatMap EntryD.ints)) :
    Calls Try.prog 28 #[.agg #[.int .i64 b, .int .i64 t, .slice A n c]] w fun e w' => e = .returned (.int .i64 (timeOfM b t l)) ∧ Below w.heap.size w w' := by
  have HL := Lib.hid (h.count EntryD.ints_len (by omega) : l.length = n)
  replace h := h.fit (by omega)
  have hhi : min hi w.heap.size ≤ w.heap.size := Nat.min_le_right _ _
  generalize min hi w.heap.size = hi at h hhi
  cases hok : bookOk b t l with
  | false =>
    have e0 : timeOfM b t l = 0 := by simp [timeOfM, hok]
    rw [e0]
    clear e0
    have CO : ∀ W, Sl W lo hi 9 A n c (l.flatMap EntryD.ints) → Calls Try.prog 21 #[.agg #[.int .i64 b, .int .i64 t, .slice A n c]] W fun x w' => x = .returned (.bool false) ∧ Below W.heap.size W w' := fun W s => by
      have h7 := sBookOk_any b t A n c lo hi l W s
      rw [hok] at h7
      exact h7
    have HO := Lib.hid CO
    clear CO
    clear hok
    go_enter Try.func28, Try.ntmps28
    go_wp2_with fail
    (with_reducible refine (HO.out _ (h.below (B := w.heap.size) (by (repeat' (first | with_reducible exact Below.refl _ _ | with_reducible assumption | with_reducible refine Below.drew ?_ | with_reducible refine Below.alloc ?_ ?_ _ | with_reducible refine Below.setCell ?_ ?_ _ | with_reducible refine Below.trans ?_ (Below.mono (by assumption) ?_) | ((try simp only [World.heap_size_alloc, World.heap_size_drew, World.heap_size_setCell]); omega)))) hhi)).mono ?_); rintro _ w1 ⟨rfl, b1⟩
    have y1 := b1.size
    (try simp only [World.heap_size_alloc] at y1)
    have hw1 : Below w.heap.size w w1 := by (repeat' (first | with_reducible exact Below.refl _ _ | with_reducible assumption | with_reducible refine Below.drew ?_ | with_reducible refine Below.alloc ?_ ?_ _ | with_reducible refine Below.setCell ?_ ?_ _ | with_reducible refine Below.trans ?_ (Below.mono (by assumption) ?_) | ((try simp only [World.heap_size_alloc, World.heap_size_drew, World.heap_size_setCell]); omega)))
    go_wp2_with fail
    go_ret
    exact ⟨rfl, hw1⟩
  | true =>
    have e0 : timeOfM b t l = lastTime t l := by simp [timeOfM, hok]
    obtain ⟨q0, q1, q2, q3, q4, _⟩ := bookOk_facts hok
    rw [HL.out] at q4
    rw [e0]
    clear e0
    have CO : ∀ W, Sl W lo hi 9 A n c (l.flatMap EntryD.ints) → Calls Try.prog 21 #[.agg #[.int .i64 b, .int .i64 t, .slice A n c]] W fun x w' => x = .returned (.bool true) ∧ Below W.heap.size W w' := fun W s => by
      have h7 := sBookOk_any b t A n c lo hi l W s
      rw [hok] at h7
      exact h7
    have HO := Lib.hid CO
    clear CO
    have CT : ∀ W, Sl W lo hi 9 A n c (l.flatMap EntryD.ints) → Calls Try.prog 65 #[.agg #[.int .i64 b, .int .i64 t, .slice A n c], .int .i64 (b + (n : Int))] W fun x w' => x = .returned (.int .i64 (lastTime t l)) ∧ Below W.heap.size W w' := fun W s => by
      have h7 := l8TimeAt_any b t A n c lo hi l (b + (n : Int)) W s q0 q1 q4 (by omega) (by omega)
      rw [timeAt_last HL.out] at h7
      exact h7
    have HT := Lib.hid CT
    have HLA := Lib.hid (fun W => l8Last_any b t A n c W q0 q1 q4)
    generalize lastTime t l = x at HT CT
    clear hok CT
    go_enter Try.func28, Try.ntmps28
    go_wp2_with fail
    (with_reducible refine (HO.out _ (h.below (B := w.heap.size) (by (repeat' (first | with_reducible exact Below.refl _ _ | with_reducible assumption | with_reducible refine Below.drew ?_ | with_reducible refine Below.alloc ?_ ?_ _ | with_reducible refine Below.setCell ?_ ?_ _ | with_reducible refine Below.trans ?_ (Below.mono (by assumption) ?_) | ((try simp only [World.heap_size_alloc, World.heap_size_drew, World.heap_size_setCell]); omega)))) hhi)).mono ?_); rintro _ w1 ⟨rfl, b1⟩
    have y1 := b1.size
    (try simp only [World.heap_size_alloc] at y1)
    have hw1 : Below w.heap.size w w1 := by (repeat' (first | with_reducible exact Below.refl _ _ | with_reducible assumption | with_reducible refine Below.drew ?_ | with_reducible refine Below.alloc ?_ ?_ _ | with_reducible refine Below.setCell ?_ ?_ _ | with_reducible refine Below.trans ?_ (Below.mono (by assumption) ?_) | ((try simp only [World.heap_size_alloc, World.heap_size_drew, World.heap_size_setCell]); omega)))
    have v0 : w1.cell? ⟨w.heap.size, 0, none⟩ = some (.int .i64 b) := (b1.cell (p := ⟨w.heap.size, 0, none⟩) (by (try simp only [World.heap_size_alloc, World.heap_size_drew, World.heap_size_setCell]); omega)).trans (by simp)
    have fv0 := fun d os => cell_regrown v0 d os
    have v1 : w1.cell? ⟨w.heap.size, 1, none⟩ = some (.int .i64 t) := (b1.cell (p := ⟨w.heap.size, 1, none⟩) (by (try simp only [World.heap_size_alloc, World.heap_size_drew, World.heap_size_setCell]); omega)).trans (by simp)
    have fv1 := fun d os => cell_regrown v1 d os
    have v2 : w1.cell? ⟨w.heap.size, 2, none⟩ = some (.slice A n c) := (b1.cell (p := ⟨w.heap.size, 2, none⟩) (by (try simp only [World.heap_size_alloc, World.heap_size_drew, World.heap_size_setCell]); omega)).trans (by simp)
    have fv2 := fun d os => cell_regrown v2 d os
    have S1 := Lib.hid (h.below hw1 hhi)
    have hhi1 : hi ≤ w1.heap.size := by omega
    go_wp2_with fail
    refine wp_region_quiet_below (by kernel_rfl) (by kernel_rfl) ?_; (repeat (first | go_big_quiet_step ((first | (go_at_call 62; exact Calls.regrown_of (HLA.out _)) | (go_at_call 65; exact Calls.regrown_of (HT.out _ (S1.out.below (below_regrown _ _ _) hhi1))))) | quiet_step ((first | (go_at_call 62; exact Calls.regrown_of (HLA.out _)) | (go_at_call 65; exact Calls.regrown_of (HT.out _ (S1.out.below (below_regrown _ _ _) hhi1))))))); refine wpQuiet_nil ?_; intro _ hw'; obtain ⟨⟨nq, osq⟩, hw''⟩ := hw'; subst hw''; have hq := below_regrown w1 nq osq; generalize Sort.grow (redrawn w1 nq) osq = w3 at *
    have hw3 : Below w.heap.size w w3 := hw1.trans (hq.mono (by omega))
    go_wp2
    go_ret
    exact ⟨rfl, hw3⟩
set_option maxHeartbeats 1000000 in
theorem timeOf_any (b t : Int) (A : Option Addr) (n c lo hi : Nat) (l : List EntryD) (w : World) (h : Sl w lo hi 9 A n c (l.flatMap EntryD.ints)) :
    Calls Try.prog 29 #[.agg #[.int .i64 b, .int .i64 t, .slice A n c]] w fun e w' => e = .returned (.int .i64 (timeOfM b t l)) ∧ Below w.heap.size w w' := by
  have HL := Lib.hid (h.count EntryD.ints_len (by omega) : l.length = n)
  replace h := h.fit (by omega)
  have hhi : min hi w.heap.size ≤ w.heap.size := Nat.min_le_right _ _
  generalize min hi w.heap.size = hi at h hhi
  cases hok : bookOk b t l with
  | false =>
    have e0 : timeOfM b t l = 0 := by simp [timeOfM, hok]
    rw [e0]
    clear e0
    have CO : ∀ W, Sl W lo hi 9 A n c (l.flatMap EntryD.ints) → Calls Try.prog 22 #[.agg #[.int .i64 b, .int .i64 t, .slice A n c]] W fun x w' => x = .returned (.bool false) ∧ Below W.heap.size W w' := fun W s => by
      have h7 := bookOk_any b t A n c lo hi l W s
      rw [hok] at h7
      exact h7
    have HO := Lib.hid CO
    clear CO
    clear hok
    go_enter Try.func29, Try.ntmps29
    go_wp2_with fail
    (with_reducible refine (HO.out _ (h.below (B := w.heap.size) (by (repeat' (first | with_reducible exact Below.refl _ _ | with_reducible assumption | with_reducible refine Below.drew ?_ | with_reducible refine Below.alloc ?_ ?_ _ | with_reducible refine Below.setCell ?_ ?_ _ | with_reducible refine Below.trans ?_ (Below.mono (by assumption) ?_) | ((try simp only [World.heap_size_alloc, World.heap_size_drew, World.heap_size_setCell]); omega)))) hhi)).mono ?_); rintro _ w1 ⟨rfl, b1⟩
    have y1 := b1.size
    (try simp only [World.heap_size_alloc] at y1)
    have hw1 : Below w.heap.size w w1 := by (repeat' (first | with_reducible exact Below.refl _ _ | with_reducible assumption | with_reducible refine Below.drew ?_ | with_reducible refine Below.alloc ?_ ?_ _ | with_reducible refine Below.setCell ?_ ?_ _ | with_reducible refine Below.trans ?_ (Below.mono (by assumption) ?_) | ((try simp only [World.heap_size_alloc, World.heap_size_drew, World.heap_size_setCell]); omega)))
    go_wp2_with fail
    go_ret
    exact ⟨rfl, hw1⟩
  | true =>
    have e0 : timeOfM b t l = lastTime t l := by simp [timeOfM, hok]
    obtain ⟨q0, q1, q2, q3, q4, _⟩ := bookOk_facts hok
    rw [HL.out] at q4
    rw [e0]
    clear e0
    have CO : ∀ W, Sl W lo hi 9 A n c (l.flatMap EntryD.ints) → Calls Try.prog 22 #[.agg #[.int .i64 b, .int .i64 t, .slice A n c]] W fun x w' => x = .returned (.bool true) ∧ Below W.heap.size W w' := fun W s => by
      have h7 := bookOk_any b t A n c lo hi l W s
      rw [hok] at h7
      exact h7
    have HO := Lib.hid CO
    clear CO
    have HT := Lib.hid (fun W s => timeOf1_any b t A n c lo hi l W s (by omega))
    generalize lastTime t l = x at HT
    clear hok
    go_enter Try.func29, Try.ntmps29
    go_wp2_with fail
    (with_reducible refine (HO.out _ (h.below (B := w.heap.size) (by (repeat' (first | with_reducible exact Below.refl _ _ | with_reducible assumption | with_reducible refine Below.drew ?_ | with_reducible refine Below.alloc ?_ ?_ _ | with_reducible refine Below.setCell ?_ ?_ _ | with_reducible refine Below.trans ?_ (Below.mono (by assumption) ?_) | ((try simp only [World.heap_size_alloc, World.heap_size_drew, World.heap_size_setCell]); omega)))) hhi)).mono ?_); rintro _ w1 ⟨rfl, b1⟩
    have y1 := b1.size
    (try simp only [World.heap_size_alloc] at y1)
    have hw1 : Below w.heap.size w w1 := by (repeat' (first | with_reducible exact Below.refl _ _ | with_reducible assumption | with_reducible refine Below.drew ?_ | with_reducible refine Below.alloc ?_ ?_ _ | with_reducible refine Below.setCell ?_ ?_ _ | with_reducible refine Below.trans ?_ (Below.mono (by assumption) ?_) | ((try simp only [World.heap_size_alloc, World.heap_size_drew, World.heap_size_setCell]); omega)))
    have v0 : w1.cell? ⟨w.heap.size, 0, none⟩ = some (.int .i64 b) := (b1.cell (p := ⟨w.heap.size, 0, none⟩) (by (try simp only [World.heap_size_alloc, World.heap_size_drew, World.heap_size_setCell]); omega)).trans (by simp)
    have v1 : w1.cell? ⟨w.heap.size, 1, none⟩ = some (.int .i64 t) := (b1.cell (p := ⟨w.heap.size, 1, none⟩) (by (try simp only [World.heap_size_alloc, World.heap_size_drew, World.heap_size_setCell]); omega)).trans (by simp)
    have v2 : w1.cell? ⟨w.heap.size, 2, none⟩ = some (.slice A n c) := (b1.cell (p := ⟨w.heap.size, 2, none⟩) (by (try simp only [World.heap_size_alloc, World.heap_size_drew, World.heap_size_setCell]); omega)).trans (by simp)
    go_wp2_with fail
    (with_reducible refine (HT.out _ (h.below hw1 hhi)).mono ?_); rintro _ w2 ⟨rfl, b2⟩
    go_wp2_with fail
    go_ret
    exact ⟨rfl, by (repeat' (first | with_reducible exact Below.refl _ _ | with_reducible assumption | with_reducible refine Below.drew ?_ | with_reducible refine Below.alloc ?_ ?_ _ | with_reducible refine Below.setCell ?_ ?_ _ | with_reducible refine Below.trans ?_ (Below.mono (by assumption) ?_) | ((try simp only [World.heap_size_alloc, World.heap_size_drew, World.heap_size_setCell]); omega)))⟩

end Go.Proofs.Ytijefbmnhcecmaa
