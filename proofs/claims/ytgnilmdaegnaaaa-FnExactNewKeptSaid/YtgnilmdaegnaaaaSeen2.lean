/- Marks: what the program's and the reference's reads of them return. No conditions. -/
import Derived.Test.YtgnilmdaegnaaaaSeen
set_option linter.unusedSimpArgs false
set_option linter.unusedVariables false
namespace Go.Proofs.Ytgnilmdaegnaaaa
open Go.RowKit

def sameSeen (a b : List MarkD) : Bool := decide (a = b)
theorem sameSeen_len {a b : List MarkD} (h : a.length ≠ b.length) : sameSeen a b = false := by
  simp only [sameSeen, decide_eq_false_iff_not]
  intro e
  exact h (by rw [e])
theorem sameSeen_at {a b : List MarkD} {j : Nat} (h : a[j]? ≠ b[j]?) : sameSeen a b = false := by
  simp only [sameSeen, decide_eq_false_iff_not]
  intro e
  exact h (by rw [e])
theorem sameSeen_of {a b : List MarkD} {n : Nat} (ha : a.length = n) (hb : b.length = n) (h : ∀ j, j < n → a[j]? = b[j]?) : sameSeen a b = true := by
  simp only [sameSeen, decide_eq_true_eq]
  apply List.ext_getElem?
  intro j
  by_cases hj : j < n
  · exact h j hj
  · rw [List.getElem?_eq_none (by omega), List.getElem?_eq_none (by omega)]
theorem mark_ne {a b : MarkD} (h : a ≠ b) : ¬ a.client = b.client ∨ (a.client = b.client ∧ ¬ a.seq = b.seq) ∨ (a.client = b.client ∧ a.seq = b.seq ∧ ¬ a.index = b.index) := by
  by_cases h1 : a.client = b.client
  · by_cases h2 : a.seq = b.seq
    · by_cases h3 : a.index = b.index
      · exact absurd (MarkD.ext h1 h2 h3) h
      · exact .inr (.inr ⟨h1, h2, h3⟩)
    · exact .inr (.inl ⟨h1, h2⟩)
  · exact .inl h1
set_option maxRecDepth 100000 in
set_option maxHeartbeats 2000000 in
theorem slicesEqualMark_any (A B : Option Addr) (n c m d lo hi lo' hi' : Nat) (l k : List MarkD) (w : World) (h : Sl w lo hi 3 A n c (l.flatMap MarkD.ints)) (h' : Sl w lo' hi' 3 B m d (k.flatMap MarkD.ints)) :
    Calls Try.prog 119 #[.slice A n c, .slice B m d] w (BoolRes w (sameSeen l k)) := by
  have hn : n ≤ 9223372036854775807 := Nat.le_trans h.cap h.big
  have hm0 : m ≤ 9223372036854775807 := Nat.le_trans h'.cap h'.big
  have hl : l.length = n := h.count MarkD.ints_len (by omega)
  have hk : k.length = m := h'.count MarkD.ints_len (by omega)
  by_cases hnm : n = m
  · subst hnm
    have H := Lib.hid (h.fit (by omega))
    have K := Lib.hid (h'.fit (by omega))
    have HL := Lib.hid hl
    have HK := Lib.hid hk
    clear h h' hl hk
    go_enter Try.func119, Try.ntmps119
    go_wp2
    go_loopw [5, 13] (fun _ i wr => ∃ j : Nat, j ≤ n ∧ i = .int .i64 j ∧ Below w.heap.size w wr ∧ Hid (∀ q, q < j → l[q]? = k[q]?)) (fun _ i _ => n - (intOf i).toNat)
    case atStart => exact ⟨0, Nat.zero_le _, rfl, Below.refl _ _, fun j hj => absurd hj (by omega)⟩
    case round =>
      obtain ⟨j, hj, rfl, hb, hp⟩ := hrel
      by_cases hlt : j < n
      · obtain ⟨g, off, e, rfl, _, hg, he, p0, p1, p2⟩ := H.out.mark hlt
        obtain ⟨g', off', e', rfl, _, hg', he', q0, q1, q2⟩ := K.out.mark hlt
        have hg1 := Nat.lt_of_lt_of_le hg (Nat.min_le_right _ _)
        have hg2 := Nat.lt_of_lt_of_le hg' (Nat.min_le_right _ _)
        have HE := Lib.hid he
        have HE' := Lib.hid he'
        have r0 := (hb.cell (p := ⟨g, off + j * 3, none⟩) hg1).trans p0
        have r1 := (hb.cell (p := ⟨g, off + j * 3 + 1, none⟩) hg1).trans p1
        have r2 := (hb.cell (p := ⟨g, off + j * 3 + 2, none⟩) hg1).trans p2
        have s0 := (hb.cell (p := ⟨g', off' + j * 3, none⟩) hg2).trans q0
        have s1 := (hb.cell (p := ⟨g', off' + j * 3 + 1, none⟩) hg2).trans q1
        have s2 := (hb.cell (p := ⟨g', off' + j * 3 + 2, none⟩) hg2).trans q2
        have fr0 := fun d os => cell_regrown r0 d os
        have fr1 := fun d os => cell_regrown r1 d os
        have fr2 := fun d os => cell_regrown r2 d os
        have fs0 := fun d os => cell_regrown s0 d os
        have fs1 := fun d os => cell_regrown s1 d os
        have fs2 := fun d os => cell_regrown s2 d os
        clear he he' p0 p1 p2 q0 q1 q2
        by_cases hee : e = e'
        · subst hee
          go_wp2
          refine wp_region_quiet_below (by kernel_rfl) (by kernel_rfl) ?_; (repeat (first | go_big_quiet_step (fail) | quiet_step (fail))); refine wpQuiet_nil ?_; intro _ hw'; obtain ⟨⟨nq, osq⟩, hw''⟩ := hw'; subst hw''; have hq := below_regrown wr nq osq; generalize Sort.grow (redrawn wr nq) osq = w1 at *
          have hbz := hb.size
          have hbw : Below w.heap.size w w1 := by (repeat' (first | with_reducible exact Below.refl _ _ | with_reducible assumption | with_reducible refine Below.drew ?_ | with_reducible refine Below.alloc ?_ ?_ _ | with_reducible refine Below.setCell ?_ ?_ _ | with_reducible refine Below.trans ?_ (Below.mono (by assumption) ?_) | ((try simp only [World.heap_size_alloc, World.heap_size_drew, World.heap_size_setCell]); omega)))
          go_wp2
          go_roundw
          case rel => exact ⟨j + 1, hlt, by go_num, hbw, fun q hq => by
            rcases Nat.lt_succ_iff_lt_or_eq.1 hq with h5 | rfl
            · exact hp.out q h5
            · rw [HE.out, HE'.out]⟩
          case measure => simp [intOf]; omega
        · have hcs := mark_ne hee
          have HEE := Lib.hid hee
          clear hee
          rcases hcs with hc | ⟨hc, hs⟩ | ⟨hc, hs, hx⟩
          all_goals
            go_wp2
            refine wp_region_quiet_below (by kernel_rfl) (by kernel_rfl) ?_; (repeat (first | go_big_quiet_step (fail) | quiet_step (fail))); refine wpQuiet_nil ?_; intro _ hw'; obtain ⟨⟨nq, osq⟩, hw''⟩ := hw'; subst hw''; have hq := below_regrown wr nq osq; generalize Sort.grow (redrawn wr nq) osq = w1 at *
            have hbz := hb.size
            have hbw : Below w.heap.size w w1 := by (repeat' (first | with_reducible exact Below.refl _ _ | with_reducible assumption | with_reducible refine Below.drew ?_ | with_reducible refine Below.alloc ?_ ?_ _ | with_reducible refine Below.setCell ?_ ?_ _ | with_reducible refine Below.trans ?_ (Below.mono (by assumption) ?_) | ((try simp only [World.heap_size_alloc, World.heap_size_drew, World.heap_size_setCell]); omega)))
            go_wp2
            go_ret
            exact ⟨by rw [sameSeen_at (j := j) (by rw [HE.out, HE'.out]; intro h9; injection h9 with h9; exact HEE.out h9)]; rfl, hbw⟩
      · go_wp2
        go_ret
        have hjn : j = n := by omega
        subst hjn
        exact ⟨by rw [sameSeen_of HL.out HK.out hp.out]; rfl, hb⟩
  · have hne : ((n : Int) != (m : Int)) = true := by simp; omega
    rw [sameSeen_len (by omega)]
    clear hl hk h h'
    go_enter Try.func119, Try.ntmps119
    go_wp2
    go_ret
    exact ⟨rfl, Below.refl _ _⟩
set_option maxRecDepth 100000 in
set_option maxHeartbeats 400000 in
theorem sameSeen_any (A B : Option Addr) (n c m d lo hi lo' hi' : Nat) (l k : List MarkD) (w : World) (h : Sl w lo hi 3 A n c (l.flatMap MarkD.ints)) (h' : Sl w lo' hi' 3 B m d (k.flatMap MarkD.ints)) :
    Calls Try.prog 64 #[.slice A n c, .slice B m d] w (BoolRes w (sameSeen l k)) := by
  have HC := Lib.hid (slicesEqualMark_any A B n c m d lo hi lo' hi' l k w h h')
  clear h h'
  go_enter Try.func64, Try.ntmps64
  go_wp2_with fail
  (with_reducible refine HC.out.mono ?_); rintro _ w1 ⟨rfl, b1⟩
  go_wp2_with fail
  go_ret
  exact ⟨rfl, b1⟩

end Go.Proofs.Ytgnilmdaegnaaaa
