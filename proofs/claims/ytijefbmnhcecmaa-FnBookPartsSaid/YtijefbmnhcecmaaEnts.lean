/- Lists of entries: what the program's and the reference's tests of them return. No conditions. -/
import Derived.Test.YtijefbmnhcecmaaHelp
import Derived.Test.YtijefbmnhcecmaaApp
import Derived.Lib.QuietBelow
import Derived.BigQuiet
import Derived.IntWalk
set_option linter.unusedSimpArgs false
set_option linter.unusedVariables false
namespace Go.Proofs.Ytijefbmnhcecmaa
open Go.RowKit

/-- The entry at place i is valid and follows the one before it. -/
def stepOk (l : List EntryD) (i : Nat) : Bool :=
  match l[i]? with
  | none => true
  | some e => entryOk e && (match i with
    | 0 => true
    | j + 1 => match l[j]? with
      | none => true
      | some p => (e.index == p.index + 1) && decide (p.time ≤ e.time))
def entriesOk (l : List EntryD) : Bool := decide (l.length ≤ 2000) && (List.range l.length).all (stepOk l)
theorem entriesOk_of {l : List EntryD} (h1 : l.length ≤ 2000) (h : ∀ j, j < l.length → stepOk l j = true) : entriesOk l = true := by
  simp only [entriesOk, Bool.and_eq_true, decide_eq_true_eq, List.all_eq_true, List.mem_range]
  exact ⟨h1, h⟩
theorem entriesOk_not {l : List EntryD} {j : Nat} (hj : j < l.length) (h : stepOk l j = false) : entriesOk l = false := by
  simp only [entriesOk, Bool.and_eq_false_iff, List.all_eq_false, List.mem_range]
  exact .inr ⟨j, hj, by simp [h]⟩
theorem entriesOk_long {l : List EntryD} (h : 2000 < l.length) : entriesOk l = false := by
  simp only [entriesOk, Bool.and_eq_false_iff, decide_eq_false_iff_not]
  exact .inl (by omega)
theorem stepOk_zero {l : List EntryD} {e : EntryD} (h : l[0]? = some e) : stepOk l 0 = entryOk e := by simp [stepOk, h]
theorem stepOk_succ {l : List EntryD} {q : Nat} {e p : EntryD} (h : l[q + 1]? = some e) (h' : l[q]? = some p) : stepOk l (q + 1) = (entryOk e && ((e.index == p.index + 1) && decide (p.time ≤ e.time))) := by simp [stepOk, h, h']
theorem stepOk_bad {l : List EntryD} {i : Nat} {e : EntryD} (h : l[i]? = some e) (h' : entryOk e = false) : stepOk l i = false := by simp [stepOk, h, h']
theorem entryOk_of_step {l : List EntryD} {i : Nat} {e : EntryD} (h : l[i]? = some e) (h' : stepOk l i = true) : entryOk e = true := by
  simp only [stepOk, h, Bool.and_eq_true] at h'
  exact h'.1
theorem entryOk_index {e : EntryD} (h : entryOk e = true) : 1 ≤ e.index ∧ e.index ≤ 2000 := by
  simp only [entryOk, Bool.and_eq_true, btw_iff] at h
  exact h.1.1.1.1
theorem entryOk_time {e : EntryD} (h : entryOk e = true) : 0 ≤ e.time ∧ e.time ≤ 1000000 := by
  simp only [entryOk, Bool.and_eq_true, btw_iff] at h
  exact h.1.1.1.2

def BoolRes (w : World) (b : Bool) (e : Ending) (w' : World) : Prop := e = .returned (.bool b) ∧ Below w.heap.size w w'

set_option maxRecDepth 100000 in
set_option maxHeartbeats 800000 in
theorem sEntriesOk_any (A : Option Addr) (n c lo hi : Nat) (l : List EntryD) (w : World) (h : Sl w lo hi 9 A n c (l.flatMap EntryD.ints)) :
    Calls Try.prog 58 #[.slice A n c] w (BoolRes w (entriesOk l)) := by
  have hn : n ≤ 9223372036854775807 := Nat.le_trans h.cap h.big
  have hl : l.length = n := h.count EntryD.ints_len (by omega)
  rcases Nat.lt_or_ge 2000 n with hlong | hshort
  · rw [entriesOk_long (by omega)]
    clear hl h
    go_enter Try.func58, Try.ntmps58
    go_wp2
    go_ret
    exact ⟨rfl, Below.refl _ _⟩
  have H := Lib.hid (h.fit (by omega))
  have HL := Lib.hid hl
  clear h hl
  go_enter Try.func58, Try.ntmps58
  go_wp2
  go_loopw [3] (fun i wr => ∃ m : Nat, m ≤ n ∧ i = .int .i64 m ∧ Below w.heap.size w wr ∧ Hid (∀ j, j < m → stepOk l j = true)) (fun i _ => n - (intOf i).toNat)
  case atStart => exact ⟨0, Nat.zero_le _, rfl, Below.refl _ _, fun j hj => absurd hj (by omega)⟩
  case round =>
    obtain ⟨m, hm, rfl, hb, hp⟩ := hrel
    by_cases hlt : m < n
    · obtain ⟨g, off, e, rfl, _, hg, he, p0, p1, p2, p3, p4, p5, p6, p7, p8⟩ := H.out.entry hlt
      have hg1 := Nat.lt_of_lt_of_le hg (Nat.min_le_right _ _)
      have HE := Lib.hid he
      clear he
      have hgw : g < wr.heap.size := Nat.lt_of_lt_of_le hg1 hb.size
      have r0 := (hb.cell (p := ⟨g, off + m * 9, none⟩) hg1).trans p0
      have r1 := (hb.cell (p := ⟨g, off + m * 9 + 1, none⟩) hg1).trans p1
      have r2 := (hb.cell (p := ⟨g, off + m * 9 + 2, none⟩) hg1).trans p2
      have r3 := (hb.cell (p := ⟨g, off + m * 9 + 3, none⟩) hg1).trans p3
      have r4 := (hb.cell (p := ⟨g, off + m * 9 + 4, none⟩) hg1).trans p4
      have r5 := (hb.cell (p := ⟨g, off + m * 9 + 5, none⟩) hg1).trans p5
      have r6 := (hb.cell (p := ⟨g, off + m * 9 + 6, none⟩) hg1).trans p6
      have r7 := (hb.cell (p := ⟨g, off + m * 9 + 7, none⟩) hg1).trans p7
      have r8 := (hb.cell (p := ⟨g, off + m * 9 + 8, none⟩) hg1).trans p8
      clear p0 p1 p2 p3 p4 p5 p6 p7 p8
      cases hok : entryOk e with
      | false =>
        have fr0 := fun d os => cell_regrown r0 d os
        have fr1 := fun d os => cell_regrown r1 d os
        have fr2 := fun d os => cell_regrown r2 d os
        have fr3 := fun d os => cell_regrown r3 d os
        have fr4 := fun d os => cell_regrown r4 d os
        have fr5 := fun d os => cell_regrown r5 d os
        have fr6 := fun d os => cell_regrown r6 d os
        have fr7 := fun d os => cell_regrown r7 d os
        have fr8 := fun d os => cell_regrown r8 d os
        have CE : ∀ W, Calls Try.prog 71 #[.agg #[.int .i64 e.index, .int .i64 e.time, .int .i64 e.client, .int .i64 e.seq, .int .i64 e.op.kind, .int .i64 e.op.a, .int .i64 e.op.b, .int .i64 e.op.c, .int .i64 e.op.d]] W fun x w' => x = .returned (.bool false) ∧ Below W.heap.size W w' := fun W => by
          have h7 := sEntryOk_any e.index e.time e.client e.seq e.op.kind e.op.a e.op.b e.op.c e.op.d W
          rw [show entryOk ⟨e.index, e.time, e.client, e.seq, ⟨e.op.kind, e.op.a, e.op.b, e.op.c, e.op.d⟩⟩ = false from hok] at h7
          exact h7
        have HCE := Lib.hid CE
        clear CE
        go_wp2
        refine wp_region_quiet_below (by kernel_rfl) (by kernel_rfl) ?_; (repeat (first | go_big_quiet_step ((go_at_call 71; exact Calls.regrown_of (HCE.out _))) | quiet_step ((go_at_call 71; exact Calls.regrown_of (HCE.out _))))); refine wpQuiet_nil ?_; intro _ hw'; obtain ⟨⟨nq, osq⟩, hw''⟩ := hw'; subst hw''; have hq := below_regrown wr nq osq; generalize Sort.grow (redrawn wr nq) osq = w1 at *
        have hbz := hb.size
        have hbw : Below w.heap.size w w1 := by (repeat' (first | with_reducible exact Below.refl _ _ | with_reducible assumption | with_reducible refine Below.drew ?_ | with_reducible refine Below.alloc ?_ ?_ _ | with_reducible refine Below.setCell ?_ ?_ _ | with_reducible refine Below.trans ?_ (Below.mono (by assumption) ?_) | ((try simp only [World.heap_size_alloc, World.heap_size_drew, World.heap_size_setCell]); omega)))
        go_wp2
        go_ret
        exact ⟨by rw [entriesOk_not (by rw [HL.out]; exact hlt) (stepOk_bad HE.out hok)]; rfl, hbw⟩
      | true =>
        rcases Nat.eq_zero_or_pos m with rfl | hpos
        · simp only [Nat.zero_mul, Nat.add_zero] at r0 r1 r2 r3 r4 r5 r6 r7 r8
          have fr0 := fun d os => cell_regrown r0 d os
          have fr1 := fun d os => cell_regrown r1 d os
          have fr2 := fun d os => cell_regrown r2 d os
          have fr3 := fun d os => cell_regrown r3 d os
          have fr4 := fun d os => cell_regrown r4 d os
          have fr5 := fun d os => cell_regrown r5 d os
          have fr6 := fun d os => cell_regrown r6 d os
          have fr7 := fun d os => cell_regrown r7 d os
          have fr8 := fun d os => cell_regrown r8 d os
          have hz : decide ((0 : Int) < ((0 : Nat) : Int)) = false := by simp
          have CE : ∀ W, Calls Try.prog 71 #[.agg #[.int .i64 e.index, .int .i64 e.time, .int .i64 e.client, .int .i64 e.seq, .int .i64 e.op.kind, .int .i64 e.op.a, .int .i64 e.op.b, .int .i64 e.op.c, .int .i64 e.op.d]] W fun x w' => x = .returned (.bool true) ∧ Below W.heap.size W w' := fun W => by
            have h7 := sEntryOk_any e.index e.time e.client e.seq e.op.kind e.op.a e.op.b e.op.c e.op.d W
            rw [show entryOk ⟨e.index, e.time, e.client, e.seq, ⟨e.op.kind, e.op.a, e.op.b, e.op.c, e.op.d⟩⟩ = true from hok] at h7
            exact h7
          have HCE := Lib.hid CE
          clear CE
          go_wp2
          refine wp_region_quiet_below (by kernel_rfl) (by kernel_rfl) ?_; (repeat (first | go_big_quiet_step ((go_at_call 71; exact Calls.regrown_of (HCE.out _))) | quiet_step ((go_at_call 71; exact Calls.regrown_of (HCE.out _))))); refine wpQuiet_nil ?_; intro _ hw'; obtain ⟨⟨nq, osq⟩, hw''⟩ := hw'; subst hw''; have hq := below_regrown wr nq osq; generalize Sort.grow (redrawn wr nq) osq = w1 at *
          have hbz := hb.size
          have hbw : Below w.heap.size w w1 := by (repeat' (first | with_reducible exact Below.refl _ _ | with_reducible assumption | with_reducible refine Below.drew ?_ | with_reducible refine Below.alloc ?_ ?_ _ | with_reducible refine Below.setCell ?_ ?_ _ | with_reducible refine Below.trans ?_ (Below.mono (by assumption) ?_) | ((try simp only [World.heap_size_alloc, World.heap_size_drew, World.heap_size_setCell]); omega)))
          go_wp2
          go_roundw
          case rel => exact ⟨_, hlt, by go_num, hbw, fun j hj => by
            rcases Nat.lt_succ_iff_lt_or_eq.1 hj with h5 | rfl
            · exact hp.out j h5
            · rw [stepOk_zero HE.out]; exact hok⟩
          case measure => simp [intOf]; omega
        · obtain ⟨q, rfl⟩ : ∃ q, m = q + 1 := ⟨m - 1, by omega⟩
          obtain ⟨g2, off2, p, hA2, _, _, hep, s0, s1, _⟩ := H.out.entry (show q < n by omega)
          injection hA2 with hA2
          injection hA2 with hA3 hA4
          subst hA3
          subst hA4
          have u0 := (hb.cell (p := ⟨g, off + q * 9, none⟩) hg1).trans s0
          have u1 := (hb.cell (p := ⟨g, off + q * 9 + 1, none⟩) hg1).trans s1
          have hpok := entryOk_of_step hep (hp.out q (by omega))
          obtain ⟨b0, b1⟩ := entryOk_index hpok
          have HP := Lib.hid hep
          clear hep s0 s1 hpok
          have fr0 := fun d os => cell_regrown r0 d os
          have fr1 := fun d os => cell_regrown r1 d os
          have fr2 := fun d os => cell_regrown r2 d os
          have fr3 := fun d os => cell_regrown r3 d os
          have fr4 := fun d os => cell_regrown r4 d os
          have fr5 := fun d os => cell_regrown r5 d os
          have fr6 := fun d os => cell_regrown r6 d os
          have fr7 := fun d os => cell_regrown r7 d os
          have fr8 := fun d os => cell_regrown r8 d os
          have fu0 := fun d os => cell_regrown u0 d os
          have fu1 := fun d os => cell_regrown u1 d os
          have hi1 : (0 : Int) < ((q : Nat) : Int) + 1 := by omega
          have hi2 : ((q : Nat) : Int) < (n : Int) := by omega
          have hi3 : ((q : Nat) : Int) + 1 < (n : Int) := by omega
          have hi4 : (0 : Int) ≤ ((q : Nat) : Int) := by omega
          by_cases hx : e.index = p.index + 1
          · have hx1 : (e.index != p.index + 1) = false := by simp [hx]
            have hx2 : (e.index == p.index + 1) = true := by simp [hx]
            have HX := Lib.hid hx
            clear hx
            by_cases ht : e.time < p.time
            · have ht1 : decide (e.time < p.time) = true := by simpa using ht
              have CE : ∀ W, Calls Try.prog 71 #[.agg #[.int .i64 e.index, .int .i64 e.time, .int .i64 e.client, .int .i64 e.seq, .int .i64 e.op.kind, .int .i64 e.op.a, .int .i64 e.op.b, .int .i64 e.op.c, .int .i64 e.op.d]] W fun x w' => x = .returned (.bool true) ∧ Below W.heap.size W w' := fun W => by
                have h7 := sEntryOk_any e.index e.time e.client e.seq e.op.kind e.op.a e.op.b e.op.c e.op.d W
                rw [show entryOk ⟨e.index, e.time, e.client, e.seq, ⟨e.op.kind, e.op.a, e.op.b, e.op.c, e.op.d⟩⟩ = true from hok] at h7
                exact h7
              have HCE := Lib.hid CE
              clear CE
              have hw1 : IntKind.i64.wrap (((q : Nat) : Int) + 1 - 1) = (q : Int) := by rw [IntWalk.i64_in _ (by omega)]; omega
              have hw2 : IntKind.i64.wrap (p.index + 1) = p.index + 1 := IntWalk.i64_in _ (by omega)
              have hw3 : IntKind.i64.wrap ((q : Nat) : Int) = (q : Int) := IntWalk.i64_in _ (by omega)
              go_wp2
              refine wp_region_quiet_below (by kernel_rfl) (by kernel_rfl) ?_; (repeat (first | go_big_quiet_step ((go_at_call 71; exact Calls.regrown_of (HCE.out _))) | quiet_step ((go_at_call 71; exact Calls.regrown_of (HCE.out _))))); refine wpQuiet_nil ?_; intro _ hw'; obtain ⟨⟨nq, osq⟩, hw''⟩ := hw'; subst hw''; have hq := below_regrown wr nq osq; generalize Sort.grow (redrawn wr nq) osq = w1 at *
              have hbz := hb.size
              have hbw : Below w.heap.size w w1 := by (repeat' (first | with_reducible exact Below.refl _ _ | with_reducible assumption | with_reducible refine Below.drew ?_ | with_reducible refine Below.alloc ?_ ?_ _ | with_reducible refine Below.setCell ?_ ?_ _ | with_reducible refine Below.trans ?_ (Below.mono (by assumption) ?_) | ((try simp only [World.heap_size_alloc, World.heap_size_drew, World.heap_size_setCell]); omega)))
              go_wp2
              go_ret
              exact ⟨by rw [entriesOk_not (by rw [HL.out]; exact hlt) (by rw [stepOk_succ HE.out HP.out]; simp; intro _ _; omega)]; rfl, hbw⟩
            · have ht1 : decide (e.time < p.time) = false := by simpa using ht
              have CE : ∀ W, Calls Try.prog 71 #[.agg #[.int .i64 e.index, .int .i64 e.time, .int .i64 e.client, .int .i64 e.seq, .int .i64 e.op.kind, .int .i64 e.op.a, .int .i64 e.op.b, .int .i64 e.op.c, .int .i64 e.op.d]] W fun x w' => x = .returned (.bool true) ∧ Below W.heap.size W w' := fun W => by
                have h7 := sEntryOk_any e.index e.time e.client e.seq e.op.kind e.op.a e.op.b e.op.c e.op.d W
                rw [show entryOk ⟨e.index, e.time, e.client, e.seq, ⟨e.op.kind, e.op.a, e.op.b, e.op.c, e.op.d⟩⟩ = true from hok] at h7
                exact h7
              have HCE := Lib.hid CE
              clear CE
              have hw1 : IntKind.i64.wrap (((q : Nat) : Int) + 1 - 1) = (q : Int) := by rw [IntWalk.i64_in _ (by omega)]; omega
              have hw2 : IntKind.i64.wrap (p.index + 1) = p.index + 1 := IntWalk.i64_in _ (by omega)
              have hw3 : IntKind.i64.wrap ((q : Nat) : Int) = (q : Int) := IntWalk.i64_in _ (by omega)
              go_wp2
              refine wp_region_quiet_below (by kernel_rfl) (by kernel_rfl) ?_; (repeat (first | go_big_quiet_step ((go_at_call 71; exact Calls.regrown_of (HCE.out _))) | quiet_step ((go_at_call 71; exact Calls.regrown_of (HCE.out _))))); refine wpQuiet_nil ?_; intro _ hw'; obtain ⟨⟨nq, osq⟩, hw''⟩ := hw'; subst hw''; have hq := below_regrown wr nq osq; generalize Sort.grow (redrawn wr nq) osq = w1 at *
              have hbz := hb.size
              have hbw : Below w.heap.size w w1 := by (repeat' (first | with_reducible exact Below.refl _ _ | with_reducible assumption | with_reducible refine Below.drew ?_ | with_reducible refine Below.alloc ?_ ?_ _ | with_reducible refine Below.setCell ?_ ?_ _ | with_reducible refine Below.trans ?_ (Below.mono (by assumption) ?_) | ((try simp only [World.heap_size_alloc, World.heap_size_drew, World.heap_size_setCell]); omega)))
              go_wp2
              go_roundw
              case rel => exact ⟨_, hlt, by go_num, hbw, fun j hj => by
                rcases Nat.lt_succ_iff_lt_or_eq.1 hj with h5 | rfl
                · exact hp.out j h5
                · rw [stepOk_succ HE.out HP.out, hok, hx2]; simp; omega⟩
              case measure => simp [intOf]; omega
          · have hx1 : (e.index != p.index + 1) = true := by simpa using hx
            have CE : ∀ W, Calls Try.prog 71 #[.agg #[.int .i64 e.index, .int .i64 e.time, .int .i64 e.client, .int .i64 e.seq, .int .i64 e.op.kind, .int .i64 e.op.a, .int .i64 e.op.b, .int .i64 e.op.c, .int .i64 e.op.d]] W fun x w' => x = .returned (.bool true) ∧ Below W.heap.size W w' := fun W => by
              have h7 := sEntryOk_any e.index e.time e.client e.seq e.op.kind e.op.a e.op.b e.op.c e.op.d W
              rw [show entryOk ⟨e.index, e.time, e.client, e.seq, ⟨e.op.kind, e.op.a, e.op.b, e.op.c, e.op.d⟩⟩ = true from hok] at h7
              exact h7
            have HCE := Lib.hid CE
            clear CE
            have hw1 : IntKind.i64.wrap (((q : Nat) : Int) + 1 - 1) = (q : Int) := by rw [IntWalk.i64_in _ (by omega)]; omega
            have hw2 : IntKind.i64.wrap (p.index + 1) = p.index + 1 := IntWalk.i64_in _ (by omega)
            have hw3 : IntKind.i64.wrap ((q : Nat) : Int) = (q : Int) := IntWalk.i64_in _ (by omega)
            go_wp2
            refine wp_region_quiet_below (by kernel_rfl) (by kernel_rfl) ?_; (repeat (first | go_big_quiet_step ((go_at_call 71; exact Calls.regrown_of (HCE.out _))) | quiet_step ((go_at_call 71; exact Calls.regrown_of (HCE.out _))))); refine wpQuiet_nil ?_; intro _ hw'; obtain ⟨⟨nq, osq⟩, hw''⟩ := hw'; subst hw''; have hq := below_regrown wr nq osq; generalize Sort.grow (redrawn wr nq) osq = w1 at *
            have hbz := hb.size
            have hbw : Below w.heap.size w w1 := by (repeat' (first | with_reducible exact Below.refl _ _ | with_reducible assumption | with_reducible refine Below.drew ?_ | with_reducible refine Below.alloc ?_ ?_ _ | with_reducible refine Below.setCell ?_ ?_ _ | with_reducible refine Below.trans ?_ (Below.mono (by assumption) ?_) | ((try simp only [World.heap_size_alloc, World.heap_size_drew, World.heap_size_setCell]); omega)))
            go_wp2
            go_ret
            exact ⟨by rw [entriesOk_not (by rw [HL.out]; exact hlt) (by rw [stepOk_succ HE.out HP.out]; simp [hx])]; rfl, hbw⟩
    · go_wp2
      go_ret
      have hmn : m = n := by omega
      exact ⟨by rw [entriesOk_of (by rw [HL.out]; exact hshort) (fun j hj => hp.out j (by rw [HL.out] at hj; omega))]; rfl, hb⟩
set_option maxRecDepth 100000 in
set_option maxHeartbeats 800000 in
theorem entriesOk_any (A : Option Addr) (n c lo hi : Nat) (l : List EntryD) (w : World) (h : Sl w lo hi 9 A n c (l.flatMap EntryD.ints)) :
    Calls Try.prog 61 #[.slice A n c] w (BoolRes w (entriesOk l)) := by
  have hn : n ≤ 9223372036854775807 := Nat.le_trans h.cap h.big
  have hl : l.length = n := h.count EntryD.ints_len (by omega)
  rcases Nat.lt_or_ge 2000 n with hlong | hshort
  · rw [entriesOk_long (by omega)]
    clear hl h
    go_enter Try.func61, Try.ntmps61
    go_wp2
    go_ret
    exact ⟨rfl, Below.refl _ _⟩
  have H := Lib.hid (h.fit (by omega))
  have HL := Lib.hid hl
  clear h hl
  go_enter Try.func61, Try.ntmps61
  go_wp2
  go_loopw [10] (fun i wr => ∃ m : Nat, m ≤ n ∧ i = .int .i64 m ∧ Below w.heap.size w wr ∧ Hid (∀ j, j < m → stepOk l j = true)) (fun i _ => n - (intOf i).toNat)
  case atStart => exact ⟨0, Nat.zero_le _, rfl, Below.refl _ _, fun j hj => absurd hj (by omega)⟩
  case round =>
    obtain ⟨m, hm, rfl, hb, hp⟩ := hrel
    by_cases hlt : m < n
    · obtain ⟨g, off, e, rfl, _, hg, he, p0, p1, p2, p3, p4, p5, p6, p7, p8⟩ := H.out.entry hlt
      have hg1 := Nat.lt_of_lt_of_le hg (Nat.min_le_right _ _)
      have HE := Lib.hid he
      clear he
      have hgw : g < wr.heap.size := Nat.lt_of_lt_of_le hg1 hb.size
      have r0 := (hb.cell (p := ⟨g, off + m * 9, none⟩) hg1).trans p0
      have r1 := (hb.cell (p := ⟨g, off + m * 9 + 1, none⟩) hg1).trans p1
      have r2 := (hb.cell (p := ⟨g, off + m * 9 + 2, none⟩) hg1).trans p2
      have r3 := (hb.cell (p := ⟨g, off + m * 9 + 3, none⟩) hg1).trans p3
      have r4 := (hb.cell (p := ⟨g, off + m * 9 + 4, none⟩) hg1).trans p4
      have r5 := (hb.cell (p := ⟨g, off + m * 9 + 5, none⟩) hg1).trans p5
      have r6 := (hb.cell (p := ⟨g, off + m * 9 + 6, none⟩) hg1).trans p6
      have r7 := (hb.cell (p := ⟨g, off + m * 9 + 7, none⟩) hg1).trans p7
      have r8 := (hb.cell (p := ⟨g, off + m * 9 + 8, none⟩) hg1).trans p8
      clear p0 p1 p2 p3 p4 p5 p6 p7 p8
      cases hok : entryOk e with
      | false =>
        have v0 : (wr.alloc (.cells #[.int .i64 e.index, .int .i64 e.time, .int .i64 e.client, .int .i64 e.seq, .int .i64 e.op.kind, .int .i64 e.op.a, .int .i64 e.op.b, .int .i64 e.op.c, .int .i64 e.op.d] 37)).cell? ⟨wr.heap.size, 0, none⟩ = some (.int .i64 e.index) := by simp
        have v1 : (wr.alloc (.cells #[.int .i64 e.index, .int .i64 e.time, .int .i64 e.client, .int .i64 e.seq, .int .i64 e.op.kind, .int .i64 e.op.a, .int .i64 e.op.b, .int .i64 e.op.c, .int .i64 e.op.d] 37)).cell? ⟨wr.heap.size, 1, none⟩ = some (.int .i64 e.time) := by simp
        have v2 : (wr.alloc (.cells #[.int .i64 e.index, .int .i64 e.time, .int .i64 e.client, .int .i64 e.seq, .int .i64 e.op.kind, .int .i64 e.op.a, .int .i64 e.op.b, .int .i64 e.op.c, .int .i64 e.op.d] 37)).cell? ⟨wr.heap.size, 2, none⟩ = some (.int .i64 e.client) := by simp
        have v3 : (wr.alloc (.cells #[.int .i64 e.index, .int .i64 e.time, .int .i64 e.client, .int .i64 e.seq, .int .i64 e.op.kind, .int .i64 e.op.a, .int .i64 e.op.b, .int .i64 e.op.c, .int .i64 e.op.d] 37)).cell? ⟨wr.heap.size, 3, none⟩ = some (.int .i64 e.seq) := by simp
        have v4 : (wr.alloc (.cells #[.int .i64 e.index, .int .i64 e.time, .int .i64 e.client, .int .i64 e.seq, .int .i64 e.op.kind, .int .i64 e.op.a, .int .i64 e.op.b, .int .i64 e.op.c, .int .i64 e.op.d] 37)).cell? ⟨wr.heap.size, 4, none⟩ = some (.int .i64 e.op.kind) := by simp
        have v5 : (wr.alloc (.cells #[.int .i64 e.index, .int .i64 e.time, .int .i64 e.client, .int .i64 e.seq, .int .i64 e.op.kind, .int .i64 e.op.a, .int .i64 e.op.b, .int .i64 e.op.c, .int .i64 e.op.d] 37)).cell? ⟨wr.heap.size, 5, none⟩ = some (.int .i64 e.op.a) := by simp
        have v6 : (wr.alloc (.cells #[.int .i64 e.index, .int .i64 e.time, .int .i64 e.client, .int .i64 e.seq, .int .i64 e.op.kind, .int .i64 e.op.a, .int .i64 e.op.b, .int .i64 e.op.c, .int .i64 e.op.d] 37)).cell? ⟨wr.heap.size, 6, none⟩ = some (.int .i64 e.op.b) := by simp
        have v7 : (wr.alloc (.cells #[.int .i64 e.index, .int .i64 e.time, .int .i64 e.client, .int .i64 e.seq, .int .i64 e.op.kind, .int .i64 e.op.a, .int .i64 e.op.b, .int .i64 e.op.c, .int .i64 e.op.d] 37)).cell? ⟨wr.heap.size, 7, none⟩ = some (.int .i64 e.op.c) := by simp
        have v8 : (wr.alloc (.cells #[.int .i64 e.index, .int .i64 e.time, .int .i64 e.client, .int .i64 e.seq, .int .i64 e.op.kind, .int .i64 e.op.a, .int .i64 e.op.b, .int .i64 e.op.c, .int .i64 e.op.d] 37)).cell? ⟨wr.heap.size, 8, none⟩ = some (.int .i64 e.op.d) := by simp
        have fv0 := fun d os => cell_regrown v0 d os
        have fv1 := fun d os => cell_regrown v1 d os
        have fv2 := fun d os => cell_regrown v2 d os
        have fv3 := fun d os => cell_regrown v3 d os
        have fv4 := fun d os => cell_regrown v4 d os
        have fv5 := fun d os => cell_regrown v5 d os
        have fv6 := fun d os => cell_regrown v6 d os
        have fv7 := fun d os => cell_regrown v7 d os
        have fv8 := fun d os => cell_regrown v8 d os
        have CE : ∀ W, Calls Try.prog 74 #[.agg #[.int .i64 e.index, .int .i64 e.time, .int .i64 e.client, .int .i64 e.seq, .int .i64 e.op.kind, .int .i64 e.op.a, .int .i64 e.op.b, .int .i64 e.op.c, .int .i64 e.op.d]] W fun x w' => x = .returned (.bool false) ∧ Below W.heap.size W w' := fun W => by
          have h7 := entryOk_any e.index e.time e.client e.seq e.op.kind e.op.a e.op.b e.op.c e.op.d W
          rw [show entryOk ⟨e.index, e.time, e.client, e.seq, ⟨e.op.kind, e.op.a, e.op.b, e.op.c, e.op.d⟩⟩ = false from hok] at h7
          exact h7
        have HCE := Lib.hid CE
        clear CE
        go_wp2
        refine wp_region_quiet_below (by kernel_rfl) (by kernel_rfl) ?_; (repeat (first | go_big_quiet_step ((go_at_call 74; exact Calls.regrown_of (HCE.out _))) | quiet_step ((go_at_call 74; exact Calls.regrown_of (HCE.out _))))); refine wpQuiet_nil ?_; intro _ hw'; obtain ⟨⟨nq, osq⟩, hw''⟩ := hw'; subst hw''; have hq := below_regrown (wr.alloc (.cells #[.int .i64 e.index, .int .i64 e.time, .int .i64 e.client, .int .i64 e.seq, .int .i64 e.op.kind, .int .i64 e.op.a, .int .i64 e.op.b, .int .i64 e.op.c, .int .i64 e.op.d] 37)) nq osq; generalize Sort.grow (redrawn (wr.alloc (.cells #[.int .i64 e.index, .int .i64 e.time, .int .i64 e.client, .int .i64 e.seq, .int .i64 e.op.kind, .int .i64 e.op.a, .int .i64 e.op.b, .int .i64 e.op.c, .int .i64 e.op.d] 37)) nq) osq = w1 at *
        have hbz := hb.size
        have hbw : Below w.heap.size w w1 := by (repeat' (first | with_reducible exact Below.refl _ _ | with_reducible assumption | with_reducible refine Below.drew ?_ | with_reducible refine Below.alloc ?_ ?_ _ | with_reducible refine Below.setCell ?_ ?_ _ | with_reducible refine Below.trans ?_ (Below.mono (by assumption) ?_) | ((try simp only [World.heap_size_alloc, World.heap_size_drew, World.heap_size_setCell]); omega)))
        go_wp2
        go_ret
        exact ⟨by rw [entriesOk_not (by rw [HL.out]; exact hlt) (stepOk_bad HE.out hok)]; rfl, hbw⟩
      | true =>
        rcases Nat.eq_zero_or_pos m with rfl | hpos
        · simp only [Nat.zero_mul, Nat.add_zero] at r0 r1 r2 r3 r4 r5 r6 r7 r8
          have v0 : (wr.alloc (.cells #[.int .i64 e.index, .int .i64 e.time, .int .i64 e.client, .int .i64 e.seq, .int .i64 e.op.kind, .int .i64 e.op.a, .int .i64 e.op.b, .int .i64 e.op.c, .int .i64 e.op.d] 37)).cell? ⟨wr.heap.size, 0, none⟩ = some (.int .i64 e.index) := by simp
          have v1 : (wr.alloc (.cells #[.int .i64 e.index, .int .i64 e.time, .int .i64 e.client, .int .i64 e.seq, .int .i64 e.op.kind, .int .i64 e.op.a, .int .i64 e.op.b, .int .i64 e.op.c, .int .i64 e.op.d] 37)).cell? ⟨wr.heap.size, 1, none⟩ = some (.int .i64 e.time) := by simp
          have v2 : (wr.alloc (.cells #[.int .i64 e.index, .int .i64 e.time, .int .i64 e.client, .int .i64 e.seq, .int .i64 e.op.kind, .int .i64 e.op.a, .int .i64 e.op.b, .int .i64 e.op.c, .int .i64 e.op.d] 37)).cell? ⟨wr.heap.size, 2, none⟩ = some (.int .i64 e.client) := by simp
          have v3 : (wr.alloc (.cells #[.int .i64 e.index, .int .i64 e.time, .int .i64 e.client, .int .i64 e.seq, .int .i64 e.op.kind, .int .i64 e.op.a, .int .i64 e.op.b, .int .i64 e.op.c, .int .i64 e.op.d] 37)).cell? ⟨wr.heap.size, 3, none⟩ = some (.int .i64 e.seq) := by simp
          have v4 : (wr.alloc (.cells #[.int .i64 e.index, .int .i64 e.time, .int .i64 e.client, .int .i64 e.seq, .int .i64 e.op.kind, .int .i64 e.op.a, .int .i64 e.op.b, .int .i64 e.op.c, .int .i64 e.op.d] 37)).cell? ⟨wr.heap.size, 4, none⟩ = some (.int .i64 e.op.kind) := by simp
          have v5 : (wr.alloc (.cells #[.int .i64 e.index, .int .i64 e.time, .int .i64 e.client, .int .i64 e.seq, .int .i64 e.op.kind, .int .i64 e.op.a, .int .i64 e.op.b, .int .i64 e.op.c, .int .i64 e.op.d] 37)).cell? ⟨wr.heap.size, 5, none⟩ = some (.int .i64 e.op.a) := by simp
          have v6 : (wr.alloc (.cells #[.int .i64 e.index, .int .i64 e.time, .int .i64 e.client, .int .i64 e.seq, .int .i64 e.op.kind, .int .i64 e.op.a, .int .i64 e.op.b, .int .i64 e.op.c, .int .i64 e.op.d] 37)).cell? ⟨wr.heap.size, 6, none⟩ = some (.int .i64 e.op.b) := by simp
          have v7 : (wr.alloc (.cells #[.int .i64 e.index, .int .i64 e.time, .int .i64 e.client, .int .i64 e.seq, .int .i64 e.op.kind, .int .i64 e.op.a, .int .i64 e.op.b, .int .i64 e.op.c, .int .i64 e.op.d] 37)).cell? ⟨wr.heap.size, 7, none⟩ = some (.int .i64 e.op.c) := by simp
          have v8 : (wr.alloc (.cells #[.int .i64 e.index, .int .i64 e.time, .int .i64 e.client, .int .i64 e.seq, .int .i64 e.op.kind, .int .i64 e.op.a, .int .i64 e.op.b, .int .i64 e.op.c, .int .i64 e.op.d] 37)).cell? ⟨wr.heap.size, 8, none⟩ = some (.int .i64 e.op.d) := by simp
          have fv0 := fun d os => cell_regrown v0 d os
          have fv1 := fun d os => cell_regrown v1 d os
          have fv2 := fun d os => cell_regrown v2 d os
          have fv3 := fun d os => cell_regrown v3 d os
          have fv4 := fun d os => cell_regrown v4 d os
          have fv5 := fun d os => cell_regrown v5 d os
          have fv6 := fun d os => cell_regrown v6 d os
          have fv7 := fun d os => cell_regrown v7 d os
          have fv8 := fun d os => cell_regrown v8 d os
          have hz : decide ((0 : Int) < ((0 : Nat) : Int)) = false := by simp
          have CE : ∀ W, Calls Try.prog 74 #[.agg #[.int .i64 e.index, .int .i64 e.time, .int .i64 e.client, .int .i64 e.seq, .int .i64 e.op.kind, .int .i64 e.op.a, .int .i64 e.op.b, .int .i64 e.op.c, .int .i64 e.op.d]] W fun x w' => x = .returned (.bool true) ∧ Below W.heap.size W w' := fun W => by
            have h7 := entryOk_any e.index e.time e.client e.seq e.op.kind e.op.a e.op.b e.op.c e.op.d W
            rw [show entryOk ⟨e.index, e.time, e.client, e.seq, ⟨e.op.kind, e.op.a, e.op.b, e.op.c, e.op.d⟩⟩ = true from hok] at h7
            exact h7
          have HCE := Lib.hid CE
          clear CE
          go_wp2
          refine wp_region_quiet_below (by kernel_rfl) (by kernel_rfl) ?_; (repeat (first | go_big_quiet_step ((go_at_call 74; exact Calls.regrown_of (HCE.out _))) | quiet_step ((go_at_call 74; exact Calls.regrown_of (HCE.out _))))); refine wpQuiet_nil ?_; intro _ hw'; obtain ⟨⟨nq, osq⟩, hw''⟩ := hw'; subst hw''; have hq := below_regrown (wr.alloc (.cells #[.int .i64 e.index, .int .i64 e.time, .int .i64 e.client, .int .i64 e.seq, .int .i64 e.op.kind, .int .i64 e.op.a, .int .i64 e.op.b, .int .i64 e.op.c, .int .i64 e.op.d] 37)) nq osq; generalize Sort.grow (redrawn (wr.alloc (.cells #[.int .i64 e.index, .int .i64 e.time, .int .i64 e.client, .int .i64 e.seq, .int .i64 e.op.kind, .int .i64 e.op.a, .int .i64 e.op.b, .int .i64 e.op.c, .int .i64 e.op.d] 37)) nq) osq = w1 at *
          have hbz := hb.size
          have hbw : Below w.heap.size w w1 := by (repeat' (first | with_reducible exact Below.refl _ _ | with_reducible assumption | with_reducible refine Below.drew ?_ | with_reducible refine Below.alloc ?_ ?_ _ | with_reducible refine Below.setCell ?_ ?_ _ | with_reducible refine Below.trans ?_ (Below.mono (by assumption) ?_) | ((try simp only [World.heap_size_alloc, World.heap_size_drew, World.heap_size_setCell]); omega)))
          go_wp2
          go_roundw
          case rel => exact ⟨_, hlt, by go_num, hbw, fun j hj => by
            rcases Nat.lt_succ_iff_lt_or_eq.1 hj with h5 | rfl
            · exact hp.out j h5
            · rw [stepOk_zero HE.out]; exact hok⟩
          case measure => simp [intOf]; omega
        · obtain ⟨q, rfl⟩ : ∃ q, m = q + 1 := ⟨m - 1, by omega⟩
          obtain ⟨g2, off2, p, hA2, _, _, hep, s0, s1, _⟩ := H.out.entry (show q < n by omega)
          injection hA2 with hA2
          injection hA2 with hA3 hA4
          subst hA3
          subst hA4
          have u0 := (hb.cell (p := ⟨g, off + q * 9, none⟩) hg1).trans s0
          have u1 := (hb.cell (p := ⟨g, off + q * 9 + 1, none⟩) hg1).trans s1
          have hpok := entryOk_of_step hep (hp.out q (by omega))
          obtain ⟨b0, b1⟩ := entryOk_index hpok
          have HP := Lib.hid hep
          clear hep s0 s1 hpok
          have v0 : (wr.alloc (.cells #[.int .i64 e.index, .int .i64 e.time, .int .i64 e.client, .int .i64 e.seq, .int .i64 e.op.kind, .int .i64 e.op.a, .int .i64 e.op.b, .int .i64 e.op.c, .int .i64 e.op.d] 37)).cell? ⟨wr.heap.size, 0, none⟩ = some (.int .i64 e.index) := by simp
          have v1 : (wr.alloc (.cells #[.int .i64 e.index, .int .i64 e.time, .int .i64 e.client, .int .i64 e.seq, .int .i64 e.op.kind, .int .i64 e.op.a, .int .i64 e.op.b, .int .i64 e.op.c, .int .i64 e.op.d] 37)).cell? ⟨wr.heap.size, 1, none⟩ = some (.int .i64 e.time) := by simp
          have v2 : (wr.alloc (.cells #[.int .i64 e.index, .int .i64 e.time, .int .i64 e.client, .int .i64 e.seq, .int .i64 e.op.kind, .int .i64 e.op.a, .int .i64 e.op.b, .int .i64 e.op.c, .int .i64 e.op.d] 37)).cell? ⟨wr.heap.size, 2, none⟩ = some (.int .i64 e.client) := by simp
          have v3 : (wr.alloc (.cells #[.int .i64 e.index, .int .i64 e.time, .int .i64 e.client, .int .i64 e.seq, .int .i64 e.op.kind, .int .i64 e.op.a, .int .i64 e.op.b, .int .i64 e.op.c, .int .i64 e.op.d] 37)).cell? ⟨wr.heap.size, 3, none⟩ = some (.int .i64 e.seq) := by simp
          have v4 : (wr.alloc (.cells #[.int .i64 e.index, .int .i64 e.time, .int .i64 e.client, .int .i64 e.seq, .int .i64 e.op.kind, .int .i64 e.op.a, .int .i64 e.op.b, .int .i64 e.op.c, .int .i64 e.op.d] 37)).cell? ⟨wr.heap.size, 4, none⟩ = some (.int .i64 e.op.kind) := by simp
          have v5 : (wr.alloc (.cells #[.int .i64 e.index, .int .i64 e.time, .int .i64 e.client, .int .i64 e.seq, .int .i64 e.op.kind, .int .i64 e.op.a, .int .i64 e.op.b, .int .i64 e.op.c, .int .i64 e.op.d] 37)).cell? ⟨wr.heap.size, 5, none⟩ = some (.int .i64 e.op.a) := by simp
          have v6 : (wr.alloc (.cells #[.int .i64 e.index, .int .i64 e.time, .int .i64 e.client, .int .i64 e.seq, .int .i64 e.op.kind, .int .i64 e.op.a, .int .i64 e.op.b, .int .i64 e.op.c, .int .i64 e.op.d] 37)).cell? ⟨wr.heap.size, 6, none⟩ = some (.int .i64 e.op.b) := by simp
          have v7 : (wr.alloc (.cells #[.int .i64 e.index, .int .i64 e.time, .int .i64 e.client, .int .i64 e.seq, .int .i64 e.op.kind, .int .i64 e.op.a, .int .i64 e.op.b, .int .i64 e.op.c, .int .i64 e.op.d] 37)).cell? ⟨wr.heap.size, 7, none⟩ = some (.int .i64 e.op.c) := by simp
          have v8 : (wr.alloc (.cells #[.int .i64 e.index, .int .i64 e.time, .int .i64 e.client, .int .i64 e.seq, .int .i64 e.op.kind, .int .i64 e.op.a, .int .i64 e.op.b, .int .i64 e.op.c, .int .i64 e.op.d] 37)).cell? ⟨wr.heap.size, 8, none⟩ = some (.int .i64 e.op.d) := by simp
          have vu0 : (wr.alloc (.cells #[.int .i64 e.index, .int .i64 e.time, .int .i64 e.client, .int .i64 e.seq, .int .i64 e.op.kind, .int .i64 e.op.a, .int .i64 e.op.b, .int .i64 e.op.c, .int .i64 e.op.d] 37)).cell? ⟨g, off + q * 9, none⟩ = some (.int .i64 p.index) := (World.cell?_alloc_lt _ _ _ hgw).trans u0
          have vu1 : (wr.alloc (.cells #[.int .i64 e.index, .int .i64 e.time, .int .i64 e.client, .int .i64 e.seq, .int .i64 e.op.kind, .int .i64 e.op.a, .int .i64 e.op.b, .int .i64 e.op.c, .int .i64 e.op.d] 37)).cell? ⟨g, off + q * 9 + 1, none⟩ = some (.int .i64 p.time) := (World.cell?_alloc_lt _ _ _ hgw).trans u1
          have fv0 := fun d os => cell_regrown v0 d os
          have fv1 := fun d os => cell_regrown v1 d os
          have fv2 := fun d os => cell_regrown v2 d os
          have fv3 := fun d os => cell_regrown v3 d os
          have fv4 := fun d os => cell_regrown v4 d os
          have fv5 := fun d os => cell_regrown v5 d os
          have fv6 := fun d os => cell_regrown v6 d os
          have fv7 := fun d os => cell_regrown v7 d os
          have fv8 := fun d os => cell_regrown v8 d os
          have fvu0 := fun d os => cell_regrown vu0 d os
          have fvu1 := fun d os => cell_regrown vu1 d os
          have hi1 : (0 : Int) < ((q : Nat) : Int) + 1 := by omega
          have hi2 : ((q : Nat) : Int) < (n : Int) := by omega
          have hi3 : ((q : Nat) : Int) + 1 < (n : Int) := by omega
          have hi4 : (0 : Int) ≤ ((q : Nat) : Int) := by omega
          by_cases hx : e.index = p.index + 1
          · have hx1 : (e.index != p.index + 1) = false := by simp [hx]
            have hx2 : (e.index == p.index + 1) = true := by simp [hx]
            have HX := Lib.hid hx
            clear hx
            by_cases ht : e.time < p.time
            · have ht1 : decide (e.time < p.time) = true := by simpa using ht
              have CE : ∀ W, Calls Try.prog 74 #[.agg #[.int .i64 e.index, .int .i64 e.time, .int .i64 e.client, .int .i64 e.seq, .int .i64 e.op.kind, .int .i64 e.op.a, .int .i64 e.op.b, .int .i64 e.op.c, .int .i64 e.op.d]] W fun x w' => x = .returned (.bool true) ∧ Below W.heap.size W w' := fun W => by
                have h7 := entryOk_any e.index e.time e.client e.seq e.op.kind e.op.a e.op.b e.op.c e.op.d W
                rw [show entryOk ⟨e.index, e.time, e.client, e.seq, ⟨e.op.kind, e.op.a, e.op.b, e.op.c, e.op.d⟩⟩ = true from hok] at h7
                exact h7
              have HCE := Lib.hid CE
              clear CE
              have hw1 : IntKind.i64.wrap (((q : Nat) : Int) + 1 - 1) = (q : Int) := by rw [IntWalk.i64_in _ (by omega)]; omega
              have hw2 : IntKind.i64.wrap (p.index + 1) = p.index + 1 := IntWalk.i64_in _ (by omega)
              have hw3 : IntKind.i64.wrap ((q : Nat) : Int) = (q : Int) := IntWalk.i64_in _ (by omega)
              go_wp2
              refine wp_region_quiet_below (by kernel_rfl) (by kernel_rfl) ?_; (repeat (first | go_big_quiet_step ((go_at_call 74; exact Calls.regrown_of (HCE.out _))) | quiet_step ((go_at_call 74; exact Calls.regrown_of (HCE.out _))))); refine wpQuiet_nil ?_; intro _ hw'; obtain ⟨⟨nq, osq⟩, hw''⟩ := hw'; subst hw''; have hq := below_regrown (wr.alloc (.cells #[.int .i64 e.index, .int .i64 e.time, .int .i64 e.client, .int .i64 e.seq, .int .i64 e.op.kind, .int .i64 e.op.a, .int .i64 e.op.b, .int .i64 e.op.c, .int .i64 e.op.d] 37)) nq osq; generalize Sort.grow (redrawn (wr.alloc (.cells #[.int .i64 e.index, .int .i64 e.time, .int .i64 e.client, .int .i64 e.seq, .int .i64 e.op.kind, .int .i64 e.op.a, .int .i64 e.op.b, .int .i64 e.op.c, .int .i64 e.op.d] 37)) nq) osq = w1 at *
              have hbz := hb.size
              have hbw : Below w.heap.size w w1 := by (repeat' (first | with_reducible exact Below.refl _ _ | with_reducible assumption | with_reducible refine Below.drew ?_ | with_reducible refine Below.alloc ?_ ?_ _ | with_reducible refine Below.setCell ?_ ?_ _ | with_reducible refine Below.trans ?_ (Below.mono (by assumption) ?_) | ((try simp only [World.heap_size_alloc, World.heap_size_drew, World.heap_size_setCell]); omega)))
              go_wp2
              go_ret
              exact ⟨by rw [entriesOk_not (by rw [HL.out]; exact hlt) (by rw [stepOk_succ HE.out HP.out]; simp; intro _ _; omega)]; rfl, hbw⟩
            · have ht1 : decide (e.time < p.time) = false := by simpa using ht
              have CE : ∀ W, Calls Try.prog 74 #[.agg #[.int .i64 e.index, .int .i64 e.time, .int .i64 e.client, .int .i64 e.seq, .int .i64 e.op.kind, .int .i64 e.op.a, .int .i64 e.op.b, .int .i64 e.op.c, .int .i64 e.op.d]] W fun x w' => x = .returned (.bool true) ∧ Below W.heap.size W w' := fun W => by
                have h7 := entryOk_any e.index e.time e.client e.seq e.op.kind e.op.a e.op.b e.op.c e.op.d W
                rw [show entryOk ⟨e.index, e.time, e.client, e.seq, ⟨e.op.kind, e.op.a, e.op.b, e.op.c, e.op.d⟩⟩ = true from hok] at h7
                exact h7
              have HCE := Lib.hid CE
              clear CE
              have hw1 : IntKind.i64.wrap (((q : Nat) : Int) + 1 - 1) = (q : Int) := by rw [IntWalk.i64_in _ (by omega)]; omega
              have hw2 : IntKind.i64.wrap (p.index + 1) = p.index + 1 := IntWalk.i64_in _ (by omega)
              have hw3 : IntKind.i64.wrap ((q : Nat) : Int) = (q : Int) := IntWalk.i64_in _ (by omega)
              go_wp2
              refine wp_region_quiet_below (by kernel_rfl) (by kernel_rfl) ?_; (repeat (first | go_big_quiet_step ((go_at_call 74; exact Calls.regrown_of (HCE.out _))) | quiet_step ((go_at_call 74; exact Calls.regrown_of (HCE.out _))))); refine wpQuiet_nil ?_; intro _ hw'; obtain ⟨⟨nq, osq⟩, hw''⟩ := hw'; subst hw''; have hq := below_regrown (wr.alloc (.cells #[.int .i64 e.index, .int .i64 e.time, .int .i64 e.client, .int .i64 e.seq, .int .i64 e.op.kind, .int .i64 e.op.a, .int .i64 e.op.b, .int .i64 e.op.c, .int .i64 e.op.d] 37)) nq osq; generalize Sort.grow (redrawn (wr.alloc (.cells #[.int .i64 e.index, .int .i64 e.time, .int .i64 e.client, .int .i64 e.seq, .int .i64 e.op.kind, .int .i64 e.op.a, .int .i64 e.op.b, .int .i64 e.op.c, .int .i64 e.op.d] 37)) nq) osq = w1 at *
              have hbz := hb.size
              have hbw : Below w.heap.size w w1 := by (repeat' (first | with_reducible exact Below.refl _ _ | with_reducible assumption | with_reducible refine Below.drew ?_ | with_reducible refine Below.alloc ?_ ?_ _ | with_reducible refine Below.setCell ?_ ?_ _ | with_reducible refine Below.trans ?_ (Below.mono (by assumption) ?_) | ((try simp only [World.heap_size_alloc, World.heap_size_drew, World.heap_size_setCell]); omega)))
              go_wp2
              go_roundw
              case rel => exact ⟨_, hlt, by go_num, hbw, fun j hj => by
                rcases Nat.lt_succ_iff_lt_or_eq.1 hj with h5 | rfl
                · exact hp.out j h5
                · rw [stepOk_succ HE.out HP.out, hok, hx2]; simp; omega⟩
              case measure => simp [intOf]; omega
          · have hx1 : (e.index != p.index + 1) = true := by simpa using hx
            have CE : ∀ W, Calls Try.prog 74 #[.agg #[.int .i64 e.index, .int .i64 e.time, .int .i64 e.client, .int .i64 e.seq, .int .i64 e.op.kind, .int .i64 e.op.a, .int .i64 e.op.b, .int .i64 e.op.c, .int .i64 e.op.d]] W fun x w' => x = .returned (.bool true) ∧ Below W.heap.size W w' := fun W => by
              have h7 := entryOk_any e.index e.time e.client e.seq e.op.kind e.op.a e.op.b e.op.c e.op.d W
              rw [show entryOk ⟨e.index, e.time, e.client, e.seq, ⟨e.op.kind, e.op.a, e.op.b, e.op.c, e.op.d⟩⟩ = true from hok] at h7
              exact h7
            have HCE := Lib.hid CE
            clear CE
            have hw1 : IntKind.i64.wrap (((q : Nat) : Int) + 1 - 1) = (q : Int) := by rw [IntWalk.i64_in _ (by omega)]; omega
            have hw2 : IntKind.i64.wrap (p.index + 1) = p.index + 1 := IntWalk.i64_in _ (by omega)
            have hw3 : IntKind.i64.wrap ((q : Nat) : Int) = (q : Int) := IntWalk.i64_in _ (by omega)
            go_wp2
            refine wp_region_quiet_below (by kernel_rfl) (by kernel_rfl) ?_; (repeat (first | go_big_quiet_step ((go_at_call 74; exact Calls.regrown_of (HCE.out _))) | quiet_step ((go_at_call 74; exact Calls.regrown_of (HCE.out _))))); refine wpQuiet_nil ?_; intro _ hw'; obtain ⟨⟨nq, osq⟩, hw''⟩ := hw'; subst hw''; have hq := below_regrown (wr.alloc (.cells #[.int .i64 e.index, .int .i64 e.time, .int .i64 e.client, .int .i64 e.seq, .int .i64 e.op.kind, .int .i64 e.op.a, .int .i64 e.op.b, .int .i64 e.op.c, .int .i64 e.op.d] 37)) nq osq; generalize Sort.grow (redrawn (wr.alloc (.cells #[.int .i64 e.index, .int .i64 e.time, .int .i64 e.client, .int .i64 e.seq, .int .i64 e.op.kind, .int .i64 e.op.a, .int .i64 e.op.b, .int .i64 e.op.c, .int .i64 e.op.d] 37)) nq) osq = w1 at *
            have hbz := hb.size
            have hbw : Below w.heap.size w w1 := by (repeat' (first | with_reducible exact Below.refl _ _ | with_reducible assumption | with_reducible refine Below.drew ?_ | with_reducible refine Below.alloc ?_ ?_ _ | with_reducible refine Below.setCell ?_ ?_ _ | with_reducible refine Below.trans ?_ (Below.mono (by assumption) ?_) | ((try simp only [World.heap_size_alloc, World.heap_size_drew, World.heap_size_setCell]); omega)))
            go_wp2
            go_ret
            exact ⟨by rw [entriesOk_not (by rw [HL.out]; exact hlt) (by rw [stepOk_succ HE.out HP.out]; simp [hx])]; rfl, hbw⟩
    · go_wp2
      go_ret
      have hmn : m = n := by omega
      exact ⟨by rw [entriesOk_of (by rw [HL.out]; exact hshort) (fun j hj => hp.out j (by rw [HL.out] at hj; omega))]; rfl, hb⟩

end Go.Proofs.Ytijefbmnhcecmaa
