/- Marks: what the program's and the reference's tests of them, and their reads, return. No conditions. -/
import Derived.Test.YtgnilmdaegnaaaaZHelp
import Derived.Test.YtgnilmdaegnaaaaZEnts
import Derived.Test.YtgnilmdaegnaaaaZSeen0
import Derived.Test.YtgnilmdaegnaaaaZMap
import Derived.Test.YtgnilmdaegnaaaaZApp
import Derived.Lib.QuietBelow
import Derived.BigQuiet
import Derived.IntWalk
set_option linter.unusedSimpArgs false
set_option linter.unusedVariables false
namespace Go.Proofs.Ytgnilmdaegnaaaa
open Go.RowKit
theorem seenStep_bad {l : List MarkD} {i : Nat} {e : MarkD} (h : l[i]? = some e) (h' : markOk e = false) : seenStep l i = false := by simp [seenStep, h, h']
theorem seenStep_zero {l : List MarkD} {e : MarkD} (h : l[0]? = some e) : seenStep l 0 = markOk e := by simp [seenStep, h]
theorem seenStep_succ {l : List MarkD} {q : Nat} {e p : MarkD} (h : l[q + 1]? = some e) (h' : l[q]? = some p) : seenStep l (q + 1) = (markOk e && (decide (p.client < e.client) && (l.take (q + 1)).all (fun p => p.index != e.index))) := by simp [seenStep, h, h']
theorem seenStep_low {l : List MarkD} {q : Nat} {e p : MarkD} (h : l[q + 1]? = some e) (h' : l[q]? = some p) (hx : e.client ≤ p.client) : seenStep l (q + 1) = false := by
  rw [seenStep_succ h h', show decide (p.client < e.client) = false by simp; omega]
  simp
def usedMap (l : List MarkD) (m : Nat) : Int → Option Value := fun y => if (l.take m).any (fun p => p.index == y) then some (.bool true) else none
theorem usedMap_succ {l : List MarkD} {m : Nat} {e : MarkD} (h : l[m]? = some e) : usedMap l (m + 1) = fun y => if y = e.index then some (.bool true) else usedMap l m y := by
  obtain ⟨h1, rfl⟩ := List.getElem?_eq_some_iff.1 h
  funext y
  unfold usedMap
  rw [List.take_succ_eq_append_getElem h1, List.any_append]
  by_cases e : y = l[m].index
  · simp [e]
  · have : (l[m].index == y) = false := by simp; omega
    simp only [List.any_cons, List.any_nil, this, Bool.or_false, e, if_false]
theorem seenStep_used {l : List MarkD} {i : Nat} {e : MarkD} (h : l[i]? = some e) (hu : (l.take i).any (fun p => p.index == e.index) = true) : seenStep l i = false := by
  have ha : (l.take i).all (fun p => p.index != e.index) = false := by
    rw [List.any_eq_true] at hu
    obtain ⟨p, hp, hx⟩ := hu
    rw [List.all_eq_false]
    exact ⟨p, hp, by simp at hx; simp [hx]⟩
  simp [seenStep, h, ha]
theorem seenStep_fresh {l : List MarkD} {q : Nat} {e p : MarkD} (h : l[q + 1]? = some e) (h' : l[q]? = some p) (hm : markOk e = true) (hx : ¬ e.client ≤ p.client) (hu : (l.take (q + 1)).any (fun p => p.index == e.index) = false) : seenStep l (q + 1) = true := by
  have ha : (l.take (q + 1)).all (fun p => p.index != e.index) = true := by
    rw [List.any_eq_false] at hu
    rw [List.all_eq_true]
    intro p hp
    have := hu p hp
    simpa using this
  rw [seenStep_succ h h', hm, show decide (p.client < e.client) = true by simp; omega, ha]
  rfl
set_option maxRecDepth 100000 in
set_option maxHeartbeats 2000000 in
theorem seenOk_any (A : Option Addr) (n c lo hi : Nat) (l : List MarkD) (w : World) (h : Sl w lo hi 3 A n c (l.flatMap MarkD.ints)) :
    Calls Try.prog 88 #[.slice A n c] w (BoolRes w (seenOk l)) := by
  have hn : n ≤ 9223372036854775807 := Nat.le_trans h.cap h.big
  have H := Lib.hid (h.fit (by omega))
  have HL := Lib.hid (h.count MarkD.ints_len (by omega) : l.length = n)
  have hmm := @run_makeMap Try.prog
  clear h
  go_enter Try.func88, Try.ntmps88
  go_wp2
  go_loopw [4, 5, 9] (fun _ _ i wr => ∃ m : Nat, m ≤ n ∧ i = .int .i64 m ∧ Below w.heap.size w wr ∧ IMap Try.prog wr 2 w.heap.size m (usedMap l m) ∧ Hid (∀ j, j < m → seenStep l j = true)) (fun _ _ i _ => n - (intOf i).toNat)
  case atStart => exact ⟨0, Nat.zero_le _, rfl, by (repeat' (first | with_reducible exact Below.refl _ _ | with_reducible assumption | with_reducible refine Below.drew ?_ | with_reducible refine Below.alloc ?_ ?_ _ | with_reducible refine Below.setCell ?_ ?_ _ | with_reducible refine Below.trans ?_ (Below.mono (by assumption) ?_) | ((try simp only [World.heap_size_alloc, World.heap_size_drew, World.heap_size_setCell]); omega))), IMap.made w Try.prog 2, fun j hj => absurd hj (by omega)⟩
  case round =>
    clear hmm
    obtain ⟨m, hm, rfl, hb, hmap, hp⟩ := hrel
    by_cases hlt : m < n
    · obtain ⟨g, off, e, rfl, _, hg, he, p0, p1, p2⟩ := H.out.mark hlt
      have hg1 := Nat.lt_of_lt_of_le hg (Nat.min_le_right _ _)
      have HE := Lib.hid he
      have r0 := (hb.cell (p := ⟨g, off + m * 3, none⟩) hg1).trans p0
      have r1 := (hb.cell (p := ⟨g, off + m * 3 + 1, none⟩) hg1).trans p1
      have r2 := (hb.cell (p := ⟨g, off + m * 3 + 2, none⟩) hg1).trans p2
      have hgw : g < wr.heap.size := Nat.lt_of_lt_of_le hg1 hb.size
      clear he p0 p1 p2
      cases hA : btw e.client 2 5 with
      | false =>
        have HHA := Lib.hid hA
        have hbz := hb.size
        go_wp2_with (first | (go_at_call 127; refine (askerOk_any _ _).mono ?_; rintro e2 w2 ⟨rfl, rfl⟩) | (go_at_call 128; refine (seqOk_any _ _).mono ?_; rintro e2 w2 ⟨rfl, rfl⟩) | (go_at_call 70; refine (indexOk_any _ _).mono ?_; rintro e2 w2 ⟨rfl, rfl⟩))
        go_ret
        exact ⟨by rw [seenOk_not (seenStep_bad HE.out (by simp [markOk, HHA.out]))]; rfl, by (repeat' (first | with_reducible exact Below.refl _ _ | with_reducible assumption | with_reducible refine Below.drew ?_ | with_reducible refine Below.alloc ?_ ?_ _ | with_reducible refine Below.setCell ?_ ?_ _ | with_reducible refine Below.trans ?_ (Below.mono (by assumption) ?_) | ((try simp only [World.heap_size_alloc, World.heap_size_drew, World.heap_size_setCell]); omega)))⟩
      | true =>
        cases hS : btw e.seq 1 2000 with
        | false =>
          have HHS := Lib.hid hS
          have hbz := hb.size
          go_wp2_with (first | (go_at_call 127; refine (askerOk_any _ _).mono ?_; rintro e2 w2 ⟨rfl, rfl⟩) | (go_at_call 128; refine (seqOk_any _ _).mono ?_; rintro e2 w2 ⟨rfl, rfl⟩) | (go_at_call 70; refine (indexOk_any _ _).mono ?_; rintro e2 w2 ⟨rfl, rfl⟩))
          go_ret
          exact ⟨by rw [seenOk_not (seenStep_bad HE.out (by simp [markOk, HHS.out]))]; rfl, by (repeat' (first | with_reducible exact Below.refl _ _ | with_reducible assumption | with_reducible refine Below.drew ?_ | with_reducible refine Below.alloc ?_ ?_ _ | with_reducible refine Below.setCell ?_ ?_ _ | with_reducible refine Below.trans ?_ (Below.mono (by assumption) ?_) | ((try simp only [World.heap_size_alloc, World.heap_size_drew, World.heap_size_setCell]); omega)))⟩
        | true =>
          cases hX : btw e.index 1 2000 with
          | false =>
            have HHX := Lib.hid hX
            have hbz := hb.size
            go_wp2_with (first | (go_at_call 127; refine (askerOk_any _ _).mono ?_; rintro e2 w2 ⟨rfl, rfl⟩) | (go_at_call 128; refine (seqOk_any _ _).mono ?_; rintro e2 w2 ⟨rfl, rfl⟩) | (go_at_call 70; refine (indexOk_any _ _).mono ?_; rintro e2 w2 ⟨rfl, rfl⟩))
            go_ret
            exact ⟨by rw [seenOk_not (seenStep_bad HE.out (by simp [markOk, HHX.out]))]; rfl, by (repeat' (first | with_reducible exact Below.refl _ _ | with_reducible assumption | with_reducible refine Below.drew ?_ | with_reducible refine Below.alloc ?_ ?_ _ | with_reducible refine Below.setCell ?_ ?_ _ | with_reducible refine Below.trans ?_ (Below.mono (by assumption) ?_) | ((try simp only [World.heap_size_alloc, World.heap_size_drew, World.heap_size_setCell]); omega)))⟩
          | true =>
            have HM : Hid (markOk e = true) := Lib.hid (by simp [markOk, hA, hS, hX])
            have hix := btw_iff.1 hX
            obtain ⟨hix0, hix1⟩ := hix
            have hm4 : m ≤ 4 := steps_len (by rw [HL.out]; omega) hp.out
            have hwf : (Lit.int .i64 e.index).wf = true := wf64 (by omega) (by omega)
            have HWF := Lib.hid hwf
            have hlk := (hmap.kept (show Below wr.heap.size wr (wr.alloc (.cells #[.int .i64 e.client, .int .i64 e.seq, .int .i64 e.index] 117)) by (repeat' (first | with_reducible exact Below.refl _ _ | with_reducible assumption | with_reducible refine Below.drew ?_ | with_reducible refine Below.alloc ?_ ?_ _ | with_reducible refine Below.setCell ?_ ?_ _ | with_reducible refine Below.trans ?_ (Below.mono (by assumption) ?_) | ((try simp only [World.heap_size_alloc, World.heap_size_drew, World.heap_size_setCell]); omega))))).look (T := 157) Try.underlying2 Try.underlying157 (z := .bool false) rfl hwf false
            have HMP := Lib.hid hmap
            have hBlt := hmap.lt
            have HB := Lib.hid hb
            clear hmap hwf
            cases hU : (l.take m).any (fun p => p.index == e.index) with
            | true =>
              have hlk2 : (Instr.lookup 157 (.map (some w.heap.size)) (.int .i64 e.index) false).run Try.prog (wr.alloc (.cells #[.int .i64 e.client, .int .i64 e.seq, .int .i64 e.index] 117)) = .ok (.bool true) (wr.alloc (.cells #[.int .i64 e.client, .int .i64 e.seq, .int .i64 e.index] 117)) := by rw [hlk]; simp [usedMap, hU]
              have HU := Lib.hid hU
              clear hlk hU
              go_wp2_with (first | (go_at_call 127; refine (askerOk_any _ _).mono ?_; rintro e2 w2 ⟨rfl, rfl⟩) | (go_at_call 128; refine (seqOk_any _ _).mono ?_; rintro e2 w2 ⟨rfl, rfl⟩) | (go_at_call 70; refine (indexOk_any _ _).mono ?_; rintro e2 w2 ⟨rfl, rfl⟩))
              go_ret
              have hb := HB.out
              have hbz := hb.size
              exact ⟨by rw [seenOk_not (seenStep_used HE.out HU.out)]; rfl, by (repeat' (first | with_reducible exact Below.refl _ _ | with_reducible assumption | with_reducible refine Below.drew ?_ | with_reducible refine Below.alloc ?_ ?_ _ | with_reducible refine Below.setCell ?_ ?_ _ | with_reducible refine Below.trans ?_ (Below.mono (by assumption) ?_) | ((try simp only [World.heap_size_alloc, World.heap_size_drew, World.heap_size_setCell]); omega)))⟩
            | false =>
              have hlk2 : (Instr.lookup 157 (.map (some w.heap.size)) (.int .i64 e.index) false).run Try.prog (wr.alloc (.cells #[.int .i64 e.client, .int .i64 e.seq, .int .i64 e.index] 117)) = .ok (.bool false) (wr.alloc (.cells #[.int .i64 e.client, .int .i64 e.seq, .int .i64 e.index] 117)) := by rw [hlk]; simp [usedMap, hU]
              have HU := Lib.hid hU
              clear hlk hU
              rcases Nat.eq_zero_or_pos m with rfl | hpos
              · simp only [Nat.zero_mul, Nat.add_zero] at r0 r1 r2
                have hz : decide ((0 : Int) < ((0 : Nat) : Int)) = false := by simp
                have v0 : (wr.alloc (.cells #[.int .i64 e.client, .int .i64 e.seq, .int .i64 e.index] 117)).cell? ⟨wr.heap.size, 0, none⟩ = some (.int .i64 e.client) := by simp
                have fv0 := fun d os => cell_regrown v0 d os
                have v1 : (wr.alloc (.cells #[.int .i64 e.client, .int .i64 e.seq, .int .i64 e.index] 117)).cell? ⟨wr.heap.size, 1, none⟩ = some (.int .i64 e.seq) := by simp
                have fv1 := fun d os => cell_regrown v1 d os
                have v2 : (wr.alloc (.cells #[.int .i64 e.client, .int .i64 e.seq, .int .i64 e.index] 117)).cell? ⟨wr.heap.size, 2, none⟩ = some (.int .i64 e.index) := by simp
                have fv2 := fun d os => cell_regrown v2 d os
                go_wp2_with (first | (go_at_call 127; refine (askerOk_any _ _).mono ?_; rintro e2 w2 ⟨rfl, rfl⟩) | (go_at_call 128; refine (seqOk_any _ _).mono ?_; rintro e2 w2 ⟨rfl, rfl⟩) | (go_at_call 70; refine (indexOk_any _ _).mono ?_; rintro e2 w2 ⟨rfl, rfl⟩))
                refine wp_region_quiet_below (by kernel_rfl) (by kernel_rfl) ?_; (repeat (first | go_big_quiet_step (fail) | quiet_step (fail))); refine wpQuiet_nil ?_; intro _ hw'; obtain ⟨⟨nq, osq⟩, hw''⟩ := hw'; subst hw''; have hq := below_regrown (wr.alloc (.cells #[.int .i64 e.client, .int .i64 e.seq, .int .i64 e.index] 117)) nq osq; generalize Sort.grow (redrawn (wr.alloc (.cells #[.int .i64 e.client, .int .i64 e.seq, .int .i64 e.index] 117)) nq) osq = w4 at *
                have hgz := hq.size
                (try simp only [World.heap_size_alloc] at hgz)
                have hv4 : Below wr.heap.size wr w4 := by (repeat' (first | with_reducible exact Below.refl _ _ | with_reducible assumption | with_reducible refine Below.drew ?_ | with_reducible refine Below.alloc ?_ ?_ _ | with_reducible refine Below.setCell ?_ ?_ _ | with_reducible refine Below.trans ?_ (Below.mono (by assumption) ?_) | ((try simp only [World.heap_size_alloc, World.heap_size_drew, World.heap_size_setCell]); omega)))
                have z2 := (hq.cell (p := ⟨wr.heap.size, 2, none⟩) (by (try simp only [World.heap_size_alloc, World.heap_size_drew, World.heap_size_setCell]); omega)).trans v2
                have HMAP := Lib.hid (HMP.out.kept hv4)
                have HBW : Hid (Below w.heap.size w w4) := Lib.hid (HB.out.trans (hv4.mono HB.out.size))
                clear hv4 v0 v1 v2 fv0 fv1 fv2
                go_wp2_with (at_mapUpdate; refine wpList_put rfl _ _ _ rfl (HMAP.out) Try.underlying2 Try.underlying157 (by omega) rfl rfl rfl HWF.out ?_; intro w5 hm5 hg5)
                have hb5 : Below w.heap.size w w5 := (HBW.out).trans (grownBy_below hg5 (Nat.le_refl _) (by have := HBW.out.size; omega))
                have HM5 := Lib.hid hm5
                clear hm5 hg5
                go_roundw
                case rel => exact ⟨0 + 1, hlt, by go_num, hb5, by rw [usedMap_succ HE.out]; exact HM5.out, fun j hj => by
                  rcases Nat.lt_succ_iff_lt_or_eq.1 hj with h5 | rfl
                  · exact hp.out j h5
                  · rw [seenStep_zero HE.out]; exact HM.out⟩
                case measure => simp [intOf]; omega
              · obtain ⟨q, rfl⟩ : ∃ q, m = q + 1 := ⟨m - 1, by omega⟩
                obtain ⟨g2, off2, p, hA2, _, _, hep, s0, _, _⟩ := H.out.mark (show q < n by omega)
                injection hA2 with hA2
                injection hA2 with hA3 hA4
                subst hA3
                subst hA4
                have u0 := (HB.out.cell (p := ⟨g, off + q * 3, none⟩) hg1).trans s0
                have u1 : (wr.alloc (.cells #[.int .i64 e.client, .int .i64 e.seq, .int .i64 e.index] 117)).cell? ⟨g, off + q * 3, none⟩ = some (.int .i64 p.client) := (World.cell?_alloc_lt _ _ _ hgw).trans u0
                have fu1 := fun d os => cell_regrown u1 d os
                have HP := Lib.hid hep
                clear hep s0
                have hi1 : (0 : Int) < ((q : Nat) : Int) + 1 := by omega
                have hi2 : ((q : Nat) : Int) < (n : Int) := by omega
                have hi3 : ((q : Nat) : Int) + 1 < (n : Int) := by omega
                have hi4 : (0 : Int) ≤ ((q : Nat) : Int) := by omega
                have hw1 : IntKind.i64.wrap (((q : Nat) : Int) + 1 - 1) = (q : Int) := by rw [IntWalk.i64_in _ (by omega)]; omega
                have hw3 : IntKind.i64.wrap ((q : Nat) : Int) = (q : Int) := IntWalk.i64_in _ (by omega)
                have v0 : (wr.alloc (.cells #[.int .i64 e.client, .int .i64 e.seq, .int .i64 e.index] 117)).cell? ⟨wr.heap.size, 0, none⟩ = some (.int .i64 e.client) := by simp
                have fv0 := fun d os => cell_regrown v0 d os
                have v1 : (wr.alloc (.cells #[.int .i64 e.client, .int .i64 e.seq, .int .i64 e.index] 117)).cell? ⟨wr.heap.size, 1, none⟩ = some (.int .i64 e.seq) := by simp
                have fv1 := fun d os => cell_regrown v1 d os
                have v2 : (wr.alloc (.cells #[.int .i64 e.client, .int .i64 e.seq, .int .i64 e.index] 117)).cell? ⟨wr.heap.size, 2, none⟩ = some (.int .i64 e.index) := by simp
                have fv2 := fun d os => cell_regrown v2 d os
                by_cases hx : e.client ≤ p.client
                · have hx1 : decide (e.client ≤ p.client) = true := by simpa using hx
                  have HX0 := Lib.hid hx
                  clear hx
                  go_wp2_with (first | (go_at_call 127; refine (askerOk_any _ _).mono ?_; rintro e2 w2 ⟨rfl, rfl⟩) | (go_at_call 128; refine (seqOk_any _ _).mono ?_; rintro e2 w2 ⟨rfl, rfl⟩) | (go_at_call 70; refine (indexOk_any _ _).mono ?_; rintro e2 w2 ⟨rfl, rfl⟩))
                  refine wp_region_quiet_below (by kernel_rfl) (by kernel_rfl) ?_; (repeat (first | go_big_quiet_step (fail) | quiet_step (fail))); refine wpQuiet_nil ?_; intro _ hw'; obtain ⟨⟨nq, osq⟩, hw''⟩ := hw'; subst hw''; have hq := below_regrown (wr.alloc (.cells #[.int .i64 e.client, .int .i64 e.seq, .int .i64 e.index] 117)) nq osq; generalize Sort.grow (redrawn (wr.alloc (.cells #[.int .i64 e.client, .int .i64 e.seq, .int .i64 e.index] 117)) nq) osq = w4 at *
                  have hgz := hq.size
                  (try simp only [World.heap_size_alloc] at hgz)
                  have hv4 : Below wr.heap.size wr w4 := by (repeat' (first | with_reducible exact Below.refl _ _ | with_reducible assumption | with_reducible refine Below.drew ?_ | with_reducible refine Below.alloc ?_ ?_ _ | with_reducible refine Below.setCell ?_ ?_ _ | with_reducible refine Below.trans ?_ (Below.mono (by assumption) ?_) | ((try simp only [World.heap_size_alloc, World.heap_size_drew, World.heap_size_setCell]); omega)))
                  have z2 := (hq.cell (p := ⟨wr.heap.size, 2, none⟩) (by (try simp only [World.heap_size_alloc, World.heap_size_drew, World.heap_size_setCell]); omega)).trans v2
                  have HMAP := Lib.hid (HMP.out.kept hv4)
                  have HBW : Hid (Below w.heap.size w w4) := Lib.hid (HB.out.trans (hv4.mono HB.out.size))
                  clear hv4 v0 v1 v2 fv0 fv1 fv2 fu1 hw1 hw3
                  go_wp2
                  go_ret
                  exact ⟨by rw [seenOk_not (seenStep_low HE.out HP.out (by have h6 := HX0.out; omega))]; rfl, HBW.out⟩
                · have hx1 : decide (e.client ≤ p.client) = false := by simpa using hx
                  have HX0 := Lib.hid hx
                  clear hx
                  go_wp2_with (first | (go_at_call 127; refine (askerOk_any _ _).mono ?_; rintro e2 w2 ⟨rfl, rfl⟩) | (go_at_call 128; refine (seqOk_any _ _).mono ?_; rintro e2 w2 ⟨rfl, rfl⟩) | (go_at_call 70; refine (indexOk_any _ _).mono ?_; rintro e2 w2 ⟨rfl, rfl⟩))
                  refine wp_region_quiet_below (by kernel_rfl) (by kernel_rfl) ?_; (repeat (first | go_big_quiet_step (fail) | quiet_step (fail))); refine wpQuiet_nil ?_; intro _ hw'; obtain ⟨⟨nq, osq⟩, hw''⟩ := hw'; subst hw''; have hq := below_regrown (wr.alloc (.cells #[.int .i64 e.client, .int .i64 e.seq, .int .i64 e.index] 117)) nq osq; generalize Sort.grow (redrawn (wr.alloc (.cells #[.int .i64 e.client, .int .i64 e.seq, .int .i64 e.index] 117)) nq) osq = w4 at *
                  have hgz := hq.size
                  (try simp only [World.heap_size_alloc] at hgz)
                  have hv4 : Below wr.heap.size wr w4 := by (repeat' (first | with_reducible exact Below.refl _ _ | with_reducible assumption | with_reducible refine Below.drew ?_ | with_reducible refine Below.alloc ?_ ?_ _ | with_reducible refine Below.setCell ?_ ?_ _ | with_reducible refine Below.trans ?_ (Below.mono (by assumption) ?_) | ((try simp only [World.heap_size_alloc, World.heap_size_drew, World.heap_size_setCell]); omega)))
                  have z2 := (hq.cell (p := ⟨wr.heap.size, 2, none⟩) (by (try simp only [World.heap_size_alloc, World.heap_size_drew, World.heap_size_setCell]); omega)).trans v2
                  have HMAP := Lib.hid (HMP.out.kept hv4)
                  have HBW : Hid (Below w.heap.size w w4) := Lib.hid (HB.out.trans (hv4.mono HB.out.size))
                  clear hv4 v0 v1 v2 fv0 fv1 fv2 fu1 hw1 hw3
                  go_wp2_with (at_mapUpdate; refine wpList_put rfl _ _ _ rfl (HMAP.out) Try.underlying2 Try.underlying157 (by omega) rfl rfl rfl HWF.out ?_; intro w5 hm5 hg5)
                  have hb5 : Below w.heap.size w w5 := (HBW.out).trans (grownBy_below hg5 (Nat.le_refl _) (by have := HBW.out.size; omega))
                  have HM5 := Lib.hid hm5
                  clear hm5 hg5
                  go_roundw
                  case rel => exact ⟨(q + 1) + 1, hlt, by go_num, hb5, by rw [usedMap_succ HE.out]; exact HM5.out, fun j hj => by
                    rcases Nat.lt_succ_iff_lt_or_eq.1 hj with h5 | rfl
                    · exact hp.out j h5
                    · exact seenStep_fresh HE.out HP.out HM.out (by have h6 := HX0.out; omega) HU.out⟩
                  case measure => simp [intOf]; omega
    · go_wp2
      go_ret
      have hmn : m = n := by omega
      exact ⟨by rw [seenOk_of (fun j hj => hp.out j (by rw [HL.out] at hj; omega))]; rfl, hb⟩
end Go.Proofs.Ytgnilmdaegnaaaa
