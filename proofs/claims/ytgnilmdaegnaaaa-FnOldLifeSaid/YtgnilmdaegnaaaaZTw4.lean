/- Pairs of disks: equal rows, mended sectors, new kept disks, a head kept. No conditions. -/
import Derived.Test.YtgnilmdaegnaaaaZTw2
import Derived.Deep.RegionLaw
set_option linter.unusedSimpArgs false
set_option linter.unusedVariables false
namespace Go.Proofs.Ytgnilmdaegnaaaa
open Go.RowKit
open Go.ChangeShapes Go.WideShapes Go.ChangeAt
def sameInts (a b : List Int) : Bool := decide (a = b)
theorem sameInts_len {a b : List Int} (h : a.length ≠ b.length) : sameInts a b = false := by
  simp only [sameInts, decide_eq_false_iff_not]
  intro e
  exact h (by rw [e])
theorem sameInts_at {a b : List Int} {j : Nat} (h : a[j]? ≠ b[j]?) : sameInts a b = false := by
  simp only [sameInts, decide_eq_false_iff_not]
  intro e
  exact h (by rw [e])
theorem sameInts_of {a b : List Int} {n : Nat} (ha : a.length = n) (hb : b.length = n) (h : ∀ j, j < n → a[j]? = b[j]?) : sameInts a b = true := by
  simp only [sameInts, decide_eq_true_eq]
  apply List.ext_getElem?
  intro j
  by_cases hj : j < n
  · exact h j hj
  · rw [List.getElem?_eq_none (by omega), List.getElem?_eq_none (by omega)]
set_option maxRecDepth 100000 in
set_option maxHeartbeats 2000000 in
theorem slicesEqualInt_any (A B : Option Addr) (n c m d lo hi lo' hi' : Nat) (l k : List Int) (w : World) (h : Sl w lo hi 1 A n c l) (h' : Sl w lo' hi' 1 B m d k) :
    Calls Try.prog 178 #[.slice A n c, .slice B m d] w (BoolRes w (sameInts l k)) := by
  have hn : n ≤ 9223372036854775807 := Nat.le_trans h.cap h.big
  have hm0 : m ≤ 9223372036854775807 := Nat.le_trans h'.cap h'.big
  have hl : l.length = n := h.uniq_len
  have hk : k.length = m := h'.uniq_len
  by_cases hnm : n = m
  · subst hnm
    have H := Lib.hid (h.fit (by omega))
    have K := Lib.hid (h'.fit (by omega))
    have HL := Lib.hid hl
    have HK := Lib.hid hk
    clear h h' hl hk
    go_enter Try.func178, Try.ntmps178
    go_wp2
    go_loopw [5, 13] (fun _ i wr => ∃ j : Nat, j ≤ n ∧ i = .int .i64 j ∧ Below w.heap.size w wr ∧ Hid (∀ q, q < j → l[q]? = k[q]?)) (fun _ i _ => n - (intOf i).toNat)
    case atStart => exact ⟨0, Nat.zero_le _, rfl, Below.refl _ _, fun j hj => absurd hj (by omega)⟩
    case round =>
      obtain ⟨j, hj, rfl, hb, hp⟩ := hrel
      by_cases hlt : j < n
      · obtain ⟨g, off, e, rfl, _, hg, he, p0⟩ := H.out.int hlt
        obtain ⟨g', off', e', rfl, _, hg', he', q0⟩ := K.out.int hlt
        have hg1 := Nat.lt_of_lt_of_le hg (Nat.min_le_right _ _)
        have hg2 := Nat.lt_of_lt_of_le hg' (Nat.min_le_right _ _)
        have HE := Lib.hid he
        have HE' := Lib.hid he'
        have r0 := (hb.cell (p := ⟨g, off + j, none⟩) hg1).trans p0
        have s0 := (hb.cell (p := ⟨g', off' + j, none⟩) hg2).trans q0
        have fr0 := fun d os => cell_regrown r0 d os
        have fs0 := fun d os => cell_regrown s0 d os
        clear he he' p0 q0
        by_cases hee : e = e'
        · subst hee
          go_wp2
          refine wp_region_quiet_below (by kernel_rfl) (by kernel_rfl) ?_; (repeat (first | go_big_quiet_step (fail) | quiet_step (fail))); refine wpQuiet_nil ?_; intro _ hw'; obtain ⟨⟨nq, osq⟩, hw''⟩ := hw'; subst hw''; have hq := below_regrown wr nq osq; generalize Sort.grow (redrawn wr nq) osq = w1 at *
          have hbz := hb.size
          have hbw : Below w.heap.size w w1 := by (repeat' (first | with_reducible exact Below.refl _ _ | with_reducible assumption | with_reducible refine Below.drew ?_ | with_reducible refine Below.alloc ?_ ?_ _ | with_reducible refine Below.setCell ?_ ?_ _ | with_reducible refine Below.trans ?_ (Below.mono (by assumption) ?_) | ((try simp only [World.heap_size_alloc, World.heap_size_drew, World.heap_size_setCell]); omega)))
          go_wp2
          go_roundw
          case rel => exact ⟨j + 1, hlt, by go_num, hbw, fun q hq => by
            rcases Nat.lt_succ_iff_lt_or_eq.1 hq with h5 | rfl
            · exact hp.out q h5
            · rw [HE.out, HE'.out]⟩
          case measure => simp [intOf]; omega
        · have HEE := Lib.hid hee
          go_wp2
          refine wp_region_quiet_below (by kernel_rfl) (by kernel_rfl) ?_; (repeat (first | go_big_quiet_step (fail) | quiet_step (fail))); refine wpQuiet_nil ?_; intro _ hw'; obtain ⟨⟨nq, osq⟩, hw''⟩ := hw'; subst hw''; have hq := below_regrown wr nq osq; generalize Sort.grow (redrawn wr nq) osq = w1 at *
          have hbz := hb.size
          have hbw : Below w.heap.size w w1 := by (repeat' (first | with_reducible exact Below.refl _ _ | with_reducible assumption | with_reducible refine Below.drew ?_ | with_reducible refine Below.alloc ?_ ?_ _ | with_reducible refine Below.setCell ?_ ?_ _ | with_reducible refine Below.trans ?_ (Below.mono (by assumption) ?_) | ((try simp only [World.heap_size_alloc, World.heap_size_drew, World.heap_size_setCell]); omega)))
          go_wp2
          go_ret
          exact ⟨by rw [sameInts_at (j := j) (by rw [HE.out, HE'.out]; intro h9; injection h9 with h9; exact HEE.out h9)]; rfl, hbw⟩
      · go_wp2
        go_ret
        have hjn : j = n := by omega
        subst hjn
        exact ⟨by rw [sameInts_of HL.out HK.out hp.out]; rfl, hb⟩
  · have hne : ((n : Int) != (m : Int)) = true := by simp; omega
    rw [sameInts_len (by omega)]
    clear hl hk h h'
    go_enter Try.func178, Try.ntmps178
    go_wp2
    go_ret
    exact ⟨rfl, Below.refl _ _⟩
set_option maxRecDepth 100000 in
set_option maxHeartbeats 400000 in
theorem sameRow_any (A B : Option Addr) (n c m d lo hi lo' hi' : Nat) (l k : List Int) (w : World) (h : Sl w lo hi 1 A n c l) (h' : Sl w lo' hi' 1 B m d k) :
    Calls Try.prog 155 #[.slice A n c, .slice B m d] w (BoolRes w (sameInts l k)) := by
  have HC := Lib.hid (slicesEqualInt_any A B n c m d lo hi lo' hi' l k w h h')
  clear h h'
  go_enter Try.func155, Try.ntmps155
  go_wp2_with fail
  (with_reducible refine HC.out.mono ?_); rintro _ w1 ⟨rfl, b1⟩
  go_wp2_with fail
  go_ret
  exact ⟨rfl, b1⟩
theorem twoOk_snoc {k0 k2 : List (List Int)} {v0 v2 : List WriteD} {n0 n1 n2 n3 : Nat} {q : Int} {z : List Int} (hd : twoOk k0 v0 k2 v2 = true) (l0 : k0.length = n0) (l2 : k2.length = n2) (l1 : v0.length = n1) (l3 : v2.length = n3) (hz : rowOk z = true) (hq : btw q 0 ((n0 : Int) - 1) = true) (h1 : n1 < 60) (h3 : n3 < 60) : twoOk k0 (v0 ++ [⟨q, z⟩]) k2 (v2 ++ [⟨q, z⟩]) = true := by
  subst l0 l1 l2 l3
  simp only [twoOk, diskOk, Bool.and_eq_true, decide_eq_true_eq, List.all_append, List.length_append, List.length_singleton, List.all_cons, List.all_nil, Bool.and_true, wrOk] at hd ⊢
  obtain ⟨⟨a1, a2, a3, a4, a5⟩, ⟨b1, b2, b3, b4, b5⟩, e⟩ := hd
  exact ⟨⟨a1, a2, by omega, a4, a5, hq, hz⟩, ⟨b1, b2, by omega, b4, b5, by rw [← e]; exact hq, hz⟩, e⟩
set_option maxRecDepth 100000 in
set_option maxHeartbeats 4000000 in
theorem mendedAt_any (A0 : Option Addr) (n0 c0 : Nat) (k0 : List (List Int)) (A1 : Option Addr) (n1 c1 : Nat) (v0 : List WriteD) (A2 : Option Addr) (n2 c2 : Nat) (k2 : List (List Int)) (A3 : Option Addr) (n3 c3 : Nat) (v2 : List WriteD) (lo hi : Nat) (w : World) (h0 : SlR w lo hi A0 n0 c0 k0) (h1 : SlW w lo hi A1 n1 c1 v0) (h2 : SlR w lo hi A2 n2 c2 k2) (h3 : SlW w lo hi A3 n3 c3 v2) (hhi : hi ≤ w.heap.size) (q : Int) (Ar : Option Addr) (nr cr lor hir : Nat) (zr : List Int) (hr : Sl w lor hir 1 Ar nr cr zr) (hhr : hir ≤ w.heap.size) (hz : rowOk zr = true) (hnr : nr < 48) (hq : btw q 0 ((n0 : Int) - 1) = true) (hn1 : n1 < 60) (hn3 : n3 < 60) (hd : twoOk k0 v0 k2 v2 = true) :
    Calls Try.prog 102 #[.agg #[.slice A0 n0 c0, .slice A1 n1 c1, .slice A2 n2 c2, .slice A3 n3 c3], .int .i64 q, .slice Ar nr cr] w (TwRes w n0 (syncM k0 (v0 ++ [⟨q, zr ++ [sumM zr]⟩])) 0 [] n2 (syncM k2 (v2 ++ [⟨q, zr ++ [sumM zr]⟩])) 0 []) := by
  have H0 := Lib.hid h0
  have H1 := Lib.hid h1
  have H2 := Lib.hid h2
  have H3 := Lib.hid h3
  have HR := Lib.hid hr
  have CBW : Hid (∀ W, Below w.heap.size w W → Calls Try.prog 146 #[.agg #[.slice A0 n0 c0, .slice A1 n1 c1, .slice A2 n2 c2, .slice A3 n3 c3], .int .i64 q, .slice Ar nr cr] W (TwBRes W n0 k0 (n1 + 1) (v0 ++ [⟨q, zr ++ [sumM zr]⟩]) n2 k2 (n3 + 1) (v2 ++ [⟨q, zr ++ [sumM zr]⟩]) true)) := Lib.hid (fun W hW => bothWrote_any A0 n0 c0 k0 A1 n1 c1 v0 A2 n2 c2 k2 A3 n3 c3 v2 lo hi W (H0.out.below hW hhi) (H1.out.below hW hhi) (H2.out.below hW hhi) (H3.out.below hW hhi) (Nat.le_trans hhi hW.size) q Ar nr cr lor hir zr (HR.out.below hW hhr) (Nat.le_trans hhr hW.size) hz hnr hq hn1 hn3 hd)
  have T1 : Hid (∀ W, Below (w.heap.size + 2) ((w.alloc (.cells #[.slice A0 n0 c0, .slice A1 n1 c1, .slice A2 n2 c2, .slice A3 n3 c3] 69)).alloc (.cells #[.slice none 0 0, .slice none 0 0, .slice none 0 0, .slice none 0 0] 69)) W → (Box4 W w.heap.size (.slice A0 n0 c0) (.slice A1 n1 c1) (.slice A2 n2 c2) (.slice A3 n3 c3) ∧ Box4 W (w.heap.size + 1) (.slice none 0 0) (.slice none 0 0) (.slice none 0 0) (.slice none 0 0))) := Lib.hid (fun W hW => ⟨((Box4.new w (.slice A0 n0 c0) (.slice A1 n1 c1) (.slice A2 n2 c2) (.slice A3 n3 c3) 69).below (B := w.heap.size + 1) ((Below.refl _ _).alloc (by simp) (.cells #[.slice none 0 0, .slice none 0 0, .slice none 0 0, .slice none 0 0] 69)) (by omega)).below hW (by omega), by
    have h9 := Box4.new (w.alloc (.cells #[.slice A0 n0 c0, .slice A1 n1 c1, .slice A2 n2 c2, .slice A3 n3 c3] 69)) (.slice none 0 0) (.slice none 0 0) (.slice none 0 0) (.slice none 0 0) 69
    rw [World.heap_size_alloc] at h9
    exact h9.below hW (by omega)⟩)
  have hs9 : ((w.alloc (.cells #[.slice A0 n0 c0, .slice A1 n1 c1, .slice A2 n2 c2, .slice A3 n3 c3] 69)).alloc (.cells #[.slice none 0 0, .slice none 0 0, .slice none 0 0, .slice none 0 0] 69)).heap.size = w.heap.size + 2 := by simp only [World.heap_size_alloc]
  have hb9 : Below w.heap.size w ((w.alloc (.cells #[.slice A0 n0 c0, .slice A1 n1 c1, .slice A2 n2 c2, .slice A3 n3 c3] 69)).alloc (.cells #[.slice none 0 0, .slice none 0 0, .slice none 0 0, .slice none 0 0] 69)) := by (repeat' (first | with_reducible exact Below.refl _ _ | with_reducible assumption | with_reducible refine Below.drew ?_ | with_reducible refine Below.alloc ?_ ?_ _ | with_reducible refine Below.setCell ?_ ?_ _ | with_reducible refine Below.trans ?_ (Below.mono (by assumption) ?_) | ((try simp only [World.heap_size_alloc, World.heap_size_drew, World.heap_size_setCell]); omega)))
  have hd3 : twoOk k0 (v0 ++ [⟨q, zr ++ [sumM zr]⟩]) k2 (v2 ++ [⟨q, zr ++ [sumM zr]⟩]) = true := twoOk_snoc hd h0.len h2.len h1.len h3.len (rowOk_sum hz (by rw [hr.uniq_len]; exact hnr)) hq hn1 hn3
  clear h0 h1 h2 h3 hr
  go_enter Try.func102, Try.ntmps102
  go_wp2_with fail
  generalize hW0 : (w.alloc (.cells #[.slice A0 n0 c0, .slice A1 n1 c1, .slice A2 n2 c2, .slice A3 n3 c3] 69)).alloc (.cells #[.slice none 0 0, .slice none 0 0, .slice none 0 0, .slice none 0 0] 69) = W0 at *
  have hs9a := Nat.le_of_eq hs9
  have hs9b := Nat.le_of_eq hs9.symm
  clear hW0 hs9
  (with_reducible refine (CBW.out _ hb9).mono ?_); rintro _ w3 ⟨X0, d0, X1, d1, X2, d2, X3, d3, rfl, s0, s1, s2, s3, b3⟩
  have y3 := b3.size
  have hst : Below w3.heap.size w3 (w3.alloc (.cells #[.slice X0 n0 d0, .slice X1 (n1 + 1) d1, .slice X2 n2 d2, .slice X3 (n3 + 1) d3] 69)) := (Below.refl _ _).alloc (Nat.le_refl _) _
  have hss : (w3.alloc (.cells #[.slice X0 n0 d0, .slice X1 (n1 + 1) d1, .slice X2 n2 d2, .slice X3 (n3 + 1) d3] 69)).heap.size = w3.heap.size + 1 := World.heap_size_alloc _ _
  have P3 := Lib.hid (b3.trans (hst.mono y3) : Below W0.heap.size W0 (w3.alloc (.cells #[.slice X0 n0 d0, .slice X1 (n1 + 1) d1, .slice X2 n2 d2, .slice X3 (n3 + 1) d3] 69)))
  have CSY : Hid (∀ W, Below w3.heap.size w3 W → Calls Try.prog 60 #[.agg #[.slice X0 n0 d0, .slice X1 (n1 + 1) d1, .slice X2 n2 d2, .slice X3 (n3 + 1) d3]] W (TwRes W n0 (syncM k0 (v0 ++ [⟨q, zr ++ [sumM zr]⟩])) 0 [] n2 (syncM k2 (v2 ++ [⟨q, zr ++ [sumM zr]⟩])) 0 [])) := Lib.hid (fun W hW => bothSynced_any X0 n0 d0 k0 X1 (n1 + 1) d1 (v0 ++ [⟨q, zr ++ [sumM zr]⟩]) X2 n2 d2 k2 X3 (n3 + 1) d3 (v2 ++ [⟨q, zr ++ [sumM zr]⟩]) W0.heap.size w3.heap.size W (s0.below hW (Nat.le_refl _)) (s1.below hW (Nat.le_refl _)) (s2.below hW (Nat.le_refl _)) (s3.below hW (Nat.le_refl _)) hW.size hd3)
  have HST := Lib.hid hst
  clear s0 s1 s2 s3 b3 hst
  go_wp2_with fail
  (with_reducible refine (CSY.out _ HST.out).mono ?_); rintro _ w4 ⟨Y0, e0, Y1, e1, Y2, e2, Y3, e3, rfl, t0, t1, t2, t3, b4⟩
  have y4 := b4.size
  have P4 : Below (w.heap.size + 2) W0 w4 := (P3.out.mono (by omega)).trans (b4.mono (by omega))
  obtain ⟨p0, p1, p2, p3, g0, g1, g2, g3⟩ := (T1.out _ P4).2
  have HBZ := Lib.hid (hb9.trans (P4.mono (by omega)))
  have SS0 := Lib.hid t0
  have SS1 := Lib.hid t1
  have SS2 := Lib.hid t2
  have SS3 := Lib.hid t3
  clear t0 t1 t2 t3 b4 P4
  go_wp2_with fail
  refine bodyPost_ret (v := .agg #[.slice Y0 n0 e0, .slice Y1 0 e1, .slice Y2 n2 e2, .slice Y3 0 e3]) (by simp [results, Try.results102, go_sem, p0, p1, p2, p3, g0, g1, g2, g3]) rfl ⟨Y0, e0, Y1, e1, Y2, e2, Y3, e3, rfl, SS0.out.at4 (b := w.heap.size + 1) (x := (.slice Y0 n0 e0)) (y := (.slice Y1 0 e1)) (z := (.slice Y2 n2 e2)) (u := (.slice Y3 0 e3)) (by omega) (by omega) (Nat.le_refl _), SS1.out.at4 (b := w.heap.size + 1) (x := (.slice Y0 n0 e0)) (y := (.slice Y1 0 e1)) (z := (.slice Y2 n2 e2)) (u := (.slice Y3 0 e3)) (by omega) (by omega) (Nat.le_refl _), SS2.out.at4 (b := w.heap.size + 1) (x := (.slice Y0 n0 e0)) (y := (.slice Y1 0 e1)) (z := (.slice Y2 n2 e2)) (u := (.slice Y3 0 e3)) (by omega) (by omega) (Nat.le_refl _), SS3.out.at4 (b := w.heap.size + 1) (x := (.slice Y0 n0 e0)) (y := (.slice Y1 0 e1)) (z := (.slice Y2 n2 e2)) (u := (.slice Y3 0 e3)) (by omega) (by omega) (Nat.le_refl _), HBZ.out.trans (below4 (by omega))⟩
set_option maxRecDepth 100000 in
set_option maxHeartbeats 4000000 in
theorem keptRow_any (A0 : Option Addr) (n0 c0 : Nat) (k0 : List (List Int)) (A1 : Option Addr) (n1 c1 : Nat) (v0 : List WriteD) (A2 : Option Addr) (n2 c2 : Nat) (k2 : List (List Int)) (A3 : Option Addr) (n3 c3 : Nat) (v2 : List WriteD) (lo hi : Nat) (w : World) (h0 : SlR w lo hi A0 n0 c0 k0) (h1 : SlW w lo hi A1 n1 c1 v0) (h2 : SlR w lo hi A2 n2 c2 k2) (h3 : SlW w lo hi A3 n3 c3 v2) (hhi : hi ≤ w.heap.size) (q : Int) (Ar : Option Addr) (nr cr lor hir : Nat) (zr : List Int) (hr : Sl w lor hir 1 Ar nr cr zr) (hhr : hir ≤ w.heap.size) (hz : rowOk zr = true) (hnr : nr < 48) (hq : btw q 0 ((n0 : Int) - 1) = true) (hn1 : n1 < 60) (hn3 : n3 < 60) (hd : twoOk k0 v0 k2 v2 = true) (h22 : n0 = 22) (hnr0 : 0 < nr) :
    Calls Try.prog 115 #[.agg #[.slice A0 n0 c0, .slice A1 n1 c1, .slice A2 n2 c2, .slice A3 n3 c3], .int .i64 q, .slice Ar nr cr] w (TwBRes w n0 k0 (n1 + 1) (v0 ++ [⟨q, zr ++ [sumM zr]⟩]) n2 k2 (n3 + 1) (v2 ++ [⟨q, zr ++ [sumM zr]⟩]) true) := by
  obtain ⟨gs, offs, rfl, -, -, -⟩ := hr.lie hnr0
  have HNIL : Hid (∀ W : World, (binOp .eql 28 (.slice (some ⟨gs, offs, none⟩) nr cr) (.slice none 0 0)).run Try.prog W = .ok (.bool false) W) := Lib.hid (fun W => by
    have h7 := Lib.run_eql_slice_nil (P := Try.prog) W 28 2 (some ⟨gs, offs, none⟩) nr cr 0 0 Try.underlying28
    simp only [Option.isNone_some] at h7
    exact h7)
  have H0 := Lib.hid h0
  have H1 := Lib.hid h1
  have H2 := Lib.hid h2
  have H3 := Lib.hid h3
  have HR := Lib.hid hr
  have CBW : Hid (∀ W, Below w.heap.size w W → Calls Try.prog 146 #[.agg #[.slice A0 n0 c0, .slice A1 n1 c1, .slice A2 n2 c2, .slice A3 n3 c3], .int .i64 q, .slice (some ⟨gs, offs, none⟩) nr cr] W (TwBRes W n0 k0 (n1 + 1) (v0 ++ [⟨q, zr ++ [sumM zr]⟩]) n2 k2 (n3 + 1) (v2 ++ [⟨q, zr ++ [sumM zr]⟩]) true)) := Lib.hid (fun W hW => bothWrote_any A0 n0 c0 k0 A1 n1 c1 v0 A2 n2 c2 k2 A3 n3 c3 v2 lo hi W (H0.out.below hW hhi) (H1.out.below hW hhi) (H2.out.below hW hhi) (H3.out.below hW hhi) (Nat.le_trans hhi hW.size) q (some ⟨gs, offs, none⟩) nr cr lor hir zr (HR.out.below hW hhr) (Nat.le_trans hhr hW.size) hz hnr hq hn1 hn3 hd)
  have T1 : Hid (∀ W, Below (w.heap.size + 2) ((w.alloc (.cells #[.slice A0 n0 c0, .slice A1 n1 c1, .slice A2 n2 c2, .slice A3 n3 c3] 69)).alloc (.cells #[.slice none 0 0, .slice none 0 0, .slice none 0 0, .slice none 0 0] 69)) W → (Box4 W w.heap.size (.slice A0 n0 c0) (.slice A1 n1 c1) (.slice A2 n2 c2) (.slice A3 n3 c3) ∧ Box4 W (w.heap.size + 1) (.slice none 0 0) (.slice none 0 0) (.slice none 0 0) (.slice none 0 0))) := Lib.hid (fun W hW => ⟨((Box4.new w (.slice A0 n0 c0) (.slice A1 n1 c1) (.slice A2 n2 c2) (.slice A3 n3 c3) 69).below (B := w.heap.size + 1) ((Below.refl _ _).alloc (by simp) (.cells #[.slice none 0 0, .slice none 0 0, .slice none 0 0, .slice none 0 0] 69)) (by omega)).below hW (by omega), by
    have h9 := Box4.new (w.alloc (.cells #[.slice A0 n0 c0, .slice A1 n1 c1, .slice A2 n2 c2, .slice A3 n3 c3] 69)) (.slice none 0 0) (.slice none 0 0) (.slice none 0 0) (.slice none 0 0) 69
    rw [World.heap_size_alloc] at h9
    exact h9.below hW (by omega)⟩)
  have hs9 : ((w.alloc (.cells #[.slice A0 n0 c0, .slice A1 n1 c1, .slice A2 n2 c2, .slice A3 n3 c3] 69)).alloc (.cells #[.slice none 0 0, .slice none 0 0, .slice none 0 0, .slice none 0 0] 69)).heap.size = w.heap.size + 2 := by simp only [World.heap_size_alloc]
  have hb9 : Below w.heap.size w ((w.alloc (.cells #[.slice A0 n0 c0, .slice A1 n1 c1, .slice A2 n2 c2, .slice A3 n3 c3] 69)).alloc (.cells #[.slice none 0 0, .slice none 0 0, .slice none 0 0, .slice none 0 0] 69)) := by (repeat' (first | with_reducible exact Below.refl _ _ | with_reducible assumption | with_reducible refine Below.drew ?_ | with_reducible refine Below.alloc ?_ ?_ _ | with_reducible refine Below.setCell ?_ ?_ _ | with_reducible refine Below.trans ?_ (Below.mono (by assumption) ?_) | ((try simp only [World.heap_size_alloc, World.heap_size_drew, World.heap_size_setCell]); omega)))
  have CKO : Hid (∀ W, Below w.heap.size w W → Calls Try.prog 40 #[.agg #[.slice A0 n0 c0, .slice A1 n1 c1, .slice A2 n2 c2, .slice A3 n3 c3]] W fun e w' => e = .returned (.bool true) ∧ Below W.heap.size W w') := Lib.hid (fun W hW => by
    have h7 := keptOk_any A0 n0 c0 k0 A1 n1 c1 v0 A2 n2 c2 k2 A3 n3 c3 v2 lo hi W (H0.out.below hW hhi) (H1.out.below hW hhi) (H2.out.below hW hhi) (H3.out.below hW hhi) (Nat.le_trans hhi hW.size)
    rw [hd, H0.out.len, decide_eq_true h22] at h7
    exact h7)
  clear h0 h1 h2 h3 hr h22
  go_enter Try.func115, Try.ntmps115
  go_wp2_with fail
  generalize hW0 : (w.alloc (.cells #[.slice A0 n0 c0, .slice A1 n1 c1, .slice A2 n2 c2, .slice A3 n3 c3] 69)).alloc (.cells #[.slice none 0 0, .slice none 0 0, .slice none 0 0, .slice none 0 0] 69) = W0 at *
  have hs9a := Nat.le_of_eq hs9
  have hs9b := Nat.le_of_eq hs9.symm
  clear hW0 hs9
  (with_reducible refine (CKO.out _ hb9).mono ?_); rintro _ w1 ⟨rfl, b1⟩
  have y1 := b1.size
  have P1 := Lib.hid (b1.mono (by omega) : Below (w.heap.size + 2) W0 w1)
  have HB1 := Lib.hid (hb9.trans (P1.out.mono (by omega)))
  obtain ⟨⟨q0, q1, q2, q3, f0, f1, f2, f3⟩, -⟩ := T1.out _ P1.out
  have hnil := HNIL.out w1
  clear b1 hb9
  go_wp2_with fail
  (with_reducible refine (CBW.out _ HB1.out).mono ?_); rintro _ w4 ⟨X0, d0, X1, d1, X2, d2, X3, d3, rfl, t0, t1, t2, t3, b4⟩
  have y4 := b4.size
  have P4 : Below (w.heap.size + 2) W0 w4 := P1.out.trans (b4.mono (by omega))
  clear q0 q1 q2 q3 f0 f1 f2 f3
  obtain ⟨p0, p1, p2, p3, g0, g1, g2, g3⟩ := (T1.out _ P4).2
  have HBZ := Lib.hid (HB1.out.trans (b4.mono (by have := HB1.out.size; omega)))
  have SS0 := Lib.hid t0
  have SS1 := Lib.hid t1
  have SS2 := Lib.hid t2
  have SS3 := Lib.hid t3
  clear t0 t1 t2 t3 b4 P4 hnil
  go_wp2_with fail
  refine bodyPost_ret (v := .tuple #[.agg #[.slice X0 n0 d0, .slice X1 (n1 + 1) d1, .slice X2 n2 d2, .slice X3 (n3 + 1) d3], .bool true]) (by simp [results, Try.results115, go_sem, p0, p1, p2, p3, g0, g1, g2, g3]) rfl ⟨X0, d0, X1, d1, X2, d2, X3, d3, rfl, SS0.out.at4 (b := w.heap.size + 1) (x := (.slice X0 n0 d0)) (y := (.slice X1 (n1 + 1) d1)) (z := (.slice X2 n2 d2)) (u := (.slice X3 (n3 + 1) d3)) (by omega) (by omega) (Nat.le_refl _), SS1.out.at4 (b := w.heap.size + 1) (x := (.slice X0 n0 d0)) (y := (.slice X1 (n1 + 1) d1)) (z := (.slice X2 n2 d2)) (u := (.slice X3 (n3 + 1) d3)) (by omega) (by omega) (Nat.le_refl _), SS2.out.at4 (b := w.heap.size + 1) (x := (.slice X0 n0 d0)) (y := (.slice X1 (n1 + 1) d1)) (z := (.slice X2 n2 d2)) (u := (.slice X3 (n3 + 1) d3)) (by omega) (by omega) (Nat.le_refl _), SS3.out.at4 (b := w.heap.size + 1) (x := (.slice X0 n0 d0)) (y := (.slice X1 (n1 + 1) d1)) (z := (.slice X2 n2 d2)) (u := (.slice X3 (n3 + 1) d3)) (by omega) (by omega) (Nat.le_refl _), HBZ.out.trans (below4 (by omega))⟩
end Go.Proofs.Ytgnilmdaegnaaaa
