/- Disks: torn rows, and what falls. No conditions. -/
import Derived.Test.YtgnilmdaegnaaaaDk9
import Derived.Deep.RegionHeld3
set_option linter.unusedSimpArgs false
set_option linter.unusedVariables false
namespace Go.Proofs.Ytgnilmdaegnaaaa
open Go.RowKit

theorem run_frontI (A : Option Addr) (n c j : Nat) (hj : j ≤ c) (W : World) : (Instr.sliceAt 28 (.slice A n c) none (some (.int .i64 (j : Int))) none).run Try.prog W = .ok (.slice A j c) W := by
  have h2 : (j : Int) ≤ (c : Int) := by omega
  obtain ⟨i, h1, _, _, _⟩ := info_parts info64
  by_cases hc : c = 0
  · subst hc
    obtain rfl : j = 0 := by omega
    simp [Instr.sliceAt, Instr.slice, run_underlying Try.underlying28, Instr.sliceBounds, run_sliceBound, sizeOf, typeInfo, h1]
  · simp [Instr.sliceAt, Instr.slice, run_underlying Try.underlying28, Instr.sliceBounds, run_sliceBound, sizeOf, typeInfo, h1, h2, hc, hj]
    cases A <;> simp [Addr.add]
theorem run_tailI (A : Option Addr) (n c j : Nat) (hj : j ≤ n) (W : World) : (Instr.sliceAt 28 (.slice A n c) (some (.int .i64 (j : Int))) none none).run Try.prog W = .ok (.slice (if c = j then A else A.map (·.add (j * 1))) (n - j) (c - j)) W := by
  have h2 : (j : Int) ≤ (n : Int) := by omega
  obtain ⟨i, h1, _, h3, _⟩ := info_parts info64
  simp [Instr.sliceAt, Instr.slice, run_underlying Try.underlying28, Instr.sliceBounds, run_sliceBound, sizeOf, typeInfo, h1, h2, h3, hj]
theorem Sl.frontI {w : World} {lo hi : Nat} {A : Option Addr} {n c j : Nat} {zs : List Int} (h : Sl w lo hi 1 A n c zs) (hj : j ≤ n) : Sl w lo hi 1 A j c (zs.take j) := by
  have hl := h.len
  refine ⟨by rw [List.length_take]; omega, Nat.le_trans hj h.cap, h.big, fun hj0 => ?_⟩
  obtain ⟨g, off, e, h1, h2, h3⟩ := h.lie (by omega)
  refine ⟨g, off, e, h1, h2, ?_⟩
  have := h3.sub 0 j
  rw [Nat.add_zero, List.drop_zero] at this
  exact this
theorem Sl.tailI {w : World} {lo hi : Nat} {A : Option Addr} {n c j : Nat} {zs : List Int} (h : Sl w lo hi 1 A n c zs) (hj : j ≤ n) : Sl w lo hi 1 (if c = j then A else A.map (·.add (j * 1))) (n - j) (c - j) (zs.drop j) := by
  have hl := h.len
  have hc := h.cap
  have hb := h.big
  refine ⟨by rw [List.length_drop]; omega, by omega, by omega, fun hj0 => ?_⟩
  obtain ⟨g, off, e, h1, h2, h3⟩ := h.lie (by omega)
  have hcj : ¬ c = j := by omega
  refine ⟨g, off + j, ?_, h1, h2, fun i z hz => ?_⟩
  · rw [if_neg hcj, e]; simp [Addr.add]
  · rw [List.getElem?_drop] at hz
    have := h3 (j + i) z hz
    rw [← Nat.add_assoc] at this
    exact this
theorem tail_atI (A : Option Addr) (n c j : Nat) (hj : j ≤ n) : ∃ B, (∀ W, (Instr.sliceAt 28 (.slice A n c) (some (.int .i64 (j : Int))) none none).run Try.prog W = .ok (.slice B (n - j) (c - j)) W) ∧
    ∀ (W : World) (lo hi : Nat) (zs : List Int), Sl W lo hi 1 A n c zs → Sl W lo hi 1 B (n - j) (c - j) (zs.drop j) :=
  ⟨_, fun W => run_tailI A n c j hj W, fun _ _ _ _ h => h.tailI hj⟩
/-- The first half of a row, and what an older row has behind it. -/
def tornM (row old : List Int) : List Int := row.take (row.length / 2) ++ old.drop (row.length / 2)
set_option maxRecDepth 100000 in
set_option maxHeartbeats 2000000 in
theorem torn_any (A : Option Addr) (n c lo hi : Nat) (zs : List Int) (B : Option Addr) (m d lo' hi' : Nat) (ys : List Int) (w : World) (h : Sl w lo hi 1 A n c zs) (k : Sl w lo' hi' 1 B m d ys) (hhi : hi ≤ w.heap.size) (hhk : hi' ≤ w.heap.size) (hn : n ≤ 1000) (hm : m ≤ 1000) :
    Calls Try.prog 114 #[.slice A n c, .slice B m d] w (SlRes w 1 (n / 2 + (m - n / 2)) (tornM zs ys)) := by
  have hzl : zs.length = n := by have := h.len; omega
  have hyl : ys.length = m := by have := k.len; omega
  have hq : (n : Int) / 2 = ((n / 2 : Nat) : Int) := by omega
  have hc := h.cap
  have hd := k.cap
  have hdb := k.big
  have hcb := h.big
  have HF : Hid (∀ W, (Instr.sliceAt 28 (.slice A n c) none (some (.int .i64 ((n : Int) / 2))) none).run Try.prog W = .ok (.slice A (n / 2) c) W) := Lib.hid (fun W => by
    rw [hq]
    exact run_frontI A n c (n / 2) (by omega) W)
  have hf := HF.out
  have H := Lib.hid (h.frontI (j := n / 2) (by omega))
  have K := Lib.hid k
  have e9 : tornM zs ys = zs.take (n / 2) ++ ys.drop (n / 2) := by unfold tornM; rw [hzl]
  rw [e9]
  clear h k e9 HF
  have HQ := Lib.hid hq
  clear hq
  rcases Nat.lt_or_ge (n / 2) m with hlt | hge
  · obtain ⟨T, hT, hTs⟩ := tail_atI B m d (n / 2) (by omega)
    have hT2 : ∀ W, (Instr.sliceAt 28 (.slice B m d) (some (.int .i64 ((n : Int) / 2))) none none).run Try.prog W = .ok (.slice T (m - n / 2) (d - n / 2)) W := fun W => by
      rw [HQ.out]
      exact hT W
    have HTS := Lib.hid (hTs w lo' hi' ys K.out)
    clear hT hTs
    have hi1 : (n : Int) / 2 < (m : Int) := by have := HQ.out; omega
    go_enter Try.func114, Try.ntmps114
    go_wp2_with fail
    (with_reducible refine (copyRowOwn_any A (n / 2) c lo hi (zs.take (n / 2)) _ H.out (by omega)).mono ?_); rintro _ w1 ⟨v1, rfl, o1, b1⟩
    have y1 := b1.size
    have O1 := Lib.hid o1
    have HT1 := Lib.hid (HTS.out.below b1 hhk)
    have B1 := Lib.hid b1
    clear o1 b1
    go_wp2_with (at_builtin; go_loud (refine wpList_append_sl _ rfl (.tmp 18) (.tmp 21) 28 rfl w.heap.size 2 Try.underlying28 info64 rfl (by omega) v1 (n / 2) (zs.take (n / 2)) rfl O1.out _ (m - n / 2) (d - n / 2) _ _ (ys.drop (n / 2)) rfl HT1.out (by omega) (by omega) (by (try simp only [World.heap_size_alloc, World.heap_size_drew, World.heap_size_setCell]); omega) ?_); intro v2 w2 o2 g2 a2)
    have hb2 : Below w.heap.size w w2 := B1.out.trans (grown_below g2 (by omega) (fun g hg => (O1.out.lt g hg).1))
    have O2 := Lib.hid o2
    clear o2 g2 a2
    go_wp2_with fail
    go_ret
    obtain ⟨A2, c2, rfl, s2⟩ := O2.out.sl
    exact ⟨A2, c2, rfl, s2, hb2⟩
  · have hi1 : ¬ (n : Int) / 2 < (m : Int) := by have := HQ.out; omega
    have e8 : ys.drop (n / 2) = [] := List.drop_of_length_le (by omega)
    have e7 : n / 2 + (m - n / 2) = n / 2 := by omega
    rw [e8, e7, List.append_nil]
    clear e8 e7
    go_enter Try.func114, Try.ntmps114
    go_wp2_with fail
    (with_reducible refine (copyRowOwn_any A (n / 2) c lo hi (zs.take (n / 2)) _ H.out (by omega)).mono ?_); rintro _ w1 ⟨v1, rfl, o1, b1⟩
    have O1 := Lib.hid o1
    clear o1
    go_wp2_with fail
    go_ret
    obtain ⟨A2, c2, rfl, s2⟩ := O1.out.sl
    exact ⟨A2, c2, rfl, s2, b1⟩
theorem SlR.setOther {w : World} {lo hi n c : Nat} {A : Option Addr} {rows : List (List Int)} (h : SlR w lo hi A n c rows) {p : Addr} {u : Value} (hp : w.cell? p = some u) (hu : ∀ z, u ≠ .int .i64 z) (hne : ∀ g off, A = some ⟨g, off, none⟩ → p.block ≠ g) (x : Value) : SlR (w.setCell p x) lo hi A n c rows :=
  ⟨h.len, h.cap, h.big, fun j r hr => by
    obtain ⟨g, off, Aj, nj, cj, e, q1, q2, q3, q4⟩ := h.lie j r hr
    exact ⟨g, off, Aj, nj, cj, e, q1, q2, (World.cell?_setCell_far _ _ _ _ (hne g off e)).trans q3, q4.setOther hp hu x⟩⟩
def fallStep (ks : List (List Int)) (x : WriteD) (f : Int) : List (List Int) :=
  if f = 2 then ks.set x.at_.toNat (tornM x.row (ks.getD x.at_.toNat [])) else if f = 1 then ks.set x.at_.toNat x.row else ks
def fallN (k0 : List (List Int)) (v0 : List WriteD) (fs : List Int) : Nat → List (List Int)
  | 0 => k0
  | q + 1 => fallStep (fallN k0 v0 fs q) (v0.getD q default) (fs.getD q 0)
def fallM (k0 : List (List Int)) (v0 : List WriteD) (fs : List Int) : List (List Int) := fallN k0 v0 fs v0.length
theorem fallN_step {k0 : List (List Int)} {v0 : List WriteD} {fs : List Int} {q : Nat} {r : WriteD} {f : Int} (hr : v0[q]? = some r) (hf : fs.getD q 0 = f) : fallN k0 v0 fs (q + 1) = fallStep (fallN k0 v0 fs q) r f := by
  show fallStep _ _ _ = _
  rw [hf]
  congr 1
  simp [List.getD, hr]
theorem tornM_len {row old : List Int} (h1 : row.length ≤ 48) (h2 : old.length ≤ 48) : (tornM row old).length ≤ 48 := by
  simp only [tornM, List.length_append, List.length_take, List.length_drop]
  omega
theorem fallN_short {k0 : List (List Int)} {v0 : List WriteD} {fs : List Int} {n : Nat} (hk : ∀ (j : Nat) r, k0[j]? = some r → rowOk r = true) (hv : ∀ (j : Nat) (r : WriteD), v0[j]? = some r → wrOk n r = true) : ∀ (q : Nat) (j : Nat) (x : List Int), (fallN k0 v0 fs q)[j]? = some x → x.length ≤ 48 := by
  intro q
  induction q with
  | zero => exact fun j x h => rowOk_len (hk j x h)
  | succ q ih =>
    intro j x h
    have hrow : ((v0.getD q default).row).length ≤ 48 := by
      rcases Nat.lt_or_ge q v0.length with hq | hq
      · have h1 : v0[q]? = some (v0.getD q default) := by simp [List.getD, hq]
        exact rowOk_len (wrOk_row (hv q _ h1))
      · rw [List.getD, List.getElem?_eq_none hq]
        exact Nat.zero_le _
    have hold : ((fallN k0 v0 fs q).getD (v0.getD q default).at_.toNat []).length ≤ 48 := by
      rw [List.getD]
      cases e : (fallN k0 v0 fs q)[(v0.getD q default).at_.toNat]? with
      | none => exact Nat.zero_le _
      | some y => exact ih _ y e
    have hset : ∀ y : List Int, y.length ≤ 48 → ∀ i, ((fallN k0 v0 fs q).set i y)[j]? = some x → x.length ≤ 48 := by
      intro y hy i h
      rw [List.getElem?_set] at h
      split at h
      · split at h
        · injection h with h
          rw [← h]
          exact hy
        · cases h
      · exact ih j x h
    rw [fallN, fallStep] at h
    split at h
    · exact hset _ (tornM_len hrow hold) _ h
    · split at h
      · exact hset _ hrow _ h
      · exact ih j x h
set_option maxRecDepth 100000 in
set_option maxHeartbeats 16000000 in
theorem fallen_any (A0 : Option Addr) (n0 c0 : Nat) (k0 : List (List Int)) (A1 : Option Addr) (n1 c1 : Nat) (v0 : List WriteD) (lo hi : Nat) (w : World) (h0 : SlR w lo hi A0 n0 c0 k0) (h1 : SlW w lo hi A1 n1 c1 v0) (hhi : hi ≤ w.heap.size) (Af : Option Addr) (nf cf lof hif : Nat) (fs : List Int) (hfs : Sl w lof hif 1 Af nf cf fs) (hhf : hif ≤ w.heap.size) (hd : diskOk k0 v0 = true) :
    Calls Try.prog 56 #[.agg #[.slice A0 n0 c0, .slice A1 n1 c1], .slice Af nf cf] w (DkRes w n0 (fallM k0 v0 fs) 0 []) := by
  obtain ⟨z3, z4, z5, hk0, hv0⟩ := diskOk_sizes hd
  have L0 := Lib.hid h0.len
  have L1 := Lib.hid h1.len
  rw [L0.out] at z3 z4 hv0
  rw [L1.out] at z5
  have C1 : Hid (∀ W, Below w.heap.size w W → Calls Try.prog 108 #[.agg #[.slice A0 n0 c0, .slice A1 n1 c1]] W fun e w' => e = .returned (.bool true) ∧ Below W.heap.size W w') := Lib.hid (fun W hW => by
    have h7 := diskOk_any A0 n0 c0 k0 A1 n1 c1 v0 lo hi W (h0.below hW hhi) (h1.below hW hhi) (Nat.le_trans hhi hW.size)
    rw [hd] at h7
    exact h7)
  have C2 : Hid (∀ W, Below w.heap.size w W → Calls Try.prog 109 #[.agg #[.slice A0 n0 c0, .slice A1 n1 c1]] W (DkRes3 W 135 n0 k0 n1 v0)) := Lib.hid (fun W hW => copyDisk_any A0 n0 c0 k0 A1 n1 c1 v0 lo hi W (h0.below hW hhi) (h1.below hW hhi) (Nat.le_trans hhi hW.size) (by omega) (by omega) (fun j r h => by have := rowOk_len (hk0 j r h); omega) (fun j r h => by have := rowOk_len (wrOk_row (hv0 j r h)); omega))
  have T1 : Hid (∀ W, Below (w.heap.size + 2) ((w.alloc (.cells #[.slice A0 n0 c0, .slice A1 n1 c1] 67)).alloc (.cells #[.slice none 0 0, .slice none 0 0] 67)) W → (Box2 W w.heap.size (.slice A0 n0 c0) (.slice A1 n1 c1) ∧ Box2 W (w.heap.size + 1) (.slice none 0 0) (.slice none 0 0))) := Lib.hid (fun W hW => ⟨((Box2.new w (.slice A0 n0 c0) (.slice A1 n1 c1) 67).below (B := w.heap.size + 1) ((Below.refl _ _).alloc (by simp) (.cells #[.slice none 0 0, .slice none 0 0] 67)) (by omega)).below hW (by omega), by
    have h9 := Box2.new (w.alloc (.cells #[.slice A0 n0 c0, .slice A1 n1 c1] 67)) (.slice none 0 0) (.slice none 0 0) 67
    rw [World.heap_size_alloc] at h9
    exact h9.below hW (by omega)⟩)
  have hs9 : ((w.alloc (.cells #[.slice A0 n0 c0, .slice A1 n1 c1] 67)).alloc (.cells #[.slice none 0 0, .slice none 0 0] 67)).heap.size = w.heap.size + 2 := by simp only [World.heap_size_alloc]
  have hb9 : Below w.heap.size w ((w.alloc (.cells #[.slice A0 n0 c0, .slice A1 n1 c1] 67)).alloc (.cells #[.slice none 0 0, .slice none 0 0] 67)) := by (repeat' (first | with_reducible exact Below.refl _ _ | with_reducible assumption | with_reducible refine Below.drew ?_ | with_reducible refine Below.alloc ?_ ?_ _ | with_reducible refine Below.setCell ?_ ?_ _ | with_reducible refine Below.trans ?_ (Below.mono (by assumption) ?_) | ((try simp only [World.heap_size_alloc, World.heap_size_drew, World.heap_size_setCell]); omega)))
  have hnf : nf ≤ 9223372036854775807 := Nat.le_trans hfs.cap hfs.big
  have hfl : fs.length = nf := by have := hfs.len; omega
  have FZ := Lib.hid hfs
  clear hfs
  have HK0 := Lib.hid hk0
  have HV0 := Lib.hid hv0
  clear h0 h1 hk0 hv0 hd
  go_enter Try.func56, Try.ntmps56
  go_wp2_with fail
  generalize hW0 : (w.alloc (.cells #[.slice A0 n0 c0, .slice A1 n1 c1] 67)).alloc (.cells #[.slice none 0 0, .slice none 0 0] 67) = W0 at *
  clear hW0
  (with_reducible refine (C1.out _ hb9).mono ?_); rintro _ w1 ⟨rfl, b1⟩
  have y1 := b1.size
  have p1 : Below (w.heap.size + 2) W0 w1 := b1.mono (by omega)
  obtain ⟨⟨q0, q1, qf0, qf1⟩, -⟩ := T1.out _ p1
  have P1 := Lib.hid p1
  clear b1 p1
  go_wp2_with fail
  (with_reducible refine (C2.out _ (hb9.trans (P1.out.mono (by omega)))).mono ?_); rintro _ w2 ⟨X0, d0, X1, d1, vs, mid, rfl, s2, o2, v2, m1, m2, kf2, b2⟩
  have y2 := b2.size
  have hw2 : w.heap.size < w2.heap.size := by omega
  have p2 : Below (w.heap.size + 2) W0 w2 := P1.out.trans (b2.mono (by omega))
  clear q0 q1 qf0 qf1
  obtain ⟨A9, c9, e9, sw⟩ := SlW.of_own o2 v2 (Nat.le_refl _) (Nat.le_refl _)
  injection e9 with e91 e92 e93
  subst e91 e93
  have hst : Below w2.heap.size w2 (w2.alloc (.cells #[.slice X0 n0 d0, .slice X1 n1 d1] 67)) := (Below.refl _ _).alloc (Nat.le_refl _) _
  have hss : (w2.alloc (.cells #[.slice X0 n0 d0, .slice X1 n1 d1] 67)).heap.size = w2.heap.size + 1 := World.heap_size_alloc _ _
  have SW := Lib.hid (sw.below hst (Nat.le_refl _))
  have S2 := Lib.hid ((s2.below hst m2).mono (Nat.le_refl _) m2)
  have KF2 := Lib.hid (kf2.below hst m2)
  have K2 := Lib.hid (Box2.new w2 (.slice X0 n0 d0) (.slice X1 n1 d1) 67)
  have P2 := Lib.hid (p2.trans (hst.mono (by omega)))
  obtain ⟨k20, k21, kf20, kf21⟩ := K2.out
  clear s2 o2 v2 b2 p2 kf2 sw hst vs
  go_wp2_with fail
  generalize hWs : (w2.alloc (.cells #[.slice X0 n0 d0, .slice X1 n1 d1] 67)) = Ws at *
  clear hWs k20 k21 kf20 kf21
  have LEN : Hid (∀ (q j : Nat) x, (fallN k0 v0 fs q)[j]? = some x → x.length ≤ 1000) := Lib.hid (fun q j x h => by have := fallN_short (fs := fs) HK0.out HV0.out q j x h; omega)
  go_loopw [6, 7, 8, 9, 19, 35, 37] (fun _ _ _ _ i _ _ wr => ∃ q : Nat, q ≤ n1 ∧ i = .int .i64 q ∧ Box2 wr w2.heap.size (.slice X0 n0 d0) (.slice X1 n1 d1) ∧ Hid (SlR wr w1.heap.size wr.heap.size X0 n0 d0 (fallN k0 v0 fs q)) ∧ Hid (KF wr w1.heap.size mid X0) ∧ Upd w1.heap.size mid Ws wr) (fun _ _ _ _ i _ _ _ => n1 - (intOf i).toNat)
  case atStart => exact ⟨0, Nat.zero_le _, rfl, K2.out, Lib.hid (S2.out.mono (Nat.le_refl _) (by omega)), KF2, Upd.refl _ _ _⟩
  case round =>
    obtain ⟨q, hq, rfl, hbx, S, K, hu⟩ := hrel
    have hbl1 : ∀ (j : Nat) x, (fallN k0 v0 fs q)[j]? = some x → x.length ≤ 1000 := LEN.out q
    by_cases hlt : q < n1
    · skip
      obtain ⟨r, hr⟩ : ∃ r, v0[q]? = some r := ⟨v0[q]'(by rw [L1.out]; exact hlt), List.getElem?_eq_getElem _⟩
      obtain ⟨g, off, Aj, nj, cj, rfl, _, hg, p0, p1, hs⟩ := (SW.out.upd hu (.inr (Nat.le_refl _))).lie q r hr
      have hwr := HV0.out q r hr
      simp only [wrOk, Bool.and_eq_true] at hwr
      obtain ⟨ha0, ha1⟩ := btw_iff.1 hwr.1
      obtain ⟨a, ha⟩ : ∃ a : Nat, r.at_ = (a : Int) := ⟨r.at_.toNat, by omega⟩
      rw [ha] at p0 ha0 ha1
      have han : a < n0 := by omega
      obtain ⟨r1, hr1⟩ : ∃ r1, (fallN k0 v0 fs q)[a]? = some r1 := ⟨(fallN k0 v0 fs q)[a]'(by rw [S.out.len]; exact han), List.getElem?_eq_getElem _⟩
      obtain ⟨gk, offk, Bj, bj, dj, rfl, hgk0, hgk, pk, hsk⟩ := S.out.lie a r1 hr1
      obtain ⟨hk1, hk2, hk3⟩ := K.out gk offk rfl
      have hzr := hu.size
      have HX := Lib.hid hr
      have HA : Hid (r.at_.toNat = a) := Lib.hid (by omega)
      have HS := Lib.hid hs
      have HU := Lib.hid hu
      have HBX := Lib.hid hbx
      have hwr2 : w2.heap.size < wr.heap.size := by omega
      have hgw : g < wr.heap.size := by omega
      have hkw : gk < wr.heap.size := by omega
      have HR1 := Lib.hid hr1
      have hnj : nj ≤ 1000 := by
        have h8 := rowOk_len hwr.2
        have h9 := hs.len
        omega
      have hbj : bj ≤ 1000 := by
        have h8 := hbl1 a r1 hr1
        have h9 := hsk.len
        omega
      have hba : Below wr.heap.size wr (wr.alloc (.cells #[.int .i64 (a : Int), .slice Aj nj cj] 135)) := (Below.refl _ _).alloc (Nat.le_refl _) _
      have hbs : wr.heap.size ≤ (wr.alloc (.cells #[.int .i64 (a : Int), .slice Aj nj cj] 135)).heap.size := by rw [World.heap_size_alloc]; omega
      obtain ⟨x0, x1, xf0, xf1⟩ := hbx.below (B := wr.heap.size) hba hwr2
      obtain ⟨b0, b1, -, -⟩ := Box2.new wr (.int .i64 (a : Int)) (.slice Aj nj cj) 135
      have e0 : (wr.alloc (.cells #[.int .i64 (a : Int), .slice Aj nj cj] 135)).cell? ⟨gk, offk + a, none⟩ = some (.slice Bj bj dj) := (World.cell?_alloc_lt _ _ _ hkw).trans pk
      have e1 : (wr.alloc (.cells #[.int .i64 (a : Int), .slice Aj nj cj] 135)).frozen? ⟨gk, offk + a, none⟩ = false := (hba.frozen (p := ⟨gk, offk + a, none⟩) hkw).trans (hk3 _)
      have FS1 := Lib.hid (((FZ.out.below (hb9.trans (P2.out.mono (by omega))) hhf).upd hu (.inl (by omega))).below (B := wr.heap.size) hba (by omega))
      have HXC : True := trivial
      clear hr hr1 hs hu hbx hwr pk hk3 hbl1
      rcases Nat.lt_or_ge q nf with hqf | hqf
      · obtain ⟨gf, offf, f, rfl, _, _, hfx, pf⟩ := FS1.out.int hqf
        have HF : Hid (fs.getD q 0 = f) := Lib.hid (by simp [List.getD, hfx])
        clear hfx
        by_cases hf2 : f = 2
        · subst hf2
          have HM : Hid (fallN k0 v0 fs (q + 1) = (fallN k0 v0 fs q).set a (tornM r.row r1)) := Lib.hid (by
            rw [fallN_step HX.out HF.out, fallStep, if_pos rfl, HA.out]
            congr 2
            simp [List.getD, HR1.out])
          have S8 := Lib.hid (S.out.below (B := wr.heap.size) hba (Nat.le_refl _))
          have K8 := Lib.hid (K.out.below (B := wr.heap.size) hba (by omega))
          have U8 := Lib.hid (HU.out.alloc (.cells #[.int .i64 (a : Int), .slice Aj nj cj] 135))
          have BX8 := Lib.hid (HBX.out.below hba hwr2)
          have HR8 := Lib.hid (HS.out.below (B := wr.heap.size) hba (by omega))
          have HO8 := Lib.hid (hsk.below (B := wr.heap.size) hba (Nat.le_refl _))
          have HKS : Hid (∀ W, Below (wr.heap.size + 1) (wr.alloc (.cells #[.int .i64 (a : Int), .slice Aj nj cj] 135)) W → (W.cell? ⟨w2.heap.size, 0, none⟩ = some (.slice (some ⟨gk, offk, none⟩) n0 d0) ∧ W.cell? ⟨wr.heap.size, 0, none⟩ = some (.int .i64 (a : Int)) ∧ W.cell? ⟨wr.heap.size, 1, none⟩ = some (.slice Aj nj cj) ∧ W.cell? ⟨gk, offk + a, none⟩ = some (.slice Bj bj dj) ∧ W.frozen? ⟨gk, offk + a, none⟩ = false ∧ Below (wr.heap.size + 1) (wr.alloc (.cells #[.int .i64 (a : Int), .slice Aj nj cj] 135)) W)) := Lib.hid (fun W hW => ⟨(hW.cell (p := ⟨w2.heap.size, 0, none⟩) (show w2.heap.size < wr.heap.size + 1 by omega)).trans x0, (hW.cell (p := ⟨wr.heap.size, 0, none⟩) (Nat.lt_succ_self _)).trans b0, (hW.cell (p := ⟨wr.heap.size, 1, none⟩) (Nat.lt_succ_self _)).trans b1, (hW.cell (p := ⟨gk, offk + a, none⟩) (show gk < wr.heap.size + 1 by omega)).trans e0, (hW.frozen (p := ⟨gk, offk + a, none⟩) (show gk < wr.heap.size + 1 by omega)).trans e1, hW⟩)
          clear HXC hsk S K hba
          go_wp2_with fail
          go_region_held3 (fun w' => w'.cell? ⟨w2.heap.size, 0, none⟩ = some (.slice (some ⟨gk, offk, none⟩) n0 d0) ∧ w'.cell? ⟨wr.heap.size, 0, none⟩ = some (.int .i64 (a : Int)) ∧ w'.cell? ⟨wr.heap.size, 1, none⟩ = some (.slice Aj nj cj) ∧ w'.cell? ⟨gk, offk + a, none⟩ = some (.slice Bj bj dj) ∧ w'.frozen? ⟨gk, offk + a, none⟩ = false ∧ Below (wr.heap.size + 1) (wr.alloc (.cells #[.int .i64 (a : Int), .slice Aj nj cj] 135)) w')
            (first | (refine HKS.out _ ?_; (repeat' (first | with_reducible exact Below.refl _ _ | with_reducible assumption | with_reducible refine Below.drew ?_ | with_reducible refine Below.alloc ?_ ?_ _ | with_reducible refine Below.setCell ?_ ?_ _ | with_reducible refine Below.trans ?_ (Below.mono (by assumption) ?_) | ((try simp only [World.heap_size_alloc, World.heap_size_drew, World.heap_size_setCell]); omega)))) | (go_split_ands; refine HKS.out _ ?_; (repeat' (first | with_reducible exact Below.refl _ _ | with_reducible assumption | with_reducible refine Below.drew ?_ | with_reducible refine Below.alloc ?_ ?_ _ | with_reducible refine Below.setCell ?_ ?_ _ | with_reducible refine Below.trans ?_ (Below.mono (by assumption) ?_) | ((try simp only [World.heap_size_alloc, World.heap_size_drew, World.heap_size_setCell]); omega)))))
            (first | (go_at_call 114; (with_reducible refine (torn_any _ _ _ _ _ r.row _ _ _ _ _ r1 _ (HR8.out.below (B := wr.heap.size + 1) (by (repeat' (first | with_reducible exact Below.refl _ _ | with_reducible assumption | with_reducible refine Below.drew ?_ | with_reducible refine Below.alloc ?_ ?_ _ | with_reducible refine Below.setCell ?_ ?_ _ | with_reducible refine Below.trans ?_ (Below.mono (by assumption) ?_) | ((try simp only [World.heap_size_alloc, World.heap_size_drew, World.heap_size_setCell]); omega)))) (by omega)) (HO8.out.below (B := wr.heap.size + 1) (by (repeat' (first | with_reducible exact Below.refl _ _ | with_reducible assumption | with_reducible refine Below.drew ?_ | with_reducible refine Below.alloc ?_ ?_ _ | with_reducible refine Below.setCell ?_ ?_ _ | with_reducible refine Below.trans ?_ (Below.mono (by assumption) ?_) | ((try simp only [World.heap_size_alloc, World.heap_size_drew, World.heap_size_setCell]); omega)))) (by omega)) (by simp only [World.heap_size_alloc, World.heap_size_drew]; omega) (by simp only [World.heap_size_alloc, World.heap_size_drew]; omega) (by omega) (by omega)).mono ?_); rintro _ w4 ⟨A4, c4, rfl, s4, b4⟩; have y4 := b4.size; (try simp only [World.heap_size_alloc, World.heap_size_drew] at y4); have hb4 : Below (wr.heap.size + 1) (wr.alloc (.cells #[.int .i64 (a : Int), .slice Aj nj cj] 135)) w4 := Below.trans (by (repeat' (first | with_reducible exact Below.refl _ _ | with_reducible assumption | with_reducible refine Below.drew ?_ | with_reducible refine Below.alloc ?_ ?_ _ | with_reducible refine Below.setCell ?_ ?_ _ | with_reducible refine Below.trans ?_ (Below.mono (by assumption) ?_) | ((try simp only [World.heap_size_alloc, World.heap_size_drew, World.heap_size_setCell]); omega)))) (b4.mono (by (try simp only [World.heap_size_alloc, World.heap_size_drew, World.heap_size_setCell]); omega)); have B4 := Lib.hid hb4; have S4 := Lib.hid (s4.mono (lo' := w1.heap.size) (by (try simp only [World.heap_size_alloc, World.heap_size_drew, World.heap_size_setCell]); omega) (Nat.le_refl _)); clear s4 b4))
          all_goals
            obtain ⟨x0, b0, b1, e0, e1, -⟩ := HKS.out _ B4.out
            have hz9 : (w4.setCell ⟨gk, offk + a, none⟩ (.slice A4 (nj / 2 + (bj - nj / 2)) c4)).heap.size = w4.heap.size := World.heap_size_setCell _ _ _
            have S9 := Lib.hid (((S8.out.below (B := wr.heap.size + 1) B4.out (by omega)).mono (Nat.le_refl _) (by omega)).put (j := a) han S4.out)
            have K9 := Lib.hid ((K8.out.below (B := wr.heap.size + 1) B4.out (by omega)).setCell ⟨gk, offk + a, none⟩ (.slice A4 (nj / 2 + (bj - nj / 2)) c4))
            have U9 := Lib.hid ((U8.out.trans (Upd.of_below (B4.out.mono (by simp only [World.heap_size_alloc]; omega)))).setCell (p := ⟨gk, offk + a, none⟩) hk1 hk2 (.slice A4 (nj / 2 + (bj - nj / 2)) c4))
            have BX9 := Lib.hid ((BX8.out.below B4.out (by omega)).upd (Box2.upd1 (b := gk) (q := offk + a) (v := .slice A4 (nj / 2 + (bj - nj / 2)) c4)) (.inr (by omega)))
            go_wp2_with fail
            go_roundw
            case rel => exact ⟨q + 1, hlt, by go_num, BX9.out, Lib.hid (by rw [HM.out, World.heap_size_setCell]; exact S9.out), K9, U9.out⟩
            case measure => simp [intOf]; omega
        by_cases hf1 : f = 1
        · subst hf1
          have HM : Hid (fallN k0 v0 fs (q + 1) = (fallN k0 v0 fs q).set a r.row) := Lib.hid (by
            rw [fallN_step HX.out HF.out, fallStep, if_neg (by decide), if_pos rfl, HA.out])
          have hbc : Below wr.heap.size (wr.setCell ⟨gk, offk + a, none⟩ (.slice Aj nj cj)) ((wr.setCell ⟨gk, offk + a, none⟩ (.slice Aj nj cj)).alloc (.cells #[.int .i64 (a : Int), .slice Aj nj cj] 135)) := (Below.refl _ _).alloc (by rw [World.heap_size_setCell]; exact Nat.le_refl _) _
          have S9 := Lib.hid (((S.out.put (j := a) han (HS.out.mono (by omega) (by omega))).below hbc (Nat.le_refl _)).mono (hi' := ((wr.setCell ⟨gk, offk + a, none⟩ (.slice Aj nj cj)).alloc (.cells #[.int .i64 (a : Int), .slice Aj nj cj] 135)).heap.size) (Nat.le_refl _) (by simp only [World.heap_size_alloc, World.heap_size_setCell]; omega))
          have K9 := Lib.hid ((K.out.setCell ⟨gk, offk + a, none⟩ (.slice Aj nj cj)).below hbc (by omega))
          have U9 := Lib.hid ((HU.out.setCell (p := ⟨gk, offk + a, none⟩) hk1 hk2 (.slice Aj nj cj)).alloc (.cells #[.int .i64 (a : Int), .slice Aj nj cj] 135))
          have BX9 := Lib.hid ((HBX.out.upd (Box2.upd1 (b := gk) (q := offk + a) (v := .slice Aj nj cj)) (.inr (by omega))).below hbc hwr2)
          clear HXC hsk S K hba
          clear hbc
          go_wp2_with fail
          go_roundw
          case rel => exact ⟨q + 1, hlt, by go_num, BX9.out, Lib.hid (by rw [HM.out]; exact S9.out), K9, U9.out⟩
          case measure => simp [intOf]; omega
        have hb2 : (f == 2) = false := by simp [hf2]
        have hb1 : (f == 1) = false := by simp [hf1]
        have HM : Hid (fallN k0 v0 fs (q + 1) = fallN k0 v0 fs q) := Lib.hid (by
          rw [fallN_step HX.out HF.out, fallStep, if_neg hf2, if_neg hf1])
        have S9 := Lib.hid ((S.out.below (B := wr.heap.size) hba (Nat.le_refl _)).mono (Nat.le_refl _) hbs)
        have K9 := Lib.hid (K.out.below (B := wr.heap.size) hba (by omega))
        have U9 := Lib.hid (HU.out.alloc (.cells #[.int .i64 (a : Int), .slice Aj nj cj] 135))
        have BX9 := Lib.hid (HBX.out.below hba hwr2)
        clear HXC hsk S K hba
        go_wp2_with fail
        go_roundw
        case rel => exact ⟨q + 1, hlt, by go_num, BX9.out, Lib.hid (by rw [HM.out]; exact S9.out), K9, U9.out⟩
        case measure => simp [intOf]; omega
      · have HF : Hid (fs.getD q 0 = 0) := Lib.hid (by
          rw [List.getD, List.getElem?_eq_none (by omega)]
          rfl)
        have hf2 : ¬ (0 : Int) = 2 := by decide
        have hf1 : ¬ (0 : Int) = 1 := by decide
        have HM : Hid (fallN k0 v0 fs (q + 1) = fallN k0 v0 fs q) := Lib.hid (by
          rw [fallN_step HX.out HF.out, fallStep, if_neg hf2, if_neg hf1])
        have S9 := Lib.hid ((S.out.below (B := wr.heap.size) hba (Nat.le_refl _)).mono (Nat.le_refl _) hbs)
        have K9 := Lib.hid (K.out.below (B := wr.heap.size) hba (by omega))
        have U9 := Lib.hid (HU.out.alloc (.cells #[.int .i64 (a : Int), .slice Aj nj cj] 135))
        have BX9 := Lib.hid (HBX.out.below hba hwr2)
        clear HXC hsk S K hba
        go_wp2_with fail
        go_roundw
        case rel => exact ⟨q + 1, hlt, by go_num, BX9.out, Lib.hid (by rw [HM.out]; exact S9.out), K9, U9.out⟩
        case measure => simp [intOf]; omega
    · have hqn : q = n1 := by omega
      have S' : Hid (SlR wr w1.heap.size wr.heap.size X0 n0 d0 (fallM k0 v0 fs)) := Lib.hid (by
        have h9 := S.out
        rw [hqn] at h9
        unfold fallM
        rw [L1.out]
        exact h9)
      clear hqn
      have hw : Below w.heap.size w wr := hb9.trans ((P2.out.mono (by omega)).trans (hu.below (by omega) (by omega)))
      have HW := Lib.hid hw
      obtain ⟨x0, x1, xf0, xf1⟩ := hbx
      have hbx1 : Box2 (wr.setCell ⟨w2.heap.size, 1, none⟩ (.slice none 0 0)) w2.heap.size (.slice X0 n0 d0) (.slice none 0 0) := Box2.set1 ⟨x0, x1, xf0, xf1⟩ _
      obtain ⟨t0, t1, tf0, tf1⟩ := (((T1.out _ P2.out).2.upd hu (.inl (by omega))).upd (Box2.upd1 (b := w2.heap.size) (q := 1) (v := .slice none 0 0)) (.inl (by omega)))
      have KN : Hid (∀ g off, X0 = some ⟨g, off, none⟩ → w1.heap.size ≤ g ∧ g < w2.heap.size) := Lib.hid (fun g off e => by obtain ⟨h1, h2, -⟩ := K.out g off e; omega)
      have R9 := Lib.hid (S'.out.setOther (p := ⟨w2.heap.size, 1, none⟩) x1 slice_noint (fun g off e => by have := KN.out g off e; (try simp only []); omega) (.slice none 0 0))
      have W9 := Lib.hid (HW.out.setCell (p := ⟨w2.heap.size, 1, none⟩) (by simp only; omega) (.slice none 0 0))
      obtain ⟨n0', n1', nf0, nf1⟩ := hbx1
      have hz9 : (wr.setCell ⟨w2.heap.size, 1, none⟩ (.slice none 0 0)).heap.size = wr.heap.size := World.heap_size_setCell _ _ _
      have hu9 := hu.size
      clear hw S S' K hu
      go_wp2_with fail
      generalize wr.setCell ⟨w2.heap.size, 1, none⟩ (.slice none 0 0) = W at *
      refine bodyPost_ret (v := .agg #[.slice X0 n0 d0, .slice none 0 0]) (by simp [results, Try.results56, go_sem, t0, t1, tf0, tf1]) rfl ⟨X0, d0, none, 0, rfl, ?_, SlW.nil _ _ _ _ _ (by omega), ?_⟩
      · have u9 : Upd (w.heap.size + 1) (w.heap.size + 2) W ((W.setCell ⟨w.heap.size + 1, 0, none⟩ (.slice X0 n0 d0)).setCell ⟨w.heap.size + 1, 1, none⟩ (.slice none 0 0)) := ((Upd.refl _ _ _).setCell (p := ⟨w.heap.size + 1, 0, none⟩) (Nat.le_refl _) (by simp) _).setCell (p := ⟨w.heap.size + 1, 1, none⟩) (Nat.le_refl _) (by simp) _
        have t1' : (W.setCell ⟨w.heap.size + 1, 0, none⟩ (.slice X0 n0 d0)).cell? ⟨w.heap.size + 1, 1, none⟩ = some (.slice none 0 0) := (World.cell?_setCell_other _ _ _ _ (by simp)).trans t1
        exact ((R9.out.setOther (p := ⟨w.heap.size + 1, 0, none⟩) t0 slice_noint (fun g off e => by have := KN.out g off e; (try simp only []); omega) (.slice X0 n0 d0)).setOther (p := ⟨w.heap.size + 1, 1, none⟩) t1' slice_noint (fun g off e => by have := KN.out g off e; (try simp only []); omega) (.slice none 0 0)).mono (by omega) (by simp only [World.heap_size_setCell]; omega)
      · exact (W9.out.setCell (p := ⟨w.heap.size + 1, 0, none⟩) (by simp only; omega) _).setCell (p := ⟨w.heap.size + 1, 1, none⟩) (by simp only; omega) _
end Go.Proofs.Ytgnilmdaegnaaaa
