/- The law FnExactNewKept returns true. No conditions. -/
import Derived.Test.YtgnilmdaegnaaaaTw5
import Derived.Test.YtgnilmdaegnaaaaDk9s
set_option linter.unusedSimpArgs false
set_option linter.unusedVariables false
namespace Go.Proofs.Ytgnilmdaegnaaaa
open Go.ChangeShapes Go.WideShapes Go.ChangeAt Go.RowKit

/-- The row at place j lies in another block than the array of rows. -/
def SepR (w : World) (A : Option Addr) (j : Nat) : Prop := ∀ g off Aj nj cj, A = some ⟨g, off, none⟩ → w.cell? ⟨g, off + j, none⟩ = some (.slice Aj nj cj) → 0 < nj → ∀ a, Aj = some a → a.block ≠ g
theorem SepR.of_put {w : World} {g off j m d : Nat} {u : Value} {B : Option Addr} (h : w.cell? ⟨g, off + j, none⟩ = some u) (hB : 0 < m → ∀ a, B = some a → a.block ≠ g) : SepR (w.setCell ⟨g, off + j, none⟩ (.slice B m d)) (some ⟨g, off, none⟩) j := by
  rintro g' off' Aj nj cj e hc hn a ha
  injection e with e
  injection e with e1 e2
  subst e1 e2
  rw [World.cell?_setCell_same _ _ _ h] at hc
  injection hc with hc
  injection hc with h1 h2 h3
  subst h1 h2
  exact hB hn a ha
theorem SepR.same {w w' : World} {A : Option Addr} {j : Nat} (h : SepR w A j) (hs : ∀ g off, A = some ⟨g, off, none⟩ → w'.heap[g]? = w.heap[g]?) : SepR w' A j := by
  intro g off Aj nj cj e hc
  exact h g off Aj nj cj e ((World.cell?_of_block (w := w) (a := ⟨g, off + j, none⟩) (hs g off e)).symm.trans hc)
def DkResM (w : World) (n0 : Nat) (k0 : List (List Int)) (v0 : List WriteD) (e : Ending) (w' : World) : Prop :=
  ∃ A0 c0 A1 c1, e = .returned (.agg #[.slice A0 n0 c0, .slice A1 0 c1]) ∧ SlR w' w.heap.size w'.heap.size A0 n0 c0 k0 ∧ c1 ≤ 9223372036854775807 ∧ Below w.heap.size w w' ∧ (∀ r, 0 < v0.length → v0[v0.length - 1]? = some r → SepR w' A0 r.at_.toNat)
set_option maxRecDepth 100000 in
set_option maxHeartbeats 8000000 in
theorem syncedM_any (A0 : Option Addr) (n0 c0 : Nat) (k0 : List (List Int)) (A1 : Option Addr) (n1 c1 : Nat) (v0 : List WriteD) (lo hi : Nat) (w : World) (h0 : SlR w lo hi A0 n0 c0 k0) (h1 : SlW w lo hi A1 n1 c1 v0) (hhi : hi ≤ w.heap.size) (hd : diskOk k0 v0 = true) :
    Calls Try.prog 55 #[.agg #[.slice A0 n0 c0, .slice A1 n1 c1]] w (DkResM w n0 (syncM k0 v0) v0) := by
  obtain ⟨z3, z4, z5, hk0, hv0⟩ := diskOk_sizes hd
  have L0 := Lib.hid h0.len
  have L1 := Lib.hid h1.len
  rw [L0.out] at z3 z4 hv0
  rw [L1.out] at z5
  have C1 : Hid (∀ W, Below w.heap.size w W → Calls Try.prog 108 #[.agg #[.slice A0 n0 c0, .slice A1 n1 c1]] W fun e w' => e = .returned (.bool true) ∧ Below W.heap.size W w') := Lib.hid (fun W hW => by
    have h7 := diskOk_any A0 n0 c0 k0 A1 n1 c1 v0 lo hi W (h0.below hW hhi) (h1.below hW hhi) (Nat.le_trans hhi hW.size)
    rw [hd] at h7
    exact h7)
  have C2 : Hid (∀ W, Below w.heap.size w W → Calls Try.prog 109 #[.agg #[.slice A0 n0 c0, .slice A1 n1 c1]] W (DkRes3 W 135 n0 k0 n1 v0)) := Lib.hid (fun W hW => copyDisk_any A0 n0 c0 k0 A1 n1 c1 v0 lo hi W (h0.below hW hhi) (h1.below hW hhi) (Nat.le_trans hhi hW.size) (by omega) (by omega) (fun j r h => by have := rowOk_len (hk0 j r h); omega) (fun j r h => by have := rowOk_len (wrOk_row (hv0 j r h)); omega))
  have T1 : Hid (∀ W, Below (w.heap.size + 2) ((w.alloc (.cells #[.slice A0 n0 c0, .slice A1 n1 c1] 67)).alloc (.cells #[.slice none 0 0, .slice none 0 0] 67)) W → (Box2 W w.heap.size (.slice A0 n0 c0) (.slice A1 n1 c1) ∧ Box2 W (w.heap.size + 1) (.slice none 0 0) (.slice none 0 0))) := Lib.hid (fun W hW => ⟨((Box2.new w (.slice A0 n0 c0) (.slice A1 n1 c1) 67).below (B := w.heap.size + 1) ((Below.refl _ _).alloc (by simp) (.cells #[.slice none 0 0, .slice none 0 0] 67)) (by omega)).below hW (by omega), by
    have h9 := Box2.new (w.alloc (.cells #[.slice A0 n0 c0, .slice A1 n1 c1] 67)) (.slice none 0 0) (.slice none 0 0) 67
    rw [World.heap_size_alloc] at h9
    exact h9.below hW (by omega)⟩)
  have hs9 : ((w.alloc (.cells #[.slice A0 n0 c0, .slice A1 n1 c1] 67)).alloc (.cells #[.slice none 0 0, .slice none 0 0] 67)).heap.size = w.heap.size + 2 := by simp only [World.heap_size_alloc]
  have hb9 : Below w.heap.size w ((w.alloc (.cells #[.slice A0 n0 c0, .slice A1 n1 c1] 67)).alloc (.cells #[.slice none 0 0, .slice none 0 0] 67)) := by (repeat' (first | with_reducible exact Below.refl _ _ | with_reducible assumption | with_reducible refine Below.drew ?_ | with_reducible refine Below.alloc ?_ ?_ _ | with_reducible refine Below.setCell ?_ ?_ _ | with_reducible refine Below.trans ?_ (Below.mono (by assumption) ?_) | ((try simp only [World.heap_size_alloc, World.heap_size_drew, World.heap_size_setCell]); omega)))
  have HK0 := Lib.hid hk0
  have HV0 := Lib.hid hv0
  clear h0 h1 hk0 hv0 hd
  go_enter Try.func55, Try.ntmps55
  go_wp2_with fail
  generalize hW0 : (w.alloc (.cells #[.slice A0 n0 c0, .slice A1 n1 c1] 67)).alloc (.cells #[.slice none 0 0, .slice none 0 0] 67) = W0 at *
  clear hW0
  (with_reducible refine (C1.out _ hb9).mono ?_); rintro _ w1 ⟨rfl, b1⟩
  have y1 := b1.size
  have p1 : Below (w.heap.size + 2) W0 w1 := b1.mono (by omega)
  obtain ⟨⟨q0, q1, qf0, qf1⟩, -⟩ := T1.out _ p1
  have P1 := Lib.hid p1
  clear b1 p1
  go_wp2_with fail
  (with_reducible refine (C2.out _ (hb9.trans (P1.out.mono (by omega)))).mono ?_); rintro _ w2 ⟨X0, d0, X1, d1, vs, mid, rfl, s2, o2, v2, m1, m2, kf2, b2⟩
  have y2 := b2.size
  have hw2 : w.heap.size < w2.heap.size := by omega
  have p2 : Below (w.heap.size + 2) W0 w2 := P1.out.trans (b2.mono (by omega))
  clear q0 q1 qf0 qf1
  obtain ⟨A9, c9, e9, sw⟩ := SlW.of_own o2 v2 (Nat.le_refl _) (Nat.le_refl _)
  injection e9 with e91 e92 e93
  subst e91 e93
  have hst : Below w2.heap.size w2 (w2.alloc (.cells #[.slice X0 n0 d0, .slice X1 n1 d1] 67)) := (Below.refl _ _).alloc (Nat.le_refl _) _
  have hss : (w2.alloc (.cells #[.slice X0 n0 d0, .slice X1 n1 d1] 67)).heap.size = w2.heap.size + 1 := World.heap_size_alloc _ _
  have SW := Lib.hid (sw.below hst (Nat.le_refl _))
  have S2 := Lib.hid ((s2.below hst m2).mono (Nat.le_refl _) m2)
  have KF2 := Lib.hid (kf2.below hst m2)
  have K2 := Lib.hid (Box2.new w2 (.slice X0 n0 d0) (.slice X1 n1 d1) 67)
  have P2 := Lib.hid (p2.trans (hst.mono (by omega)))
  obtain ⟨k20, k21, kf20, kf21⟩ := K2.out
  clear s2 o2 v2 b2 p2 kf2 sw hst vs
  go_wp2_with fail
  generalize hWs : (w2.alloc (.cells #[.slice X0 n0 d0, .slice X1 n1 d1] 67)) = Ws at *
  clear hWs k20 k21 kf20 kf21
  go_loopw [5, 15] (fun _ i wr => ∃ q : Nat, q ≤ n1 ∧ i = .int .i64 q ∧ Box2 wr w2.heap.size (.slice X0 n0 d0) (.slice X1 n1 d1) ∧ Hid (SlR wr w1.heap.size w2.heap.size X0 n0 d0 (syncM k0 (v0.take q))) ∧ Hid (KF wr w1.heap.size mid X0) ∧ Upd w1.heap.size mid Ws wr ∧ Hid (∀ r : WriteD, 0 < q → v0[q - 1]? = some r → SepR wr X0 r.at_.toNat)) (fun _ i _ => n1 - (intOf i).toNat)
  case atStart => exact ⟨0, Nat.zero_le _, rfl, K2.out, S2, KF2, Upd.refl _ _ _, Lib.hid (fun r h => absurd h (by omega))⟩
  case round =>
    obtain ⟨q, hq, rfl, hbx, S, K, hu, HSP⟩ := hrel
    by_cases hlt : q < n1
    · skip
      obtain ⟨r, hr⟩ : ∃ r, v0[q]? = some r := ⟨v0[q]'(by rw [L1.out]; exact hlt), List.getElem?_eq_getElem _⟩
      obtain ⟨g, off, Aj, nj, cj, rfl, _, hg, p0, p1, hs⟩ := (SW.out.upd hu (.inr (Nat.le_refl _))).lie q r hr
      have hwr := HV0.out q r hr
      simp only [wrOk, Bool.and_eq_true] at hwr
      obtain ⟨ha0, ha1⟩ := btw_iff.1 hwr.1
      obtain ⟨a, ha⟩ : ∃ a : Nat, r.at_ = (a : Int) := ⟨r.at_.toNat, by omega⟩
      rw [ha] at p0 ha0 ha1
      have han : a < n0 := by omega
      obtain ⟨r1, hr1⟩ : ∃ r1, (syncM k0 (v0.take q))[a]? = some r1 := ⟨(syncM k0 (v0.take q))[a]'(by rw [S.out.len]; exact han), List.getElem?_eq_getElem _⟩
      obtain ⟨gk, offk, Bj, bj, dj, rfl, hgk0, hgk, pk, hsk⟩ := S.out.lie a r1 hr1
      obtain ⟨hk1, hk2, hk3⟩ := K.out gk offk rfl
      have hzr := hu.size
      have HX := Lib.hid hr
      have HA : Hid (r.at_.toNat = a) := Lib.hid (by omega)
      have HS := Lib.hid hs
      have HU := Lib.hid hu
      have HBX := Lib.hid hbx
      have hwr2 : w2.heap.size < wr.heap.size := by omega
      have hgw : g < wr.heap.size := by omega
      have hkw : gk < wr.heap.size := by omega
      obtain ⟨x0, x1, xf0, xf1⟩ := hbx.below (B := wr.heap.size) (w' := wr.alloc (.cells #[.int .i64 (a : Int), .slice Aj nj cj] 135)) ((Below.refl _ _).alloc (Nat.le_refl _) _) hwr2
      obtain ⟨b0, b1, -, -⟩ := Box2.new wr (.int .i64 (a : Int)) (.slice Aj nj cj) 135
      have e0 : (wr.alloc (.cells #[.int .i64 (a : Int), .slice Aj nj cj] 135)).cell? ⟨gk, offk + a, none⟩ = some (.slice Bj bj dj) := (World.cell?_alloc_lt _ _ _ hkw).trans pk
      have e1 : (wr.alloc (.cells #[.int .i64 (a : Int), .slice Aj nj cj] 135)).frozen? ⟨gk, offk + a, none⟩ = false := (((Below.refl wr.heap.size wr).alloc (Nat.le_refl _) _).frozen (p := ⟨gk, offk + a, none⟩) hkw).trans (hk3 _)
      have hba : Below wr.heap.size (wr.setCell ⟨gk, offk + a, none⟩ (.slice Aj nj cj)) ((wr.setCell ⟨gk, offk + a, none⟩ (.slice Aj nj cj)).alloc (.cells #[.int .i64 (a : Int), .slice Aj nj cj] 135)) := (Below.refl _ _).alloc (by rw [World.heap_size_setCell]; exact Nat.le_refl _) _
      have s9 := (S.out.put (j := a) han (HS.out.mono (by omega) (Nat.le_refl _))).below hba (by omega)
      have S9 := Lib.hid s9
      have K9 := Lib.hid ((K.out.setCell ⟨gk, offk + a, none⟩ (.slice Aj nj cj)).below hba (by omega))
      have U9 := Lib.hid ((HU.out.setCell (p := ⟨gk, offk + a, none⟩) hk1 hk2 (.slice Aj nj cj)).alloc (.cells #[.int .i64 (a : Int), .slice Aj nj cj] 135))
      have BX9 := Lib.hid ((hbx.upd (Box2.upd1 (b := gk) (q := offk + a) (v := .slice Aj nj cj)) (.inr (by omega))).below hba hwr2)
      have hsp1 : SepR (wr.setCell ⟨gk, offk + a, none⟩ (.slice Aj nj cj)) (some ⟨gk, offk, none⟩) a := SepR.of_put pk (fun hn p hp => by
        have h1 := (HS.out.block_lt hn hp).1
        omega)
      have SP9 : Hid (∀ r' : WriteD, 0 < q + 1 → v0[q + 1 - 1]? = some r' → SepR ((wr.setCell ⟨gk, offk + a, none⟩ (.slice Aj nj cj)).alloc (.cells #[.int .i64 (a : Int), .slice Aj nj cj] 135)) (some ⟨gk, offk, none⟩) r'.at_.toNat) := Lib.hid (fun r' _ h' => by
        rw [Nat.add_sub_cancel, HX.out] at h'
        injection h' with h'
        rw [← h', HA.out]
        exact hsp1.same (fun g9 o9 e9 => by
          injection e9 with e9
          injection e9 with e91 e92
          rw [← e91]
          exact hba.block gk hkw))
      clear hsp1 HSP
      clear hr hr1 hs hu hbx s9 hba hwr S K pk hsk hk3
      go_wp2_with fail
      go_roundw
      case rel => exact ⟨q + 1, hlt, by go_num, BX9.out, Lib.hid (by rw [syncM_take HX.out, HA.out]; exact S9.out), K9, U9.out, SP9⟩
      case measure => simp [intOf]; omega
    · have hqn : q = n1 := by omega
      have hqe := hqn
      rw [hqn, ← L1.out, List.take_length] at S
      clear hqn
      have hw : Below w.heap.size w wr := hb9.trans ((P2.out.mono (by omega)).trans (hu.below (by omega) (by omega)))
      have HW := Lib.hid hw
      obtain ⟨x0, x1, xf0, xf1⟩ := hbx
      have hbx1 : Box2 (wr.setCell ⟨w2.heap.size, 1, none⟩ (.slice none 0 0)) w2.heap.size (.slice X0 n0 d0) (.slice none 0 0) := Box2.set1 ⟨x0, x1, xf0, xf1⟩ _
      obtain ⟨t0, t1, tf0, tf1⟩ := (((T1.out _ P2.out).2.upd hu (.inl (by omega))).upd (Box2.upd1 (b := w2.heap.size) (q := 1) (v := .slice none 0 0)) (.inl (by omega)))
      have R9 := Lib.hid ((S.out).upd (Box2.upd1 (b := w2.heap.size) (q := 1) (v := .slice none 0 0)) (.inl (Nat.le_refl _)))
      have W9 := Lib.hid (HW.out.setCell (p := ⟨w2.heap.size, 1, none⟩) (by simp only; omega) (.slice none 0 0))
      obtain ⟨n0', n1', nf0, nf1⟩ := hbx1
      have hz9 : (wr.setCell ⟨w2.heap.size, 1, none⟩ (.slice none 0 0)).heap.size = wr.heap.size := World.heap_size_setCell _ _ _
      have hu9 := hu.size
      have SPX : Hid (∀ r : WriteD, 0 < n1 → v0[n1 - 1]? = some r → SepR ((((wr.setCell ⟨w2.heap.size, 1, none⟩ (.slice none 0 0)).setCell ⟨w.heap.size + 1, 0, none⟩ (.slice X0 n0 d0)).setCell ⟨w.heap.size + 1, 1, none⟩ (.slice none 0 0))) X0 r.at_.toNat) := Lib.hid (fun r h1 h2 => (HSP.out r (by omega) (by rw [hqe]; exact h2)).same (fun g9 o9 e9 => by
        obtain ⟨e91, e92, -⟩ := K.out g9 o9 e9
        have u1 : Upd w2.heap.size (w2.heap.size + 1) wr (wr.setCell ⟨w2.heap.size, 1, none⟩ (.slice none 0 0)) := Box2.upd1
        have u2 : Upd (w.heap.size + 1) (w.heap.size + 2) (wr.setCell ⟨w2.heap.size, 1, none⟩ (.slice none 0 0)) (((wr.setCell ⟨w2.heap.size, 1, none⟩ (.slice none 0 0)).setCell ⟨w.heap.size + 1, 0, none⟩ (.slice X0 n0 d0)).setCell ⟨w.heap.size + 1, 1, none⟩ (.slice none 0 0)) := ((Upd.refl _ _ _).setCell (p := ⟨w.heap.size + 1, 0, none⟩) (Nat.le_refl _) (by simp) _).setCell (p := ⟨w.heap.size + 1, 1, none⟩) (Nat.le_refl _) (by simp) _
        exact (u2.block g9 (by rw [World.heap_size_setCell]; omega) (.inr (by omega))).trans (u1.block g9 (by omega) (.inl (by omega)))))
      clear hw S K hu HSP hqe
      go_wp2_with fail
      generalize wr.setCell ⟨w2.heap.size, 1, none⟩ (.slice none 0 0) = W at *
      refine bodyPost_ret (v := .agg #[.slice X0 n0 d0, .slice none 0 0]) (by simp [results, Try.results55, go_sem, t0, t1, tf0, tf1]) rfl ⟨X0, d0, none, 0, rfl, ?_, by omega, ?_, fun r h1 h2 => SPX.out r (by rw [← L1.out]; exact h1) (by rw [← L1.out]; exact h2)⟩
      · have u9 : Upd (w.heap.size + 1) (w.heap.size + 2) W ((W.setCell ⟨w.heap.size + 1, 0, none⟩ (.slice X0 n0 d0)).setCell ⟨w.heap.size + 1, 1, none⟩ (.slice none 0 0)) := ((Upd.refl _ _ _).setCell (p := ⟨w.heap.size + 1, 0, none⟩) (Nat.le_refl _) (by simp) _).setCell (p := ⟨w.heap.size + 1, 1, none⟩) (Nat.le_refl _) (by simp) _
        refine (id (R9.out.upd u9 (.inr (by omega)))).mono (by omega) (by simp only [World.heap_size_setCell]; omega)
      · exact (W9.out.setCell (p := ⟨w.heap.size + 1, 0, none⟩) (by simp only; omega) _).setCell (p := ⟨w.heap.size + 1, 1, none⟩) (by simp only; omega) _
theorem SlR.bounds {w : World} {lo hi n c : Nat} {A : Option Addr} {rows : List (List Int)} (h : SlR w lo hi A n c rows) (hn : 0 < n) : ∀ g off, A = some ⟨g, off, none⟩ → lo ≤ g ∧ g < hi := by
  intro g off e
  obtain ⟨g', off', Aj, nj, cj, e', h1, h2, -, -⟩ := h.lie 0 (rows[0]'(by rw [h.len]; exact hn)) (List.getElem?_eq_getElem _)
  rw [e] at e'
  injection e' with e'
  injection e' with e1 e2
  rw [e1]
  exact ⟨h1, h2⟩
theorem SepR.below {w w' : World} {lo hi n c j B : Nat} {A : Option Addr} {rows : List (List Int)} (h : SepR w A j) (s : SlR w lo hi A n c rows) (hn : 0 < n) (hb : Below B w w') (hB : hi ≤ B) : SepR w' A j :=
  h.same (fun g off e => hb.block g (by have := (s.bounds hn g off e).2; omega))
theorem SepR.upd {w w' : World} {lo hi n c j p q : Nat} {A : Option Addr} {rows : List (List Int)} (h : SepR w A j) (s : SlR w lo hi A n c rows) (hn : 0 < n) (hu : Upd p q w w') (ho : q ≤ lo ∨ hi ≤ p) (hh : hi ≤ w.heap.size) : SepR w' A j :=
  h.same (fun g off e => hu.block g (by have := (s.bounds hn g off e).2; omega) (by have := s.bounds hn g off e; omega))
/-- Two disks without waits, one behind the other. -/
def TwResM (w : World) (n0 : Nat) (k0 : List (List Int)) (v0 : List WriteD) (n2 : Nat) (k2 : List (List Int)) (v2 : List WriteD) (e : Ending) (w' : World) : Prop :=
  ∃ A0 c0 A1 c1 A2 c2 A3 c3 mid, e = .returned (.agg #[.slice A0 n0 c0, .slice A1 0 c1, .slice A2 n2 c2, .slice A3 0 c3]) ∧ SlR w' w.heap.size mid A0 n0 c0 k0 ∧ SlR w' mid w'.heap.size A2 n2 c2 k2 ∧ w.heap.size ≤ mid ∧ mid ≤ w'.heap.size ∧ c1 ≤ 9223372036854775807 ∧ c3 ≤ 9223372036854775807 ∧ Below w.heap.size w w' ∧ (∀ r : WriteD, 0 < v0.length → v0[v0.length - 1]? = some r → SepR w' A0 r.at_.toNat) ∧ (∀ r : WriteD, 0 < v2.length → v2[v2.length - 1]? = some r → SepR w' A2 r.at_.toNat)
set_option maxRecDepth 100000 in
set_option maxHeartbeats 4000000 in
theorem bothSyncedM_any (A0 : Option Addr) (n0 c0 : Nat) (k0 : List (List Int)) (A1 : Option Addr) (n1 c1 : Nat) (v0 : List WriteD) (A2 : Option Addr) (n2 c2 : Nat) (k2 : List (List Int)) (A3 : Option Addr) (n3 c3 : Nat) (v2 : List WriteD) (lo hi : Nat) (w : World) (h0 : SlR w lo hi A0 n0 c0 k0) (h1 : SlW w lo hi A1 n1 c1 v0) (h2 : SlR w lo hi A2 n2 c2 k2) (h3 : SlW w lo hi A3 n3 c3 v2) (hhi : hi ≤ w.heap.size)  (hd : twoOk k0 v0 k2 v2 = true) :
    Calls Try.prog 60 #[.agg #[.slice A0 n0 c0, .slice A1 n1 c1, .slice A2 n2 c2, .slice A3 n3 c3]] w (TwResM w n0 (syncM k0 v0) v0 n2 (syncM k2 v2) v2) := by
  obtain ⟨hda, hdb, hkk⟩ : diskOk k0 v0 = true ∧ diskOk k2 v2 = true ∧ k0.length = k2.length := by
    simp only [twoOk, Bool.and_eq_true, decide_eq_true_eq] at hd
    exact hd
  have hn0p : 0 < n0 := by rw [← h0.len]; exact (diskOk_sizes hda).1
  have hn2p : 0 < n2 := by rw [← h2.len]; exact (diskOk_sizes hdb).1
  have hg0 : n0 ≤ 9223372036854775807 := Nat.le_trans h0.cap h0.big
  have L0 := Lib.hid h0.len
  have L1 := Lib.hid h1.len
  have L2 := Lib.hid h2.len
  have L3 := Lib.hid h3.len
  have H0 := Lib.hid h0
  have H1 := Lib.hid h1
  have H2 := Lib.hid h2
  have H3 := Lib.hid h3
  have C1 : Hid (∀ W, Below w.heap.size w W → Calls Try.prog 98 #[.agg #[.slice A0 n0 c0, .slice A1 n1 c1, .slice A2 n2 c2, .slice A3 n3 c3]] W fun e w' => e = .returned (.bool true) ∧ Below W.heap.size W w') := Lib.hid (fun W hW => by
    have h7 := twoOk_any A0 n0 c0 k0 A1 n1 c1 v0 A2 n2 c2 k2 A3 n3 c3 v2 lo hi W (H0.out.below hW hhi) (H1.out.below hW hhi) (H2.out.below hW hhi) (H3.out.below hW hhi) (Nat.le_trans hhi hW.size)
    rw [hd] at h7
    exact h7)
  have T1 : Hid (∀ W, Below (w.heap.size + 2) ((w.alloc (.cells #[.slice A0 n0 c0, .slice A1 n1 c1, .slice A2 n2 c2, .slice A3 n3 c3] 69)).alloc (.cells #[.slice none 0 0, .slice none 0 0, .slice none 0 0, .slice none 0 0] 69)) W → (Box4 W w.heap.size (.slice A0 n0 c0) (.slice A1 n1 c1) (.slice A2 n2 c2) (.slice A3 n3 c3) ∧ Box4 W (w.heap.size + 1) (.slice none 0 0) (.slice none 0 0) (.slice none 0 0) (.slice none 0 0))) := Lib.hid (fun W hW => ⟨((Box4.new w (.slice A0 n0 c0) (.slice A1 n1 c1) (.slice A2 n2 c2) (.slice A3 n3 c3) 69).below (B := w.heap.size + 1) ((Below.refl _ _).alloc (by simp) (.cells #[.slice none 0 0, .slice none 0 0, .slice none 0 0, .slice none 0 0] 69)) (by omega)).below hW (by omega), by
    have h9 := Box4.new (w.alloc (.cells #[.slice A0 n0 c0, .slice A1 n1 c1, .slice A2 n2 c2, .slice A3 n3 c3] 69)) (.slice none 0 0) (.slice none 0 0) (.slice none 0 0) (.slice none 0 0) 69
    rw [World.heap_size_alloc] at h9
    exact h9.below hW (by omega)⟩)
  have hs9 : ((w.alloc (.cells #[.slice A0 n0 c0, .slice A1 n1 c1, .slice A2 n2 c2, .slice A3 n3 c3] 69)).alloc (.cells #[.slice none 0 0, .slice none 0 0, .slice none 0 0, .slice none 0 0] 69)).heap.size = w.heap.size + 2 := by simp only [World.heap_size_alloc]
  have hb9 : Below w.heap.size w ((w.alloc (.cells #[.slice A0 n0 c0, .slice A1 n1 c1, .slice A2 n2 c2, .slice A3 n3 c3] 69)).alloc (.cells #[.slice none 0 0, .slice none 0 0, .slice none 0 0, .slice none 0 0] 69)) := by (repeat' (first | with_reducible exact Below.refl _ _ | with_reducible assumption | with_reducible refine Below.drew ?_ | with_reducible refine Below.alloc ?_ ?_ _ | with_reducible refine Below.setCell ?_ ?_ _ | with_reducible refine Below.trans ?_ (Below.mono (by assumption) ?_) | ((try simp only [World.heap_size_alloc, World.heap_size_drew, World.heap_size_setCell]); omega)))
  have IX0 := index0 A0 n0 c0 A1 n1 c1 A2 n2 c2 A3 n3 c3
  have IX1 := index1 A0 n0 c0 A1 n1 c1 A2 n2 c2 A3 n3 c3
  clear h0 h1 h2 h3 hd
  go_enter Try.func60, Try.ntmps60
  go_wp2_with fail
  generalize hW0 : (w.alloc (.cells #[.slice A0 n0 c0, .slice A1 n1 c1, .slice A2 n2 c2, .slice A3 n3 c3] 69)).alloc (.cells #[.slice none 0 0, .slice none 0 0, .slice none 0 0, .slice none 0 0] 69) = W0 at *
  clear hW0
  (with_reducible refine (C1.out _ hb9).mono ?_); rintro _ w1 ⟨rfl, b1⟩
  have y1 := b1.size
  have P1 := Lib.hid (b1.mono (by omega) : Below (w.heap.size + 2) W0 w1)
  have HB1 := Lib.hid (hb9.trans (P1.out.mono (by omega)))
  obtain ⟨⟨q0, q1, q2, q3, f0, f1, f2, f3⟩, -⟩ := T1.out _ P1.out
  clear b1 hb9 C1
  go_wp2_with fail
  (with_reducible refine (disks_any _ _ _ _ _ _ _ _ _ _ _ _ _).mono ?_); rintro _ w2 ⟨rfl, b2⟩
  have y2 := b2.size
  have P2 : Hid (Below (w.heap.size + 2) W0 w2) := Lib.hid (P1.out.trans (b2.mono (by omega)))
  have HB2 := Lib.hid (HB1.out.trans ((b2.mono (by omega)).mono (by omega)))
  have CA : Hid (∀ W, Below w2.heap.size w2 W → Calls Try.prog 55 #[.agg #[.slice A0 n0 c0, .slice A1 n1 c1]] W (DkResM W n0 (syncM k0 v0) v0)) := Lib.hid (fun W hW => by
    have hwW := HB2.out.trans (hW.mono (by have := HB2.out.size; omega))
    exact syncedM_any A0 n0 c0 k0 A1 n1 c1 v0 lo hi W (H0.out.below hwW hhi) (H1.out.below hwW hhi) (Nat.le_trans hhi hwW.size) hda)
  have CB : Hid (∀ W, Below w2.heap.size w2 W → Calls Try.prog 55 #[.agg #[.slice A2 n2 c2, .slice A3 n3 c3]] W (DkResM W n2 (syncM k2 v2) v2)) := Lib.hid (fun W hW => by
    have hwW := HB2.out.trans (hW.mono (by have := HB2.out.size; omega))
    exact syncedM_any A2 n2 c2 k2 A3 n3 c3 v2 lo hi W (H2.out.below hwW hhi) (H3.out.below hwW hhi) (Nat.le_trans hhi hwW.size) hdb)
  have KB := Box4.new w2 (.slice A0 n0 c0) (.slice A1 n1 c1) (.slice A2 n2 c2) (.slice A3 n3 c3) 139
  have hst : Below w2.heap.size w2 (w2.alloc (.cells #[.slice A0 n0 c0, .slice A1 n1 c1, .slice A2 n2 c2, .slice A3 n3 c3] 139)) := (Below.refl _ _).alloc (Nat.le_refl _) _
  have hss : (w2.alloc (.cells #[.slice A0 n0 c0, .slice A1 n1 c1, .slice A2 n2 c2, .slice A3 n3 c3] 139)).heap.size = w2.heap.size + 1 := World.heap_size_alloc _ _
  have HST := Lib.hid hst
  obtain ⟨k0', k1', k2', k3', -, -, -, -⟩ := id KB
  have KBH := Lib.hid KB
  clear q0 q1 q2 q3 f0 f1 f2 f3 b2 KB hst
  go_wp2_with fail
  generalize hWs : (w2.alloc (.cells #[.slice A0 n0 c0, .slice A1 n1 c1, .slice A2 n2 c2, .slice A3 n3 c3] 139)) = Ws at *
  clear hWs k0' k1' k2' k3'
  go_loopw [4, 5, 13] (fun _ _ i wr => (i = .int .i64 0 ∧ wr = Ws) ∨ (i = .int .i64 1 ∧ ∃ (X0 : Option Addr) (d0 : Nat) (X1 : Option Addr) (d1 : Nat), Box4 wr w2.heap.size (.slice X0 n0 d0) (.slice X1 0 d1) (.slice A2 n2 c2) (.slice A3 n3 c3) ∧ Hid (SlR wr (w2.heap.size + 1) wr.heap.size X0 n0 d0 (syncM k0 v0)) ∧ Hid (SlW wr (w2.heap.size + 1) wr.heap.size X1 0 d1 []) ∧ Hid (Below w2.heap.size Ws wr) ∧ w2.heap.size + 1 ≤ wr.heap.size ∧ Hid (∀ r : WriteD, 0 < v0.length → v0[v0.length - 1]? = some r → SepR wr X0 r.at_.toNat)) ∨ (i = .int .i64 2 ∧ ∃ (X0 : Option Addr) (d0 : Nat) (X1 : Option Addr) (d1 : Nat) (X2 : Option Addr) (d2 : Nat) (X3 : Option Addr) (d3 mid : Nat), Box4 wr w2.heap.size (.slice X0 n0 d0) (.slice X1 0 d1) (.slice X2 n2 d2) (.slice X3 0 d3) ∧ Hid (SlR wr (w2.heap.size + 1) mid X0 n0 d0 (syncM k0 v0)) ∧ Hid (SlW wr (w2.heap.size + 1) wr.heap.size X1 0 d1 []) ∧ Hid (SlR wr mid wr.heap.size X2 n2 d2 (syncM k2 v2)) ∧ Hid (SlW wr (w2.heap.size + 1) wr.heap.size X3 0 d3 []) ∧ Hid (Below w2.heap.size Ws wr) ∧ w2.heap.size + 1 ≤ wr.heap.size ∧ w2.heap.size + 1 ≤ mid ∧ mid ≤ wr.heap.size ∧ Hid (∀ r : WriteD, 0 < v0.length → v0[v0.length - 1]? = some r → SepR wr X0 r.at_.toNat) ∧ Hid (∀ r : WriteD, 0 < v2.length → v2[v2.length - 1]? = some r → SepR wr X2 r.at_.toNat))) (fun _ _ i _ => 2 - (intOf i).toNat)
  case atStart => exact .inl ⟨rfl, rfl⟩
  case round =>
    rcases hrel with ⟨rfl, rfl⟩ | ⟨rfl, X0, d0, X1, d1, bx, S0, S1, hb, hlt, SP0⟩ | ⟨rfl, X0, d0, X1, d1, X2, d2, X3, d3, mid, bx, S0, S1, S2, S3, hb, hlt, hmd1, hmd2, SP0, SP2⟩
    · have hx : Below wr.heap.size wr (wr.alloc (.cells #[.slice A0 n0 c0, .slice A1 n1 c1] 67)) := (Below.refl _ _).alloc (Nat.le_refl _) _
      have hxb : Below w2.heap.size w2 (wr.alloc (.cells #[.slice A0 n0 c0, .slice A1 n1 c1] 67)) := HST.out.trans (hx.mono (by omega))
      have HXB := Lib.hid hxb
      obtain ⟨e0, e1, -, -⟩ := Box2.new wr (.slice A0 n0 c0) (.slice A1 n1 c1) 67
      have BX := Lib.hid (KBH.out.below hx (by omega))
      have hxs : (wr.alloc (.cells #[.slice A0 n0 c0, .slice A1 n1 c1] 67)).heap.size = wr.heap.size + 1 := World.heap_size_alloc _ _
      clear hx hxb
      go_wp2_with fail
      (with_reducible refine (CA.out _ HXB.out).mono ?_); rintro _ w3 ⟨X0, d0, X1, d1, rfl, s0, hc1, b3, sp0⟩
      have y3 := b3.size
      have s1 : SlW w3 (wr.alloc (.cells #[.slice A0 n0 c0, .slice A1 n1 c1] 67)).heap.size w3.heap.size X1 0 d1 [] := SlW.nil _ _ _ _ _ hc1
      simp only [World.heap_size_alloc] at y3
      have bx3 := BX.out.below b3 (by (try simp only [World.heap_size_alloc, World.heap_size_drew, World.heap_size_setCell]); omega)
      have b30 := b3
      obtain ⟨r0, r1, -, -, rf0, rf1, -, -⟩ := id bx3
      have BX3 := Lib.hid (bx3.set01 (.slice X0 n0 d0) (.slice X1 0 d1))
      have hb3 : Below w2.heap.size wr w3 := ((Below.refl _ _).alloc (by omega) _).trans (b30.mono (by (try simp only [World.heap_size_alloc, World.heap_size_drew, World.heap_size_setCell]); omega))
      have HB3 := Lib.hid (hb3.trans (below2 (Nat.le_refl _)) : Below w2.heap.size wr ((w3.setCell ⟨w2.heap.size, 0, none⟩ (.slice X0 n0 d0)).setCell ⟨w2.heap.size, 1, none⟩ (.slice X1 0 d1)))
      have S0 := Lib.hid (s0.at2 (b := w2.heap.size) (p := 0) (q := 1) (x := .slice X0 n0 d0) (y := .slice X1 0 d1) (lo' := w2.heap.size + 1) (by (try simp only [World.heap_size_alloc, World.heap_size_drew, World.heap_size_setCell]); omega) (by (try simp only [World.heap_size_alloc, World.heap_size_drew, World.heap_size_setCell]); omega) (by (try simp only [World.heap_size_alloc, World.heap_size_drew, World.heap_size_setCell]); omega))
      have S1 := Lib.hid (s1.at2 (b := w2.heap.size) (p := 0) (q := 1) (x := .slice X0 n0 d0) (y := .slice X1 0 d1) (lo' := w2.heap.size + 1) (by (try simp only [World.heap_size_alloc, World.heap_size_drew, World.heap_size_setCell]); omega) (by (try simp only [World.heap_size_alloc, World.heap_size_drew, World.heap_size_setCell]); omega) (by (try simp only [World.heap_size_alloc, World.heap_size_drew, World.heap_size_setCell]); omega))
      have SP0 : Hid (∀ r : WriteD, 0 < v0.length → v0[v0.length - 1]? = some r → SepR ((w3.setCell ⟨w2.heap.size, 0, none⟩ (.slice X0 n0 d0)).setCell ⟨w2.heap.size, 1, none⟩ (.slice X1 0 d1)) X0 r.at_.toNat) := Lib.hid (fun r h1 h2 => (sp0 r h1 h2).upd s0 hn0p (up2 (b := w2.heap.size)) (.inl (by (try simp only [World.heap_size_alloc, World.heap_size_drew, World.heap_size_setCell]); omega)) (Nat.le_refl _))
      clear s0 s1 b3 hb3 bx3 BX b30 sp0
      go_wp2_with fail
      go_roundw
      case rel => exact .inr (.inl ⟨by go_num, X0, d0, X1, d1, BX3.out, S0, S1, HB3, by rw [size2]; omega, SP0⟩)
      case measure => simp [intOf]
    · have hx : Below wr.heap.size wr (wr.alloc (.cells #[.slice A2 n2 c2, .slice A3 n3 c3] 67)) := (Below.refl _ _).alloc (Nat.le_refl _) _
      have hxb : Below w2.heap.size w2 (wr.alloc (.cells #[.slice A2 n2 c2, .slice A3 n3 c3] 67)) := HST.out.trans (hb.out.trans (hx.mono (by omega)))
      have HXB := Lib.hid hxb
      obtain ⟨e0, e1, -, -⟩ := Box2.new wr (.slice A2 n2 c2) (.slice A3 n3 c3) 67
      have BX := Lib.hid (bx.below hx (by omega))
      have hxs : (wr.alloc (.cells #[.slice A2 n2 c2, .slice A3 n3 c3] 67)).heap.size = wr.heap.size + 1 := World.heap_size_alloc _ _
      clear hx hxb bx
      go_wp2_with fail
      (with_reducible refine (CB.out _ HXB.out).mono ?_); rintro _ w3 ⟨X2, d2, X3, d3, rfl, s2, hc3, b3, sp2⟩
      have y3 := b3.size
      have s3 : SlW w3 (wr.alloc (.cells #[.slice A2 n2 c2, .slice A3 n3 c3] 67)).heap.size w3.heap.size X3 0 d3 [] := SlW.nil _ _ _ _ _ hc3
      simp only [World.heap_size_alloc] at y3
      have bx3 := BX.out.below b3 (by (try simp only [World.heap_size_alloc, World.heap_size_drew, World.heap_size_setCell]); omega)
      have b30 := b3
      obtain ⟨-, -, r0, r1, -, -, rf0, rf1⟩ := id bx3
      have BX3 := Lib.hid (bx3.set23 (.slice X2 n2 d2) (.slice X3 0 d3))
      have hb3 : Below wr.heap.size wr w3 := ((Below.refl _ _).alloc (Nat.le_refl _) _).trans (b30.mono (by (try simp only [World.heap_size_alloc, World.heap_size_drew, World.heap_size_setCell]); omega))
      have HB3 := Lib.hid ((hb.out.trans (hb3.mono (by omega))).trans (below2 (Nat.le_refl _)) : Below w2.heap.size Ws ((w3.setCell ⟨w2.heap.size, 2, none⟩ (.slice X2 n2 d2)).setCell ⟨w2.heap.size, 3, none⟩ (.slice X3 0 d3)))
      have Z2 := Lib.hid (s2.at2 (b := w2.heap.size) (p := 2) (q := 3) (x := .slice X2 n2 d2) (y := .slice X3 0 d3) (lo' := wr.heap.size) (by (try simp only [World.heap_size_alloc, World.heap_size_drew, World.heap_size_setCell]); omega) (by (try simp only [World.heap_size_alloc, World.heap_size_drew, World.heap_size_setCell]); omega) (by (try simp only [World.heap_size_alloc, World.heap_size_drew, World.heap_size_setCell]); omega))
      have Z3 := Lib.hid (s3.at2 (b := w2.heap.size) (p := 2) (q := 3) (x := .slice X2 n2 d2) (y := .slice X3 0 d3) (lo' := w2.heap.size + 1) (by (try simp only [World.heap_size_alloc, World.heap_size_drew, World.heap_size_setCell]); omega) (by (try simp only [World.heap_size_alloc, World.heap_size_drew, World.heap_size_setCell]); omega) (by (try simp only [World.heap_size_alloc, World.heap_size_drew, World.heap_size_setCell]); omega))
      have Z0 := Lib.hid ((S0.out.below hb3 (Nat.le_refl _)).upd (up2 (b := w2.heap.size) (p := 2) (q := 3) (x := .slice X2 n2 d2) (y := .slice X3 0 d3)) (.inr (Nat.le_refl _)))
      have SP0 : Hid (∀ r : WriteD, 0 < v0.length → v0[v0.length - 1]? = some r → SepR ((w3.setCell ⟨w2.heap.size, 2, none⟩ (.slice X2 n2 d2)).setCell ⟨w2.heap.size, 3, none⟩ (.slice X3 0 d3)) X0 r.at_.toNat) := Lib.hid (fun r h1 h2 => ((SP0.out r h1 h2).below S0.out hn0p hb3 (Nat.le_refl _)).upd (S0.out.below hb3 (Nat.le_refl _)) hn0p (up2 (b := w2.heap.size)) (.inl (Nat.le_refl _)) (by (try simp only [World.heap_size_alloc, World.heap_size_drew, World.heap_size_setCell]); omega))
      have SP2 : Hid (∀ r : WriteD, 0 < v2.length → v2[v2.length - 1]? = some r → SepR ((w3.setCell ⟨w2.heap.size, 2, none⟩ (.slice X2 n2 d2)).setCell ⟨w2.heap.size, 3, none⟩ (.slice X3 0 d3)) X2 r.at_.toNat) := Lib.hid (fun r h1 h2 => (sp2 r h1 h2).upd s2 hn2p (up2 (b := w2.heap.size)) (.inl (by (try simp only [World.heap_size_alloc, World.heap_size_drew, World.heap_size_setCell]); omega)) (Nat.le_refl _))
      have Z1 := Lib.hid ((S1.out.below hb3 (Nat.le_refl _)).at2 (b := w2.heap.size) (p := 2) (q := 3) (x := .slice X2 n2 d2) (y := .slice X3 0 d3) (lo' := w2.heap.size + 1) (Nat.le_refl _) (Nat.le_refl _) (by (try simp only [World.heap_size_alloc, World.heap_size_drew, World.heap_size_setCell]); omega))
      clear s2 s3 b3 hb3 bx3 BX hb S0 S1 b30 sp2
      go_wp2_with fail
      go_roundw
      case rel => exact .inr (.inr ⟨by go_num, X0, d0, X1, d1, X2, d2, X3, d3, wr.heap.size, BX3.out, Z0, Z1, Z2, Z3, HB3, by rw [size2]; omega, by omega, by rw [size2]; (try simp only [World.heap_size_alloc, World.heap_size_drew, World.heap_size_setCell]); omega, SP0, SP2⟩)
      case measure => simp [intOf]
    · have BR := Lib.hid (T1.out _ (P2.out.trans ((HST.out.trans (hb.out.mono (Nat.le_refl _))).mono (by omega)))).2
      obtain ⟨r0, r1, r2, r3, -, -, -, -⟩ := bx
      have HBR := Lib.hid (HB2.out.trans ((HST.out.trans hb.out).mono (by omega)))
      clear hb
      go_wp2_with fail
      (with_reducible refine (twoOf_any _ _ _ _ _ _ _ _ _ _ _ _ _).mono ?_); rintro _ w3 ⟨rfl, b3⟩
      have y3 := b3.size
      obtain ⟨p0, p1, p2, p3, g0, g1, g2, g3⟩ := BR.out.below b3 (by omega)
      have hb4 : Below (w.heap.size + 1) w3 ((((w3.setCell ⟨w.heap.size + 1, 0, none⟩ (.slice X0 n0 d0)).setCell ⟨w.heap.size + 1, 1, none⟩ (.slice X1 0 d1)).setCell ⟨w.heap.size + 1, 2, none⟩ (.slice X2 n2 d2)).setCell ⟨w.heap.size + 1, 3, none⟩ (.slice X3 0 d3)) := below4 (Nat.le_refl _)
      have hu4 : Upd (w.heap.size + 1) (w.heap.size + 2) w3 ((((w3.setCell ⟨w.heap.size + 1, 0, none⟩ (.slice X0 n0 d0)).setCell ⟨w.heap.size + 1, 1, none⟩ (.slice X1 0 d1)).setCell ⟨w.heap.size + 1, 2, none⟩ (.slice X2 n2 d2)).setCell ⟨w.heap.size + 1, 3, none⟩ (.slice X3 0 d3)) := up4
      have hmd3 : mid ≤ w3.heap.size := by omega
      have Z0 := Lib.hid (((S0.out.below b3 hmd2).upd hu4 (.inr (by omega))).mono (lo' := w.heap.size) (by omega) (Nat.le_refl _))
      have Z2 := Lib.hid (((S2.out.below b3 (Nat.le_refl _)).upd hu4 (.inr (by omega))).mono (lo' := mid) (hi' := ((((w3.setCell ⟨w.heap.size + 1, 0, none⟩ (.slice X0 n0 d0)).setCell ⟨w.heap.size + 1, 1, none⟩ (.slice X1 0 d1)).setCell ⟨w.heap.size + 1, 2, none⟩ (.slice X2 n2 d2)).setCell ⟨w.heap.size + 1, 3, none⟩ (.slice X3 0 d3)).heap.size) (Nat.le_refl _) (by rw [size4]; omega))
      have hbg1 := S1.out.big
      have hbg3 := S3.out.big
      have SPA : Hid (∀ r : WriteD, 0 < v0.length → v0[v0.length - 1]? = some r → SepR ((((w3.setCell ⟨w.heap.size + 1, 0, none⟩ (.slice X0 n0 d0)).setCell ⟨w.heap.size + 1, 1, none⟩ (.slice X1 0 d1)).setCell ⟨w.heap.size + 1, 2, none⟩ (.slice X2 n2 d2)).setCell ⟨w.heap.size + 1, 3, none⟩ (.slice X3 0 d3)) X0 r.at_.toNat) := Lib.hid (fun r h1 h2 => ((SP0.out r h1 h2).below S0.out hn0p b3 hmd2).upd (S0.out.below b3 hmd2) hn0p hu4 (.inl (by omega)) (by omega))
      have SPB : Hid (∀ r : WriteD, 0 < v2.length → v2[v2.length - 1]? = some r → SepR ((((w3.setCell ⟨w.heap.size + 1, 0, none⟩ (.slice X0 n0 d0)).setCell ⟨w.heap.size + 1, 1, none⟩ (.slice X1 0 d1)).setCell ⟨w.heap.size + 1, 2, none⟩ (.slice X2 n2 d2)).setCell ⟨w.heap.size + 1, 3, none⟩ (.slice X3 0 d3)) X2 r.at_.toNat) := Lib.hid (fun r h1 h2 => ((SP2.out r h1 h2).below S2.out hn2p b3 (Nat.le_refl _)).upd (S2.out.below b3 (Nat.le_refl _)) hn2p hu4 (.inl (by omega)) (by omega))
      have hszz : ((((w3.setCell ⟨w.heap.size + 1, 0, none⟩ (.slice X0 n0 d0)).setCell ⟨w.heap.size + 1, 1, none⟩ (.slice X1 0 d1)).setCell ⟨w.heap.size + 1, 2, none⟩ (.slice X2 n2 d2)).setCell ⟨w.heap.size + 1, 3, none⟩ (.slice X3 0 d3)).heap.size = w3.heap.size := size4
      have HBZ := Lib.hid ((HBR.out.trans (b3.mono (by omega))).trans (hb4.mono (by omega)))
      clear b3 hb4 hu4 S0 S1 S2 S3 SP0 SP2
      go_wp2_with fail
      refine bodyPost_ret (v := .agg #[.slice X0 n0 d0, .slice X1 0 d1, .slice X2 n2 d2, .slice X3 0 d3]) (by simp [results, Try.results60, go_sem, p0, p1, p2, p3, g0, g1, g2, g3]) rfl ⟨X0, d0, X1, d1, X2, d2, X3, d3, mid, rfl, Z0.out, Z2.out, by omega, by omega, hbg1, hbg3, HBZ.out, SPA.out, SPB.out⟩
set_option maxRecDepth 100000 in
set_option maxHeartbeats 4000000 in
theorem mendedAtM_any (A0 : Option Addr) (n0 c0 : Nat) (k0 : List (List Int)) (A1 : Option Addr) (n1 c1 : Nat) (v0 : List WriteD) (A2 : Option Addr) (n2 c2 : Nat) (k2 : List (List Int)) (A3 : Option Addr) (n3 c3 : Nat) (v2 : List WriteD) (lo hi : Nat) (w : World) (h0 : SlR w lo hi A0 n0 c0 k0) (h1 : SlW w lo hi A1 n1 c1 v0) (h2 : SlR w lo hi A2 n2 c2 k2) (h3 : SlW w lo hi A3 n3 c3 v2) (hhi : hi ≤ w.heap.size) (q : Int) (Ar : Option Addr) (nr cr lor hir : Nat) (zr : List Int) (hr : Sl w lor hir 1 Ar nr cr zr) (hhr : hir ≤ w.heap.size) (hz : rowOk zr = true) (hnr : nr < 48) (hq : btw q 0 ((n0 : Int) - 1) = true) (hn1 : n1 < 60) (hn3 : n3 < 60) (hd : twoOk k0 v0 k2 v2 = true) :
    Calls Try.prog 102 #[.agg #[.slice A0 n0 c0, .slice A1 n1 c1, .slice A2 n2 c2, .slice A3 n3 c3], .int .i64 q, .slice Ar nr cr] w (TwResM w n0 (syncM k0 (v0 ++ [⟨q, zr ++ [sumM zr]⟩])) (v0 ++ [⟨q, zr ++ [sumM zr]⟩]) n2 (syncM k2 (v2 ++ [⟨q, zr ++ [sumM zr]⟩])) (v2 ++ [⟨q, zr ++ [sumM zr]⟩])) := by
  have H0 := Lib.hid h0
  have H1 := Lib.hid h1
  have H2 := Lib.hid h2
  have H3 := Lib.hid h3
  have HR := Lib.hid hr
  have CBW : Hid (∀ W, Below w.heap.size w W → Calls Try.prog 146 #[.agg #[.slice A0 n0 c0, .slice A1 n1 c1, .slice A2 n2 c2, .slice A3 n3 c3], .int .i64 q, .slice Ar nr cr] W (TwBRes W n0 k0 (n1 + 1) (v0 ++ [⟨q, zr ++ [sumM zr]⟩]) n2 k2 (n3 + 1) (v2 ++ [⟨q, zr ++ [sumM zr]⟩]) true)) := Lib.hid (fun W hW => bothWrote_any A0 n0 c0 k0 A1 n1 c1 v0 A2 n2 c2 k2 A3 n3 c3 v2 lo hi W (H0.out.below hW hhi) (H1.out.below hW hhi) (H2.out.below hW hhi) (H3.out.below hW hhi) (Nat.le_trans hhi hW.size) q Ar nr cr lor hir zr (HR.out.below hW hhr) (Nat.le_trans hhr hW.size) hz hnr hq hn1 hn3 hd)
  have T1 : Hid (∀ W, Below (w.heap.size + 2) ((w.alloc (.cells #[.slice A0 n0 c0, .slice A1 n1 c1, .slice A2 n2 c2, .slice A3 n3 c3] 69)).alloc (.cells #[.slice none 0 0, .slice none 0 0, .slice none 0 0, .slice none 0 0] 69)) W → (Box4 W w.heap.size (.slice A0 n0 c0) (.slice A1 n1 c1) (.slice A2 n2 c2) (.slice A3 n3 c3) ∧ Box4 W (w.heap.size + 1) (.slice none 0 0) (.slice none 0 0) (.slice none 0 0) (.slice none 0 0))) := Lib.hid (fun W hW => ⟨((Box4.new w (.slice A0 n0 c0) (.slice A1 n1 c1) (.slice A2 n2 c2) (.slice A3 n3 c3) 69).below (B := w.heap.size + 1) ((Below.refl _ _).alloc (by simp) (.cells #[.slice none 0 0, .slice none 0 0, .slice none 0 0, .slice none 0 0] 69)) (by omega)).below hW (by omega), by
    have h9 := Box4.new (w.alloc (.cells #[.slice A0 n0 c0, .slice A1 n1 c1, .slice A2 n2 c2, .slice A3 n3 c3] 69)) (.slice none 0 0) (.slice none 0 0) (.slice none 0 0) (.slice none 0 0) 69
    rw [World.heap_size_alloc] at h9
    exact h9.below hW (by omega)⟩)
  have hs9 : ((w.alloc (.cells #[.slice A0 n0 c0, .slice A1 n1 c1, .slice A2 n2 c2, .slice A3 n3 c3] 69)).alloc (.cells #[.slice none 0 0, .slice none 0 0, .slice none 0 0, .slice none 0 0] 69)).heap.size = w.heap.size + 2 := by simp only [World.heap_size_alloc]
  have hb9 : Below w.heap.size w ((w.alloc (.cells #[.slice A0 n0 c0, .slice A1 n1 c1, .slice A2 n2 c2, .slice A3 n3 c3] 69)).alloc (.cells #[.slice none 0 0, .slice none 0 0, .slice none 0 0, .slice none 0 0] 69)) := by (repeat' (first | with_reducible exact Below.refl _ _ | with_reducible assumption | with_reducible refine Below.drew ?_ | with_reducible refine Below.alloc ?_ ?_ _ | with_reducible refine Below.setCell ?_ ?_ _ | with_reducible refine Below.trans ?_ (Below.mono (by assumption) ?_) | ((try simp only [World.heap_size_alloc, World.heap_size_drew, World.heap_size_setCell]); omega)))
  have hd3 : twoOk k0 (v0 ++ [⟨q, zr ++ [sumM zr]⟩]) k2 (v2 ++ [⟨q, zr ++ [sumM zr]⟩]) = true := twoOk_snoc hd h0.len h2.len h1.len h3.len (rowOk_sum hz (by rw [hr.uniq_len]; exact hnr)) hq hn1 hn3
  have hn0p : 0 < n0 := by
    simp only [twoOk, Bool.and_eq_true] at hd
    rw [← h0.len]
    exact (diskOk_sizes hd.1).1
  have hn2p : 0 < n2 := by
    simp only [twoOk, Bool.and_eq_true] at hd
    rw [← h2.len]
    exact (diskOk_sizes hd.2.1).1
  clear h0 h1 h2 h3 hr
  go_enter Try.func102, Try.ntmps102
  go_wp2_with fail
  generalize hW0 : (w.alloc (.cells #[.slice A0 n0 c0, .slice A1 n1 c1, .slice A2 n2 c2, .slice A3 n3 c3] 69)).alloc (.cells #[.slice none 0 0, .slice none 0 0, .slice none 0 0, .slice none 0 0] 69) = W0 at *
  have hs9a := Nat.le_of_eq hs9
  have hs9b := Nat.le_of_eq hs9.symm
  clear hW0 hs9
  (with_reducible refine (CBW.out _ hb9).mono ?_); rintro _ w3 ⟨X0, d0, X1, d1, X2, d2, X3, d3, rfl, s0, s1, s2, s3, b3⟩
  have y3 := b3.size
  have hst : Below w3.heap.size w3 (w3.alloc (.cells #[.slice X0 n0 d0, .slice X1 (n1 + 1) d1, .slice X2 n2 d2, .slice X3 (n3 + 1) d3] 69)) := (Below.refl _ _).alloc (Nat.le_refl _) _
  have hss : (w3.alloc (.cells #[.slice X0 n0 d0, .slice X1 (n1 + 1) d1, .slice X2 n2 d2, .slice X3 (n3 + 1) d3] 69)).heap.size = w3.heap.size + 1 := World.heap_size_alloc _ _
  have P3 := Lib.hid (b3.trans (hst.mono y3) : Below W0.heap.size W0 (w3.alloc (.cells #[.slice X0 n0 d0, .slice X1 (n1 + 1) d1, .slice X2 n2 d2, .slice X3 (n3 + 1) d3] 69)))
  have CSY : Hid (∀ W, Below w3.heap.size w3 W → Calls Try.prog 60 #[.agg #[.slice X0 n0 d0, .slice X1 (n1 + 1) d1, .slice X2 n2 d2, .slice X3 (n3 + 1) d3]] W (TwResM W n0 (syncM k0 (v0 ++ [⟨q, zr ++ [sumM zr]⟩])) (v0 ++ [⟨q, zr ++ [sumM zr]⟩]) n2 (syncM k2 (v2 ++ [⟨q, zr ++ [sumM zr]⟩])) (v2 ++ [⟨q, zr ++ [sumM zr]⟩]))) := Lib.hid (fun W hW => bothSyncedM_any X0 n0 d0 k0 X1 (n1 + 1) d1 (v0 ++ [⟨q, zr ++ [sumM zr]⟩]) X2 n2 d2 k2 X3 (n3 + 1) d3 (v2 ++ [⟨q, zr ++ [sumM zr]⟩]) W0.heap.size w3.heap.size W (s0.below hW (Nat.le_refl _)) (s1.below hW (Nat.le_refl _)) (s2.below hW (Nat.le_refl _)) (s3.below hW (Nat.le_refl _)) hW.size hd3)
  have HST := Lib.hid hst
  clear s0 s1 s2 s3 b3 hst
  go_wp2_with fail
  (with_reducible refine (CSY.out _ HST.out).mono ?_); rintro _ w4 ⟨Y0, e0, Y1, e1, Y2, e2, Y3, e3, mid, rfl, t0, t2, hm1, hm2, hg1, hg3, b4, sp0, sp2⟩
  have y4 := b4.size
  have P4 : Below (w.heap.size + 2) W0 w4 := (P3.out.mono (by omega)).trans (b4.mono (by omega))
  obtain ⟨p0, p1, p2, p3, g0, g1, g2, g3⟩ := (T1.out _ P4).2
  have HBZ := Lib.hid (hb9.trans (P4.mono (by omega)))
  have hu4 : Upd (w.heap.size + 1) (w.heap.size + 1 + 1) w4 ((((w4.setCell ⟨w.heap.size + 1, 0, none⟩ (.slice Y0 n0 e0)).setCell ⟨w.heap.size + 1, 1, none⟩ (.slice Y1 0 e1)).setCell ⟨w.heap.size + 1, 2, none⟩ (.slice Y2 n2 e2)).setCell ⟨w.heap.size + 1, 3, none⟩ (.slice Y3 0 e3)) := up4
  have hlo4 : w.heap.size + 1 + 1 ≤ (w3.alloc (.cells #[.slice X0 n0 d0, .slice X1 (n1 + 1) d1, .slice X2 n2 d2, .slice X3 (n3 + 1) d3] 69)).heap.size := by (try simp only [World.heap_size_alloc, World.heap_size_drew, World.heap_size_setCell]); omega
  have hlo5 : (w3.alloc (.cells #[.slice X0 n0 d0, .slice X1 (n1 + 1) d1, .slice X2 n2 d2, .slice X3 (n3 + 1) d3] 69)).heap.size ≤ mid := hm1
  have SS0 := Lib.hid ((t0.upd hu4 (.inr hlo4)).mono (lo' := w.heap.size) (by omega) (Nat.le_refl _))
  have SS2 := Lib.hid ((t2.upd hu4 (.inr (by omega))).mono (lo' := mid) (hi' := ((((w4.setCell ⟨w.heap.size + 1, 0, none⟩ (.slice Y0 n0 e0)).setCell ⟨w.heap.size + 1, 1, none⟩ (.slice Y1 0 e1)).setCell ⟨w.heap.size + 1, 2, none⟩ (.slice Y2 n2 e2)).setCell ⟨w.heap.size + 1, 3, none⟩ (.slice Y3 0 e3)).heap.size) (Nat.le_refl _) (by rw [size4]; exact Nat.le_refl _))
  have SPA : Hid (∀ r : WriteD, 0 < ((v0 ++ [⟨q, zr ++ [sumM zr]⟩]) : List WriteD).length → ((v0 ++ [⟨q, zr ++ [sumM zr]⟩]) : List WriteD)[((v0 ++ [⟨q, zr ++ [sumM zr]⟩]) : List WriteD).length - 1]? = some r → SepR ((((w4.setCell ⟨w.heap.size + 1, 0, none⟩ (.slice Y0 n0 e0)).setCell ⟨w.heap.size + 1, 1, none⟩ (.slice Y1 0 e1)).setCell ⟨w.heap.size + 1, 2, none⟩ (.slice Y2 n2 e2)).setCell ⟨w.heap.size + 1, 3, none⟩ (.slice Y3 0 e3)) Y0 r.at_.toNat) := Lib.hid (fun r h1 h2 => (sp0 r h1 h2).upd t0 hn0p hu4 (.inl hlo4) hm2)
  have SPB : Hid (∀ r : WriteD, 0 < ((v2 ++ [⟨q, zr ++ [sumM zr]⟩]) : List WriteD).length → ((v2 ++ [⟨q, zr ++ [sumM zr]⟩]) : List WriteD)[((v2 ++ [⟨q, zr ++ [sumM zr]⟩]) : List WriteD).length - 1]? = some r → SepR ((((w4.setCell ⟨w.heap.size + 1, 0, none⟩ (.slice Y0 n0 e0)).setCell ⟨w.heap.size + 1, 1, none⟩ (.slice Y1 0 e1)).setCell ⟨w.heap.size + 1, 2, none⟩ (.slice Y2 n2 e2)).setCell ⟨w.heap.size + 1, 3, none⟩ (.slice Y3 0 e3)) Y2 r.at_.toNat) := Lib.hid (fun r h1 h2 => (sp2 r h1 h2).upd t2 hn2p hu4 (.inl (by omega)) (Nat.le_refl _))
  have hszz : ((((w4.setCell ⟨w.heap.size + 1, 0, none⟩ (.slice Y0 n0 e0)).setCell ⟨w.heap.size + 1, 1, none⟩ (.slice Y1 0 e1)).setCell ⟨w.heap.size + 1, 2, none⟩ (.slice Y2 n2 e2)).setCell ⟨w.heap.size + 1, 3, none⟩ (.slice Y3 0 e3)).heap.size = w4.heap.size := size4
  have hwm : w.heap.size ≤ mid := by omega
  clear t0 t2 b4 P4 sp0 sp2
  go_wp2_with fail
  refine bodyPost_ret (v := .agg #[.slice Y0 n0 e0, .slice Y1 0 e1, .slice Y2 n2 e2, .slice Y3 0 e3]) (by simp [results, Try.results102, go_sem, p0, p1, p2, p3, g0, g1, g2, g3]) rfl ⟨Y0, e0, Y1, e1, Y2, e2, Y3, e3, mid, rfl, SS0.out, SS2.out, hwm, by omega, hg1, hg3, HBZ.out.trans (below4 (by omega)), SPA.out, SPB.out⟩
set_option maxRecDepth 100000 in
set_option maxHeartbeats 4000000 in
theorem newKeptM_any (w : World) : Calls Try.prog 43 #[] w (TwResM w 22 newK [⟨0, zrow ++ [sumM zrow]⟩] 22 newK [⟨0, zrow ++ [sumM zrow]⟩]) := by
  have CN : Hid (∀ W, Calls Try.prog 103 #[.int .i64 22] W (TwRes W 22 (List.replicate 22 []) 0 [] 22 (List.replicate 22 []) 0 [])) := Lib.hid (fun W => newTwo_any 22 W (by omega) (by omega))
  have CH : Hid (∀ W, Calls Try.prog 36 #[.agg #[.int .i64 0, .int .i64 0, .int .i64 0, .slice none 0 0]] W (SlRes W 1 13 zrow)) := Lib.hid (fun W => by
    have h7 := headRow_any 0 0 0 none 0 0 0 0 [] W (Sl.nil _ _ _ _ _ _ (by omega))
    rw [(headRow_ok headOk_zero).1] at h7
    exact h7)
  have hzo : rowOk zrow = true := (headRow_ok headOk_zero).2.1
  have CM : Hid (∀ (W : World) (A0 : Option Addr) (c0 : Nat) (A1 : Option Addr) (c1 : Nat) (A2 : Option Addr) (c2 : Nat) (A3 : Option Addr) (c3 : Nat) (lo hi : Nat) (Ar : Option Addr) (cr lor hir : Nat), SlR W lo hi A0 22 c0 (List.replicate 22 []) → SlW W lo hi A1 0 c1 [] → SlR W lo hi A2 22 c2 (List.replicate 22 []) → SlW W lo hi A3 0 c3 [] → hi ≤ W.heap.size → Sl W lor hir 1 Ar 13 cr zrow → hir ≤ W.heap.size → Calls Try.prog 102 #[.agg #[.slice A0 22 c0, .slice A1 0 c1, .slice A2 22 c2, .slice A3 0 c3], .int .i64 0, .slice Ar 13 cr] W (TwResM W 22 newK [⟨0, zrow ++ [sumM zrow]⟩] 22 newK [⟨0, zrow ++ [sumM zrow]⟩])) := Lib.hid (fun W A0 c0 A1 c1 A2 c2 A3 c3 lo hi Ar cr lor hir h0 h1 h2 h3 hhi hr hhr => mendedAtM_any A0 22 c0 _ A1 0 c1 [] A2 22 c2 _ A3 0 c3 [] lo hi W h0 h1 h2 h3 hhi 0 Ar 13 cr lor hir zrow hr hhr hzo (by omega) (by decide) (by omega) (by omega) twoOk_new)
  have HZB := Lib.hid (Box4.new w (.slice none 0 0) (.slice none 0 0) (.slice none 0 0) (.slice none 0 0) 69)
  have hsz : (w.alloc (.cells #[.slice none 0 0, .slice none 0 0, .slice none 0 0, .slice none 0 0] 69)).heap.size = w.heap.size + 1 := World.heap_size_alloc _ _
  have hb0 : Below w.heap.size w (w.alloc (.cells #[.slice none 0 0, .slice none 0 0, .slice none 0 0, .slice none 0 0] 69)) := (Below.refl _ _).alloc (Nat.le_refl _) _
  go_enter Try.func43, Try.ntmps43
  go_wp2_with fail
  generalize hW0 : w.alloc (.cells #[.slice none 0 0, .slice none 0 0, .slice none 0 0, .slice none 0 0] 69) = W0 at *
  have hs1 := Nat.le_of_eq hsz
  have hs2 := Nat.le_of_eq hsz.symm
  clear hW0 hsz
  (with_reducible refine (CN.out _).mono ?_); rintro _ w1 ⟨A0, c0, A1, c1, A2, c2, A3, c3, rfl, s0, s1, s2, s3, b1⟩
  have y1 := b1.size
  go_wp2_with fail
  (with_reducible refine (CH.out _).mono ?_); rintro _ w2 ⟨Ar, cr, rfl, sr, b2⟩
  have y2 := b2.size
  have CM2 := Lib.hid (CM.out w2 A0 c0 A1 c1 A2 c2 A3 c3 W0.heap.size w1.heap.size Ar cr w1.heap.size w2.heap.size (s0.below b2 (Nat.le_refl _)) (s1.below b2 (Nat.le_refl _)) (s2.below b2 (Nat.le_refl _)) (s3.below b2 (Nat.le_refl _)) y2 sr (Nat.le_refl _))
  have P2 := Lib.hid (b1.trans (b2.mono y1))
  clear s0 s1 s2 s3 b1 sr b2 CM
  go_wp2_with fail
  (with_reducible refine (CM2.out).mono ?_); rintro _ w4 ⟨Y0, e0, Y1, e1, Y2, e2, Y3, e3, mid, rfl, t0, t2, hm1, hm2, hg1, hg3, b3, sp0, sp2⟩
  have y3 := b3.size
  have P3 : Below W0.heap.size W0 w4 := P2.out.trans (b3.mono (by omega))
  obtain ⟨p0, p1, p2, p3, g0, g1, g2, g3⟩ := HZB.out.below P3 (by omega)
  have HBZ := Lib.hid (hb0.trans (P3.mono (by omega)))
  have hn0p : 0 < 22 := by omega
  have hn2p : 0 < 22 := by omega
  have hu4 : Upd (w.heap.size) (w.heap.size + 1) w4 ((((w4.setCell ⟨w.heap.size, 0, none⟩ (.slice Y0 22 e0)).setCell ⟨w.heap.size, 1, none⟩ (.slice Y1 0 e1)).setCell ⟨w.heap.size, 2, none⟩ (.slice Y2 22 e2)).setCell ⟨w.heap.size, 3, none⟩ (.slice Y3 0 e3)) := up4
  have hlo4 : w.heap.size + 1 ≤ w2.heap.size := by (try simp only [World.heap_size_alloc, World.heap_size_drew, World.heap_size_setCell]); omega
  have hlo5 : w2.heap.size ≤ mid := hm1
  have SS0 := Lib.hid ((t0.upd hu4 (.inr hlo4)).mono (lo' := w.heap.size) (by omega) (Nat.le_refl _))
  have SS2 := Lib.hid ((t2.upd hu4 (.inr (by omega))).mono (lo' := mid) (hi' := ((((w4.setCell ⟨w.heap.size, 0, none⟩ (.slice Y0 22 e0)).setCell ⟨w.heap.size, 1, none⟩ (.slice Y1 0 e1)).setCell ⟨w.heap.size, 2, none⟩ (.slice Y2 22 e2)).setCell ⟨w.heap.size, 3, none⟩ (.slice Y3 0 e3)).heap.size) (Nat.le_refl _) (by rw [size4]; exact Nat.le_refl _))
  have SPA : Hid (∀ r : WriteD, 0 < ([⟨0, zrow ++ [sumM zrow]⟩] : List WriteD).length → ([⟨0, zrow ++ [sumM zrow]⟩] : List WriteD)[([⟨0, zrow ++ [sumM zrow]⟩] : List WriteD).length - 1]? = some r → SepR ((((w4.setCell ⟨w.heap.size, 0, none⟩ (.slice Y0 22 e0)).setCell ⟨w.heap.size, 1, none⟩ (.slice Y1 0 e1)).setCell ⟨w.heap.size, 2, none⟩ (.slice Y2 22 e2)).setCell ⟨w.heap.size, 3, none⟩ (.slice Y3 0 e3)) Y0 r.at_.toNat) := Lib.hid (fun r h1 h2 => (sp0 r h1 h2).upd t0 hn0p hu4 (.inl hlo4) hm2)
  have SPB : Hid (∀ r : WriteD, 0 < ([⟨0, zrow ++ [sumM zrow]⟩] : List WriteD).length → ([⟨0, zrow ++ [sumM zrow]⟩] : List WriteD)[([⟨0, zrow ++ [sumM zrow]⟩] : List WriteD).length - 1]? = some r → SepR ((((w4.setCell ⟨w.heap.size, 0, none⟩ (.slice Y0 22 e0)).setCell ⟨w.heap.size, 1, none⟩ (.slice Y1 0 e1)).setCell ⟨w.heap.size, 2, none⟩ (.slice Y2 22 e2)).setCell ⟨w.heap.size, 3, none⟩ (.slice Y3 0 e3)) Y2 r.at_.toNat) := Lib.hid (fun r h1 h2 => (sp2 r h1 h2).upd t2 hn2p hu4 (.inl (by omega)) (Nat.le_refl _))
  have hszz : ((((w4.setCell ⟨w.heap.size, 0, none⟩ (.slice Y0 22 e0)).setCell ⟨w.heap.size, 1, none⟩ (.slice Y1 0 e1)).setCell ⟨w.heap.size, 2, none⟩ (.slice Y2 22 e2)).setCell ⟨w.heap.size, 3, none⟩ (.slice Y3 0 e3)).heap.size = w4.heap.size := size4
  have hwm : w.heap.size ≤ mid := by omega
  clear t0 t2 b3 P3 sp0 sp2
  go_wp2_with fail
  refine bodyPost_ret (v := .agg #[.slice Y0 22 e0, .slice Y1 0 e1, .slice Y2 22 e2, .slice Y3 0 e3]) (by simp [results, Try.results43, go_sem, p0, p1, p2, p3, g0, g1, g2, g3]) rfl ⟨Y0, e0, Y1, e1, Y2, e2, Y3, e3, mid, rfl, SS0.out, SS2.out, hwm, by omega, hg1, hg3, HBZ.out.trans (below4 (Nat.le_refl _)), SPA.out, SPB.out⟩
theorem Sl.own1 {w : World} {lo hi n c g off : Nat} {zs : List Int} (h : Sl w lo hi 1 (some ⟨g, off, none⟩) n c zs) (hn : 0 < n) : Sl w g (g + 1) 1 (some ⟨g, off, none⟩) n c zs := by
  obtain ⟨g', off', e, h1, h2, h3⟩ := h.lie hn
  injection e with e
  injection e with e1 e2
  subst e1 e2
  exact ⟨h.len, h.cap, h.big, fun _ => ⟨g, off, rfl, Nat.le_refl _, Nat.lt_succ_self _, h3⟩⟩
theorem rep_get {m j : Nat} {z : List Int} {r : List Int} (h : (z :: List.replicate m [])[j + 1]? = some r) : r = [] := by
  rw [List.getElem?_cons_succ] at h
  have := List.mem_of_getElem? h
  exact (List.mem_replicate.1 this).2
/-- Behind a mark of the first row. -/
theorem SlR.mark0 {w w' : World} {lo hi c m g0 o0 nj cj : Nat} {A : Option Addr} {z ys : List Int} (h : SlR w lo hi A (m + 1) c (z :: List.replicate m [])) (sp : SepR w A 0) {g off : Nat} (hA : A = some ⟨g, off, none⟩) (p : w.cell? ⟨g, off, none⟩ = some (.slice (some ⟨g0, o0, none⟩) nj cj)) (hn : 0 < nj) (hl : lo ≤ g0) (hh : g0 < hi) (s : Sl w' g0 (g0 + 1) 1 (some ⟨g0, o0, none⟩) nj cj ys) (hu : Upd g0 (g0 + 1) w w') (hgw : g < w.heap.size) : SlR w' lo hi A (m + 1) c (ys :: List.replicate m []) ∧ SepR w' A 0 := by
  subst hA
  have hne : g0 ≠ g := sp g off _ _ _ rfl (by simpa using p) hn ⟨g0, o0, none⟩ rfl
  have hb : w'.heap[g]? = w.heap[g]? := hu.block g hgw (by omega)
  refine ⟨⟨by simp, h.cap, h.big, fun j r hr => ?_⟩, sp.same (fun g9 o9 e9 => by
    injection e9 with e9
    injection e9 with e91 e92
    rw [← e91]
    exact hb)⟩
  cases j with
  | zero =>
    simp only [List.getElem?_cons_zero, Option.some.injEq] at hr
    subst hr
    obtain ⟨g', off', Aj, n', c', e, h1, h2, h3, h4⟩ := h.lie 0 z rfl
    injection e with e
    injection e with e1 e2
    subst e1 e2
    exact ⟨g, off, some ⟨g0, o0, none⟩, nj, cj, rfl, h1, h2, (World.cell?_of_block (w := w) (a := ⟨g, off + 0, none⟩) hb).trans (by simpa using p), s.mono hl (by omega)⟩
  | succ j =>
    obtain rfl := rep_get hr
    obtain ⟨g', off', Aj, n', c', e, h1, h2, h3, h4⟩ := h.lie (j + 1) [] (by rw [List.getElem?_cons_succ] at hr ⊢; exact hr)
    injection e with e
    injection e with e1 e2
    subst e1 e2
    have hn0 : n' = 0 := by have := h4.len; simp at this; omega
    subst hn0
    exact ⟨g, off, Aj, 0, c', rfl, h1, h2, (World.cell?_of_block (w := w) (a := ⟨g, off + (j + 1), none⟩) hb).trans h3, Sl.nil _ _ _ _ _ _ h4.big⟩
theorem upd00 {w w' : World} (h : Upd 0 0 w w') (lo hi : Nat) : Upd lo hi w w' := ⟨h.os, h.tape, h.output, h.size, fun b hb _ => h.block b hb (.inr (Nat.zero_le _))⟩
theorem SepR.upd0 {w w' : World} {A : Option Addr} {j : Nat} (h : SepR w A j) (hu : Upd 0 0 w w') (hb : ∀ g off, A = some ⟨g, off, none⟩ → g < w.heap.size) : SepR w' A j :=
  h.same (fun g off e => hu.block g (hb g off e) (.inr (Nat.zero_le _)))
set_option maxRecDepth 100000 in
set_option maxHeartbeats 2000000 in
theorem markSS_any (A : Option Addr) (c m lo hi : Nat) (z : List Int) (q0 : Int) (w : World) (h : SlR w lo hi A (m + 1) c (z :: List.replicate m [])) (sp : SepR w A 0) (hhi : hi ≤ w.heap.size) (hz0 : 0 < z.length) (hz1 : z.length ≤ 48) (hm : m ≤ 40) (hq0 : 0 ≤ q0) (hq1 : q0 ≤ 1000000) :
    Calls Try.prog 147 #[.slice A (m + 1) c, .int .i64 q0] w (fun e w' => e = .returned (.int .i64 (q0 + (z.length : Int))) ∧ SlR w' lo hi A (m + 1) c (countUp q0 z.length :: List.replicate m []) ∧ SepR w' A 0 ∧ Upd lo hi w w') := by
  have H := Lib.hid h
  have SP := Lib.hid sp
  have hms : IntKind.i64.wrap ((m : Int) + 1) = ((m + 1 : Nat) : Int) := by
    rw [show (m : Int) + 1 = ((m + 1 : Nat) : Int) by omega]
    exact IntWalk.i64_in _ (by omega)
  obtain ⟨M, hM⟩ : ∃ M, M = m + 1 := ⟨_, rfl⟩
  have HM := Lib.hid hM
  have CE : Hid (∀ (W : World) (Aj : Option Addr) (cj : Nat), cj ≤ 9223372036854775807 → Calls Try.prog 20 #[.slice Aj 0 cj, .int .i64 (q0 + (z.length : Int))] W (fun e w' => e = .returned (.int .i64 (q0 + (z.length : Int))) ∧ Upd 0 0 W w')) := Lib.hid (fun W Aj cj hc => by
    refine (markInt64S_any Aj 0 cj 0 0 [] (q0 + (z.length : Int)) W (Sl.nil _ _ _ _ _ _ hc) (by omega) (by omega) (by omega)).mono ?_
    rintro e w' ⟨he, -, hu⟩
    exact ⟨by rw [he]; simp, hu⟩)
  have hM41 : M ≤ 41 := by omega
  have hbA : Hid (∀ g off, A = some ⟨g, off, none⟩ → lo ≤ g ∧ g < hi) := Lib.hid (h.bounds (by omega))
  rw [← hM]
  clear h sp hM hms
  obtain ⟨K, hK⟩ : ∃ K : Int, K = q0 + (z.length : Int) := ⟨_, rfl⟩
  have HK := Lib.hid hK
  rw [← hK] at CE ⊢
  clear hK
  go_enter Try.func147, Try.ntmps147
  go_wp2_with fail
  go_loopw [1, 5] (fun k i wr => (i = .int .i64 0 ∧ k = .int .i64 q0 ∧ wr = w) ∨ (∃ j : Nat, 1 ≤ j ∧ j ≤ M ∧ i = .int .i64 j ∧ k = .int .i64 K ∧ Hid (SlR wr lo hi A (m + 1) c (countUp q0 z.length :: List.replicate m [])) ∧ Hid (SepR wr A 0) ∧ Hid (Upd lo hi w wr))) (fun _ i _ => M - (intOf i).toNat)
  case atStart => exact .inl ⟨rfl, rfl, rfl⟩
  case round =>
    rcases hrel with ⟨rfl, rfl, rfl⟩ | ⟨j, hj1, hj2, rfl, rfl, S, SPr, U⟩
    · obtain ⟨g, off, Aj, nj, cj, rfl, hgl, hg, p, s⟩ := H.out.lie 0 z rfl
      simp only [Nat.add_zero] at p
      have hnj : nj = z.length := by have := s.len; omega
      have hn0 : 0 < nj := by omega
      obtain ⟨g0, o0, rfl, hl0, hh0, -⟩ := s.lie hn0
      have CM := Lib.hid (markInt64S_any _ _ _ _ _ z q0 wr (s.own1 hn0) (by omega) hq0 (by omega))
      have hgw : g < wr.heap.size := by omega
      have F0 := Lib.hid (fun (w' : World) (ys : List Int) (a : Sl w' g0 (g0 + 1) 1 (some ⟨g0, o0, none⟩) nj cj ys) (b : Upd g0 (g0 + 1) wr w') => H.out.mark0 SP.out rfl p hn0 hl0 hh0 a b hgw)
      have HNJ := Lib.hid hnj
      have hM1 : (0 : Int) < (M : Int) := by have := HM.out; omega
      clear s hnj
      go_wp2_with fail
      (with_reducible refine (CM.out).mono ?_); rintro _ w4 ⟨rfl, s4, u4⟩
      have FF := Lib.hid (F0.out w4 _ s4 u4)
      have UU := Lib.hid (u4.mono hl0 (by omega) : Upd lo hi wr w4)
      have hk9 : q0 + ((nj * 1 : Nat) : Int) = K := by rw [HK.out, HNJ.out]; simp
      have hk8 : countUp q0 (nj * 1) = countUp q0 z.length := by rw [HNJ.out, Nat.mul_one]
      rw [hk9]
      rw [hk8] at FF
      clear s4 u4 F0 p
      go_wp2_with fail
      go_roundw
      case rel => exact .inr ⟨1, Nat.le_refl _, by have := HM.out; omega, by go_num, rfl, Lib.hid FF.out.1, Lib.hid FF.out.2, UU⟩
      case measure => simp [intOf]; omega
    · by_cases hlt : j < M
      · obtain ⟨j', rfl⟩ : ∃ j', j = j' + 1 := ⟨j - 1, by omega⟩
        obtain ⟨g, off, Aj, nj, cj, e9, hgl, hg, p, s⟩ := S.out.lie (j' + 1) [] (by rw [List.getElem?_cons_succ, List.getElem?_replicate, if_pos (by have := HM.out; omega)])
        subst e9
        have hnj : nj = 0 := by have := s.len; simp at this; omega
        subst hnj
        have hcj := s.big
        have hyw := U.out.size
        obtain ⟨jj, hjj⟩ : ∃ jj, jj = j' + 1 := ⟨_, rfl⟩
        rw [← hjj] at p hlt ⊢
        have HJ := Lib.hid hjj
        clear s hjj hj1 hj2
        go_wp2_with fail
        (with_reducible refine (CE.out _ _ _ hcj).mono ?_); rintro _ w4 ⟨rfl, u4⟩
        have S4 := Lib.hid (S.out.upd u4 (.inr (Nat.zero_le _)))
        have SP4 := Lib.hid (SPr.out.upd0 u4 (fun g9 o9 e9 => by have := (hbA.out g9 o9 e9).2; omega))
        have U4 := Lib.hid (U.out.trans (upd00 u4 lo hi))
        clear u4 p
        go_wp2_with fail
        go_roundw
        case rel => exact .inr ⟨jj + 1, by omega, hlt, by go_num, rfl, S4, SP4, U4⟩
        case measure => simp [intOf]; omega
      · go_wp2_with fail
        go_ret
        exact ⟨rfl, by rw [HM.out]; exact S.out, SPr.out, U.out⟩
set_option maxRecDepth 100000 in
set_option maxHeartbeats 1000000 in
theorem markWS0_any (A : Option Addr) (c : Nat) (q0 : Int) (w : World) :
    Calls Try.prog 148 #[.slice A 0 c, .int .i64 q0] w (fun e w' => e = .returned (.int .i64 q0) ∧ w = w') := by
  go_enter Try.func148, Try.ntmps148
  go_wp2_with fail
  go_loopw [1, 5] (fun k i wr => i = .int .i64 0 ∧ k = .int .i64 q0 ∧ wr = w) (fun _ i _ => 2 - (intOf i).toNat)
  case atStart => exact ⟨rfl, rfl, rfl⟩
  case round =>
    obtain ⟨rfl, rfl, rfl⟩ := hrel
    go_wp2_with fail
    go_ret
    exact ⟨rfl, rfl⟩
set_option maxRecDepth 100000 in
set_option maxHeartbeats 1000000 in
theorem heldWS0_any (A : Option Addr) (c : Nat) (q0 : Int) (w : World) :
    Calls Try.prog 150 #[.slice A 0 c, .int .i64 q0] w (fun e w' => e = .returned (.int .i64 q0) ∧ w = w') := by
  go_enter Try.func150, Try.ntmps150
  go_wp2_with fail
  go_loopw [1, 5] (fun k i wr => i = .int .i64 0 ∧ k = .int .i64 q0 ∧ wr = w) (fun _ i _ => 2 - (intOf i).toNat)
  case atStart => exact ⟨rfl, rfl, rfl⟩
  case round =>
    obtain ⟨rfl, rfl, rfl⟩ := hrel
    go_wp2_with fail
    go_ret
    exact ⟨rfl, rfl⟩
set_option maxRecDepth 100000 in
set_option maxHeartbeats 2000000 in
theorem heldSS_ok (A : Option Addr) (c m lo hi L : Nat) (q0 : Int) (w : World) (h : SlR w lo hi A (m + 1) c (countUp q0 L :: List.replicate m [])) (hL : L ≤ 48) (hm : m ≤ 40) (hq0 : 0 ≤ q0) (hq1 : q0 ≤ 1000000) :
    Calls Try.prog 149 #[.slice A (m + 1) c, .int .i64 q0] w (fun e w' => e = .returned (.int .i64 (q0 + (L : Int))) ∧ w = w') := by
  have H := Lib.hid h
  obtain ⟨M, hM⟩ : ∃ M, M = m + 1 := ⟨_, rfl⟩
  have HM := Lib.hid hM
  have CE : Hid (∀ (W : World) (Aj : Option Addr) (cj : Nat), cj ≤ 9223372036854775807 → Calls Try.prog 21 #[.slice Aj 0 cj, .int .i64 (q0 + (L : Int))] W (fun e w' => e = .returned (.int .i64 (q0 + (L : Int))) ∧ W = w')) := Lib.hid (fun W Aj cj hc => by
    refine (heldInt64S_ok Aj 0 cj 0 0 (q0 + (L : Int)) W (Sl.nil _ _ _ _ _ _ hc) (by omega) (by omega) (by omega)).mono ?_
    rintro e w' ⟨he, hu⟩
    exact ⟨by rw [he]; simp, hu⟩)
  have hM41 : M ≤ 41 := by omega
  rw [← hM]
  clear h hM
  obtain ⟨K, hK⟩ : ∃ K : Int, K = q0 + (L : Int) := ⟨_, rfl⟩
  have HK := Lib.hid hK
  have hK0 : ¬ K < 0 := by omega
  rw [← hK] at CE ⊢
  clear hK
  go_enter Try.func149, Try.ntmps149
  go_wp2_with fail
  go_loopw [1, 5] (fun k i wr => wr = w ∧ ((i = .int .i64 0 ∧ k = .int .i64 q0) ∨ (∃ j : Nat, 1 ≤ j ∧ j ≤ M ∧ i = .int .i64 j ∧ k = .int .i64 K))) (fun _ i _ => M - (intOf i).toNat)
  case atStart => exact ⟨rfl, .inl ⟨rfl, rfl⟩⟩
  case round =>
    obtain ⟨rfl, hcase⟩ := hrel
    rcases hcase with ⟨rfl, rfl⟩ | ⟨j, hj1, hj2, rfl, rfl⟩
    · obtain ⟨g, off, Aj, nj, cj, rfl, hgl, hg, p, s⟩ := H.out.lie 0 _ rfl
      simp only [Nat.add_zero] at p
      have hnj : nj = L := by have := s.len; rw [countUp_len] at this; omega
      subst hnj
      have CM : Hid (Calls Try.prog 21 #[.slice Aj nj cj, .int .i64 q0] wr (fun e w' => e = .returned (.int .i64 K) ∧ wr = w')) := Lib.hid (by
        refine (heldInt64S_ok Aj nj cj lo hi q0 wr (by rw [Nat.mul_one]; exact s) (by omega) hq0 (by omega)).mono ?_
        rintro e w' ⟨he, hu⟩
        exact ⟨by rw [he, HK.out]; simp, hu⟩)
      have hM1 : (0 : Int) < (M : Int) := by have := HM.out; omega
      clear s
      go_wp2_with fail
      (with_reducible refine (CM.out).mono ?_); rintro _ _ ⟨rfl, rfl⟩
      go_wp2_with fail
      go_roundw
      case rel => exact ⟨by trivial, .inr ⟨1, Nat.le_refl _, by have := HM.out; omega, by go_num, rfl⟩⟩
      case measure => simp [intOf]; omega
    · by_cases hlt : j < M
      · obtain ⟨j', rfl⟩ : ∃ j', j = j' + 1 := ⟨j - 1, by omega⟩
        obtain ⟨g, off, Aj, nj, cj, e9, hgl, hg, p, s⟩ := H.out.lie (j' + 1) [] (by rw [List.getElem?_cons_succ, List.getElem?_replicate, if_pos (by have := HM.out; omega)])
        subst e9
        have hnj : nj = 0 := by have := s.len; simp at this; omega
        subst hnj
        have hcj := s.big
        obtain ⟨jj, hjj⟩ : ∃ jj, jj = j' + 1 := ⟨_, rfl⟩
        rw [← hjj] at p hlt ⊢
        have HJ := Lib.hid hjj
        clear s hjj hj1 hj2
        go_wp2_with fail
        (with_reducible refine (CE.out _ _ _ hcj).mono ?_); rintro _ _ ⟨rfl, rfl⟩
        go_wp2_with fail
        go_roundw
        case rel => exact ⟨by trivial, .inr ⟨jj + 1, by omega, hlt, by go_num, rfl⟩⟩
        case measure => simp [intOf]; omega
      · go_wp2_with fail
        go_ret
        exact ⟨rfl, rfl⟩
set_option maxRecDepth 100000 in
set_option maxHeartbeats 2000000 in
theorem sNewTwo_any (m : Nat) (w : World) (h1 : 1 ≤ m) (h2 : m ≤ 40) :
    Calls Try.prog 101 #[.int .i64 (m : Int)] w (TwRes w m (List.replicate m []) 0 [] m (List.replicate m []) 0 []) := by
  have CN : Hid (∀ W, Calls Try.prog 145 #[.int .i64 (m : Int)] W (DkRes W m (List.replicate m []) 0 [])) := Lib.hid (fun W => sNewDisk_any m W h1 h2)
  have z0 := Box4.new w (.slice none 0 0) (.slice none 0 0) (.slice none 0 0) (.slice none 0 0) 69
  go_enter Try.func101, Try.ntmps101
  go_wp2_with fail
  (with_reducible refine (CN.out _).mono ?_); rintro _ w1 ⟨A0, c0, A1, c1, rfl, s0, s1, b1⟩
  have y1 := b1.size
  simp only [World.heap_size_alloc] at y1
  have z1 := z0.below b1 (by (try simp only [World.heap_size_alloc, World.heap_size_drew, World.heap_size_setCell]); omega)
  go_wp2_with fail
  (with_reducible refine (CN.out _).mono ?_); rintro _ w2 ⟨A2, c2, A3, c3, rfl, s2, s3, b2⟩
  have y2 := b2.size
  obtain ⟨p0, p1, p2, p3, g0, g1, g2, g3⟩ := z1.below b2 (by omega)
  have K0 := Lib.hid ((s0.below b2 (Nat.le_refl _)).mono (lo' := w.heap.size + 1) (hi' := w2.heap.size) (by (try simp only [World.heap_size_alloc, World.heap_size_drew, World.heap_size_setCell]); omega) (by omega))
  have K1 := Lib.hid ((s1.below b2 (Nat.le_refl _)).mono (lo' := w.heap.size + 1) (hi' := w2.heap.size) (by (try simp only [World.heap_size_alloc, World.heap_size_drew, World.heap_size_setCell]); omega) (by omega))
  have K2 := Lib.hid (s2.mono (lo' := w.heap.size + 1) (hi' := w2.heap.size) (by (try simp only [World.heap_size_alloc, World.heap_size_drew, World.heap_size_setCell]); omega) (by omega))
  have K3 := Lib.hid (s3.mono (lo' := w.heap.size + 1) (hi' := w2.heap.size) (by (try simp only [World.heap_size_alloc, World.heap_size_drew, World.heap_size_setCell]); omega) (by omega))
  have HB : Hid (Below w.heap.size w w2) := Lib.hid ((((Below.refl _ _).alloc (Nat.le_refl _) _).trans (b1.mono (by (try simp only [World.heap_size_alloc, World.heap_size_drew, World.heap_size_setCell]); omega))).trans (b2.mono (by omega)))
  clear s0 s1 s2 s3 b1 b2 z0 z1
  go_wp2_with fail
  refine bodyPost_ret (v := .agg #[.slice A0 m c0, .slice A1 0 c1, .slice A2 m c2, .slice A3 0 c3]) (by simp [results, Try.results101, go_sem, p0, p1, p2, p3, g0, g1, g2, g3]) rfl ⟨A0, c0, A1, c1, A2, c2, A3, c3, rfl, (K0.out.upd up4 (.inr (Nat.le_refl _))).mono (by omega) (by rw [size4]; exact Nat.le_refl _), (K1.out.upd up4 (.inr (Nat.le_refl _))).mono (by omega) (by rw [size4]; exact Nat.le_refl _), (K2.out.upd up4 (.inr (Nat.le_refl _))).mono (by omega) (by rw [size4]; exact Nat.le_refl _), (K3.out.upd up4 (.inr (Nat.le_refl _))).mono (by omega) (by rw [size4]; exact Nat.le_refl _), HB.out.trans (below4 (Nat.le_refl _))⟩
set_option maxRecDepth 100000 in
set_option maxHeartbeats 4000000 in
theorem sBothWrote_any (A0 : Option Addr) (n0 c0 : Nat) (k0 : List (List Int)) (A1 : Option Addr) (n1 c1 : Nat) (v0 : List WriteD) (A2 : Option Addr) (n2 c2 : Nat) (k2 : List (List Int)) (A3 : Option Addr) (n3 c3 : Nat) (v2 : List WriteD) (lo hi : Nat) (w : World) (h0 : SlR w lo hi A0 n0 c0 k0) (h1 : SlW w lo hi A1 n1 c1 v0) (h2 : SlR w lo hi A2 n2 c2 k2) (h3 : SlW w lo hi A3 n3 c3 v2) (hhi : hi ≤ w.heap.size) (q : Int) (Ar : Option Addr) (nr cr lor hir : Nat) (zr : List Int) (hr : Sl w lor hir 1 Ar nr cr zr) (hhr : hir ≤ w.heap.size) (hz : rowOk zr = true) (hnr : nr < 48) (hq : btw q 0 ((n0 : Int) - 1) = true) (hn1 : n1 < 60) (hn3 : n3 < 60) (hd : twoOk k0 v0 k2 v2 = true) :
    Calls Try.prog 143 #[.agg #[.slice A0 n0 c0, .slice A1 n1 c1, .slice A2 n2 c2, .slice A3 n3 c3], .int .i64 q, .slice Ar nr cr] w (TwBRes w n0 k0 (n1 + 1) (v0 ++ [⟨q, zr ++ [sumM zr]⟩]) n2 k2 (n3 + 1) (v2 ++ [⟨q, zr ++ [sumM zr]⟩]) true) := by
  obtain ⟨hda, hdb, hkk⟩ : diskOk k0 v0 = true ∧ diskOk k2 v2 = true ∧ k0.length = k2.length := by
    simp only [twoOk, Bool.and_eq_true, decide_eq_true_eq] at hd
    exact hd
  have hq2 : btw q 0 ((n2 : Int) - 1) = true := by rw [← h2.len, ← hkk, h0.len]; exact hq
  have hzo := rowOk_sum hz (by rw [hr.uniq_len]; exact hnr)
  have C1 : Hid (∀ W, Below w.heap.size w W → Calls Try.prog 96 #[.agg #[.slice A0 n0 c0, .slice A1 n1 c1, .slice A2 n2 c2, .slice A3 n3 c3]] W fun e w' => e = .returned (.bool true) ∧ Below W.heap.size W w') := Lib.hid (fun W hW => by
    have h7 := sTwoOk_any A0 n0 c0 k0 A1 n1 c1 v0 A2 n2 c2 k2 A3 n3 c3 v2 lo hi W (h0.below hW hhi) (h1.below hW hhi) (h2.below hW hhi) (h3.below hW hhi) (Nat.le_trans hhi hW.size)
    rw [hd] at h7
    exact h7)
  have CS : Hid (∀ W, Below w.heap.size w W → Calls Try.prog 173 #[.slice Ar nr cr] W (SlRes W 1 (nr + 1) (zr ++ [sumM zr]))) := Lib.hid (fun W hW => sWithSum_any Ar nr cr lor hir zr W (hr.below hW hhr) (Nat.le_trans hhr hW.size) hz hnr)
  have CA : Hid (∀ (W : World) (As : Option Addr) (cs los his : Nat), Below w.heap.size w W → Sl W los his 1 As (nr + 1) cs (zr ++ [sumM zr]) → his ≤ W.heap.size → Calls Try.prog 174 #[.agg #[.slice A0 n0 c0, .slice A1 n1 c1], .int .i64 q, .slice As (nr + 1) cs] W (DkBRes W n0 k0 (n1 + 1) (v0 ++ [⟨q, zr ++ [sumM zr]⟩]) true)) := Lib.hid (fun W As cs los his hW hs hh => sWrote_any A0 n0 c0 k0 A1 n1 c1 v0 lo hi W (h0.below hW hhi) (h1.below hW hhi) (Nat.le_trans hhi hW.size) q As (nr + 1) cs los his _ hs hh hda hq hzo hn1)
  have CB : Hid (∀ (W : World) (As : Option Addr) (cs los his : Nat), Below w.heap.size w W → Sl W los his 1 As (nr + 1) cs (zr ++ [sumM zr]) → his ≤ W.heap.size → Calls Try.prog 174 #[.agg #[.slice A2 n2 c2, .slice A3 n3 c3], .int .i64 q, .slice As (nr + 1) cs] W (DkBRes W n2 k2 (n3 + 1) (v2 ++ [⟨q, zr ++ [sumM zr]⟩]) true)) := Lib.hid (fun W As cs los his hW hs hh => sWrote_any A2 n2 c2 k2 A3 n3 c3 v2 lo hi W (h2.below hW hhi) (h3.below hW hhi) (Nat.le_trans hhi hW.size) q As (nr + 1) cs los his _ hs hh hdb hq2 hzo hn3)
  have T1 : Hid (∀ W, Below (w.heap.size + 2) ((w.alloc (.cells #[.slice A0 n0 c0, .slice A1 n1 c1, .slice A2 n2 c2, .slice A3 n3 c3] 69)).alloc (.cells #[.slice none 0 0, .slice none 0 0, .slice none 0 0, .slice none 0 0] 69)) W → (Box4 W w.heap.size (.slice A0 n0 c0) (.slice A1 n1 c1) (.slice A2 n2 c2) (.slice A3 n3 c3) ∧ Box4 W (w.heap.size + 1) (.slice none 0 0) (.slice none 0 0) (.slice none 0 0) (.slice none 0 0))) := Lib.hid (fun W hW => ⟨((Box4.new w (.slice A0 n0 c0) (.slice A1 n1 c1) (.slice A2 n2 c2) (.slice A3 n3 c3) 69).below (B := w.heap.size + 1) ((Below.refl _ _).alloc (by simp) (.cells #[.slice none 0 0, .slice none 0 0, .slice none 0 0, .slice none 0 0] 69)) (by omega)).below hW (by omega), by
    have h9 := Box4.new (w.alloc (.cells #[.slice A0 n0 c0, .slice A1 n1 c1, .slice A2 n2 c2, .slice A3 n3 c3] 69)) (.slice none 0 0) (.slice none 0 0) (.slice none 0 0) (.slice none 0 0) 69
    rw [World.heap_size_alloc] at h9
    exact h9.below hW (by omega)⟩)
  have hs9 : ((w.alloc (.cells #[.slice A0 n0 c0, .slice A1 n1 c1, .slice A2 n2 c2, .slice A3 n3 c3] 69)).alloc (.cells #[.slice none 0 0, .slice none 0 0, .slice none 0 0, .slice none 0 0] 69)).heap.size = w.heap.size + 2 := by simp only [World.heap_size_alloc]
  have hb9 : Below w.heap.size w ((w.alloc (.cells #[.slice A0 n0 c0, .slice A1 n1 c1, .slice A2 n2 c2, .slice A3 n3 c3] 69)).alloc (.cells #[.slice none 0 0, .slice none 0 0, .slice none 0 0, .slice none 0 0] 69)) := by (repeat' (first | with_reducible exact Below.refl _ _ | with_reducible assumption | with_reducible refine Below.drew ?_ | with_reducible refine Below.alloc ?_ ?_ _ | with_reducible refine Below.setCell ?_ ?_ _ | with_reducible refine Below.trans ?_ (Below.mono (by assumption) ?_) | ((try simp only [World.heap_size_alloc, World.heap_size_drew, World.heap_size_setCell]); omega)))
  have hnl : ¬ ((nr + 1 : Nat) : Int) = 0 := by omega
  have hnl2 : (((nr + 1 : Nat) : Int) == 0) = false := by simpa using hnl
  have hnr0 : nr + 1 ≤ 9223372036854775807 := by omega
  clear h0 h1 h2 h3 hr hd
  go_enter Try.func143, Try.ntmps143
  go_wp2_with fail
  generalize hW0 : ((w.alloc (.cells #[.slice A0 n0 c0, .slice A1 n1 c1, .slice A2 n2 c2, .slice A3 n3 c3] 69)).alloc (.cells #[.slice none 0 0, .slice none 0 0, .slice none 0 0, .slice none 0 0] 69)) = W0 at *
  have hs9a := Nat.le_of_eq hs9
  have hs9b := Nat.le_of_eq hs9.symm
  clear hW0 hs9
  have HB9 := Lib.hid hb9
  (with_reducible refine (C1.out _ hb9).mono ?_); rintro _ w1 ⟨rfl, b1⟩
  have y1 := b1.size
  have HB1 := Lib.hid (HB9.out.trans (b1.mono (by omega)))
  have P1 := Lib.hid b1
  clear b1 hb9
  go_wp2_with fail
  (with_reducible refine (CS.out _ HB1.out).mono ?_); rintro _ wS ⟨As, cs, rfl, sS, bS⟩
  have yS := bS.size
  have P2 := Lib.hid (P1.out.trans (bS.mono y1))
  have SS := Lib.hid sS
  obtain ⟨⟨q0, q1, q2, q3, -, -, -, -⟩, -⟩ := T1.out _ (P2.out.mono (by omega))
  clear sS bS
  go_wp2_with fail
  (with_reducible refine (CA.out _ _ _ _ _ (HB9.out.trans (P2.out.mono (by omega))) SS.out (Nat.le_refl _)).mono ?_); rintro _ w2 ⟨X0, d0, X1, d1, rfl, s0, s1, b2⟩
  have y2 := b2.size
  have hal : Below w2.heap.size w2 (w2.alloc (.cells #[.slice X0 n0 d0, .slice X1 (n1 + 1) d1] 67)) := (Below.refl _ _).alloc (Nat.le_refl _) _
  have hsl : (w2.alloc (.cells #[.slice X0 n0 d0, .slice X1 (n1 + 1) d1] 67)).heap.size = w2.heap.size + 1 := World.heap_size_alloc _ _
  have K9 := Lib.hid (Box2.new w2 (.slice X0 n0 d0) (.slice X1 (n1 + 1) d1) 67)
  have P3 := Lib.hid (P2.out.trans ((b2.trans (hal.mono y2)).mono (by omega)))
  have SS3 := Lib.hid (SS.out.below (b2.trans (hal.mono y2)) (Nat.le_refl _))
  have R0 := Lib.hid (s0.below hal (Nat.le_refl _))
  have R1 := Lib.hid (s1.below hal (Nat.le_refl _))
  clear s0 s1 b2 q0 q1 q2 q3 SS hal
  obtain ⟨⟨q0, q1, q2, q3, -, -, -, -⟩, -⟩ := T1.out _ (P3.out.mono (by omega))
  go_upto_region 5 with fail
  generalize hW2 : (w2.alloc (.cells #[.slice X0 n0 d0, .slice X1 (n1 + 1) d1] 67)) = W2 at *
  have hsla := Nat.le_of_eq hsl
  have hslb := Nat.le_of_eq hsl.symm
  clear hW2 hsl
  go_wp2_with fail
  (with_reducible refine (CB.out _ _ _ _ _ (HB9.out.trans (P3.out.mono (by omega))) SS3.out (by omega)).mono ?_); rintro _ w3 ⟨X2, d2, X3, d3, rfl, s2, s3, b3⟩
  have y3 := b3.size
  have hal : Below w3.heap.size w3 (w3.alloc (.cells #[.slice X2 n2 d2, .slice X3 (n3 + 1) d3] 67)) := (Below.refl _ _).alloc (Nat.le_refl _) _
  have hsl : (w3.alloc (.cells #[.slice X2 n2 d2, .slice X3 (n3 + 1) d3] 67)).heap.size = w3.heap.size + 1 := World.heap_size_alloc _ _
  have hbal := b3.trans (hal.mono y3)
  have KX := Lib.hid (K9.out.below hbal (by omega))
  have KY := Lib.hid (Box2.new w3 (.slice X2 n2 d2) (.slice X3 (n3 + 1) d3) 67)
  have P4 := Lib.hid (P3.out.trans (hbal.mono (by omega)))
  have SS0 := Lib.hid ((R0.out.below hbal (by omega)).mono (lo' := w.heap.size + 2) (by omega) (Nat.le_refl _))
  have SS1 := Lib.hid ((R1.out.below hbal (by omega)).mono (lo' := w.heap.size + 2) (by omega) (Nat.le_refl _))
  have SS2 := Lib.hid ((s2.below hal (Nat.le_refl _)).mono (lo' := w.heap.size + 2) (by omega) (Nat.le_refl _))
  have SS3 := Lib.hid ((s3.below hal (Nat.le_refl _)).mono (lo' := w.heap.size + 2) (by omega) (Nat.le_refl _))
  clear s2 s3 b3 q0 q1 q2 q3 hal hbal R0 R1
  go_upto_region 6 with fail
  generalize hW3 : (w3.alloc (.cells #[.slice X2 n2 d2, .slice X3 (n3 + 1) d3] 67)) = W3 at *
  have hslc := Nat.le_of_eq hsl
  have hsld := Nat.le_of_eq hsl.symm
  clear hW3 hsl
  obtain ⟨p0, p1, p2, p3, g0, g1, g2, g3⟩ := (T1.out _ (P4.out.mono (by omega))).2
  obtain ⟨u0, u1, -, -⟩ := KX.out
  obtain ⟨m0, m1, -, -⟩ := KY.out
  have HBZ := Lib.hid (HB9.out.trans (P4.out.mono (by omega)))
  go_wp2_with fail
  refine bodyPost_ret (v := .tuple #[.agg #[.slice X0 n0 d0, .slice X1 (n1 + 1) d1, .slice X2 n2 d2, .slice X3 (n3 + 1) d3], .bool true]) (by simp [results, Try.results143, go_sem, p0, p1, p2, p3, g0, g1, g2, g3]) rfl ⟨X0, d0, X1, d1, X2, d2, X3, d3, rfl, SS0.out.at4 (b := w.heap.size + 1) (x := (.slice X0 n0 d0)) (y := (.slice X1 (n1 + 1) d1)) (z := (.slice X2 n2 d2)) (u := (.slice X3 (n3 + 1) d3)) (by omega) (by omega) (by omega), SS1.out.at4 (b := w.heap.size + 1) (x := (.slice X0 n0 d0)) (y := (.slice X1 (n1 + 1) d1)) (z := (.slice X2 n2 d2)) (u := (.slice X3 (n3 + 1) d3)) (by omega) (by omega) (by omega), SS2.out.at4 (b := w.heap.size + 1) (x := (.slice X0 n0 d0)) (y := (.slice X1 (n1 + 1) d1)) (z := (.slice X2 n2 d2)) (u := (.slice X3 (n3 + 1) d3)) (by omega) (by omega) (by omega), SS3.out.at4 (b := w.heap.size + 1) (x := (.slice X0 n0 d0)) (y := (.slice X1 (n1 + 1) d1)) (z := (.slice X2 n2 d2)) (u := (.slice X3 (n3 + 1) d3)) (by omega) (by omega) (by omega), HBZ.out.trans (below4 (by omega))⟩
set_option maxRecDepth 100000 in
set_option maxHeartbeats 4000000 in
theorem sBothSynced1_any (A0 : Option Addr) (n0 c0 : Nat) (k0 : List (List Int)) (A1 : Option Addr) (c1 : Nat) (A2 : Option Addr) (n2 c2 : Nat) (k2 : List (List Int)) (A3 : Option Addr) (c3 : Nat) (q : Nat) (zr : List Int) (lo hi : Nat) (w : World) (h0 : SlR w lo hi A0 n0 c0 k0) (h1 : SlW w lo hi A1 1 c1 [⟨(q : Int), zr⟩]) (h2 : SlR w lo hi A2 n2 c2 k2) (h3 : SlW w lo hi A3 1 c3 [⟨(q : Int), zr⟩]) (hhi : hi ≤ w.heap.size) (hd : twoOk k0 [⟨(q : Int), zr⟩] k2 [⟨(q : Int), zr⟩] = true) (hq : q < n0) :
    Calls Try.prog 144 #[.agg #[.slice A0 n0 c0, .slice A1 1 c1, .slice A2 n2 c2, .slice A3 1 c3]] w (TwRes w n0 (k0.set q zr) 0 [] n2 (k2.set q zr) 0 []) := by
  obtain ⟨hda, hdb, hkk⟩ : diskOk k0 [⟨(q : Int), zr⟩] = true ∧ diskOk k2 [⟨(q : Int), zr⟩] = true ∧ k0.length = k2.length := by
    simp only [twoOk, Bool.and_eq_true, decide_eq_true_eq] at hd
    exact hd
  have hq2 : q < n2 := by rw [← h2.len, ← hkk, h0.len]; exact hq
  have C1 : Hid (∀ W, Below w.heap.size w W → Calls Try.prog 96 #[.agg #[.slice A0 n0 c0, .slice A1 1 c1, .slice A2 n2 c2, .slice A3 1 c3]] W fun e w' => e = .returned (.bool true) ∧ Below W.heap.size W w') := Lib.hid (fun W hW => by
    have h7 := sTwoOk_any A0 n0 c0 k0 A1 1 c1 _ A2 n2 c2 k2 A3 1 c3 _ lo hi W (h0.below hW hhi) (h1.below hW hhi) (h2.below hW hhi) (h3.below hW hhi) (Nat.le_trans hhi hW.size)
    rw [hd] at h7
    exact h7)
  have CA : Hid (∀ W, Below w.heap.size w W → Calls Try.prog 176 #[.agg #[.slice A0 n0 c0, .slice A1 1 c1]] W (DkRes W n0 (k0.set q zr) 0 [])) := Lib.hid (fun W hW => sSynced1_any A0 n0 c0 k0 A1 c1 q zr lo hi W (h0.below hW hhi) (h1.below hW hhi) (Nat.le_trans hhi hW.size) hda hq)
  have CB : Hid (∀ W, Below w.heap.size w W → Calls Try.prog 176 #[.agg #[.slice A2 n2 c2, .slice A3 1 c3]] W (DkRes W n2 (k2.set q zr) 0 [])) := Lib.hid (fun W hW => sSynced1_any A2 n2 c2 k2 A3 c3 q zr lo hi W (h2.below hW hhi) (h3.below hW hhi) (Nat.le_trans hhi hW.size) hdb hq2)
  have T1 : Hid (∀ W, Below (w.heap.size + 2) ((w.alloc (.cells #[.slice A0 n0 c0, .slice A1 1 c1, .slice A2 n2 c2, .slice A3 1 c3] 69)).alloc (.cells #[.slice none 0 0, .slice none 0 0, .slice none 0 0, .slice none 0 0] 69)) W → (Box4 W w.heap.size (.slice A0 n0 c0) (.slice A1 1 c1) (.slice A2 n2 c2) (.slice A3 1 c3) ∧ Box4 W (w.heap.size + 1) (.slice none 0 0) (.slice none 0 0) (.slice none 0 0) (.slice none 0 0))) := Lib.hid (fun W hW => ⟨((Box4.new w (.slice A0 n0 c0) (.slice A1 1 c1) (.slice A2 n2 c2) (.slice A3 1 c3) 69).below (B := w.heap.size + 1) ((Below.refl _ _).alloc (by simp) (.cells #[.slice none 0 0, .slice none 0 0, .slice none 0 0, .slice none 0 0] 69)) (by omega)).below hW (by omega), by
    have h9 := Box4.new (w.alloc (.cells #[.slice A0 n0 c0, .slice A1 1 c1, .slice A2 n2 c2, .slice A3 1 c3] 69)) (.slice none 0 0) (.slice none 0 0) (.slice none 0 0) (.slice none 0 0) 69
    rw [World.heap_size_alloc] at h9
    exact h9.below hW (by omega)⟩)
  have hs9 : ((w.alloc (.cells #[.slice A0 n0 c0, .slice A1 1 c1, .slice A2 n2 c2, .slice A3 1 c3] 69)).alloc (.cells #[.slice none 0 0, .slice none 0 0, .slice none 0 0, .slice none 0 0] 69)).heap.size = w.heap.size + 2 := by simp only [World.heap_size_alloc]
  have hb9 : Below w.heap.size w ((w.alloc (.cells #[.slice A0 n0 c0, .slice A1 1 c1, .slice A2 n2 c2, .slice A3 1 c3] 69)).alloc (.cells #[.slice none 0 0, .slice none 0 0, .slice none 0 0, .slice none 0 0] 69)) := by (repeat' (first | with_reducible exact Below.refl _ _ | with_reducible assumption | with_reducible refine Below.drew ?_ | with_reducible refine Below.alloc ?_ ?_ _ | with_reducible refine Below.setCell ?_ ?_ _ | with_reducible refine Below.trans ?_ (Below.mono (by assumption) ?_) | ((try simp only [World.heap_size_alloc, World.heap_size_drew, World.heap_size_setCell]); omega)))
  clear h0 h1 h2 h3 hd hq hq2 hkk
  go_enter Try.func144, Try.ntmps144
  go_wp2_with fail
  generalize hW0 : ((w.alloc (.cells #[.slice A0 n0 c0, .slice A1 1 c1, .slice A2 n2 c2, .slice A3 1 c3] 69)).alloc (.cells #[.slice none 0 0, .slice none 0 0, .slice none 0 0, .slice none 0 0] 69)) = W0 at *
  have hs9a := Nat.le_of_eq hs9
  have hs9b := Nat.le_of_eq hs9.symm
  clear hW0 hs9
  have HB9 := Lib.hid hb9
  (with_reducible refine (C1.out _ hb9).mono ?_); rintro _ w1 ⟨rfl, b1⟩
  have y1 := b1.size
  have P1 := Lib.hid b1
  have HB9 := Lib.hid (HB9.out.trans (b1.mono (by omega)))
  have T1 : Hid (∀ W, Below w1.heap.size w1 W → (Box4 W w.heap.size (.slice A0 n0 c0) (.slice A1 1 c1) (.slice A2 n2 c2) (.slice A3 1 c3) ∧ Box4 W (w.heap.size + 1) (.slice none 0 0) (.slice none 0 0) (.slice none 0 0) (.slice none 0 0))) := Lib.hid (fun W hW => T1.out W ((P1.out.trans (hW.mono y1)).mono (by omega)))
  clear b1 hb9 P1
  have hw1 : w.heap.size + 2 ≤ w1.heap.size := by omega
  generalize w1 = W0 at *
  obtain ⟨⟨q0, q1, q2, q3, -, -, -, -⟩, p0, p1, p2, p3, g0, g1, g2, g3⟩ := T1.out _ (Below.refl _ _)
  go_upto_region 3 with fail
  go_region_law (first | (go_simp; go_at_call 176; (with_reducible refine (CA.out _ (HB9.out.trans (Below.mono (B := W0.heap.size) (by (repeat' (first | with_reducible exact Below.refl _ _ | with_reducible assumption | with_reducible refine Below.drew ?_ | with_reducible refine Below.alloc ?_ ?_ _ | with_reducible refine Below.setCell ?_ ?_ _ | with_reducible refine Below.trans ?_ (Below.mono (by assumption) ?_) | ((try simp only [World.heap_size_alloc, World.heap_size_drew, World.heap_size_setCell]); omega)))) (by omega)))).mono ?_); rintro _ wa ⟨X0, d0, X1, d1, rfl, s0, s1, ba⟩; have ha : Below W0.heap.size W0 wa := (by (repeat' (first | with_reducible exact Below.refl _ _ | with_reducible assumption | with_reducible refine Below.drew ?_ | with_reducible refine Below.alloc ?_ ?_ _ | with_reducible refine Below.setCell ?_ ?_ _ | with_reducible refine Below.trans ?_ (Below.mono (by assumption) ?_) | ((try simp only [World.heap_size_alloc, World.heap_size_drew, World.heap_size_setCell]); omega)))); have ya := ha.size; (try have za : wb.heap.size ≤ wa.heap.size := ba.size); (try have SS2 := Lib.hid (SS2.out.below ba (Nat.le_refl _))); (try have SS3 := Lib.hid (SS3.out.below ba (Nat.le_refl _))); have SS0 := Lib.hid (s0.mono (lo' := w.heap.size + 2) (by (try simp only [World.heap_size_alloc, World.heap_size_drew, World.heap_size_setCell]); omega) (Nat.le_refl _)); have SS1 := Lib.hid (s1.mono (lo' := w.heap.size + 2) (by (try simp only [World.heap_size_alloc, World.heap_size_drew, World.heap_size_setCell]); omega) (Nat.le_refl _)); clear q0 q1 q2 q3 p0 p1 p2 p3 g0 g1 g2 g3; obtain ⟨⟨q0, q1, q2, q3, -, -, -, -⟩, p0, p1, p2, p3, g0, g1, g2, g3⟩ := T1.out _ (ha.mono (by omega)); have HBZ := Lib.hid (HB9.out.trans (ha.mono (by omega))); clear s0 s1 ba) | (go_simp; go_at_call 176; (with_reducible refine (CB.out _ (HB9.out.trans (Below.mono (B := W0.heap.size) (by (repeat' (first | with_reducible exact Below.refl _ _ | with_reducible assumption | with_reducible refine Below.drew ?_ | with_reducible refine Below.alloc ?_ ?_ _ | with_reducible refine Below.setCell ?_ ?_ _ | with_reducible refine Below.trans ?_ (Below.mono (by assumption) ?_) | ((try simp only [World.heap_size_alloc, World.heap_size_drew, World.heap_size_setCell]); omega)))) (by omega)))).mono ?_); rintro _ wb ⟨X2, d2, X3, d3, rfl, s2, s3, bb⟩; have hb : Below W0.heap.size W0 wb := (by (repeat' (first | with_reducible exact Below.refl _ _ | with_reducible assumption | with_reducible refine Below.drew ?_ | with_reducible refine Below.alloc ?_ ?_ _ | with_reducible refine Below.setCell ?_ ?_ _ | with_reducible refine Below.trans ?_ (Below.mono (by assumption) ?_) | ((try simp only [World.heap_size_alloc, World.heap_size_drew, World.heap_size_setCell]); omega)))); have yb := hb.size; (try have zb : wa.heap.size ≤ wb.heap.size := bb.size); (try have SS0 := Lib.hid (SS0.out.below bb (Nat.le_refl _))); (try have SS1 := Lib.hid (SS1.out.below bb (Nat.le_refl _))); have SS2 := Lib.hid (s2.mono (lo' := w.heap.size + 2) (by (try simp only [World.heap_size_alloc, World.heap_size_drew, World.heap_size_setCell]); omega) (Nat.le_refl _)); have SS3 := Lib.hid (s3.mono (lo' := w.heap.size + 2) (by (try simp only [World.heap_size_alloc, World.heap_size_drew, World.heap_size_setCell]); omega) (Nat.le_refl _)); clear q0 q1 q2 q3 p0 p1 p2 p3 g0 g1 g2 g3; obtain ⟨⟨q0, q1, q2, q3, -, -, -, -⟩, p0, p1, p2, p3, g0, g1, g2, g3⟩ := T1.out _ (hb.mono (by omega)); have HBZ := Lib.hid (HB9.out.trans (hb.mono (by omega))); clear s2 s3 bb))
  all_goals
    go_wp2_with fail
    refine bodyPost_ret (v := .agg #[.slice X0 n0 d0, .slice X1 0 d1, .slice X2 n2 d2, .slice X3 0 d3]) (by simp [results, Try.results144, go_sem, p0, p1, p2, p3, g0, g1, g2, g3]) rfl ⟨X0, d0, X1, d1, X2, d2, X3, d3, rfl, SS0.out.at4 (b := w.heap.size + 1) (x := (.slice X0 n0 d0)) (y := (.slice X1 0 d1)) (z := (.slice X2 n2 d2)) (u := (.slice X3 0 d3)) (by omega) (by omega) (by first | exact Nat.le_refl _ | omega), SS1.out.at4 (b := w.heap.size + 1) (x := (.slice X0 n0 d0)) (y := (.slice X1 0 d1)) (z := (.slice X2 n2 d2)) (u := (.slice X3 0 d3)) (by omega) (by omega) (by first | exact Nat.le_refl _ | omega), SS2.out.at4 (b := w.heap.size + 1) (x := (.slice X0 n0 d0)) (y := (.slice X1 0 d1)) (z := (.slice X2 n2 d2)) (u := (.slice X3 0 d3)) (by omega) (by omega) (by first | exact Nat.le_refl _ | omega), SS3.out.at4 (b := w.heap.size + 1) (x := (.slice X0 n0 d0)) (y := (.slice X1 0 d1)) (z := (.slice X2 n2 d2)) (u := (.slice X3 0 d3)) (by omega) (by omega) (by first | exact Nat.le_refl _ | omega), HBZ.out.trans (below4 (by omega))⟩
set_option maxRecDepth 100000 in
set_option maxHeartbeats 4000000 in
theorem sMendedAt0_any (A0 : Option Addr) (n0 c0 : Nat) (k0 : List (List Int)) (A1 : Option Addr) (c1 : Nat) (A2 : Option Addr) (n2 c2 : Nat) (k2 : List (List Int)) (A3 : Option Addr) (c3 : Nat) (lo hi : Nat) (w : World) (h0 : SlR w lo hi A0 n0 c0 k0) (h1 : SlW w lo hi A1 0 c1 []) (h2 : SlR w lo hi A2 n2 c2 k2) (h3 : SlW w lo hi A3 0 c3 []) (hhi : hi ≤ w.heap.size) (q : Nat) (Ar : Option Addr) (nr cr lor hir : Nat) (zr : List Int) (hr : Sl w lor hir 1 Ar nr cr zr) (hhr : hir ≤ w.heap.size) (hz : rowOk zr = true) (hnr : nr < 48) (hq : q < n0) (hd : twoOk k0 [] k2 [] = true) :
    Calls Try.prog 100 #[.agg #[.slice A0 n0 c0, .slice A1 0 c1, .slice A2 n2 c2, .slice A3 0 c3], .int .i64 (q : Int), .slice Ar nr cr] w (TwRes w n0 (k0.set q (zr ++ [sumM zr])) 0 [] n2 (k2.set q (zr ++ [sumM zr])) 0 []) := by
  have hqb : btw (q : Int) 0 ((n0 : Int) - 1) = true := btw_iff.2 ⟨by omega, by omega⟩
  have hd3 : twoOk k0 [⟨(q : Int), zr ++ [sumM zr]⟩] k2 [⟨(q : Int), zr ++ [sumM zr]⟩] = true := twoOk_snoc (v0 := []) (v2 := []) hd h0.len h2.len rfl rfl (rowOk_sum hz (by rw [hr.uniq_len]; exact hnr)) hqb (by simp) (by simp)
  have CBW : Hid (∀ W, Below w.heap.size w W → Calls Try.prog 143 #[.agg #[.slice A0 n0 c0, .slice A1 0 c1, .slice A2 n2 c2, .slice A3 0 c3], .int .i64 (q : Int), .slice Ar nr cr] W (TwBRes W n0 k0 1 [⟨(q : Int), zr ++ [sumM zr]⟩] n2 k2 1 [⟨(q : Int), zr ++ [sumM zr]⟩] true)) := Lib.hid (fun W hW => sBothWrote_any A0 n0 c0 k0 A1 0 c1 [] A2 n2 c2 k2 A3 0 c3 [] lo hi W (h0.below hW hhi) (h1.below hW hhi) (h2.below hW hhi) (h3.below hW hhi) (Nat.le_trans hhi hW.size) (q : Int) Ar nr cr lor hir zr (hr.below hW hhr) (Nat.le_trans hhr hW.size) hz hnr hqb (by omega) (by omega) hd)
  have T1 : Hid (∀ W, Below (w.heap.size + 2) ((w.alloc (.cells #[.slice A0 n0 c0, .slice A1 0 c1, .slice A2 n2 c2, .slice A3 0 c3] 69)).alloc (.cells #[.slice none 0 0, .slice none 0 0, .slice none 0 0, .slice none 0 0] 69)) W → (Box4 W w.heap.size (.slice A0 n0 c0) (.slice A1 0 c1) (.slice A2 n2 c2) (.slice A3 0 c3) ∧ Box4 W (w.heap.size + 1) (.slice none 0 0) (.slice none 0 0) (.slice none 0 0) (.slice none 0 0))) := Lib.hid (fun W hW => ⟨((Box4.new w (.slice A0 n0 c0) (.slice A1 0 c1) (.slice A2 n2 c2) (.slice A3 0 c3) 69).below (B := w.heap.size + 1) ((Below.refl _ _).alloc (by simp) (.cells #[.slice none 0 0, .slice none 0 0, .slice none 0 0, .slice none 0 0] 69)) (by omega)).below hW (by omega), by
    have h9 := Box4.new (w.alloc (.cells #[.slice A0 n0 c0, .slice A1 0 c1, .slice A2 n2 c2, .slice A3 0 c3] 69)) (.slice none 0 0) (.slice none 0 0) (.slice none 0 0) (.slice none 0 0) 69
    rw [World.heap_size_alloc] at h9
    exact h9.below hW (by omega)⟩)
  have hs9 : ((w.alloc (.cells #[.slice A0 n0 c0, .slice A1 0 c1, .slice A2 n2 c2, .slice A3 0 c3] 69)).alloc (.cells #[.slice none 0 0, .slice none 0 0, .slice none 0 0, .slice none 0 0] 69)).heap.size = w.heap.size + 2 := by simp only [World.heap_size_alloc]
  have hb9 : Below w.heap.size w ((w.alloc (.cells #[.slice A0 n0 c0, .slice A1 0 c1, .slice A2 n2 c2, .slice A3 0 c3] 69)).alloc (.cells #[.slice none 0 0, .slice none 0 0, .slice none 0 0, .slice none 0 0] 69)) := by (repeat' (first | with_reducible exact Below.refl _ _ | with_reducible assumption | with_reducible refine Below.drew ?_ | with_reducible refine Below.alloc ?_ ?_ _ | with_reducible refine Below.setCell ?_ ?_ _ | with_reducible refine Below.trans ?_ (Below.mono (by assumption) ?_) | ((try simp only [World.heap_size_alloc, World.heap_size_drew, World.heap_size_setCell]); omega)))
  generalize zr ++ [sumM zr] = Z at *
  have HQ := Lib.hid hq
  clear h0 h1 h2 h3 hr hq
  go_enter Try.func100, Try.ntmps100
  go_wp2_with fail
  generalize hW0 : ((w.alloc (.cells #[.slice A0 n0 c0, .slice A1 0 c1, .slice A2 n2 c2, .slice A3 0 c3] 69)).alloc (.cells #[.slice none 0 0, .slice none 0 0, .slice none 0 0, .slice none 0 0] 69)) = W0 at *
  have hs9a := Nat.le_of_eq hs9
  have hs9b := Nat.le_of_eq hs9.symm
  clear hW0 hs9
  (with_reducible refine (CBW.out _ hb9).mono ?_); rintro _ w3 ⟨X0, d0, X1, d1, X2, d2, X3, d3, rfl, s0, s1, s2, s3, b3⟩
  have y3 := b3.size
  have hst : Below w3.heap.size w3 (w3.alloc (.cells #[.slice X0 n0 d0, .slice X1 1 d1, .slice X2 n2 d2, .slice X3 1 d3] 69)) := (Below.refl _ _).alloc (Nat.le_refl _) _
  have P3 := Lib.hid (b3.trans (hst.mono y3) : Below W0.heap.size W0 (w3.alloc (.cells #[.slice X0 n0 d0, .slice X1 1 d1, .slice X2 n2 d2, .slice X3 1 d3] 69)))
  have CSY : Hid (∀ W, Below w3.heap.size w3 W → Calls Try.prog 144 #[.agg #[.slice X0 n0 d0, .slice X1 1 d1, .slice X2 n2 d2, .slice X3 1 d3]] W (TwRes W n0 (k0.set q Z) 0 [] n2 (k2.set q Z) 0 [])) := Lib.hid (fun W hW => sBothSynced1_any X0 n0 d0 k0 X1 d1 X2 n2 d2 k2 X3 d3 q Z W0.heap.size w3.heap.size W (s0.below hW (Nat.le_refl _)) (s1.below hW (Nat.le_refl _)) (s2.below hW (Nat.le_refl _)) (s3.below hW (Nat.le_refl _)) hW.size hd3 HQ.out)
  have HST := Lib.hid hst
  clear s0 s1 s2 s3 b3 hst
  go_wp2_with fail
  (with_reducible refine (CSY.out _ HST.out).mono ?_); rintro _ w4 ⟨Y0, e0, Y1, e1, Y2, e2, Y3, e3, rfl, t0, t1, t2, t3, b4⟩
  have y4 := b4.size
  have P4 : Below (w.heap.size + 2) W0 w4 := (P3.out.mono (by omega)).trans (b4.mono (by simp only [World.heap_size_alloc] at *; omega))
  obtain ⟨p0, p1, p2, p3, g0, g1, g2, g3⟩ := (T1.out _ P4).2
  have HBZ := Lib.hid (hb9.trans (P4.mono (by omega)))
  have hy4 : w3.heap.size ≤ w4.heap.size := by simp only [World.heap_size_alloc] at y4; omega
  have SS0 := Lib.hid (t0.mono (lo' := w.heap.size + 2) (by simp only [World.heap_size_alloc]; omega) (Nat.le_refl _))
  have SS1 := Lib.hid (t1.mono (lo' := w.heap.size + 2) (by simp only [World.heap_size_alloc]; omega) (Nat.le_refl _))
  have SS2 := Lib.hid (t2.mono (lo' := w.heap.size + 2) (by simp only [World.heap_size_alloc]; omega) (Nat.le_refl _))
  have SS3 := Lib.hid (t3.mono (lo' := w.heap.size + 2) (by simp only [World.heap_size_alloc]; omega) (Nat.le_refl _))
  clear t0 t1 t2 t3 b4 P4 y4
  go_wp2_with fail
  refine bodyPost_ret (v := .agg #[.slice Y0 n0 e0, .slice Y1 0 e1, .slice Y2 n2 e2, .slice Y3 0 e3]) (by simp [results, Try.results100, go_sem, p0, p1, p2, p3, g0, g1, g2, g3]) rfl ⟨Y0, e0, Y1, e1, Y2, e2, Y3, e3, rfl, SS0.out.at4 (b := w.heap.size + 1) (x := (.slice Y0 n0 e0)) (y := (.slice Y1 0 e1)) (z := (.slice Y2 n2 e2)) (u := (.slice Y3 0 e3)) (by omega) (by omega) (Nat.le_refl _), SS1.out.at4 (b := w.heap.size + 1) (x := (.slice Y0 n0 e0)) (y := (.slice Y1 0 e1)) (z := (.slice Y2 n2 e2)) (u := (.slice Y3 0 e3)) (by omega) (by omega) (Nat.le_refl _), SS2.out.at4 (b := w.heap.size + 1) (x := (.slice Y0 n0 e0)) (y := (.slice Y1 0 e1)) (z := (.slice Y2 n2 e2)) (u := (.slice Y3 0 e3)) (by omega) (by omega) (Nat.le_refl _), SS3.out.at4 (b := w.heap.size + 1) (x := (.slice Y0 n0 e0)) (y := (.slice Y1 0 e1)) (z := (.slice Y2 n2 e2)) (u := (.slice Y3 0 e3)) (by omega) (by omega) (Nat.le_refl _), HBZ.out.trans (below4 (by omega))⟩
set_option maxRecDepth 100000 in
set_option maxHeartbeats 4000000 in
theorem sNewKept_any (w : World) : Calls Try.prog 42 #[] w (TwRes w 22 newK 0 [] 22 newK 0 []) := by
  have CN : Hid (∀ W, Calls Try.prog 101 #[.int .i64 22] W (TwRes W 22 (List.replicate 22 []) 0 [] 22 (List.replicate 22 []) 0 [])) := Lib.hid (fun W => sNewTwo_any 22 W (by omega) (by omega))
  have CH : Hid (∀ W, Calls Try.prog 35 #[.agg #[.int .i64 0, .int .i64 0, .int .i64 0, .slice none 0 0]] W (SlRes W 1 13 zrow)) := Lib.hid (fun W => by
    have h7 := sHeadRow_any 0 0 0 none 0 0 0 0 [] W (Sl.nil _ _ _ _ _ _ (by omega))
    rw [(headRow_ok headOk_zero).1] at h7
    exact h7)
  have hzo : rowOk zrow = true := (headRow_ok headOk_zero).2.1
  have CM : Hid (∀ (W : World) (A0 : Option Addr) (c0 : Nat) (A1 : Option Addr) (c1 : Nat) (A2 : Option Addr) (c2 : Nat) (A3 : Option Addr) (c3 : Nat) (lo hi : Nat) (Ar : Option Addr) (cr lor hir : Nat), SlR W lo hi A0 22 c0 (List.replicate 22 []) → SlW W lo hi A1 0 c1 [] → SlR W lo hi A2 22 c2 (List.replicate 22 []) → SlW W lo hi A3 0 c3 [] → hi ≤ W.heap.size → Sl W lor hir 1 Ar 13 cr zrow → hir ≤ W.heap.size → Calls Try.prog 100 #[.agg #[.slice A0 22 c0, .slice A1 0 c1, .slice A2 22 c2, .slice A3 0 c3], .int .i64 0, .slice Ar 13 cr] W (TwRes W 22 newK 0 [] 22 newK 0 [])) := Lib.hid (fun W A0 c0 A1 c1 A2 c2 A3 c3 lo hi Ar cr lor hir h0 h1 h2 h3 hhi hr hhr => sMendedAt0_any A0 22 c0 _ A1 c1 A2 22 c2 _ A3 c3 lo hi W h0 h1 h2 h3 hhi 0 Ar 13 cr lor hir zrow hr hhr hzo (by omega) (by omega) twoOk_new)
  have HZB := Lib.hid (Box4.new w (.slice none 0 0) (.slice none 0 0) (.slice none 0 0) (.slice none 0 0) 69)
  have hsz : (w.alloc (.cells #[.slice none 0 0, .slice none 0 0, .slice none 0 0, .slice none 0 0] 69)).heap.size = w.heap.size + 1 := World.heap_size_alloc _ _
  have hb0 : Below w.heap.size w (w.alloc (.cells #[.slice none 0 0, .slice none 0 0, .slice none 0 0, .slice none 0 0] 69)) := (Below.refl _ _).alloc (Nat.le_refl _) _
  go_enter Try.func42, Try.ntmps42
  go_wp2_with fail
  generalize hW0 : w.alloc (.cells #[.slice none 0 0, .slice none 0 0, .slice none 0 0, .slice none 0 0] 69) = W0 at *
  have hs1 := Nat.le_of_eq hsz
  have hs2 := Nat.le_of_eq hsz.symm
  clear hW0 hsz
  (with_reducible refine (CN.out _).mono ?_); rintro _ w1 ⟨A0, c0, A1, c1, A2, c2, A3, c3, rfl, s0, s1, s2, s3, b1⟩
  have y1 := b1.size
  go_wp2_with fail
  (with_reducible refine (CH.out _).mono ?_); rintro _ w2 ⟨Ar, cr, rfl, sr, b2⟩
  have y2 := b2.size
  have CM2 := Lib.hid (CM.out w2 A0 c0 A1 c1 A2 c2 A3 c3 W0.heap.size w1.heap.size Ar cr w1.heap.size w2.heap.size (s0.below b2 (Nat.le_refl _)) (s1.below b2 (Nat.le_refl _)) (s2.below b2 (Nat.le_refl _)) (s3.below b2 (Nat.le_refl _)) y2 sr (Nat.le_refl _))
  have P2 := Lib.hid (b1.trans (b2.mono y1))
  clear s0 s1 s2 s3 b1 sr b2 CM
  go_wp2_with fail
  (with_reducible refine (CM2.out).mono ?_); rintro _ w3 ⟨X0, d0, X1, d1, X2, d2, X3, d3, rfl, t0, t1, t2, t3, b3⟩
  have y3 := b3.size
  have P3 : Below W0.heap.size W0 w3 := P2.out.trans (b3.mono (by omega))
  obtain ⟨p0, p1, p2, p3, g0, g1, g2, g3⟩ := HZB.out.below P3 (by omega)
  have HBZ := Lib.hid (hb0.trans (P3.mono (by omega)))
  have SS0 := Lib.hid t0
  have SS1 := Lib.hid t1
  have SS2 := Lib.hid t2
  have SS3 := Lib.hid t3
  clear t0 t1 t2 t3 b3 P3
  go_wp2_with fail
  refine bodyPost_ret (v := .agg #[.slice X0 22 d0, .slice X1 0 d1, .slice X2 22 d2, .slice X3 0 d3]) (by simp [results, Try.results42, go_sem, p0, p1, p2, p3, g0, g1, g2, g3]) rfl ⟨X0, d0, X1, d1, X2, d2, X3, d3, rfl, SS0.out.at4 (b := w.heap.size) (x := (.slice X0 22 d0)) (y := (.slice X1 0 d1)) (z := (.slice X2 22 d2)) (u := (.slice X3 0 d3)) (by omega) (by omega) (Nat.le_refl _), SS1.out.at4 (b := w.heap.size) (x := (.slice X0 22 d0)) (y := (.slice X1 0 d1)) (z := (.slice X2 22 d2)) (u := (.slice X3 0 d3)) (by omega) (by omega) (Nat.le_refl _), SS2.out.at4 (b := w.heap.size) (x := (.slice X0 22 d0)) (y := (.slice X1 0 d1)) (z := (.slice X2 22 d2)) (u := (.slice X3 0 d3)) (by omega) (by omega) (Nat.le_refl _), SS3.out.at4 (b := w.heap.size) (x := (.slice X0 22 d0)) (y := (.slice X1 0 d1)) (z := (.slice X2 22 d2)) (u := (.slice X3 0 d3)) (by omega) (by omega) (Nat.le_refl _), HBZ.out.trans (below4 (by omega))⟩
set_option maxRecDepth 100000 in
set_option maxHeartbeats 2000000 in
theorem markDisk_any (A : Option Addr) (c m lo hi : Nat) (z : List Int) (B : Option Addr) (d : Nat) (q0 : Int) (w : World) (h : SlR w lo hi A (m + 1) c (z :: List.replicate m [])) (sp : SepR w A 0) (hhi : hi ≤ w.heap.size) (hz0 : 0 < z.length) (hz1 : z.length ≤ 48) (hm : m ≤ 40) (hq0 : 0 ≤ q0) (hq1 : q0 ≤ 1000000) :
    Calls Try.prog 104 #[.agg #[.slice A (m + 1) c, .slice B 0 d], .int .i64 q0] w (fun e w' => e = .returned (.int .i64 (q0 + (z.length : Int))) ∧ SlR w' lo hi A (m + 1) c (countUp q0 z.length :: List.replicate m []) ∧ SepR w' A 0 ∧ Upd lo hi w w') := by
  have hal : Below w.heap.size w (w.alloc (.cells #[.slice A (m + 1) c, .slice B 0 d] 67)) := (Below.refl _ _).alloc (Nat.le_refl _) _
  have hsz : (w.alloc (.cells #[.slice A (m + 1) c, .slice B 0 d] 67)).heap.size = w.heap.size + 1 := World.heap_size_alloc _ _
  have CM : Hid (Calls Try.prog 147 #[.slice A (m + 1) c, .int .i64 q0] (w.alloc (.cells #[.slice A (m + 1) c, .slice B 0 d] 67)) (fun e w' => e = .returned (.int .i64 (q0 + (z.length : Int))) ∧ SlR w' lo hi A (m + 1) c (countUp q0 z.length :: List.replicate m []) ∧ SepR w' A 0 ∧ Upd lo hi (w.alloc (.cells #[.slice A (m + 1) c, .slice B 0 d] 67)) w')) := Lib.hid (markSS_any A c m lo hi z q0 _ (h.below hal hhi) (sp.below h (by omega) hal hhi) (by rw [hsz]; omega) hz0 hz1 hm hq0 hq1)
  have BX := Lib.hid (Box2.new w (.slice A (m + 1) c) (.slice B 0 d) 67)
  have HAL := Lib.hid hal
  obtain ⟨K, hK⟩ : ∃ K : Int, K = q0 + (z.length : Int) := ⟨_, rfl⟩
  have HK := Lib.hid hK
  have hK0 : ¬ K < 0 := by omega
  rw [← hK] at CM
  clear h sp hal hsz hK
  go_enter Try.func104, Try.ntmps104
  go_wp2_with fail
  (with_reducible refine (CM.out).mono ?_); rintro _ w2 ⟨rfl, s2, sp2, u2⟩
  obtain ⟨e0, e1, -, -⟩ := BX.out.upd u2 (.inr (by omega))
  have S2 := Lib.hid s2
  have SP2 := Lib.hid sp2
  have U2 := Lib.hid ((Upd.of_below (lo := lo) (hi := hi) HAL.out).trans u2)
  clear s2 sp2 u2
  go_wp2_with fail
  (with_reducible refine (markWS0_any B d K _).mono ?_); rintro _ _ ⟨rfl, rfl⟩
  go_wp2_with fail
  go_ret
  exact ⟨by rw [← HK.out]; rfl, S2.out, SP2.out, U2.out⟩
set_option maxRecDepth 100000 in
set_option maxHeartbeats 2000000 in
theorem heldDisk_ok (A : Option Addr) (c m lo hi : Nat) (L : Nat) (B : Option Addr) (d : Nat) (q0 : Int) (w : World) (h : SlR w lo hi A (m + 1) c (countUp q0 L :: List.replicate m [])) (hhi : hi ≤ w.heap.size) (hL : L ≤ 48) (hm : m ≤ 40) (hq0 : 0 ≤ q0) (hq1 : q0 ≤ 1000000) :
    Calls Try.prog 105 #[.agg #[.slice A (m + 1) c, .slice B 0 d], .int .i64 q0] w (fun e w' => e = .returned (.int .i64 (q0 + (L : Int))) ∧ Below w.heap.size w w') := by
  have hal : Below w.heap.size w (w.alloc (.cells #[.slice A (m + 1) c, .slice B 0 d] 67)) := (Below.refl _ _).alloc (Nat.le_refl _) _
  have hsz : (w.alloc (.cells #[.slice A (m + 1) c, .slice B 0 d] 67)).heap.size = w.heap.size + 1 := World.heap_size_alloc _ _
  have CM : Hid (Calls Try.prog 149 #[.slice A (m + 1) c, .int .i64 q0] (w.alloc (.cells #[.slice A (m + 1) c, .slice B 0 d] 67)) (fun e w' => e = .returned (.int .i64 (q0 + (L : Int))) ∧ (w.alloc (.cells #[.slice A (m + 1) c, .slice B 0 d] 67)) = w')) := Lib.hid (heldSS_ok A c m lo hi L q0 _ (h.below hal hhi) hL hm hq0 hq1)
  have BX := Lib.hid (Box2.new w (.slice A (m + 1) c) (.slice B 0 d) 67)
  have HAL := Lib.hid hal
  obtain ⟨K, hK⟩ : ∃ K : Int, K = q0 + (L : Int) := ⟨_, rfl⟩
  have HK := Lib.hid hK
  have hK0 : ¬ K < 0 := by omega
  rw [← hK] at CM
  clear h  hal hsz hK
  go_enter Try.func105, Try.ntmps105
  go_wp2_with fail
  (with_reducible refine (CM.out).mono ?_); rintro _ _ ⟨rfl, rfl⟩
  obtain ⟨e0, e1, -, -⟩ := BX.out
  go_wp2_with fail
  (with_reducible refine (heldWS0_any B d K _).mono ?_); rintro _ _ ⟨rfl, rfl⟩
  go_wp2_with fail
  go_ret
  exact ⟨by rw [← HK.out]; rfl, HAL.out⟩
set_option maxRecDepth 100000 in
set_option maxHeartbeats 2000000 in
theorem markTwo_any (A : Option Addr) (c m lo mid hi : Nat) (z : List Int) (B : Option Addr) (d : Nat) (A2 : Option Addr) (c2 : Nat) (B2 : Option Addr) (d2 : Nat) (q0 : Int) (w : World) (h : SlR w lo mid A (m + 1) c (z :: List.replicate m [])) (h2 : SlR w mid hi A2 (m + 1) c2 (z :: List.replicate m [])) (sp : SepR w A 0) (sp2 : SepR w A2 0) (hlm : lo ≤ mid) (hmh : mid ≤ hi) (hhi : hi ≤ w.heap.size) (hz0 : 0 < z.length) (hz1 : z.length ≤ 48) (hm : m ≤ 40) (hq0 : 0 ≤ q0) (hq1 : q0 ≤ 1000) :
    Calls Try.prog 44 #[.agg #[.slice A (m + 1) c, .slice B 0 d, .slice A2 (m + 1) c2, .slice B2 0 d2], .int .i64 q0] w (fun e w' => e = .returned (.int .i64 (q0 + (z.length : Int) + (z.length : Int))) ∧ SlR w' lo mid A (m + 1) c (countUp q0 z.length :: List.replicate m []) ∧ SlR w' mid hi A2 (m + 1) c2 (countUp (q0 + (z.length : Int)) z.length :: List.replicate m []) ∧ Upd lo hi w w') := by
  have hal : Below w.heap.size w (w.alloc (.cells #[.slice A (m + 1) c, .slice B 0 d, .slice A2 (m + 1) c2, .slice B2 0 d2] 69)) := (Below.refl _ _).alloc (Nat.le_refl _) _
  have hsz : (w.alloc (.cells #[.slice A (m + 1) c, .slice B 0 d, .slice A2 (m + 1) c2, .slice B2 0 d2] 69)).heap.size = w.heap.size + 1 := World.heap_size_alloc _ _
  have C1 : Hid (Calls Try.prog 104 #[.agg #[.slice A (m + 1) c, .slice B 0 d], .int .i64 q0] (w.alloc (.cells #[.slice A (m + 1) c, .slice B 0 d, .slice A2 (m + 1) c2, .slice B2 0 d2] 69)) (fun e w' => e = .returned (.int .i64 (q0 + (z.length : Int))) ∧ SlR w' lo mid A (m + 1) c (countUp q0 z.length :: List.replicate m []) ∧ SepR w' A 0 ∧ Upd lo mid (w.alloc (.cells #[.slice A (m + 1) c, .slice B 0 d, .slice A2 (m + 1) c2, .slice B2 0 d2] 69)) w')) := Lib.hid (markDisk_any A c m lo mid z B d q0 _ (h.below hal (by omega)) (sp.below h (by omega) hal (by omega)) (by rw [hsz]; omega) hz0 hz1 hm hq0 (by omega))
  have C2 : Hid (∀ W, Upd lo mid (w.alloc (.cells #[.slice A (m + 1) c, .slice B 0 d, .slice A2 (m + 1) c2, .slice B2 0 d2] 69)) W → Calls Try.prog 104 #[.agg #[.slice A2 (m + 1) c2, .slice B2 0 d2], .int .i64 (q0 + (z.length : Int))] W (fun e w' => e = .returned (.int .i64 (q0 + (z.length : Int) + (z.length : Int))) ∧ SlR w' mid hi A2 (m + 1) c2 (countUp (q0 + (z.length : Int)) z.length :: List.replicate m []) ∧ SepR w' A2 0 ∧ Upd mid hi W w')) := Lib.hid (fun W hW => markDisk_any A2 c2 m mid hi z B2 d2 _ W ((h2.below hal hhi).upd hW (.inr (Nat.le_refl _))) ((sp2.below h2 (by omega) hal hhi).upd (h2.below hal hhi) (by omega) hW (.inl (Nat.le_refl _)) (by rw [hsz]; omega)) (by have := hW.size; omega) hz0 hz1 hm (by omega) (by omega))
  have BX := Lib.hid (Box4.new w (.slice A (m + 1) c) (.slice B 0 d) (.slice A2 (m + 1) c2) (.slice B2 0 d2) 69)
  have HAL := Lib.hid hal
  obtain ⟨K, hK⟩ : ∃ K : Int, K = q0 + (z.length : Int) := ⟨_, rfl⟩
  have HK := Lib.hid hK
  have hK0 : ¬ K < 0 := by omega
  rw [← hK] at C1 C2
  obtain ⟨K2, hK2⟩ : ∃ K2 : Int, K2 = K + (z.length : Int) := ⟨_, rfl⟩
  have HK2 := Lib.hid hK2
  have hK20 : ¬ K2 < 0 := by omega
  rw [← hK2] at C2
  clear h h2 sp sp2 hK hK2 hal
  go_enter Try.func44, Try.ntmps44
  go_wp2_with fail
  generalize hW0 : w.alloc (.cells #[.slice A (m + 1) c, .slice B 0 d, .slice A2 (m + 1) c2, .slice B2 0 d2] 69) = W0 at *
  have hsza := Nat.le_of_eq hsz
  have hszb := Nat.le_of_eq hsz.symm
  clear hW0 hsz
  (with_reducible refine (C1.out).mono ?_); rintro _ w2 ⟨rfl, s2, -, u2⟩
  obtain ⟨e0, e1, e2, e3, -, -, -, -⟩ := BX.out.upd u2 (.inr (by omega))
  have S2 := Lib.hid s2
  have U2 := Lib.hid u2
  have C3 := Lib.hid (C2.out _ u2)
  clear s2 u2
  go_wp2_with fail
  (with_reducible refine (C3.out).mono ?_); rintro _ w3 ⟨rfl, s3, -, u3⟩
  have S3 := Lib.hid s3
  have R2 := Lib.hid (S2.out.upd u3 (.inl (Nat.le_refl _)))
  have U3 := Lib.hid (((Upd.of_below (lo := lo) (hi := hi) HAL.out).trans (U2.out.mono (Nat.le_refl _) hmh)).trans (u3.mono hlm (Nat.le_refl _)))
  clear s3 u3
  go_wp2_with fail
  go_ret
  exact ⟨by rw [← HK.out, ← HK2.out]; rfl, R2.out, by rw [← HK.out]; exact S3.out, U3.out⟩
set_option maxRecDepth 100000 in
set_option maxHeartbeats 2000000 in
theorem heldTwo_ok (A : Option Addr) (c m lo mid hi : Nat) (L : Nat) (B : Option Addr) (d : Nat) (A2 : Option Addr) (c2 : Nat) (B2 : Option Addr) (d2 : Nat) (q0 : Int) (w : World) (h : SlR w lo mid A (m + 1) c (countUp q0 L :: List.replicate m [])) (h2 : SlR w mid hi A2 (m + 1) c2 (countUp (q0 + (L : Int)) L :: List.replicate m [])) (hlm : lo ≤ mid) (hmh : mid ≤ hi) (hhi : hi ≤ w.heap.size) (hL : L ≤ 48) (hm : m ≤ 40) (hq0 : 0 ≤ q0) (hq1 : q0 ≤ 1000) :
    Calls Try.prog 45 #[.agg #[.slice A (m + 1) c, .slice B 0 d, .slice A2 (m + 1) c2, .slice B2 0 d2], .int .i64 q0] w (fun e w' => e = .returned (.int .i64 (q0 + (L : Int) + (L : Int))) ∧ Below w.heap.size w w') := by
  have hal : Below w.heap.size w (w.alloc (.cells #[.slice A (m + 1) c, .slice B 0 d, .slice A2 (m + 1) c2, .slice B2 0 d2] 69)) := (Below.refl _ _).alloc (Nat.le_refl _) _
  have hsz : (w.alloc (.cells #[.slice A (m + 1) c, .slice B 0 d, .slice A2 (m + 1) c2, .slice B2 0 d2] 69)).heap.size = w.heap.size + 1 := World.heap_size_alloc _ _
  have C1 : Hid (Calls Try.prog 105 #[.agg #[.slice A (m + 1) c, .slice B 0 d], .int .i64 q0] (w.alloc (.cells #[.slice A (m + 1) c, .slice B 0 d, .slice A2 (m + 1) c2, .slice B2 0 d2] 69)) (fun e w' => e = .returned (.int .i64 (q0 + (L : Int))) ∧ Below (w.alloc (.cells #[.slice A (m + 1) c, .slice B 0 d, .slice A2 (m + 1) c2, .slice B2 0 d2] 69)).heap.size (w.alloc (.cells #[.slice A (m + 1) c, .slice B 0 d, .slice A2 (m + 1) c2, .slice B2 0 d2] 69)) w')) := Lib.hid (heldDisk_ok A c m lo mid L B d q0 _ (h.below hal (by omega)) (by rw [hsz]; omega) hL hm hq0 (by omega))
  have C2 : Hid (∀ W, Below (w.alloc (.cells #[.slice A (m + 1) c, .slice B 0 d, .slice A2 (m + 1) c2, .slice B2 0 d2] 69)).heap.size (w.alloc (.cells #[.slice A (m + 1) c, .slice B 0 d, .slice A2 (m + 1) c2, .slice B2 0 d2] 69)) W → Calls Try.prog 105 #[.agg #[.slice A2 (m + 1) c2, .slice B2 0 d2], .int .i64 (q0 + (L : Int))] W (fun e w' => e = .returned (.int .i64 (q0 + (L : Int) + (L : Int))) ∧ Below W.heap.size W w')) := Lib.hid (fun W hW => heldDisk_ok A2 c2 m mid hi L B2 d2 _ W ((h2.below hal hhi).below hW (by omega)) (by have := hW.size; omega) hL hm (by omega) (by omega))
  have BX := Lib.hid (Box4.new w (.slice A (m + 1) c) (.slice B 0 d) (.slice A2 (m + 1) c2) (.slice B2 0 d2) 69)
  have HAL := Lib.hid hal
  obtain ⟨K, hK⟩ : ∃ K : Int, K = q0 + (L : Int) := ⟨_, rfl⟩
  have HK := Lib.hid hK
  have hK0 : ¬ K < 0 := by omega
  rw [← hK] at C1 C2
  obtain ⟨K2, hK2⟩ : ∃ K2 : Int, K2 = K + (L : Int) := ⟨_, rfl⟩
  have HK2 := Lib.hid hK2
  have hK20 : ¬ K2 < 0 := by omega
  rw [← hK2] at C2
  clear h h2  hK hK2 hal
  go_enter Try.func45, Try.ntmps45
  go_wp2_with fail
  generalize hW0 : w.alloc (.cells #[.slice A (m + 1) c, .slice B 0 d, .slice A2 (m + 1) c2, .slice B2 0 d2] 69) = W0 at *
  have hsza := Nat.le_of_eq hsz
  have hszb := Nat.le_of_eq hsz.symm
  clear hW0 hsz
  (with_reducible refine (C1.out).mono ?_); rintro _ w2 ⟨rfl, b2⟩
  obtain ⟨e0, e1, e2, e3, -, -, -, -⟩ := BX.out.below b2 (by omega)
  have B9 := Lib.hid b2
  have C3 := Lib.hid (C2.out _ b2)
  have hz2 := b2.size
  clear b2
  go_wp2_with fail
  (with_reducible refine (C3.out).mono ?_); rintro _ w3 ⟨rfl, b3⟩
  have U3 := Lib.hid ((HAL.out.trans (B9.out.mono (by omega))).trans (b3.mono (by omega)))
  clear b3
  go_wp2_with fail
  go_ret
  exact ⟨by rw [← HK.out, ← HK2.out]; rfl, U3.out⟩
namespace NewKept
theorem newK_rows : newK = (zrow ++ [sumM zrow]) :: List.replicate 21 [] := rfl
theorem zrow_len : (zrow ++ [sumM zrow]).length = 14 := by
  rw [List.length_append, show zrow.length = 13 from (headRow_ok headOk_zero).1]
  rfl
set_option maxRecDepth 100000 in
set_option maxHeartbeats 4000000 in
theorem law_any (w : World) : Calls Try.prog 10 #[] w fun e w' => e = .returned (.bool true) ∧ Below w.heap.size w w' := by
  have CSP : Hid (∀ W, Calls Try.prog 42 #[] W (TwRes W 22 newK 0 [] 22 newK 0 [])) := Lib.hid (fun W => sNewKept_any W)
  have CIM : Hid (∀ W, Calls Try.prog 43 #[] W (TwResM W 22 newK [⟨0, zrow ++ [sumM zrow]⟩] 22 newK [⟨0, zrow ++ [sumM zrow]⟩])) := Lib.hid (fun W => newKeptM_any W)
  have CMK : Hid (∀ (W : World) (A : Option Addr) (c lo mid hi : Nat) (B : Option Addr) (d : Nat) (A2 : Option Addr) (c2 : Nat) (B2 : Option Addr) (d2 : Nat), SlR W lo mid A 22 c newK → SlR W mid hi A2 22 c2 newK → SepR W A 0 → SepR W A2 0 → lo ≤ mid → mid ≤ hi → hi ≤ W.heap.size → Calls Try.prog 44 #[.agg #[.slice A 22 c, .slice B 0 d, .slice A2 22 c2, .slice B2 0 d2], .int .i64 1] W (fun e w' => e = .returned (.int .i64 29) ∧ SlR w' lo mid A 22 c (countUp 1 14 :: List.replicate 21 []) ∧ SlR w' mid hi A2 22 c2 (countUp (1 + ((14 : Nat) : Int)) 14 :: List.replicate 21 []) ∧ Upd lo hi W w')) := Lib.hid (fun W A c lo mid hi B d A2 c2 B2 d2 h h2 sp sp2 a b e9 => by
    rw [newK_rows] at h h2
    have h7 := markTwo_any A c 21 lo mid hi _ B d A2 c2 B2 d2 1 W h h2 sp sp2 a b e9 (by rw [zrow_len]; omega) (by rw [zrow_len]; omega) (by omega) (by omega) (by omega)
    rw [zrow_len] at h7
    exact h7)
  have CHD : Hid (∀ (W : World) (A : Option Addr) (c lo mid hi : Nat) (B : Option Addr) (d : Nat) (A2 : Option Addr) (c2 : Nat) (B2 : Option Addr) (d2 : Nat), SlR W lo mid A 22 c (countUp 1 14 :: List.replicate 21 []) → SlR W mid hi A2 22 c2 (countUp (1 + ((14 : Nat) : Int)) 14 :: List.replicate 21 []) → lo ≤ mid → mid ≤ hi → hi ≤ W.heap.size → Calls Try.prog 45 #[.agg #[.slice A 22 c, .slice B 0 d, .slice A2 22 c2, .slice B2 0 d2], .int .i64 1] W (fun e w' => e = .returned (.int .i64 29) ∧ Below W.heap.size W w')) := Lib.hid (fun W A c lo mid hi B d A2 c2 B2 d2 h h2 a b e9 => heldTwo_ok A c 21 lo mid hi 14 B d A2 c2 B2 d2 1 W h h2 a b e9 (by omega) (by omega) (by omega) (by omega))
  go_enter Try.func10, Try.ntmps10
  go_wp2_with fail
  (with_reducible refine (CSP.out _).mono ?_); rintro _ w1 ⟨A0, c0, A1, c1, A2, c2, A3, c3, rfl, a0, a1, a2, a3, b1⟩
  have y1 := b1.size
  have hal : Below w1.heap.size w1 (w1.alloc (.cells #[.slice A0 22 c0, .slice A1 0 c1, .slice A2 22 c2, .slice A3 0 c3] 69)) := (Below.refl _ _).alloc (Nat.le_refl _) _
  have hsz : (w1.alloc (.cells #[.slice A0 22 c0, .slice A1 0 c1, .slice A2 22 c2, .slice A3 0 c3] 69)).heap.size = w1.heap.size + 1 := World.heap_size_alloc _ _
  have K1 := Lib.hid (Box4.new w1 (.slice A0 22 c0) (.slice A1 0 c1) (.slice A2 22 c2) (.slice A3 0 c3) 69)
  have R0 := Lib.hid (a0.below hal (Nat.le_refl _))
  have R1 := Lib.hid (a1.below hal (Nat.le_refl _))
  have R2 := Lib.hid (a2.below hal (Nat.le_refl _))
  have R3 := Lib.hid (a3.below hal (Nat.le_refl _))
  have HB1 := Lib.hid (b1.trans (hal.mono y1))
  clear a0 a1 a2 a3 b1 hal
  go_upto_region 2 with fail
  generalize hW1 : w1.alloc (.cells #[.slice A0 22 c0, .slice A1 0 c1, .slice A2 22 c2, .slice A3 0 c3] 69) = W1 at *
  have hsza := Nat.le_of_eq hsz
  have hszb := Nat.le_of_eq hsz.symm
  clear hW1 hsz
  go_wp2_with fail
  (with_reducible refine (CIM.out _).mono ?_); rintro _ w2 ⟨G0, d0, G1, d1, G2, d2, G3, d3, mid, rfl, g0, g2, hm1, hm2, hg1, hg3, b2, sp0, sp2⟩
  have y2 := b2.size
  have hal : Below w2.heap.size w2 (w2.alloc (.cells #[.slice G0 22 d0, .slice G1 0 d1, .slice G2 22 d2, .slice G3 0 d3] 69)) := (Below.refl _ _).alloc (Nat.le_refl _) _
  have hsz : (w2.alloc (.cells #[.slice G0 22 d0, .slice G1 0 d1, .slice G2 22 d2, .slice G3 0 d3] 69)).heap.size = w2.heap.size + 1 := World.heap_size_alloc _ _
  have hb2 := b2.trans (hal.mono y2)
  have K2 := Lib.hid (Box4.new w2 (.slice G0 22 d0) (.slice G1 0 d1) (.slice G2 22 d2) (.slice G3 0 d3) 69)
  have P0 := Lib.hid (g0.below hal hm2)
  have P2 := Lib.hid (g2.below hal (Nat.le_refl _))
  have Q0 := Lib.hid ((sp0 ⟨0, zrow ++ [sumM zrow]⟩ (by simp) rfl).below g0 (by omega) hal hm2)
  have Q2 := Lib.hid ((sp2 ⟨0, zrow ++ [sumM zrow]⟩ (by simp) rfl).below g2 (by omega) hal (Nat.le_refl _))
  have K1 := Lib.hid (K1.out.below hb2 (by omega))
  have R0 := Lib.hid (R0.out.below hb2 (by omega))
  have R1 := Lib.hid (R1.out.below hb2 (by omega))
  have R2 := Lib.hid (R2.out.below hb2 (by omega))
  have R3 := Lib.hid (R3.out.below hb2 (by omega))
  have HB2 := Lib.hid (HB1.out.trans (hb2.mono (by omega)))
  clear g0 g2 b2 sp0 sp2 hal hb2 HB1
  go_upto_region 3 with fail
  generalize hW2 : w2.alloc (.cells #[.slice G0 22 d0, .slice G1 0 d1, .slice G2 22 d2, .slice G3 0 d3] 69) = W2 at *
  have hszc := Nat.le_of_eq hsz
  have hszd := Nat.le_of_eq hsz.symm
  clear hW2 hsz
  obtain ⟨t0, t1, t2, t3, -, -, -, -⟩ := K1.out
  obtain ⟨u0, u1, u2, u3, -, -, -, -⟩ := K2.out
  have CE := Lib.hid (eqTwo_same G0 A0 22 d0 c0 _ _ _ _ newK G1 A1 0 d1 c1 0 0 _ _ [] G2 A2 22 d2 c2 _ _ _ _ newK G3 A3 0 d3 c3 0 0 _ _ [] W2 P0.out R0.out (SlW.nil _ _ _ _ _ hg1) R1.out P2.out R2.out (SlW.nil _ _ _ _ _ hg3) R3.out (by omega) (by omega) (by omega) (by omega) (by omega) (by omega) (by omega) (by omega))
  go_wp2_with fail
  (with_reducible refine (CE.out).mono ?_); rintro _ w3 ⟨rfl, b3⟩
  have y3 := b3.size
  have K1 := Lib.hid (K1.out.below b3 (by omega))
  have K2 := Lib.hid (K2.out.below b3 (by omega))
  have R0 := Lib.hid (R0.out.below b3 (by omega))
  have R1 := Lib.hid (R1.out.below b3 (by omega))
  have R2 := Lib.hid (R2.out.below b3 (by omega))
  have R3 := Lib.hid (R3.out.below b3 (by omega))
  have CM := Lib.hid (CMK.out w3 G0 d0 W1.heap.size mid w2.heap.size G1 d1 G2 d2 G3 d3 (P0.out.below b3 (by omega)) (P2.out.below b3 (by omega)) (Q0.out.below P0.out (by omega) b3 (by omega)) (Q2.out.below P2.out (by omega) b3 (by omega)) hm1 hm2 (by omega))
  have HB3 := Lib.hid (HB2.out.trans (b3.mono (by have := HB2.out.size; omega)))
  clear t0 t1 t2 t3 u0 u1 u2 u3 b3 CE P0 P2 Q0 Q2 HB2
  obtain ⟨u0, u1, u2, u3, -, -, -, -⟩ := K2.out
  go_wp2_with fail
  (with_reducible refine (CM.out).mono ?_); rintro _ w4 ⟨rfl, p0, p2, m4⟩
  have y4 := m4.size
  have K1 := Lib.hid (K1.out.upd m4 (.inl (by omega)))
  have K2 := Lib.hid (K2.out.upd m4 (.inr (by omega)))
  have R0 := Lib.hid (R0.out.upd m4 (.inl (by omega)))
  have R1 := Lib.hid (R1.out.upd m4 (.inl (by omega)))
  have R2 := Lib.hid (R2.out.upd m4 (.inl (by omega)))
  have R3 := Lib.hid (R3.out.upd m4 (.inl (by omega)))
  have HB4 := Lib.hid (HB3.out.trans (m4.below (by omega) (by omega)))
  have P0 := Lib.hid p0
  have P2 := Lib.hid p2
  clear u0 u1 u2 u3 p0 p2 m4 CM HB3
  obtain ⟨u0, u1, u2, u3, -, -, -, -⟩ := K2.out
  have CH := Lib.hid (CHD.out w4 G0 d0 W1.heap.size mid w2.heap.size G1 d1 G2 d2 G3 d3 P0.out P2.out hm1 hm2 (by omega))
  go_wp2_with fail
  (with_reducible refine (CH.out).mono ?_); rintro _ w5 ⟨rfl, b5⟩
  have y5 := b5.size
  have K1 := Lib.hid (K1.out.below b5 (by omega))
  have K2 := Lib.hid (K2.out.below b5 (by omega))
  have R0 := Lib.hid (R0.out.below b5 (by omega))
  have R1 := Lib.hid (R1.out.below b5 (by omega))
  have R2 := Lib.hid (R2.out.below b5 (by omega))
  have R3 := Lib.hid (R3.out.below b5 (by omega))
  have P0 := Lib.hid (P0.out.below b5 (by omega))
  have P2 := Lib.hid (P2.out.below b5 (by omega))
  have HB5 := Lib.hid (HB4.out.trans (b5.mono (by have := HB4.out.size; omega)))
  clear u0 u1 u2 u3 b5 CH HB4
  go_wp2_with fail
  (with_reducible refine (CIM.out _).mono ?_); rintro _ w6 ⟨J0, f0, J1, f1, J2, f2, J3, f3, mid2, rfl, j0, j2, hn1, hn2, hj1, hj3, b6, -, -⟩
  have y6 := b6.size
  have hal : Below w6.heap.size w6 (w6.alloc (.cells #[.slice J0 22 f0, .slice J1 0 f1, .slice J2 22 f2, .slice J3 0 f3] 69)) := (Below.refl _ _).alloc (Nat.le_refl _) _
  have hsz : (w6.alloc (.cells #[.slice J0 22 f0, .slice J1 0 f1, .slice J2 22 f2, .slice J3 0 f3] 69)).heap.size = w6.heap.size + 1 := World.heap_size_alloc _ _
  have hb6 := b6.trans (hal.mono y6)
  have K5 := Lib.hid (Box4.new w6 (.slice J0 22 f0) (.slice J1 0 f1) (.slice J2 22 f2) (.slice J3 0 f3) 69)
  have S0 := Lib.hid (j0.below hal hn2)
  have S2 := Lib.hid (j2.below hal (Nat.le_refl _))
  have K1 := Lib.hid (K1.out.below hb6 (by omega))
  have K2 := Lib.hid (K2.out.below hb6 (by omega))
  have R0 := Lib.hid (R0.out.below hb6 (by omega))
  have R1 := Lib.hid (R1.out.below hb6 (by omega))
  have R2 := Lib.hid (R2.out.below hb6 (by omega))
  have R3 := Lib.hid (R3.out.below hb6 (by omega))
  have P0 := Lib.hid (P0.out.below hb6 (by omega))
  have P2 := Lib.hid (P2.out.below hb6 (by omega))
  have HB6 := Lib.hid (HB5.out.trans (hb6.mono (by have := HB5.out.size; omega)))
  clear j0 j2 b6 hal hb6 HB5
  go_upto_region 14 with fail
  generalize hW6 : w6.alloc (.cells #[.slice J0 22 f0, .slice J1 0 f1, .slice J2 22 f2, .slice J3 0 f3] 69) = W6 at *
  have hsze := Nat.le_of_eq hsz
  have hszf := Nat.le_of_eq hsz.symm
  clear hW6 hsz
  obtain ⟨t0, t1, t2, t3, -, -, -, -⟩ := K1.out
  obtain ⟨u0, u1, u2, u3, -, -, -, -⟩ := K5.out
  have CE := Lib.hid (eqTwo_same J0 A0 22 f0 c0 _ _ _ _ newK J1 A1 0 f1 c1 0 0 _ _ [] J2 A2 22 f2 c2 _ _ _ _ newK J3 A3 0 f3 c3 0 0 _ _ [] W6 S0.out R0.out (SlW.nil _ _ _ _ _ hj1) R1.out S2.out R2.out (SlW.nil _ _ _ _ _ hj3) R3.out (by omega) (by omega) (by omega) (by omega) (by omega) (by omega) (by omega) (by omega))
  go_wp2_with fail
  (with_reducible refine (CE.out).mono ?_); rintro _ w7 ⟨rfl, b7⟩
  have y7 := b7.size
  obtain ⟨n0, n1, n2, n3, -, -, -, -⟩ := K2.out.below b7 (by omega)
  have CH := Lib.hid (CHD.out w7 G0 d0 W1.heap.size mid w2.heap.size G1 d1 G2 d2 G3 d3 (P0.out.below b7 (by omega)) (P2.out.below b7 (by omega)) hm1 hm2 (by omega))
  have HB7 := Lib.hid (HB6.out.trans (b7.mono (by have := HB6.out.size; omega)))
  clear t0 t1 t2 t3 u0 u1 u2 u3 b7 CE
  go_wp2_with fail
  (with_reducible refine (CH.out).mono ?_); rintro _ w8 ⟨rfl, b8⟩
  have HB8 := Lib.hid (HB7.out.trans (b8.mono (by have := HB7.out.size; omega)))
  clear b8
  go_wp2_with fail
  go_ret
  exact ⟨rfl, HB8.out⟩
theorem own : ownKnob Try.prog.godebug = none := by kernel_rfl
theorem laidOut : laidOutB Try.prog = true := by kernel_rfl
set_option maxRecDepth 100000 in
theorem lifted (os : Os) (started : os.Started) (H : Type) (enc : TypeId × Value → H) :
    ReturnsInHanded {} Try.checked os 10 .any (Rows.fnExactNewKeptSpec.pre6 enc Try.prog Try.f10 Rows.fnExactNewKeptRow.domain false) (Rows.fnExactNewKeptSpec.post enc Try.prog Try.f10 false true false false) := by
  refine returnsInHanded_of_change (C := Try.checked) own started (by kernel_rfl) Try.func10
    (ChangeSpec.witness6 (enc := enc) (C := Try.checked) false ⟨#[], #[], []⟩ 8 (by kernel_rfl) (by kernel_rfl) (by kernel_rfl) (by kernel_rfl)) ?_
  intro W base args ds gs before hval0 hW hcnd _
  have hval : ∀ (j : Nat) t v, Try.f10.params[j]? = some t → args[j]? = some v → Value.okWide Try.prog W .any base t v := hval0
  have hW' := hW
  obtain ⟨p, q, hA0, hV, rfl, hfz, hnd⟩ := hW
  have hA : DataW.TrodAll enc Try.prog W 0 (fun _ => true) true Try.f10.params.toList args.toList ds p := hA0
  rw [Try.params10] at hA hval
  obtain ⟨rfl, rfl, rfl⟩ := trodAll_none hA
  obtain ⟨rfl, rfl⟩ := trodVars_none hV
  
  clear hA0 hval0
  refine (law_any  W ).mono fun e W' ⟨he, hb⟩ => ?_
  subst he
  exact ⟨_, rfl, law_post laidOut (by kernel_rfl) rfl Try.underlying4 rfl hW' hb rfl rfl rfl⟩
theorem holds : Rows.FnExactNewKeptSaid :=
  OpenClaim.holds_of_wide 10 Try.f10 rfl rfl rfl rfl rfl rfl rfl ⟨rfl, rfl, rfl, rfl, rfl⟩ rfl rfl rfl rfl rfl (by kernel_rfl) Try.func10 (by kernel_rfl)
    (of_decide_eq_true (by kernel_rfl)) (by unfold Func.isWrapper; first | (rw [if_pos (by decide +kernel)]; kernel_rfl) | (rw [if_neg (by decide +kernel)]; exact ⟨rfl, rfl⟩))
    (fun os started H enc _ => lifted os started H enc)
#print axioms holds
end NewKept
end Go.Proofs.Ytgnilmdaegnaaaa
