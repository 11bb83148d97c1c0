/- Pairs of disks: both synced, both written. No conditions. -/
import Derived.Test.YtgnilmdaegnaaaaZTw1
import Derived.Test.YtgnilmdaegnaaaaZTn1
set_option linter.unusedSimpArgs false
set_option linter.unusedVariables false
namespace Go.Proofs.Ytgnilmdaegnaaaa
open Go.RowKit
theorem index0 (A0 : Option Addr) (n0 c0 : Nat) (A1 : Option Addr) (n1 c1 : Nat) (A2 : Option Addr) (n2 c2 : Nat) (A3 : Option Addr) (n3 c3 : Nat) : ∀ W, (Instr.index 139 (.agg #[.slice A0 n0 c0, .slice A1 n1 c1, .slice A2 n2 c2, .slice A3 n3 c3]) (.int .i64 0)).run Try.prog W = .ok (.agg #[.slice A0 n0 c0, .slice A1 n1 c1]) W := fun _ => by kernel_rfl
theorem index1 (A0 : Option Addr) (n0 c0 : Nat) (A1 : Option Addr) (n1 c1 : Nat) (A2 : Option Addr) (n2 c2 : Nat) (A3 : Option Addr) (n3 c3 : Nat) : ∀ W, (Instr.index 139 (.agg #[.slice A0 n0 c0, .slice A1 n1 c1, .slice A2 n2 c2, .slice A3 n3 c3]) (.int .i64 1)).run Try.prog W = .ok (.agg #[.slice A2 n2 c2, .slice A3 n3 c3]) W := fun _ => by kernel_rfl
set_option maxRecDepth 100000 in
set_option maxHeartbeats 4000000 in
theorem bothSynced_any (A0 : Option Addr) (n0 c0 : Nat) (k0 : List (List Int)) (A1 : Option Addr) (n1 c1 : Nat) (v0 : List WriteD) (A2 : Option Addr) (n2 c2 : Nat) (k2 : List (List Int)) (A3 : Option Addr) (n3 c3 : Nat) (v2 : List WriteD) (lo hi : Nat) (w : World) (h0 : SlR w lo hi A0 n0 c0 k0) (h1 : SlW w lo hi A1 n1 c1 v0) (h2 : SlR w lo hi A2 n2 c2 k2) (h3 : SlW w lo hi A3 n3 c3 v2) (hhi : hi ≤ w.heap.size)  (hd : twoOk k0 v0 k2 v2 = true) :
    Calls Try.prog 60 #[.agg #[.slice A0 n0 c0, .slice A1 n1 c1, .slice A2 n2 c2, .slice A3 n3 c3]] w (TwRes w n0 (syncM k0 v0) 0 [] n2 (syncM k2 v2) 0 []) := by
  obtain ⟨hda, hdb, hkk⟩ : diskOk k0 v0 = true ∧ diskOk k2 v2 = true ∧ k0.length = k2.length := by
    simp only [twoOk, Bool.and_eq_true, decide_eq_true_eq] at hd
    exact hd
  have hg0 : n0 ≤ 9223372036854775807 := Nat.le_trans h0.cap h0.big
  have L0 := Lib.hid h0.len
  have L1 := Lib.hid h1.len
  have L2 := Lib.hid h2.len
  have L3 := Lib.hid h3.len
  have H0 := Lib.hid h0
  have H1 := Lib.hid h1
  have H2 := Lib.hid h2
  have H3 := Lib.hid h3
  have C1 : Hid (∀ W, Below w.heap.size w W → Calls Try.prog 98 #[.agg #[.slice A0 n0 c0, .slice A1 n1 c1, .slice A2 n2 c2, .slice A3 n3 c3]] W fun e w' => e = .returned (.bool true) ∧ Below W.heap.size W w') := Lib.hid (fun W hW => by
    have h7 := twoOk_any A0 n0 c0 k0 A1 n1 c1 v0 A2 n2 c2 k2 A3 n3 c3 v2 lo hi W (H0.out.below hW hhi) (H1.out.below hW hhi) (H2.out.below hW hhi) (H3.out.below hW hhi) (Nat.le_trans hhi hW.size)
    rw [hd] at h7
    exact h7)
  have T1 : Hid (∀ W, Below (w.heap.size + 2) ((w.alloc (.cells #[.slice A0 n0 c0, .slice A1 n1 c1, .slice A2 n2 c2, .slice A3 n3 c3] 69)).alloc (.cells #[.slice none 0 0, .slice none 0 0, .slice none 0 0, .slice none 0 0] 69)) W → (Box4 W w.heap.size (.slice A0 n0 c0) (.slice A1 n1 c1) (.slice A2 n2 c2) (.slice A3 n3 c3) ∧ Box4 W (w.heap.size + 1) (.slice none 0 0) (.slice none 0 0) (.slice none 0 0) (.slice none 0 0))) := Lib.hid (fun W hW => ⟨((Box4.new w (.slice A0 n0 c0) (.slice A1 n1 c1) (.slice A2 n2 c2) (.slice A3 n3 c3) 69).below (B := w.heap.size + 1) ((Below.refl _ _).alloc (by simp) (.cells #[.slice none 0 0, .slice none 0 0, .slice none 0 0, .slice none 0 0] 69)) (by omega)).below hW (by omega), by
    have h9 := Box4.new (w.alloc (.cells #[.slice A0 n0 c0, .slice A1 n1 c1, .slice A2 n2 c2, .slice A3 n3 c3] 69)) (.slice none 0 0) (.slice none 0 0) (.slice none 0 0) (.slice none 0 0) 69
    rw [World.heap_size_alloc] at h9
    exact h9.below hW (by omega)⟩)
  have hs9 : ((w.alloc (.cells #[.slice A0 n0 c0, .slice A1 n1 c1, .slice A2 n2 c2, .slice A3 n3 c3] 69)).alloc (.cells #[.slice none 0 0, .slice none 0 0, .slice none 0 0, .slice none 0 0] 69)).heap.size = w.heap.size + 2 := by simp only [World.heap_size_alloc]
  have hb9 : Below w.heap.size w ((w.alloc (.cells #[.slice A0 n0 c0, .slice A1 n1 c1, .slice A2 n2 c2, .slice A3 n3 c3] 69)).alloc (.cells #[.slice none 0 0, .slice none 0 0, .slice none 0 0, .slice none 0 0] 69)) := by (repeat' (first | with_reducible exact Below.refl _ _ | with_reducible assumption | with_reducible refine Below.drew ?_ | with_reducible refine Below.alloc ?_ ?_ _ | with_reducible refine Below.setCell ?_ ?_ _ | with_reducible refine Below.trans ?_ (Below.mono (by assumption) ?_) | ((try simp only [World.heap_size_alloc, World.heap_size_drew, World.heap_size_setCell]); omega)))
  have IX0 := index0 A0 n0 c0 A1 n1 c1 A2 n2 c2 A3 n3 c3
  have IX1 := index1 A0 n0 c0 A1 n1 c1 A2 n2 c2 A3 n3 c3
  clear h0 h1 h2 h3 hd
  go_enter Try.func60, Try.ntmps60
  go_wp2_with fail
  generalize hW0 : (w.alloc (.cells #[.slice A0 n0 c0, .slice A1 n1 c1, .slice A2 n2 c2, .slice A3 n3 c3] 69)).alloc (.cells #[.slice none 0 0, .slice none 0 0, .slice none 0 0, .slice none 0 0] 69) = W0 at *
  clear hW0
  (with_reducible refine (C1.out _ hb9).mono ?_); rintro _ w1 ⟨rfl, b1⟩
  have y1 := b1.size
  have P1 := Lib.hid (b1.mono (by omega) : Below (w.heap.size + 2) W0 w1)
  have HB1 := Lib.hid (hb9.trans (P1.out.mono (by omega)))
  obtain ⟨⟨q0, q1, q2, q3, f0, f1, f2, f3⟩, -⟩ := T1.out _ P1.out
  clear b1 hb9 C1
  go_wp2_with fail
  (with_reducible refine (disks_any _ _ _ _ _ _ _ _ _ _ _ _ _).mono ?_); rintro _ w2 ⟨rfl, b2⟩
  have y2 := b2.size
  have P2 : Hid (Below (w.heap.size + 2) W0 w2) := Lib.hid (P1.out.trans (b2.mono (by omega)))
  have HB2 := Lib.hid (HB1.out.trans ((b2.mono (by omega)).mono (by omega)))
  have CA : Hid (∀ W, Below w2.heap.size w2 W → Calls Try.prog 55 #[.agg #[.slice A0 n0 c0, .slice A1 n1 c1]] W (DkRes W n0 (syncM k0 v0) 0 [])) := Lib.hid (fun W hW => by
    have hwW := HB2.out.trans (hW.mono (by have := HB2.out.size; omega))
    exact synced_any A0 n0 c0 k0 A1 n1 c1 v0 lo hi W (H0.out.below hwW hhi) (H1.out.below hwW hhi) (Nat.le_trans hhi hwW.size) hda)
  have CB : Hid (∀ W, Below w2.heap.size w2 W → Calls Try.prog 55 #[.agg #[.slice A2 n2 c2, .slice A3 n3 c3]] W (DkRes W n2 (syncM k2 v2) 0 [])) := Lib.hid (fun W hW => by
    have hwW := HB2.out.trans (hW.mono (by have := HB2.out.size; omega))
    exact synced_any A2 n2 c2 k2 A3 n3 c3 v2 lo hi W (H2.out.below hwW hhi) (H3.out.below hwW hhi) (Nat.le_trans hhi hwW.size) hdb)
  have KB := Box4.new w2 (.slice A0 n0 c0) (.slice A1 n1 c1) (.slice A2 n2 c2) (.slice A3 n3 c3) 139
  have hst : Below w2.heap.size w2 (w2.alloc (.cells #[.slice A0 n0 c0, .slice A1 n1 c1, .slice A2 n2 c2, .slice A3 n3 c3] 139)) := (Below.refl _ _).alloc (Nat.le_refl _) _
  have hss : (w2.alloc (.cells #[.slice A0 n0 c0, .slice A1 n1 c1, .slice A2 n2 c2, .slice A3 n3 c3] 139)).heap.size = w2.heap.size + 1 := World.heap_size_alloc _ _
  have HST := Lib.hid hst
  obtain ⟨k0', k1', k2', k3', -, -, -, -⟩ := id KB
  have KBH := Lib.hid KB
  clear q0 q1 q2 q3 f0 f1 f2 f3 b2 KB hst
  go_wp2_with fail
  generalize hWs : (w2.alloc (.cells #[.slice A0 n0 c0, .slice A1 n1 c1, .slice A2 n2 c2, .slice A3 n3 c3] 139)) = Ws at *
  clear hWs k0' k1' k2' k3'
  go_loopw [4, 5, 13] (fun _ _ i wr => (i = .int .i64 0 ∧ wr = Ws) ∨ (i = .int .i64 1 ∧ ∃ (X0 : Option Addr) (d0 : Nat) (X1 : Option Addr) (d1 : Nat), Box4 wr w2.heap.size (.slice X0 n0 d0) (.slice X1 0 d1) (.slice A2 n2 c2) (.slice A3 n3 c3) ∧ Hid (SlR wr (w2.heap.size + 1) wr.heap.size X0 n0 d0 (syncM k0 v0)) ∧ Hid (SlW wr (w2.heap.size + 1) wr.heap.size X1 0 d1 []) ∧ Hid (Below w2.heap.size Ws wr) ∧ w2.heap.size + 1 ≤ wr.heap.size) ∨ (i = .int .i64 2 ∧ ∃ (X0 : Option Addr) (d0 : Nat) (X1 : Option Addr) (d1 : Nat) (X2 : Option Addr) (d2 : Nat) (X3 : Option Addr) (d3 : Nat), Box4 wr w2.heap.size (.slice X0 n0 d0) (.slice X1 0 d1) (.slice X2 n2 d2) (.slice X3 0 d3) ∧ Hid (SlR wr (w2.heap.size + 1) wr.heap.size X0 n0 d0 (syncM k0 v0)) ∧ Hid (SlW wr (w2.heap.size + 1) wr.heap.size X1 0 d1 []) ∧ Hid (SlR wr (w2.heap.size + 1) wr.heap.size X2 n2 d2 (syncM k2 v2)) ∧ Hid (SlW wr (w2.heap.size + 1) wr.heap.size X3 0 d3 []) ∧ Hid (Below w2.heap.size Ws wr) ∧ w2.heap.size + 1 ≤ wr.heap.size)) (fun _ _ i _ => 2 - (intOf i).toNat)
  case atStart => exact .inl ⟨rfl, rfl⟩
  case round =>
    rcases hrel with ⟨rfl, rfl⟩ | ⟨rfl, X0, d0, X1, d1, bx, S0, S1, hb, hlt⟩ | ⟨rfl, X0, d0, X1, d1, X2, d2, X3, d3, bx, S0, S1, S2, S3, hb, hlt⟩
    · have hx : Below wr.heap.size wr (wr.alloc (.cells #[.slice A0 n0 c0, .slice A1 n1 c1] 67)) := (Below.refl _ _).alloc (Nat.le_refl _) _
      have hxb : Below w2.heap.size w2 (wr.alloc (.cells #[.slice A0 n0 c0, .slice A1 n1 c1] 67)) := HST.out.trans (hx.mono (by omega))
      have HXB := Lib.hid hxb
      obtain ⟨e0, e1, -, -⟩ := Box2.new wr (.slice A0 n0 c0) (.slice A1 n1 c1) 67
      have BX := Lib.hid (KBH.out.below hx (by omega))
      have hxs : (wr.alloc (.cells #[.slice A0 n0 c0, .slice A1 n1 c1] 67)).heap.size = wr.heap.size + 1 := World.heap_size_alloc _ _
      clear hx hxb
      go_wp2_with fail
      (with_reducible refine (CA.out _ HXB.out).mono ?_); rintro _ w3 ⟨X0, d0, X1, d1, rfl, s0, s1, b3⟩
      have y3 := b3.size
      simp only [World.heap_size_alloc] at y3
      have bx3 := BX.out.below b3 (by (try simp only [World.heap_size_alloc, World.heap_size_drew, World.heap_size_setCell]); omega)
      have b30 := b3
      obtain ⟨r0, r1, -, -, rf0, rf1, -, -⟩ := id bx3
      have BX3 := Lib.hid (bx3.set01 (.slice X0 n0 d0) (.slice X1 0 d1))
      have hb3 : Below w2.heap.size wr w3 := ((Below.refl _ _).alloc (by omega) _).trans (b30.mono (by (try simp only [World.heap_size_alloc, World.heap_size_drew, World.heap_size_setCell]); omega))
      have HB3 := Lib.hid (hb3.trans (below2 (Nat.le_refl _)) : Below w2.heap.size wr ((w3.setCell ⟨w2.heap.size, 0, none⟩ (.slice X0 n0 d0)).setCell ⟨w2.heap.size, 1, none⟩ (.slice X1 0 d1)))
      have S0 := Lib.hid (s0.at2 (b := w2.heap.size) (p := 0) (q := 1) (x := .slice X0 n0 d0) (y := .slice X1 0 d1) (lo' := w2.heap.size + 1) (by (try simp only [World.heap_size_alloc, World.heap_size_drew, World.heap_size_setCell]); omega) (by (try simp only [World.heap_size_alloc, World.heap_size_drew, World.heap_size_setCell]); omega) (by (try simp only [World.heap_size_alloc, World.heap_size_drew, World.heap_size_setCell]); omega))
      have S1 := Lib.hid (s1.at2 (b := w2.heap.size) (p := 0) (q := 1) (x := .slice X0 n0 d0) (y := .slice X1 0 d1) (lo' := w2.heap.size + 1) (by (try simp only [World.heap_size_alloc, World.heap_size_drew, World.heap_size_setCell]); omega) (by (try simp only [World.heap_size_alloc, World.heap_size_drew, World.heap_size_setCell]); omega) (by (try simp only [World.heap_size_alloc, World.heap_size_drew, World.heap_size_setCell]); omega))
      clear s0 s1 b3 hb3 bx3 BX b30
      go_wp2_with fail
      go_roundw
      case rel => exact .inr (.inl ⟨by go_num, X0, d0, X1, d1, BX3.out, S0, S1, HB3, by rw [size2]; omega⟩)
      case measure => simp [intOf]
    · have hx : Below wr.heap.size wr (wr.alloc (.cells #[.slice A2 n2 c2, .slice A3 n3 c3] 67)) := (Below.refl _ _).alloc (Nat.le_refl _) _
      have hxb : Below w2.heap.size w2 (wr.alloc (.cells #[.slice A2 n2 c2, .slice A3 n3 c3] 67)) := HST.out.trans (hb.out.trans (hx.mono (by omega)))
      have HXB := Lib.hid hxb
      obtain ⟨e0, e1, -, -⟩ := Box2.new wr (.slice A2 n2 c2) (.slice A3 n3 c3) 67
      have BX := Lib.hid (bx.below hx (by omega))
      have hxs : (wr.alloc (.cells #[.slice A2 n2 c2, .slice A3 n3 c3] 67)).heap.size = wr.heap.size + 1 := World.heap_size_alloc _ _
      clear hx hxb bx
      go_wp2_with fail
      (with_reducible refine (CB.out _ HXB.out).mono ?_); rintro _ w3 ⟨X2, d2, X3, d3, rfl, s2, s3, b3⟩
      have y3 := b3.size
      simp only [World.heap_size_alloc] at y3
      have bx3 := BX.out.below b3 (by (try simp only [World.heap_size_alloc, World.heap_size_drew, World.heap_size_setCell]); omega)
      have b30 := b3
      obtain ⟨-, -, r0, r1, -, -, rf0, rf1⟩ := id bx3
      have BX3 := Lib.hid (bx3.set23 (.slice X2 n2 d2) (.slice X3 0 d3))
      have hb3 : Below wr.heap.size wr w3 := ((Below.refl _ _).alloc (Nat.le_refl _) _).trans (b30.mono (by (try simp only [World.heap_size_alloc, World.heap_size_drew, World.heap_size_setCell]); omega))
      have HB3 := Lib.hid ((hb.out.trans (hb3.mono (by omega))).trans (below2 (Nat.le_refl _)) : Below w2.heap.size Ws ((w3.setCell ⟨w2.heap.size, 2, none⟩ (.slice X2 n2 d2)).setCell ⟨w2.heap.size, 3, none⟩ (.slice X3 0 d3)))
      have Z2 := Lib.hid (s2.at2 (b := w2.heap.size) (p := 2) (q := 3) (x := .slice X2 n2 d2) (y := .slice X3 0 d3) (lo' := w2.heap.size + 1) (by (try simp only [World.heap_size_alloc, World.heap_size_drew, World.heap_size_setCell]); omega) (by (try simp only [World.heap_size_alloc, World.heap_size_drew, World.heap_size_setCell]); omega) (by (try simp only [World.heap_size_alloc, World.heap_size_drew, World.heap_size_setCell]); omega))
      have Z3 := Lib.hid (s3.at2 (b := w2.heap.size) (p := 2) (q := 3) (x := .slice X2 n2 d2) (y := .slice X3 0 d3) (lo' := w2.heap.size + 1) (by (try simp only [World.heap_size_alloc, World.heap_size_drew, World.heap_size_setCell]); omega) (by (try simp only [World.heap_size_alloc, World.heap_size_drew, World.heap_size_setCell]); omega) (by (try simp only [World.heap_size_alloc, World.heap_size_drew, World.heap_size_setCell]); omega))
      have Z0 := Lib.hid ((S0.out.below hb3 (Nat.le_refl _)).at2 (b := w2.heap.size) (p := 2) (q := 3) (x := .slice X2 n2 d2) (y := .slice X3 0 d3) (lo' := w2.heap.size + 1) (Nat.le_refl _) (Nat.le_refl _) (by (try simp only [World.heap_size_alloc, World.heap_size_drew, World.heap_size_setCell]); omega))
      have Z1 := Lib.hid ((S1.out.below hb3 (Nat.le_refl _)).at2 (b := w2.heap.size) (p := 2) (q := 3) (x := .slice X2 n2 d2) (y := .slice X3 0 d3) (lo' := w2.heap.size + 1) (Nat.le_refl _) (Nat.le_refl _) (by (try simp only [World.heap_size_alloc, World.heap_size_drew, World.heap_size_setCell]); omega))
      clear s2 s3 b3 hb3 bx3 BX hb S0 S1 b30
      go_wp2_with fail
      go_roundw
      case rel => exact .inr (.inr ⟨by go_num, X0, d0, X1, d1, X2, d2, X3, d3, BX3.out, Z0, Z1, Z2, Z3, HB3, by rw [size2]; omega⟩)
      case measure => simp [intOf]
    · have BR := Lib.hid (T1.out _ (P2.out.trans ((HST.out.trans (hb.out.mono (Nat.le_refl _))).mono (by omega)))).2
      obtain ⟨r0, r1, r2, r3, -, -, -, -⟩ := bx
      have HBR := Lib.hid (HB2.out.trans ((HST.out.trans hb.out).mono (by omega)))
      clear hb
      go_wp2_with fail
      (with_reducible refine (twoOf_any _ _ _ _ _ _ _ _ _ _ _ _ _).mono ?_); rintro _ w3 ⟨rfl, b3⟩
      have y3 := b3.size
      obtain ⟨p0, p1, p2, p3, g0, g1, g2, g3⟩ := BR.out.below b3 (by omega)
      have hb4 : Below (w.heap.size + 1) w3 ((((w3.setCell ⟨w.heap.size + 1, 0, none⟩ (.slice X0 n0 d0)).setCell ⟨w.heap.size + 1, 1, none⟩ (.slice X1 0 d1)).setCell ⟨w.heap.size + 1, 2, none⟩ (.slice X2 n2 d2)).setCell ⟨w.heap.size + 1, 3, none⟩ (.slice X3 0 d3)) := below4 (Nat.le_refl _)
      have hu4 : Upd (w.heap.size + 1) (w.heap.size + 2) w3 ((((w3.setCell ⟨w.heap.size + 1, 0, none⟩ (.slice X0 n0 d0)).setCell ⟨w.heap.size + 1, 1, none⟩ (.slice X1 0 d1)).setCell ⟨w.heap.size + 1, 2, none⟩ (.slice X2 n2 d2)).setCell ⟨w.heap.size + 1, 3, none⟩ (.slice X3 0 d3)) := up4
      have Z0 := Lib.hid ((S0.out.below b3 (Nat.le_refl _)).at4 (b := w.heap.size + 1) (x := .slice X0 n0 d0) (y := .slice X1 0 d1) (z := .slice X2 n2 d2) (u := .slice X3 0 d3) (lo' := w.heap.size) (by omega) (by omega) (by omega))
      have Z1 := Lib.hid ((S1.out.below b3 (Nat.le_refl _)).at4 (b := w.heap.size + 1) (x := .slice X0 n0 d0) (y := .slice X1 0 d1) (z := .slice X2 n2 d2) (u := .slice X3 0 d3) (lo' := w.heap.size) (by omega) (by omega) (by omega))
      have Z2 := Lib.hid ((S2.out.below b3 (Nat.le_refl _)).at4 (b := w.heap.size + 1) (x := .slice X0 n0 d0) (y := .slice X1 0 d1) (z := .slice X2 n2 d2) (u := .slice X3 0 d3) (lo' := w.heap.size) (by omega) (by omega) (by omega))
      have Z3 := Lib.hid ((S3.out.below b3 (Nat.le_refl _)).at4 (b := w.heap.size + 1) (x := .slice X0 n0 d0) (y := .slice X1 0 d1) (z := .slice X2 n2 d2) (u := .slice X3 0 d3) (lo' := w.heap.size) (by omega) (by omega) (by omega))
      have HBZ := Lib.hid ((HBR.out.trans (b3.mono (by omega))).trans (hb4.mono (by omega)))
      clear b3 hb4 hu4 S0 S1 S2 S3
      go_wp2_with fail
      refine bodyPost_ret (v := .agg #[.slice X0 n0 d0, .slice X1 0 d1, .slice X2 n2 d2, .slice X3 0 d3]) (by simp [results, Try.results60, go_sem, p0, p1, p2, p3, g0, g1, g2, g3]) rfl ⟨X0, d0, X1, d1, X2, d2, X3, d3, rfl, Z0.out, Z1.out, Z2.out, Z3.out, HBZ.out⟩
/-- Two disks and a truth. -/
def TwBRes (w : World) (n0 : Nat) (k0 : List (List Int)) (n1 : Nat) (v0 : List WriteD) (n2 : Nat) (k2 : List (List Int)) (n3 : Nat) (v2 : List WriteD) (b : Bool) (e : Ending) (w' : World) : Prop :=
  ∃ A0 c0 A1 c1 A2 c2 A3 c3, e = .returned (.tuple #[.agg #[.slice A0 n0 c0, .slice A1 n1 c1, .slice A2 n2 c2, .slice A3 n3 c3], .bool b]) ∧ SlR w' w.heap.size w'.heap.size A0 n0 c0 k0 ∧ SlW w' w.heap.size w'.heap.size A1 n1 c1 v0 ∧ SlR w' w.heap.size w'.heap.size A2 n2 c2 k2 ∧ SlW w' w.heap.size w'.heap.size A3 n3 c3 v2 ∧ Below w.heap.size w w'
set_option maxRecDepth 100000 in
set_option maxHeartbeats 4000000 in
theorem bothWrote_any (A0 : Option Addr) (n0 c0 : Nat) (k0 : List (List Int)) (A1 : Option Addr) (n1 c1 : Nat) (v0 : List WriteD) (A2 : Option Addr) (n2 c2 : Nat) (k2 : List (List Int)) (A3 : Option Addr) (n3 c3 : Nat) (v2 : List WriteD) (lo hi : Nat) (w : World) (h0 : SlR w lo hi A0 n0 c0 k0) (h1 : SlW w lo hi A1 n1 c1 v0) (h2 : SlR w lo hi A2 n2 c2 k2) (h3 : SlW w lo hi A3 n3 c3 v2) (hhi : hi ≤ w.heap.size) (q : Int) (Ar : Option Addr) (nr cr lor hir : Nat) (zr : List Int) (hr : Sl w lor hir 1 Ar nr cr zr) (hhr : hir ≤ w.heap.size) (hz : rowOk zr = true) (hnr : nr < 48) (hq : btw q 0 ((n0 : Int) - 1) = true) (hn1 : n1 < 60) (hn3 : n3 < 60) (hd : twoOk k0 v0 k2 v2 = true) :
    Calls Try.prog 146 #[.agg #[.slice A0 n0 c0, .slice A1 n1 c1, .slice A2 n2 c2, .slice A3 n3 c3], .int .i64 q, .slice Ar nr cr] w (TwBRes w n0 k0 (n1 + 1) (v0 ++ [⟨q, zr ++ [sumM zr]⟩]) n2 k2 (n3 + 1) (v2 ++ [⟨q, zr ++ [sumM zr]⟩]) true) := by
  obtain ⟨hda, hdb, hkk⟩ : diskOk k0 v0 = true ∧ diskOk k2 v2 = true ∧ k0.length = k2.length := by
    simp only [twoOk, Bool.and_eq_true, decide_eq_true_eq] at hd
    exact hd
  have hg0 : n0 ≤ 9223372036854775807 := Nat.le_trans h0.cap h0.big
  have L0 := Lib.hid h0.len
  have L1 := Lib.hid h1.len
  have L2 := Lib.hid h2.len
  have L3 := Lib.hid h3.len
  have H0 := Lib.hid h0
  have H1 := Lib.hid h1
  have H2 := Lib.hid h2
  have H3 := Lib.hid h3
  have C1 : Hid (∀ W, Below w.heap.size w W → Calls Try.prog 98 #[.agg #[.slice A0 n0 c0, .slice A1 n1 c1, .slice A2 n2 c2, .slice A3 n3 c3]] W fun e w' => e = .returned (.bool true) ∧ Below W.heap.size W w') := Lib.hid (fun W hW => by
    have h7 := twoOk_any A0 n0 c0 k0 A1 n1 c1 v0 A2 n2 c2 k2 A3 n3 c3 v2 lo hi W (H0.out.below hW hhi) (H1.out.below hW hhi) (H2.out.below hW hhi) (H3.out.below hW hhi) (Nat.le_trans hhi hW.size)
    rw [hd] at h7
    exact h7)
  have T1 : Hid (∀ W, Below (w.heap.size + 2) ((w.alloc (.cells #[.slice A0 n0 c0, .slice A1 n1 c1, .slice A2 n2 c2, .slice A3 n3 c3] 69)).alloc (.cells #[.slice none 0 0, .slice none 0 0, .slice none 0 0, .slice none 0 0] 69)) W → (Box4 W w.heap.size (.slice A0 n0 c0) (.slice A1 n1 c1) (.slice A2 n2 c2) (.slice A3 n3 c3) ∧ Box4 W (w.heap.size + 1) (.slice none 0 0) (.slice none 0 0) (.slice none 0 0) (.slice none 0 0))) := Lib.hid (fun W hW => ⟨((Box4.new w (.slice A0 n0 c0) (.slice A1 n1 c1) (.slice A2 n2 c2) (.slice A3 n3 c3) 69).below (B := w.heap.size + 1) ((Below.refl _ _).alloc (by simp) (.cells #[.slice none 0 0, .slice none 0 0, .slice none 0 0, .slice none 0 0] 69)) (by omega)).below hW (by omega), by
    have h9 := Box4.new (w.alloc (.cells #[.slice A0 n0 c0, .slice A1 n1 c1, .slice A2 n2 c2, .slice A3 n3 c3] 69)) (.slice none 0 0) (.slice none 0 0) (.slice none 0 0) (.slice none 0 0) 69
    rw [World.heap_size_alloc] at h9
    exact h9.below hW (by omega)⟩)
  have hs9 : ((w.alloc (.cells #[.slice A0 n0 c0, .slice A1 n1 c1, .slice A2 n2 c2, .slice A3 n3 c3] 69)).alloc (.cells #[.slice none 0 0, .slice none 0 0, .slice none 0 0, .slice none 0 0] 69)).heap.size = w.heap.size + 2 := by simp only [World.heap_size_alloc]
  have hb9 : Below w.heap.size w ((w.alloc (.cells #[.slice A0 n0 c0, .slice A1 n1 c1, .slice A2 n2 c2, .slice A3 n3 c3] 69)).alloc (.cells #[.slice none 0 0, .slice none 0 0, .slice none 0 0, .slice none 0 0] 69)) := by (repeat' (first | with_reducible exact Below.refl _ _ | with_reducible assumption | with_reducible refine Below.drew ?_ | with_reducible refine Below.alloc ?_ ?_ _ | with_reducible refine Below.setCell ?_ ?_ _ | with_reducible refine Below.trans ?_ (Below.mono (by assumption) ?_) | ((try simp only [World.heap_size_alloc, World.heap_size_drew, World.heap_size_setCell]); omega)))
  have IX0 := index0 A0 n0 c0 A1 n1 c1 A2 n2 c2 A3 n3 c3
  have IX1 := index1 A0 n0 c0 A1 n1 c1 A2 n2 c2 A3 n3 c3
  clear h0 h1 h2 h3 hd
  go_enter Try.func146, Try.ntmps146
  go_wp2_with fail
  generalize hW0 : (w.alloc (.cells #[.slice A0 n0 c0, .slice A1 n1 c1, .slice A2 n2 c2, .slice A3 n3 c3] 69)).alloc (.cells #[.slice none 0 0, .slice none 0 0, .slice none 0 0, .slice none 0 0] 69) = W0 at *
  clear hW0
  (with_reducible refine (C1.out _ hb9).mono ?_); rintro _ w1 ⟨rfl, b1⟩
  have y1 := b1.size
  have P1 := Lib.hid (b1.mono (by omega) : Below (w.heap.size + 2) W0 w1)
  have HB1 := Lib.hid (hb9.trans (P1.out.mono (by omega)))
  obtain ⟨⟨q0, q1, q2, q3, f0, f1, f2, f3⟩, -⟩ := T1.out _ P1.out
  clear b1 hb9 C1
  go_wp2_with fail
  (with_reducible refine (withSum_any Ar nr cr lor hir zr w1 (hr.below HB1.out hhr) (Nat.le_trans hhr HB1.out.size) hz hnr).mono ?_); rintro _ wS ⟨As, cs, rfl, sS, bS⟩
  have yS := bS.size
  obtain ⟨⟨q0, q1, q2, q3, f0, f1, f2, f3⟩, -⟩ := T1.out _ (P1.out.trans (bS.mono (by omega)))
  obtain ⟨gs, offs, rfl, -, -, -⟩ := sS.lie (by omega)
  have SS := Lib.hid sS
  clear sS
  have hnil := Lib.run_eql_slice_nil (P := Try.prog) wS 28 2 (some ⟨gs, offs, none⟩) (nr + 1) cs 0 0 Try.underlying28
  simp only [Option.isNone_some] at hnil
  go_wp2_with fail
  (with_reducible refine (disks_any _ _ _ _ _ _ _ _ _ _ _ _ _).mono ?_); rintro _ w2 ⟨rfl, b2⟩
  have y2 := b2.size
  have P2 : Hid (Below (w.heap.size + 2) W0 w2) := Lib.hid (P1.out.trans (bS.mono (by omega) |>.trans (b2.mono (by omega))))
  have HB2 := Lib.hid (HB1.out.trans ((bS.mono (by omega) |>.trans (b2.mono (by omega))).mono (by omega)))
  have HS2 := Lib.hid b2
  have hq2 : btw q 0 ((n2 : Int) - 1) = true := by rw [← L2.out, ← hkk, L0.out]; exact hq
  have CA : Hid (∀ W, Below w2.heap.size w2 W → Calls Try.prog 51 #[.agg #[.slice A0 n0 c0, .slice A1 n1 c1], .int .i64 q, .slice (some ⟨gs, offs, none⟩) (nr + 1) cs] W (DkBRes W n0 k0 (n1 + 1) (v0 ++ [⟨q, zr ++ [sumM zr]⟩]) true)) := Lib.hid (fun W hW => by
    have hwW := HB2.out.trans (hW.mono (by have := HB2.out.size; omega))
    exact wrote_any A0 n0 c0 k0 A1 n1 c1 v0 lo hi W (H0.out.below hwW hhi) (H1.out.below hwW hhi) (Nat.le_trans hhi hwW.size) q _ _ _ _ _ _ (SS.out.below (HS2.out.trans (hW.mono HS2.out.size)) (Nat.le_refl _)) (Nat.le_trans HS2.out.size hW.size) hda hq (rowOk_sum hz (by rw [hr.uniq_len]; exact hnr)) hn1)
  have CB : Hid (∀ W, Below w2.heap.size w2 W → Calls Try.prog 51 #[.agg #[.slice A2 n2 c2, .slice A3 n3 c3], .int .i64 q, .slice (some ⟨gs, offs, none⟩) (nr + 1) cs] W (DkBRes W n2 k2 (n3 + 1) (v2 ++ [⟨q, zr ++ [sumM zr]⟩]) true)) := Lib.hid (fun W hW => by
    have hwW := HB2.out.trans (hW.mono (by have := HB2.out.size; omega))
    exact wrote_any A2 n2 c2 k2 A3 n3 c3 v2 lo hi W (H2.out.below hwW hhi) (H3.out.below hwW hhi) (Nat.le_trans hhi hwW.size) q _ _ _ _ _ _ (SS.out.below (HS2.out.trans (hW.mono HS2.out.size)) (Nat.le_refl _)) (Nat.le_trans HS2.out.size hW.size) hdb hq2 (rowOk_sum hz (by rw [hr.uniq_len]; exact hnr)) hn3)
  have KB := Box4.new w2 (.slice A0 n0 c0) (.slice A1 n1 c1) (.slice A2 n2 c2) (.slice A3 n3 c3) 139
  have hst : Below w2.heap.size w2 (w2.alloc (.cells #[.slice A0 n0 c0, .slice A1 n1 c1, .slice A2 n2 c2, .slice A3 n3 c3] 139)) := (Below.refl _ _).alloc (Nat.le_refl _) _
  have hss : (w2.alloc (.cells #[.slice A0 n0 c0, .slice A1 n1 c1, .slice A2 n2 c2, .slice A3 n3 c3] 139)).heap.size = w2.heap.size + 1 := World.heap_size_alloc _ _
  have HST := Lib.hid hst
  obtain ⟨k0', k1', k2', k3', -, -, -, -⟩ := id KB
  have KBH := Lib.hid KB
  clear q0 q1 q2 q3 f0 f1 f2 f3 b2 KB hst
  go_wp2_with fail
  generalize hWs : (w2.alloc (.cells #[.slice A0 n0 c0, .slice A1 n1 c1, .slice A2 n2 c2, .slice A3 n3 c3] 139)) = Ws at *
  clear hWs k0' k1' k2' k3'
  go_loopw [10, 11, 12, 13, 27] (fun _ _ _ _ i wr => (i = .int .i64 0 ∧ wr = Ws) ∨ (i = .int .i64 1 ∧ ∃ (X0 : Option Addr) (d0 : Nat) (X1 : Option Addr) (d1 : Nat), Box4 wr w2.heap.size (.slice X0 n0 d0) (.slice X1 (n1 + 1) d1) (.slice A2 n2 c2) (.slice A3 n3 c3) ∧ Hid (SlR wr (w2.heap.size + 1) wr.heap.size X0 n0 d0 k0) ∧ Hid (SlW wr (w2.heap.size + 1) wr.heap.size X1 (n1 + 1) d1 (v0 ++ [⟨q, zr ++ [sumM zr]⟩])) ∧ Hid (Below w2.heap.size Ws wr) ∧ w2.heap.size + 1 ≤ wr.heap.size) ∨ (i = .int .i64 2 ∧ ∃ (X0 : Option Addr) (d0 : Nat) (X1 : Option Addr) (d1 : Nat) (X2 : Option Addr) (d2 : Nat) (X3 : Option Addr) (d3 : Nat), Box4 wr w2.heap.size (.slice X0 n0 d0) (.slice X1 (n1 + 1) d1) (.slice X2 n2 d2) (.slice X3 (n3 + 1) d3) ∧ Hid (SlR wr (w2.heap.size + 1) wr.heap.size X0 n0 d0 k0) ∧ Hid (SlW wr (w2.heap.size + 1) wr.heap.size X1 (n1 + 1) d1 (v0 ++ [⟨q, zr ++ [sumM zr]⟩])) ∧ Hid (SlR wr (w2.heap.size + 1) wr.heap.size X2 n2 d2 k2) ∧ Hid (SlW wr (w2.heap.size + 1) wr.heap.size X3 (n3 + 1) d3 (v2 ++ [⟨q, zr ++ [sumM zr]⟩])) ∧ Hid (Below w2.heap.size Ws wr) ∧ w2.heap.size + 1 ≤ wr.heap.size)) (fun _ _ _ _ i _ => 2 - (intOf i).toNat)
  case atStart => exact .inl ⟨rfl, rfl⟩
  case round =>
    rcases hrel with ⟨rfl, rfl⟩ | ⟨rfl, X0, d0, X1, d1, bx, S0, S1, hb, hlt⟩ | ⟨rfl, X0, d0, X1, d1, X2, d2, X3, d3, bx, S0, S1, S2, S3, hb, hlt⟩
    · have hx : Below wr.heap.size wr (wr.alloc (.cells #[.slice A0 n0 c0, .slice A1 n1 c1] 67)) := (Below.refl _ _).alloc (Nat.le_refl _) _
      have hxb : Below w2.heap.size w2 (wr.alloc (.cells #[.slice A0 n0 c0, .slice A1 n1 c1] 67)) := HST.out.trans (hx.mono (by omega))
      have HXB := Lib.hid hxb
      obtain ⟨e0, e1, -, -⟩ := Box2.new wr (.slice A0 n0 c0) (.slice A1 n1 c1) 67
      have BX := Lib.hid (KBH.out.below hx (by omega))
      have hxs : (wr.alloc (.cells #[.slice A0 n0 c0, .slice A1 n1 c1] 67)).heap.size = wr.heap.size + 1 := World.heap_size_alloc _ _
      clear hx hxb
      go_wp2_with fail
      (with_reducible refine (CA.out _ HXB.out).mono ?_); rintro _ w3 ⟨X0, d0, X1, d1, rfl, s0, s1, b3⟩
      have y3 := b3.size
      simp only [World.heap_size_alloc] at y3
      have bx3 := BX.out.below b3 (by (try simp only [World.heap_size_alloc, World.heap_size_drew, World.heap_size_setCell]); omega)
      have b30 := b3
      have hal : Below w3.heap.size w3 (w3.alloc (.cells #[.slice X0 n0 d0, .slice X1 (n1 + 1) d1] 67)) := (Below.refl _ _).alloc (Nat.le_refl _) _
      replace bx3 := bx3.below hal (by (try simp only [World.heap_size_alloc, World.heap_size_drew, World.heap_size_setCell]); omega)
      replace b30 := b30.trans (hal.mono b3.size)
      replace s0 := s0.below hal (Nat.le_refl _)
      replace s1 := s1.below hal (Nat.le_refl _)
      clear hal
      obtain ⟨r0, r1, -, -, rf0, rf1, -, -⟩ := id bx3
      have BX3 := Lib.hid (bx3.set01 (.slice X0 n0 d0) (.slice X1 (n1 + 1) d1))
      have hb3 : Below w2.heap.size wr (w3.alloc (.cells #[.slice X0 n0 d0, .slice X1 (n1 + 1) d1] 67)) := ((Below.refl _ _).alloc (by omega) _).trans (b30.mono (by (try simp only [World.heap_size_alloc, World.heap_size_drew, World.heap_size_setCell]); omega))
      have HB3 := Lib.hid (hb3.trans (below2 (Nat.le_refl _)) : Below w2.heap.size wr (((w3.alloc (.cells #[.slice X0 n0 d0, .slice X1 (n1 + 1) d1] 67)).setCell ⟨w2.heap.size, 0, none⟩ (.slice X0 n0 d0)).setCell ⟨w2.heap.size, 1, none⟩ (.slice X1 (n1 + 1) d1)))
      have S0 := Lib.hid (s0.at2 (b := w2.heap.size) (p := 0) (q := 1) (x := .slice X0 n0 d0) (y := .slice X1 (n1 + 1) d1) (lo' := w2.heap.size + 1) (by (try simp only [World.heap_size_alloc, World.heap_size_drew, World.heap_size_setCell]); omega) (by (try simp only [World.heap_size_alloc, World.heap_size_drew, World.heap_size_setCell]); omega) (by (try simp only [World.heap_size_alloc, World.heap_size_drew, World.heap_size_setCell]); omega))
      have S1 := Lib.hid (s1.at2 (b := w2.heap.size) (p := 0) (q := 1) (x := .slice X0 n0 d0) (y := .slice X1 (n1 + 1) d1) (lo' := w2.heap.size + 1) (by (try simp only [World.heap_size_alloc, World.heap_size_drew, World.heap_size_setCell]); omega) (by (try simp only [World.heap_size_alloc, World.heap_size_drew, World.heap_size_setCell]); omega) (by (try simp only [World.heap_size_alloc, World.heap_size_drew, World.heap_size_setCell]); omega))
      clear s0 s1 b3 hb3 bx3 BX b30
      go_wp2_with fail
      go_roundw
      case rel => exact .inr (.inl ⟨by go_num, X0, d0, X1, d1, BX3.out, S0, S1, HB3, by rw [size2]; (try simp only [World.heap_size_alloc, World.heap_size_drew, World.heap_size_setCell]); omega⟩)
      case measure => simp [intOf]
    · have hx : Below wr.heap.size wr (wr.alloc (.cells #[.slice A2 n2 c2, .slice A3 n3 c3] 67)) := (Below.refl _ _).alloc (Nat.le_refl _) _
      have hxb : Below w2.heap.size w2 (wr.alloc (.cells #[.slice A2 n2 c2, .slice A3 n3 c3] 67)) := HST.out.trans (hb.out.trans (hx.mono (by omega)))
      have HXB := Lib.hid hxb
      obtain ⟨e0, e1, -, -⟩ := Box2.new wr (.slice A2 n2 c2) (.slice A3 n3 c3) 67
      have BX := Lib.hid (bx.below hx (by omega))
      have hxs : (wr.alloc (.cells #[.slice A2 n2 c2, .slice A3 n3 c3] 67)).heap.size = wr.heap.size + 1 := World.heap_size_alloc _ _
      clear hx hxb bx
      go_wp2_with fail
      (with_reducible refine (CB.out _ HXB.out).mono ?_); rintro _ w3 ⟨X2, d2, X3, d3, rfl, s2, s3, b3⟩
      have y3 := b3.size
      simp only [World.heap_size_alloc] at y3
      have bx3 := BX.out.below b3 (by (try simp only [World.heap_size_alloc, World.heap_size_drew, World.heap_size_setCell]); omega)
      have b30 := b3
      have hal : Below w3.heap.size w3 (w3.alloc (.cells #[.slice X2 n2 d2, .slice X3 (n3 + 1) d3] 67)) := (Below.refl _ _).alloc (Nat.le_refl _) _
      replace bx3 := bx3.below hal (by (try simp only [World.heap_size_alloc, World.heap_size_drew, World.heap_size_setCell]); omega)
      replace b30 := b30.trans (hal.mono b3.size)
      replace s2 := s2.below hal (Nat.le_refl _)
      replace s3 := s3.below hal (Nat.le_refl _)
      clear hal
      obtain ⟨-, -, r0, r1, -, -, rf0, rf1⟩ := id bx3
      have BX3 := Lib.hid (bx3.set23 (.slice X2 n2 d2) (.slice X3 (n3 + 1) d3))
      have hb3 : Below wr.heap.size wr (w3.alloc (.cells #[.slice X2 n2 d2, .slice X3 (n3 + 1) d3] 67)) := ((Below.refl _ _).alloc (Nat.le_refl _) _).trans (b30.mono (by (try simp only [World.heap_size_alloc, World.heap_size_drew, World.heap_size_setCell]); omega))
      have HB3 := Lib.hid ((hb.out.trans (hb3.mono (by omega))).trans (below2 (Nat.le_refl _)) : Below w2.heap.size Ws (((w3.alloc (.cells #[.slice X2 n2 d2, .slice X3 (n3 + 1) d3] 67)).setCell ⟨w2.heap.size, 2, none⟩ (.slice X2 n2 d2)).setCell ⟨w2.heap.size, 3, none⟩ (.slice X3 (n3 + 1) d3)))
      have Z2 := Lib.hid (s2.at2 (b := w2.heap.size) (p := 2) (q := 3) (x := .slice X2 n2 d2) (y := .slice X3 (n3 + 1) d3) (lo' := w2.heap.size + 1) (by (try simp only [World.heap_size_alloc, World.heap_size_drew, World.heap_size_setCell]); omega) (by (try simp only [World.heap_size_alloc, World.heap_size_drew, World.heap_size_setCell]); omega) (by (try simp only [World.heap_size_alloc, World.heap_size_drew, World.heap_size_setCell]); omega))
      have Z3 := Lib.hid (s3.at2 (b := w2.heap.size) (p := 2) (q := 3) (x := .slice X2 n2 d2) (y := .slice X3 (n3 + 1) d3) (lo' := w2.heap.size + 1) (by (try simp only [World.heap_size_alloc, World.heap_size_drew, World.heap_size_setCell]); omega) (by (try simp only [World.heap_size_alloc, World.heap_size_drew, World.heap_size_setCell]); omega) (by (try simp only [World.heap_size_alloc, World.heap_size_drew, World.heap_size_setCell]); omega))
      have Z0 := Lib.hid ((S0.out.below hb3 (Nat.le_refl _)).at2 (b := w2.heap.size) (p := 2) (q := 3) (x := .slice X2 n2 d2) (y := .slice X3 (n3 + 1) d3) (lo' := w2.heap.size + 1) (Nat.le_refl _) (Nat.le_refl _) (by (try simp only [World.heap_size_alloc, World.heap_size_drew, World.heap_size_setCell]); omega))
      have Z1 := Lib.hid ((S1.out.below hb3 (Nat.le_refl _)).at2 (b := w2.heap.size) (p := 2) (q := 3) (x := .slice X2 n2 d2) (y := .slice X3 (n3 + 1) d3) (lo' := w2.heap.size + 1) (Nat.le_refl _) (Nat.le_refl _) (by (try simp only [World.heap_size_alloc, World.heap_size_drew, World.heap_size_setCell]); omega))
      clear s2 s3 b3 hb3 bx3 BX hb S0 S1 b30
      go_wp2_with fail
      go_roundw
      case rel => exact .inr (.inr ⟨by go_num, X0, d0, X1, d1, X2, d2, X3, d3, BX3.out, Z0, Z1, Z2, Z3, HB3, by rw [size2]; (try simp only [World.heap_size_alloc, World.heap_size_drew, World.heap_size_setCell]); omega⟩)
      case measure => simp [intOf]
    · have BR := Lib.hid (T1.out _ (P2.out.trans ((HST.out.trans (hb.out.mono (Nat.le_refl _))).mono (by omega)))).2
      obtain ⟨r0, r1, r2, r3, -, -, -, -⟩ := bx
      have HBR := Lib.hid (HB2.out.trans ((HST.out.trans hb.out).mono (by omega)))
      clear hb
      go_wp2_with fail
      (with_reducible refine (twoOf_any _ _ _ _ _ _ _ _ _ _ _ _ _).mono ?_); rintro _ w3 ⟨rfl, b3⟩
      have y3 := b3.size
      obtain ⟨p0, p1, p2, p3, g0, g1, g2, g3⟩ := BR.out.below b3 (by omega)
      have hb4 : Below (w.heap.size + 1) w3 ((((w3.setCell ⟨w.heap.size + 1, 0, none⟩ (.slice X0 n0 d0)).setCell ⟨w.heap.size + 1, 1, none⟩ (.slice X1 (n1 + 1) d1)).setCell ⟨w.heap.size + 1, 2, none⟩ (.slice X2 n2 d2)).setCell ⟨w.heap.size + 1, 3, none⟩ (.slice X3 (n3 + 1) d3)) := below4 (Nat.le_refl _)
      have hu4 : Upd (w.heap.size + 1) (w.heap.size + 2) w3 ((((w3.setCell ⟨w.heap.size + 1, 0, none⟩ (.slice X0 n0 d0)).setCell ⟨w.heap.size + 1, 1, none⟩ (.slice X1 (n1 + 1) d1)).setCell ⟨w.heap.size + 1, 2, none⟩ (.slice X2 n2 d2)).setCell ⟨w.heap.size + 1, 3, none⟩ (.slice X3 (n3 + 1) d3)) := up4
      have Z0 := Lib.hid ((S0.out.below b3 (Nat.le_refl _)).at4 (b := w.heap.size + 1) (x := .slice X0 n0 d0) (y := .slice X1 (n1 + 1) d1) (z := .slice X2 n2 d2) (u := .slice X3 (n3 + 1) d3) (lo' := w.heap.size) (by omega) (by omega) (by omega))
      have Z1 := Lib.hid ((S1.out.below b3 (Nat.le_refl _)).at4 (b := w.heap.size + 1) (x := .slice X0 n0 d0) (y := .slice X1 (n1 + 1) d1) (z := .slice X2 n2 d2) (u := .slice X3 (n3 + 1) d3) (lo' := w.heap.size) (by omega) (by omega) (by omega))
      have Z2 := Lib.hid ((S2.out.below b3 (Nat.le_refl _)).at4 (b := w.heap.size + 1) (x := .slice X0 n0 d0) (y := .slice X1 (n1 + 1) d1) (z := .slice X2 n2 d2) (u := .slice X3 (n3 + 1) d3) (lo' := w.heap.size) (by omega) (by omega) (by omega))
      have Z3 := Lib.hid ((S3.out.below b3 (Nat.le_refl _)).at4 (b := w.heap.size + 1) (x := .slice X0 n0 d0) (y := .slice X1 (n1 + 1) d1) (z := .slice X2 n2 d2) (u := .slice X3 (n3 + 1) d3) (lo' := w.heap.size) (by omega) (by omega) (by omega))
      have HBZ := Lib.hid ((HBR.out.trans (b3.mono (by omega))).trans (hb4.mono (by omega)))
      clear b3 hb4 hu4 S0 S1 S2 S3
      go_wp2_with fail
      refine bodyPost_ret (v := .tuple #[.agg #[.slice X0 n0 d0, .slice X1 (n1 + 1) d1, .slice X2 n2 d2, .slice X3 (n3 + 1) d3], .bool true]) (by simp [results, Try.results146, go_sem, p0, p1, p2, p3, g0, g1, g2, g3]) rfl ⟨X0, d0, X1, d1, X2, d2, X3, d3, rfl, Z0.out, Z1.out, Z2.out, Z3.out, HBZ.out⟩
end Go.Proofs.Ytgnilmdaegnaaaa
