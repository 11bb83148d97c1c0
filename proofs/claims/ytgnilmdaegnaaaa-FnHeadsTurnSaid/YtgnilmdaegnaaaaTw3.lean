/- Pairs of disks: both fallen, at no fates and at two. No conditions. -/
import Derived.Test.YtgnilmdaegnaaaaTw2
import Derived.Deep.RegionLaw
set_option linter.unusedSimpArgs false
set_option linter.unusedVariables false
namespace Go.Proofs.Ytgnilmdaegnaaaa
open Go.RowKit
open Go.ChangeShapes Go.WideShapes Go.ChangeAt

set_option maxRecDepth 100000 in
set_option maxHeartbeats 4000000 in
theorem bothFallen0_any (A0 : Option Addr) (n0 c0 : Nat) (k0 : List (List Int)) (A1 : Option Addr) (n1 c1 : Nat) (v0 : List WriteD) (A2 : Option Addr) (n2 c2 : Nat) (k2 : List (List Int)) (A3 : Option Addr) (n3 c3 : Nat) (v2 : List WriteD) (lo hi : Nat) (w : World) (h0 : SlR w lo hi A0 n0 c0 k0) (h1 : SlW w lo hi A1 n1 c1 v0) (h2 : SlR w lo hi A2 n2 c2 k2) (h3 : SlW w lo hi A3 n3 c3 v2) (hhi : hi ≤ w.heap.size) (Af : Option Addr) (cf : Nat) (hcf : cf ≤ 9223372036854775807) (hd : twoOk k0 v0 k2 v2 = true) :
    Calls Try.prog 62 #[.agg #[.slice A0 n0 c0, .slice A1 n1 c1, .slice A2 n2 c2, .slice A3 n3 c3], .slice Af 0 cf] w (TwRes w n0 (fallM k0 v0 []) 0 [] n2 (fallM k2 v2 []) 0 []) := by
  obtain ⟨hda, hdb, hkk⟩ : diskOk k0 v0 = true ∧ diskOk k2 v2 = true ∧ k0.length = k2.length := by
    simp only [twoOk, Bool.and_eq_true, decide_eq_true_eq] at hd
    exact hd
  have hg0 : n0 ≤ 9223372036854775807 := Nat.le_trans h0.cap h0.big
  have L0 := Lib.hid h0.len
  have L1 := Lib.hid h1.len
  have L2 := Lib.hid h2.len
  have L3 := Lib.hid h3.len
  have H0 := Lib.hid h0
  have H1 := Lib.hid h1
  have H2 := Lib.hid h2
  have H3 := Lib.hid h3
  have C1 : Hid (∀ W, Below w.heap.size w W → Calls Try.prog 98 #[.agg #[.slice A0 n0 c0, .slice A1 n1 c1, .slice A2 n2 c2, .slice A3 n3 c3]] W fun e w' => e = .returned (.bool true) ∧ Below W.heap.size W w') := Lib.hid (fun W hW => by
    have h7 := twoOk_any A0 n0 c0 k0 A1 n1 c1 v0 A2 n2 c2 k2 A3 n3 c3 v2 lo hi W (H0.out.below hW hhi) (H1.out.below hW hhi) (H2.out.below hW hhi) (H3.out.below hW hhi) (Nat.le_trans hhi hW.size)
    rw [hd] at h7
    exact h7)
  have T1 : Hid (∀ W, Below (w.heap.size + 2) ((w.alloc (.cells #[.slice A0 n0 c0, .slice A1 n1 c1, .slice A2 n2 c2, .slice A3 n3 c3] 69)).alloc (.cells #[.slice none 0 0, .slice none 0 0, .slice none 0 0, .slice none 0 0] 69)) W → (Box4 W w.heap.size (.slice A0 n0 c0) (.slice A1 n1 c1) (.slice A2 n2 c2) (.slice A3 n3 c3) ∧ Box4 W (w.heap.size + 1) (.slice none 0 0) (.slice none 0 0) (.slice none 0 0) (.slice none 0 0))) := Lib.hid (fun W hW => ⟨((Box4.new w (.slice A0 n0 c0) (.slice A1 n1 c1) (.slice A2 n2 c2) (.slice A3 n3 c3) 69).below (B := w.heap.size + 1) ((Below.refl _ _).alloc (by simp) (.cells #[.slice none 0 0, .slice none 0 0, .slice none 0 0, .slice none 0 0] 69)) (by omega)).below hW (by omega), by
    have h9 := Box4.new (w.alloc (.cells #[.slice A0 n0 c0, .slice A1 n1 c1, .slice A2 n2 c2, .slice A3 n3 c3] 69)) (.slice none 0 0) (.slice none 0 0) (.slice none 0 0) (.slice none 0 0) 69
    rw [World.heap_size_alloc] at h9
    exact h9.below hW (by omega)⟩)
  have hs9 : ((w.alloc (.cells #[.slice A0 n0 c0, .slice A1 n1 c1, .slice A2 n2 c2, .slice A3 n3 c3] 69)).alloc (.cells #[.slice none 0 0, .slice none 0 0, .slice none 0 0, .slice none 0 0] 69)).heap.size = w.heap.size + 2 := by simp only [World.heap_size_alloc]
  have hb9 : Below w.heap.size w ((w.alloc (.cells #[.slice A0 n0 c0, .slice A1 n1 c1, .slice A2 n2 c2, .slice A3 n3 c3] 69)).alloc (.cells #[.slice none 0 0, .slice none 0 0, .slice none 0 0, .slice none 0 0] 69)) := by (repeat' (first | with_reducible exact Below.refl _ _ | with_reducible assumption | with_reducible refine Below.drew ?_ | with_reducible refine Below.alloc ?_ ?_ _ | with_reducible refine Below.setCell ?_ ?_ _ | with_reducible refine Below.trans ?_ (Below.mono (by assumption) ?_) | ((try simp only [World.heap_size_alloc, World.heap_size_drew, World.heap_size_setCell]); omega)))
  have IX0 := index0 A0 n0 c0 A1 n1 c1 A2 n2 c2 A3 n3 c3
  have IX1 := index1 A0 n0 c0 A1 n1 c1 A2 n2 c2 A3 n3 c3
  clear h0 h1 h2 h3 hd
  go_enter Try.func62, Try.ntmps62
  go_wp2_with fail
  generalize hW0 : (w.alloc (.cells #[.slice A0 n0 c0, .slice A1 n1 c1, .slice A2 n2 c2, .slice A3 n3 c3] 69)).alloc (.cells #[.slice none 0 0, .slice none 0 0, .slice none 0 0, .slice none 0 0] 69) = W0 at *
  clear hW0
  (with_reducible refine (C1.out _ hb9).mono ?_); rintro _ w1 ⟨rfl, b1⟩
  have y1 := b1.size
  have P1 := Lib.hid (b1.mono (by omega) : Below (w.heap.size + 2) W0 w1)
  have HB1 := Lib.hid (hb9.trans (P1.out.mono (by omega)))
  obtain ⟨⟨q0, q1, q2, q3, f0, f1, f2, f3⟩, -⟩ := T1.out _ P1.out
  clear b1 hb9 C1
  have KF := Box2.new w1 (.slice none 0 0) (.slice none 0 0) 143
  have hs5 : (w1.alloc (.cells #[.slice none 0 0, .slice none 0 0] 143)).heap.size = w1.heap.size + 1 := World.heap_size_alloc _ _
  have hb5 : Below w1.heap.size w1 (w1.alloc (.cells #[.slice none 0 0, .slice none 0 0] 143)) := (Below.refl _ _).alloc (Nat.le_refl _) _
  have HB5 := Lib.hid hb5
  have KFH := Lib.hid KF
  obtain ⟨kf0, kf1, kg0, kg1⟩ := KF
  clear hb5
  go_wp2_with fail
  generalize hW5 : (w1.alloc (.cells #[.slice none 0 0, .slice none 0 0] 143)) = W5 at *
  have hs5a := Nat.le_of_eq hs5
  have hs5b := Nat.le_of_eq hs5.symm
  clear hs5
  clear hW5 kf0 kf1 kg0 kg1 q0 q1 q2 q3 f0 f1 f2 f3
  go_loopw [6, 7, 18] (fun _ _ i wr => i = .int .i64 0 ∧ wr = W5) (fun _ _ i _ => 2 - (intOf i).toNat)
  case atStart => exact ⟨rfl, rfl⟩
  case round =>
    obtain ⟨rfl, rfl⟩ := hrel
    obtain ⟨wF, rfl⟩ : ∃ x, x = wr := ⟨wr, rfl⟩
    obtain ⟨b5, hb5e⟩ : ∃ x, x = w1.heap.size := ⟨_, rfl⟩
    have hb5w : b5 < wF.heap.size := by omega
    have BF : Hid (Box2 wF b5 (.slice none 0 0) (.slice none 0 0)) := Lib.hid (by rw [hb5e]; exact KFH.out)
    have SF0 : Hid (Sl wF (w1.heap.size + 1) wF.heap.size 1 none 0 0 []) := Lib.hid (Sl.nil _ _ _ _ _ _ (by omega))
    have SF1 : Hid (Sl wF (w1.heap.size + 1) wF.heap.size 1 none 0 0 []) := Lib.hid (Sl.nil _ _ _ _ _ _ (by omega))
    have hyF : w1.heap.size ≤ wF.heap.size := by omega
    have P1 := Lib.hid (P1.out.trans (HB5.out.mono (by omega)))
    have HB1 := Lib.hid (HB1.out.trans (HB5.out.mono (by have := HB1.out.size; omega)))
    obtain ⟨⟨q0, q1, q2, q3, f0, f1, f2, f3⟩, -⟩ := T1.out _ P1.out
    generalize w1.heap.size = n1z at *
    subst hb5e
    go_wp2_with fail
    (with_reducible refine (disks_any _ _ _ _ _ _ _ _ _ _ _ _ _).mono ?_); rintro _ w2 ⟨rfl, b2⟩
    have y2 := b2.size
    have P2 : Hid (Below (w.heap.size + 2) W0 w2) := Lib.hid (P1.out.trans (b2.mono (by omega)))
    have HB2 := Lib.hid (HB1.out.trans ((b2.mono (by omega)).mono (by omega)))
    have HS2 := Lib.hid b2
    have HSF : Hid (∀ W, Below w2.heap.size w2 W → Box2 W b5 (.slice none 0 0) (.slice none 0 0)) := Lib.hid (fun W hW => BF.out.below (HS2.out.trans (hW.mono HS2.out.size)) (by omega))
    have CA : Hid (∀ W, Below w2.heap.size w2 W → Calls Try.prog 56 #[.agg #[.slice A0 n0 c0, .slice A1 n1 c1], .slice none 0 0] W (DkRes W n0 (fallM k0 v0 []) 0 [])) := Lib.hid (fun W hW => by
      have hwW := HB2.out.trans (hW.mono (by have := HB2.out.size; omega))
      exact fallen_any A0 n0 c0 k0 A1 n1 c1 v0 lo hi W (H0.out.below hwW hhi) (H1.out.below hwW hhi) (Nat.le_trans hhi hwW.size) none _ 0 _ _ [] (SF0.out.below (HS2.out.trans (hW.mono HS2.out.size)) (Nat.le_refl _)) (Nat.le_trans HS2.out.size hW.size) hda)
    have CB : Hid (∀ W, Below w2.heap.size w2 W → Calls Try.prog 56 #[.agg #[.slice A2 n2 c2, .slice A3 n3 c3], .slice none 0 0] W (DkRes W n2 (fallM k2 v2 []) 0 [])) := Lib.hid (fun W hW => by
      have hwW := HB2.out.trans (hW.mono (by have := HB2.out.size; omega))
      exact fallen_any A2 n2 c2 k2 A3 n3 c3 v2 lo hi W (H2.out.below hwW hhi) (H3.out.below hwW hhi) (Nat.le_trans hhi hwW.size) none _ 0 _ _ [] (SF1.out.below (HS2.out.trans (hW.mono HS2.out.size)) (Nat.le_refl _)) (Nat.le_trans HS2.out.size hW.size) hdb)
    have KB := Box4.new w2 (.slice A0 n0 c0) (.slice A1 n1 c1) (.slice A2 n2 c2) (.slice A3 n3 c3) 139
    have hst : Below w2.heap.size w2 (w2.alloc (.cells #[.slice A0 n0 c0, .slice A1 n1 c1, .slice A2 n2 c2, .slice A3 n3 c3] 139)) := (Below.refl _ _).alloc (Nat.le_refl _) _
    have hss : (w2.alloc (.cells #[.slice A0 n0 c0, .slice A1 n1 c1, .slice A2 n2 c2, .slice A3 n3 c3] 139)).heap.size = w2.heap.size + 1 := World.heap_size_alloc _ _
    have HST := Lib.hid hst
    obtain ⟨k0', k1', k2', k3', -, -, -, -⟩ := id KB
    have KBH := Lib.hid KB
    clear q0 q1 q2 q3 f0 f1 f2 f3 b2 KB hst
    go_wp2_with fail
    generalize hWs : (w2.alloc (.cells #[.slice A0 n0 c0, .slice A1 n1 c1, .slice A2 n2 c2, .slice A3 n3 c3] 139)) = Ws at *
    clear hWs k0' k1' k2' k3'
    go_loopw [9, 10, 37] (fun _ _ i wr => (i = .int .i64 0 ∧ wr = Ws) ∨ (i = .int .i64 1 ∧ ∃ (X0 : Option Addr) (d0 : Nat) (X1 : Option Addr) (d1 : Nat), Box4 wr w2.heap.size (.slice X0 n0 d0) (.slice X1 0 d1) (.slice A2 n2 c2) (.slice A3 n3 c3) ∧ Hid (SlR wr (w2.heap.size + 1) wr.heap.size X0 n0 d0 (fallM k0 v0 [])) ∧ Hid (SlW wr (w2.heap.size + 1) wr.heap.size X1 0 d1 []) ∧ Hid (Below w2.heap.size Ws wr) ∧ w2.heap.size + 1 ≤ wr.heap.size) ∨ (i = .int .i64 2 ∧ ∃ (X0 : Option Addr) (d0 : Nat) (X1 : Option Addr) (d1 : Nat) (X2 : Option Addr) (d2 : Nat) (X3 : Option Addr) (d3 : Nat), Box4 wr w2.heap.size (.slice X0 n0 d0) (.slice X1 0 d1) (.slice X2 n2 d2) (.slice X3 0 d3) ∧ Hid (SlR wr (w2.heap.size + 1) wr.heap.size X0 n0 d0 (fallM k0 v0 [])) ∧ Hid (SlW wr (w2.heap.size + 1) wr.heap.size X1 0 d1 []) ∧ Hid (SlR wr (w2.heap.size + 1) wr.heap.size X2 n2 d2 (fallM k2 v2 [])) ∧ Hid (SlW wr (w2.heap.size + 1) wr.heap.size X3 0 d3 []) ∧ Hid (Below w2.heap.size Ws wr) ∧ w2.heap.size + 1 ≤ wr.heap.size)) (fun _ _ i _ => 2 - (intOf i).toNat)
    case atStart => exact .inl ⟨rfl, rfl⟩
    case round =>
      rcases hrel with ⟨rfl, rfl⟩ | ⟨rfl, X0, d0, X1, d1, bx, S0, S1, hb, hlt⟩ | ⟨rfl, X0, d0, X1, d1, X2, d2, X3, d3, bx, S0, S1, S2, S3, hb, hlt⟩
      · have hx : Below wr.heap.size wr (wr.alloc (.cells #[.slice A0 n0 c0, .slice A1 n1 c1] 67)) := (Below.refl _ _).alloc (Nat.le_refl _) _
        have hxb : Below w2.heap.size w2 (wr.alloc (.cells #[.slice A0 n0 c0, .slice A1 n1 c1] 67)) := HST.out.trans (hx.mono (by omega))
        have HXB := Lib.hid hxb
        obtain ⟨e0, e1, -, -⟩ := Box2.new wr (.slice A0 n0 c0) (.slice A1 n1 c1) 67
        have BX := Lib.hid (KBH.out.below hx (by omega))
        have hxs : (wr.alloc (.cells #[.slice A0 n0 c0, .slice A1 n1 c1] 67)).heap.size = wr.heap.size + 1 := World.heap_size_alloc _ _
        clear hx hxb
        obtain ⟨u0, u1, -, -⟩ := HSF.out _ HXB.out
        go_upto_region 13 with fail
        go_region_law (first | (go_simp; go_at_call 56; (with_reducible refine (CA.out _ (by first | exact HXB.out | exact HXB.out.drew | (repeat' (first | with_reducible exact Below.refl _ _ | with_reducible assumption | with_reducible refine Below.drew ?_ | with_reducible refine Below.alloc ?_ ?_ _ | with_reducible refine Below.setCell ?_ ?_ _ | with_reducible refine Below.trans ?_ (Below.mono (by assumption) ?_) | ((try simp only [World.heap_size_alloc, World.heap_size_drew, World.heap_size_setCell]); omega))))).mono ?_); rintro _ w3 ⟨X0, d0, X1, d1, rfl, s0, s1, b3⟩; have y3 := b3.size; (try simp only [World.heap_size_alloc, World.heap_size_drew] at y3); have hdw : Below (wr.heap.size + 1) (wr.alloc (.cells #[.slice A0 n0 c0, .slice A1 n1 c1] 67)) w3 := Below.trans (by (repeat' (first | with_reducible exact Below.refl _ _ | with_reducible assumption | with_reducible refine Below.drew ?_ | with_reducible refine Below.alloc ?_ ?_ _ | with_reducible refine Below.setCell ?_ ?_ _ | with_reducible refine Below.trans ?_ (Below.mono (by assumption) ?_) | ((try simp only [World.heap_size_alloc, World.heap_size_drew, World.heap_size_setCell]); omega)))) (b3.mono (by (try simp only [World.heap_size_alloc, World.heap_size_drew, World.heap_size_setCell]); omega)); have bx3 := BX.out.below hdw (by omega); have b30 := b3; obtain ⟨r0, r1, -, -, rf0, rf1, -, -⟩ := id bx3; have BX3 := Lib.hid (bx3.set01 (.slice X0 n0 d0) (.slice X1 0 d1)); have hb3 : Below w2.heap.size wr w3 := ((Below.refl _ _).alloc (by omega) _).trans (hdw.mono (by omega)); have HB3 := Lib.hid (hb3.trans (below2 (Nat.le_refl _)) : Below w2.heap.size wr ((w3.setCell ⟨w2.heap.size, 0, none⟩ (.slice X0 n0 d0)).setCell ⟨w2.heap.size, 1, none⟩ (.slice X1 0 d1))); have S0 := Lib.hid (s0.at2 (b := w2.heap.size) (p := 0) (q := 1) (x := .slice X0 n0 d0) (y := .slice X1 0 d1) (lo' := w2.heap.size + 1) (by (try simp only [World.heap_size_alloc, World.heap_size_drew, World.heap_size_setCell]); omega) (by (try simp only [World.heap_size_alloc, World.heap_size_drew, World.heap_size_setCell]); omega) (by (try simp only [World.heap_size_alloc, World.heap_size_drew, World.heap_size_setCell]); omega)); have S1 := Lib.hid (s1.at2 (b := w2.heap.size) (p := 0) (q := 1) (x := .slice X0 n0 d0) (y := .slice X1 0 d1) (lo' := w2.heap.size + 1) (by (try simp only [World.heap_size_alloc, World.heap_size_drew, World.heap_size_setCell]); omega) (by (try simp only [World.heap_size_alloc, World.heap_size_drew, World.heap_size_setCell]); omega) (by (try simp only [World.heap_size_alloc, World.heap_size_drew, World.heap_size_setCell]); omega)); clear s0 s1 b3 hb3 bx3 BX b30))
        all_goals
          go_wp2_with fail
          go_roundw
          case rel => exact .inr (.inl ⟨by go_num, X0, d0, X1, d1, BX3.out, S0, S1, HB3, by rw [size2]; omega⟩)
          case measure => simp [intOf]
      · have hx : Below wr.heap.size wr (wr.alloc (.cells #[.slice A2 n2 c2, .slice A3 n3 c3] 67)) := (Below.refl _ _).alloc (Nat.le_refl _) _
        have hxb : Below w2.heap.size w2 (wr.alloc (.cells #[.slice A2 n2 c2, .slice A3 n3 c3] 67)) := HST.out.trans (hb.out.trans (hx.mono (by omega)))
        have HXB := Lib.hid hxb
        obtain ⟨e0, e1, -, -⟩ := Box2.new wr (.slice A2 n2 c2) (.slice A3 n3 c3) 67
        have BX := Lib.hid (bx.below hx (by omega))
        have hxs : (wr.alloc (.cells #[.slice A2 n2 c2, .slice A3 n3 c3] 67)).heap.size = wr.heap.size + 1 := World.heap_size_alloc _ _
        clear hx hxb bx
        obtain ⟨u0, u1, -, -⟩ := HSF.out _ HXB.out
        go_upto_region 13 with fail
        go_region_law (first | (go_simp; go_at_call 56; (with_reducible refine (CB.out _ (by first | exact HXB.out | exact HXB.out.drew | (repeat' (first | with_reducible exact Below.refl _ _ | with_reducible assumption | with_reducible refine Below.drew ?_ | with_reducible refine Below.alloc ?_ ?_ _ | with_reducible refine Below.setCell ?_ ?_ _ | with_reducible refine Below.trans ?_ (Below.mono (by assumption) ?_) | ((try simp only [World.heap_size_alloc, World.heap_size_drew, World.heap_size_setCell]); omega))))).mono ?_); rintro _ w3 ⟨X2, d2, X3, d3, rfl, s2, s3, b3⟩; have y3 := b3.size; (try simp only [World.heap_size_alloc, World.heap_size_drew] at y3); have hdw : Below (wr.heap.size + 1) (wr.alloc (.cells #[.slice A2 n2 c2, .slice A3 n3 c3] 67)) w3 := Below.trans (by (repeat' (first | with_reducible exact Below.refl _ _ | with_reducible assumption | with_reducible refine Below.drew ?_ | with_reducible refine Below.alloc ?_ ?_ _ | with_reducible refine Below.setCell ?_ ?_ _ | with_reducible refine Below.trans ?_ (Below.mono (by assumption) ?_) | ((try simp only [World.heap_size_alloc, World.heap_size_drew, World.heap_size_setCell]); omega)))) (b3.mono (by (try simp only [World.heap_size_alloc, World.heap_size_drew, World.heap_size_setCell]); omega)); have bx3 := BX.out.below hdw (by omega); have b30 := b3; obtain ⟨-, -, r0, r1, -, -, rf0, rf1⟩ := id bx3; have BX3 := Lib.hid (bx3.set23 (.slice X2 n2 d2) (.slice X3 0 d3)); have hb3 : Below wr.heap.size wr w3 := ((Below.refl _ _).alloc (Nat.le_refl _) _).trans (hdw.mono (by omega)); have HB3 := Lib.hid ((hb.out.trans (hb3.mono (by omega))).trans (below2 (Nat.le_refl _)) : Below w2.heap.size Ws ((w3.setCell ⟨w2.heap.size, 2, none⟩ (.slice X2 n2 d2)).setCell ⟨w2.heap.size, 3, none⟩ (.slice X3 0 d3))); have Z2 := Lib.hid (s2.at2 (b := w2.heap.size) (p := 2) (q := 3) (x := .slice X2 n2 d2) (y := .slice X3 0 d3) (lo' := w2.heap.size + 1) (by (try simp only [World.heap_size_alloc, World.heap_size_drew, World.heap_size_setCell]); omega) (by (try simp only [World.heap_size_alloc, World.heap_size_drew, World.heap_size_setCell]); omega) (by (try simp only [World.heap_size_alloc, World.heap_size_drew, World.heap_size_setCell]); omega)); have Z3 := Lib.hid (s3.at2 (b := w2.heap.size) (p := 2) (q := 3) (x := .slice X2 n2 d2) (y := .slice X3 0 d3) (lo' := w2.heap.size + 1) (by (try simp only [World.heap_size_alloc, World.heap_size_drew, World.heap_size_setCell]); omega) (by (try simp only [World.heap_size_alloc, World.heap_size_drew, World.heap_size_setCell]); omega) (by (try simp only [World.heap_size_alloc, World.heap_size_drew, World.heap_size_setCell]); omega)); have Z0 := Lib.hid ((S0.out.below hb3 (Nat.le_refl _)).at2 (b := w2.heap.size) (p := 2) (q := 3) (x := .slice X2 n2 d2) (y := .slice X3 0 d3) (lo' := w2.heap.size + 1) (Nat.le_refl _) (Nat.le_refl _) (by (try simp only [World.heap_size_alloc, World.heap_size_drew, World.heap_size_setCell]); omega)); have Z1 := Lib.hid ((S1.out.below hb3 (Nat.le_refl _)).at2 (b := w2.heap.size) (p := 2) (q := 3) (x := .slice X2 n2 d2) (y := .slice X3 0 d3) (lo' := w2.heap.size + 1) (Nat.le_refl _) (Nat.le_refl _) (by (try simp only [World.heap_size_alloc, World.heap_size_drew, World.heap_size_setCell]); omega)); clear s2 s3 b3 hb3 bx3 BX hb S0 S1 b30))
        all_goals
          go_wp2_with fail
          go_roundw
          case rel => exact .inr (.inr ⟨by go_num, X0, d0, X1, d1, X2, d2, X3, d3, BX3.out, Z0, Z1, Z2, Z3, HB3, by rw [size2]; omega⟩)
          case measure => simp [intOf]
      · have BR := Lib.hid (T1.out _ (P2.out.trans ((HST.out.trans (hb.out.mono (Nat.le_refl _))).mono (by omega)))).2
        obtain ⟨r0, r1, r2, r3, -, -, -, -⟩ := bx
        have HBR := Lib.hid (HB2.out.trans ((HST.out.trans hb.out).mono (by omega)))
        clear hb
        go_wp2_with fail
        (with_reducible refine (twoOf_any _ _ _ _ _ _ _ _ _ _ _ _ _).mono ?_); rintro _ w3 ⟨rfl, b3⟩
        have y3 := b3.size
        obtain ⟨p0, p1, p2, p3, g0, g1, g2, g3⟩ := BR.out.below b3 (by omega)
        have hb4 : Below (w.heap.size + 1) w3 ((((w3.setCell ⟨w.heap.size + 1, 0, none⟩ (.slice X0 n0 d0)).setCell ⟨w.heap.size + 1, 1, none⟩ (.slice X1 0 d1)).setCell ⟨w.heap.size + 1, 2, none⟩ (.slice X2 n2 d2)).setCell ⟨w.heap.size + 1, 3, none⟩ (.slice X3 0 d3)) := below4 (Nat.le_refl _)
        have hu4 : Upd (w.heap.size + 1) (w.heap.size + 2) w3 ((((w3.setCell ⟨w.heap.size + 1, 0, none⟩ (.slice X0 n0 d0)).setCell ⟨w.heap.size + 1, 1, none⟩ (.slice X1 0 d1)).setCell ⟨w.heap.size + 1, 2, none⟩ (.slice X2 n2 d2)).setCell ⟨w.heap.size + 1, 3, none⟩ (.slice X3 0 d3)) := up4
        have Z0 := Lib.hid ((S0.out.below b3 (Nat.le_refl _)).at4 (b := w.heap.size + 1) (x := .slice X0 n0 d0) (y := .slice X1 0 d1) (z := .slice X2 n2 d2) (u := .slice X3 0 d3) (lo' := w.heap.size) (by omega) (by omega) (by omega))
        have Z1 := Lib.hid ((S1.out.below b3 (Nat.le_refl _)).at4 (b := w.heap.size + 1) (x := .slice X0 n0 d0) (y := .slice X1 0 d1) (z := .slice X2 n2 d2) (u := .slice X3 0 d3) (lo' := w.heap.size) (by omega) (by omega) (by omega))
        have Z2 := Lib.hid ((S2.out.below b3 (Nat.le_refl _)).at4 (b := w.heap.size + 1) (x := .slice X0 n0 d0) (y := .slice X1 0 d1) (z := .slice X2 n2 d2) (u := .slice X3 0 d3) (lo' := w.heap.size) (by omega) (by omega) (by omega))
        have Z3 := Lib.hid ((S3.out.below b3 (Nat.le_refl _)).at4 (b := w.heap.size + 1) (x := .slice X0 n0 d0) (y := .slice X1 0 d1) (z := .slice X2 n2 d2) (u := .slice X3 0 d3) (lo' := w.heap.size) (by omega) (by omega) (by omega))
        have HBZ := Lib.hid ((HBR.out.trans (b3.mono (by omega))).trans (hb4.mono (by omega)))
        clear b3 hb4 hu4 S0 S1 S2 S3
        go_wp2_with fail
        refine bodyPost_ret (v := .agg #[.slice X0 n0 d0, .slice X1 0 d1, .slice X2 n2 d2, .slice X3 0 d3]) (by simp [results, Try.results62, go_sem, p0, p1, p2, p3, g0, g1, g2, g3]) rfl ⟨X0, d0, X1, d1, X2, d2, X3, d3, rfl, Z0.out, Z1.out, Z2.out, Z3.out, HBZ.out⟩
set_option maxRecDepth 100000 in
set_option maxHeartbeats 4000000 in
theorem bothFallen2_any (A0 : Option Addr) (n0 c0 : Nat) (k0 : List (List Int)) (A1 : Option Addr) (n1 c1 : Nat) (v0 : List WriteD) (A2 : Option Addr) (n2 c2 : Nat) (k2 : List (List Int)) (A3 : Option Addr) (n3 c3 : Nat) (v2 : List WriteD) (lo hi : Nat) (w : World) (h0 : SlR w lo hi A0 n0 c0 k0) (h1 : SlW w lo hi A1 n1 c1 v0) (h2 : SlR w lo hi A2 n2 c2 k2) (h3 : SlW w lo hi A3 n3 c3 v2) (hhi : hi ≤ w.heap.size) (Af : Option Addr) (cf lof hif : Nat) (fa fb : Int) (hfs : Sl w lof hif 1 Af 2 cf [fa, fb]) (hhf : hif ≤ w.heap.size) (hd : twoOk k0 v0 k2 v2 = true) :
    Calls Try.prog 62 #[.agg #[.slice A0 n0 c0, .slice A1 n1 c1, .slice A2 n2 c2, .slice A3 n3 c3], .slice Af 2 cf] w (TwRes w n0 (fallM k0 v0 [fa]) 0 [] n2 (fallM k2 v2 [fb]) 0 []) := by
  obtain ⟨hda, hdb, hkk⟩ : diskOk k0 v0 = true ∧ diskOk k2 v2 = true ∧ k0.length = k2.length := by
    simp only [twoOk, Bool.and_eq_true, decide_eq_true_eq] at hd
    exact hd
  have hg0 : n0 ≤ 9223372036854775807 := Nat.le_trans h0.cap h0.big
  have L0 := Lib.hid h0.len
  have L1 := Lib.hid h1.len
  have L2 := Lib.hid h2.len
  have L3 := Lib.hid h3.len
  have H0 := Lib.hid h0
  have H1 := Lib.hid h1
  have H2 := Lib.hid h2
  have H3 := Lib.hid h3
  have C1 : Hid (∀ W, Below w.heap.size w W → Calls Try.prog 98 #[.agg #[.slice A0 n0 c0, .slice A1 n1 c1, .slice A2 n2 c2, .slice A3 n3 c3]] W fun e w' => e = .returned (.bool true) ∧ Below W.heap.size W w') := Lib.hid (fun W hW => by
    have h7 := twoOk_any A0 n0 c0 k0 A1 n1 c1 v0 A2 n2 c2 k2 A3 n3 c3 v2 lo hi W (H0.out.below hW hhi) (H1.out.below hW hhi) (H2.out.below hW hhi) (H3.out.below hW hhi) (Nat.le_trans hhi hW.size)
    rw [hd] at h7
    exact h7)
  have T1 : Hid (∀ W, Below (w.heap.size + 2) ((w.alloc (.cells #[.slice A0 n0 c0, .slice A1 n1 c1, .slice A2 n2 c2, .slice A3 n3 c3] 69)).alloc (.cells #[.slice none 0 0, .slice none 0 0, .slice none 0 0, .slice none 0 0] 69)) W → (Box4 W w.heap.size (.slice A0 n0 c0) (.slice A1 n1 c1) (.slice A2 n2 c2) (.slice A3 n3 c3) ∧ Box4 W (w.heap.size + 1) (.slice none 0 0) (.slice none 0 0) (.slice none 0 0) (.slice none 0 0))) := Lib.hid (fun W hW => ⟨((Box4.new w (.slice A0 n0 c0) (.slice A1 n1 c1) (.slice A2 n2 c2) (.slice A3 n3 c3) 69).below (B := w.heap.size + 1) ((Below.refl _ _).alloc (by simp) (.cells #[.slice none 0 0, .slice none 0 0, .slice none 0 0, .slice none 0 0] 69)) (by omega)).below hW (by omega), by
    have h9 := Box4.new (w.alloc (.cells #[.slice A0 n0 c0, .slice A1 n1 c1, .slice A2 n2 c2, .slice A3 n3 c3] 69)) (.slice none 0 0) (.slice none 0 0) (.slice none 0 0) (.slice none 0 0) 69
    rw [World.heap_size_alloc] at h9
    exact h9.below hW (by omega)⟩)
  have hs9 : ((w.alloc (.cells #[.slice A0 n0 c0, .slice A1 n1 c1, .slice A2 n2 c2, .slice A3 n3 c3] 69)).alloc (.cells #[.slice none 0 0, .slice none 0 0, .slice none 0 0, .slice none 0 0] 69)).heap.size = w.heap.size + 2 := by simp only [World.heap_size_alloc]
  have hb9 : Below w.heap.size w ((w.alloc (.cells #[.slice A0 n0 c0, .slice A1 n1 c1, .slice A2 n2 c2, .slice A3 n3 c3] 69)).alloc (.cells #[.slice none 0 0, .slice none 0 0, .slice none 0 0, .slice none 0 0] 69)) := by (repeat' (first | with_reducible exact Below.refl _ _ | with_reducible assumption | with_reducible refine Below.drew ?_ | with_reducible refine Below.alloc ?_ ?_ _ | with_reducible refine Below.setCell ?_ ?_ _ | with_reducible refine Below.trans ?_ (Below.mono (by assumption) ?_) | ((try simp only [World.heap_size_alloc, World.heap_size_drew, World.heap_size_setCell]); omega)))
  have IX0 := index0 A0 n0 c0 A1 n1 c1 A2 n2 c2 A3 n3 c3
  have IX1 := index1 A0 n0 c0 A1 n1 c1 A2 n2 c2 A3 n3 c3
  clear h0 h1 h2 h3 hd
  go_enter Try.func62, Try.ntmps62
  go_wp2_with fail
  generalize hW0 : (w.alloc (.cells #[.slice A0 n0 c0, .slice A1 n1 c1, .slice A2 n2 c2, .slice A3 n3 c3] 69)).alloc (.cells #[.slice none 0 0, .slice none 0 0, .slice none 0 0, .slice none 0 0] 69) = W0 at *
  clear hW0
  (with_reducible refine (C1.out _ hb9).mono ?_); rintro _ w1 ⟨rfl, b1⟩
  have y1 := b1.size
  have P1 := Lib.hid (b1.mono (by omega) : Below (w.heap.size + 2) W0 w1)
  have HB1 := Lib.hid (hb9.trans (P1.out.mono (by omega)))
  obtain ⟨⟨q0, q1, q2, q3, f0, f1, f2, f3⟩, -⟩ := T1.out _ P1.out
  clear b1 hb9 C1
  have KF := Box2.new w1 (.slice none 0 0) (.slice none 0 0) 143
  have hs5 : (w1.alloc (.cells #[.slice none 0 0, .slice none 0 0] 143)).heap.size = w1.heap.size + 1 := World.heap_size_alloc _ _
  have hb5 : Below w1.heap.size w1 (w1.alloc (.cells #[.slice none 0 0, .slice none 0 0] 143)) := (Below.refl _ _).alloc (Nat.le_refl _) _
  have HB5 := Lib.hid hb5
  have KFH := Lib.hid KF
  obtain ⟨kf0, kf1, kg0, kg1⟩ := KF
  clear hb5
  have HFS := Lib.hid hfs
  obtain ⟨gf, of, x9, rfl, -, hgf, hx9, pf0⟩ := hfs.int (show 0 < 2 by omega)
  obtain ⟨gf', of', x8, e8, -, -, hx8, pf1⟩ := hfs.int (show 1 < 2 by omega)
  injection e8 with e8
  injection e8 with e8 e7
  subst e8 e7
  simp only [List.getElem?_cons_zero, Option.some.injEq] at hx9
  subst hx9
  simp only [List.getElem?_cons_succ, List.getElem?_cons_zero, Option.some.injEq] at hx8
  subst hx8
  have HPF : Hid (∀ W, Below w.heap.size w W → (W.cell? ⟨gf, of, none⟩ = some (.int .i64 fa) ∧ W.cell? ⟨gf, of + 1, none⟩ = some (.int .i64 fb))) := Lib.hid (fun W hW => ⟨(hW.cell (p := ⟨gf, of, none⟩) (show gf < w.heap.size by omega)).trans pf0, (hW.cell (p := ⟨gf, of + 1, none⟩) (show gf < w.heap.size by omega)).trans pf1⟩)
  clear hfs pf0 pf1
  go_wp2_with fail
  generalize hW5 : (w1.alloc (.cells #[.slice none 0 0, .slice none 0 0] 143)) = W5 at *
  have hs5a := Nat.le_of_eq hs5
  have hs5b := Nat.le_of_eq hs5.symm
  clear hs5
  clear hW5 kf0 kf1 kg0 kg1 q0 q1 q2 q3 f0 f1 f2 f3
  have H2 := Lib.hid H2.out
  go_loopw [6, 7, 18] (fun _ _ i wr => (i = .int .i64 0 ∧ wr = W5) ∨ (i = .int .i64 1 ∧ ∃ (F0 : Option Addr) (e0 : Nat), Box2 wr w1.heap.size (.slice F0 1 e0) (.slice none 0 0) ∧ Hid (Sl wr (w1.heap.size + 1) wr.heap.size 1 F0 1 e0 [fa]) ∧ Hid (Below w1.heap.size w1 wr) ∧ w1.heap.size + 1 ≤ wr.heap.size) ∨ (i = .int .i64 2 ∧ ∃ (F0 : Option Addr) (e0 : Nat) (F1 : Option Addr) (e1 : Nat), Box2 wr w1.heap.size (.slice F0 1 e0) (.slice F1 1 e1) ∧ Hid (Sl wr (w1.heap.size + 1) wr.heap.size 1 F0 1 e0 [fa]) ∧ Hid (Sl wr (w1.heap.size + 1) wr.heap.size 1 F1 1 e1 [fb]) ∧ Hid (Below w1.heap.size w1 wr) ∧ w1.heap.size + 1 ≤ wr.heap.size)) (fun _ _ i _ => 2 - (intOf i).toNat)
  case atStart => exact .inl ⟨rfl, rfl⟩
  case round =>
    rcases hrel with ⟨rfl, rfl⟩ | ⟨rfl, F0, e0, bx, S0, hb, hlt⟩ | ⟨rfl, F0, e0, F1, e1, bx, S0, S1, hb, hlt⟩
    · have bx := KFH.out
      have HCW := Lib.hid (HB1.out.trans (HB5.out.mono (by have := HB1.out.size; omega)))
      obtain ⟨pf0, pf1⟩ := HPF.out _ HCW.out
      obtain ⟨z0, z1, zf0, zf1⟩ := id bx
      have bxa : Box2 (wr.alloc (.cells #[.int .i64 fa] 2)) w1.heap.size (.slice none 0 0) (.slice none 0 0) := bx.below ((Below.refl wr.heap.size wr).alloc (Nat.le_refl _) _) (by omega)
      obtain ⟨za0, za1, zaf0, zaf1⟩ := id bxa
      have hwa : (wr.alloc (.cells #[.int .i64 fa] 2)).heap.size = wr.heap.size + 1 := World.heap_size_alloc _ _
      have BXA := Lib.hid bxa
      clear bx bxa
      go_wp2_with (at_builtin; go_loud (refine wpList_append_sl _ rfl (.tmp 28) (.tmp 30) 28 rfl (wr.heap.size + 1) 2 Try.underlying28 info64 rfl (by omega) (.slice none 0 0) 0 [] rfl (Own.nil _ _ _ _) _ 1 1 _ _ [fa] rfl (src_one wr 2 fa) (by omega) (by omega) (by (try simp only [World.heap_size_alloc, World.heap_size_drew, World.heap_size_setCell]); omega) ?_); intro v6 w6 o6 g6 a6; obtain ⟨F0, e0, rfl, s6⟩ := o6.sl; have hb6 : Below (wr.heap.size + 1) (wr.alloc (.cells #[.int .i64 fa] 2)) w6 := grown_below g6 (by (try simp only [World.heap_size_alloc, World.heap_size_drew, World.heap_size_setCell]); omega) (fun g hg => by cases hg); have bx6 := BXA.out.below hb6 (by omega); obtain ⟨y0, y1, yf0, yf1⟩ := id bx6; have BX6 := Lib.hid bx6; have HB6 := Lib.hid hb6; have S6 := Lib.hid s6; have hz6 := hb6.size; clear o6 g6 a6 s6 hb6 bx6)
      have hu1 : Upd w1.heap.size (w1.heap.size + 1) w6 (w6.setCell ⟨w1.heap.size, 0, none⟩ (.slice F0 1 e0)) := Box2.upd1
      have hzz : (w6.setCell ⟨w1.heap.size, 0, none⟩ (.slice F0 1 e0)).heap.size = w6.heap.size := World.heap_size_setCell _ _ _
      have BX7 := Lib.hid (BX6.out.set0 (.slice F0 1 e0))
      have S7 := Lib.hid ((S6.out.upd hu1 (.inr (by omega))).mono (lo' := w1.heap.size + 1) (hi' := (w6.setCell ⟨w1.heap.size, 0, none⟩ (.slice F0 1 e0)).heap.size) (by omega) (by omega))
      have HB7 := Lib.hid ((HB5.out.trans ((((Below.refl wr.heap.size wr).alloc (Nat.le_refl _) _).trans (HB6.out.mono (by omega))).mono (by omega))).setCell (p := ⟨w1.heap.size, 0, none⟩) (Nat.le_refl _) (.slice F0 1 e0))
      clear hu1
      go_wp2_with fail
      go_roundw
      case rel => exact .inr (.inl ⟨by go_num, F0, e0, BX7.out, S7, HB7, by omega⟩)
      case measure => simp [intOf]
    · have HCW := Lib.hid (HB1.out.trans (hb.out.mono (by have := HB1.out.size; omega)))
      obtain ⟨pf0, pf1⟩ := HPF.out _ HCW.out
      obtain ⟨z0, z1, zf0, zf1⟩ := id bx
      have bxa : Box2 (wr.alloc (.cells #[.int .i64 fb] 2)) w1.heap.size (.slice F0 1 e0) (.slice none 0 0) := bx.below ((Below.refl wr.heap.size wr).alloc (Nat.le_refl _) _) (by omega)
      obtain ⟨za0, za1, zaf0, zaf1⟩ := id bxa
      have hwa : (wr.alloc (.cells #[.int .i64 fb] 2)).heap.size = wr.heap.size + 1 := World.heap_size_alloc _ _
      have BXA := Lib.hid bxa
      clear bx bxa
      go_wp2_with (at_builtin; go_loud (refine wpList_append_sl _ rfl (.tmp 28) (.tmp 30) 28 rfl (wr.heap.size + 1) 2 Try.underlying28 info64 rfl (by omega) (.slice none 0 0) 0 [] rfl (Own.nil _ _ _ _) _ 1 1 _ _ [fb] rfl (src_one wr 2 fb) (by omega) (by omega) (by (try simp only [World.heap_size_alloc, World.heap_size_drew, World.heap_size_setCell]); omega) ?_); intro v6 w6 o6 g6 a6; obtain ⟨F1, e1, rfl, s6⟩ := o6.sl; have hb6 : Below (wr.heap.size + 1) (wr.alloc (.cells #[.int .i64 fb] 2)) w6 := grown_below g6 (by (try simp only [World.heap_size_alloc, World.heap_size_drew, World.heap_size_setCell]); omega) (fun g hg => by cases hg); have bx6 := BXA.out.below hb6 (by omega); obtain ⟨y0, y1, yf0, yf1⟩ := id bx6; have BX6 := Lib.hid bx6; have HB6 := Lib.hid hb6; have S6 := Lib.hid s6; have hz6 := hb6.size; clear o6 g6 a6 s6 hb6 bx6)
      have hu1 : Upd w1.heap.size (w1.heap.size + 1) w6 (w6.setCell ⟨w1.heap.size, 1, none⟩ (.slice F1 1 e1)) := Box2.upd1
      have hzz : (w6.setCell ⟨w1.heap.size, 1, none⟩ (.slice F1 1 e1)).heap.size = w6.heap.size := World.heap_size_setCell _ _ _
      have BX7 := Lib.hid (BX6.out.set1 (.slice F1 1 e1))
      have hbq : Below wr.heap.size wr w6 := ((Below.refl wr.heap.size wr).alloc (Nat.le_refl _) _).trans (HB6.out.mono (by omega))
      have S8 := Lib.hid (((S0.out.below hbq (Nat.le_refl _)).upd hu1 (.inr (by omega))).mono (lo' := w1.heap.size + 1) (hi' := (w6.setCell ⟨w1.heap.size, 1, none⟩ (.slice F1 1 e1)).heap.size) (by omega) (by omega))
      have S7 := Lib.hid ((S6.out.upd hu1 (.inr (by omega))).mono (lo' := w1.heap.size + 1) (hi' := (w6.setCell ⟨w1.heap.size, 1, none⟩ (.slice F1 1 e1)).heap.size) (by omega) (by omega))
      have HB7 := Lib.hid ((hb.out.trans (hbq.mono (by omega))).setCell (p := ⟨w1.heap.size, 1, none⟩) (Nat.le_refl _) (.slice F1 1 e1))
      clear hu1 hbq
      go_wp2_with fail
      go_roundw
      case rel => exact .inr (.inr ⟨by go_num, F0, e0, F1, e1, BX7.out, S8, S7, HB7, by omega⟩)
      case measure => simp [intOf]
    · skip
      obtain ⟨wF, rfl⟩ : ∃ x, x = wr := ⟨wr, rfl⟩
      obtain ⟨b5, hb5e⟩ : ∃ x, x = w1.heap.size := ⟨_, rfl⟩
      have hb5w : b5 < wF.heap.size := by omega
      have BF : Hid (Box2 wF b5 (.slice F0 1 e0) (.slice F1 1 e1)) := Lib.hid (by rw [hb5e]; exact bx)
      have SF0 : Hid (Sl wF (w1.heap.size + 1) wF.heap.size 1 F0 1 e0 [fa]) := S0
      have SF1 : Hid (Sl wF (w1.heap.size + 1) wF.heap.size 1 F1 1 e1 [fb]) := S1
      have hyF : w1.heap.size ≤ wF.heap.size := by omega
      have P1 := Lib.hid (P1.out.trans (hb.out.mono (by omega)))
      have HB1 := Lib.hid (HB1.out.trans (hb.out.mono (by have := HB1.out.size; omega)))
      obtain ⟨⟨q0, q1, q2, q3, f0, f1, f2, f3⟩, -⟩ := T1.out _ P1.out
      clear bx S0 S1 hb
      generalize w1.heap.size = n1z at *
      subst hb5e
      go_wp2_with fail
      (with_reducible refine (disks_any _ _ _ _ _ _ _ _ _ _ _ _ _).mono ?_); rintro _ w2 ⟨rfl, b2⟩
      have y2 := b2.size
      have P2 : Hid (Below (w.heap.size + 2) W0 w2) := Lib.hid (P1.out.trans (b2.mono (by omega)))
      have HB2 := Lib.hid (HB1.out.trans ((b2.mono (by omega)).mono (by omega)))
      have HS2 := Lib.hid b2
      have HSF : Hid (∀ W, Below w2.heap.size w2 W → Box2 W b5 (.slice F0 1 e0) (.slice F1 1 e1)) := Lib.hid (fun W hW => BF.out.below (HS2.out.trans (hW.mono HS2.out.size)) (by omega))
      have CA : Hid (∀ W, Below w2.heap.size w2 W → Calls Try.prog 56 #[.agg #[.slice A0 n0 c0, .slice A1 n1 c1], .slice F0 1 e0] W (DkRes W n0 (fallM k0 v0 [fa]) 0 [])) := Lib.hid (fun W hW => by
        have hwW := HB2.out.trans (hW.mono (by have := HB2.out.size; omega))
        exact fallen_any A0 n0 c0 k0 A1 n1 c1 v0 lo hi W (H0.out.below hwW hhi) (H1.out.below hwW hhi) (Nat.le_trans hhi hwW.size) F0 _ e0 _ _ [fa] (SF0.out.below (HS2.out.trans (hW.mono HS2.out.size)) (Nat.le_refl _)) (Nat.le_trans HS2.out.size hW.size) hda)
      have CB : Hid (∀ W, Below w2.heap.size w2 W → Calls Try.prog 56 #[.agg #[.slice A2 n2 c2, .slice A3 n3 c3], .slice F1 1 e1] W (DkRes W n2 (fallM k2 v2 [fb]) 0 [])) := Lib.hid (fun W hW => by
        have hwW := HB2.out.trans (hW.mono (by have := HB2.out.size; omega))
        exact fallen_any A2 n2 c2 k2 A3 n3 c3 v2 lo hi W (H2.out.below hwW hhi) (H3.out.below hwW hhi) (Nat.le_trans hhi hwW.size) F1 _ e1 _ _ [fb] (SF1.out.below (HS2.out.trans (hW.mono HS2.out.size)) (Nat.le_refl _)) (Nat.le_trans HS2.out.size hW.size) hdb)
      have KB := Box4.new w2 (.slice A0 n0 c0) (.slice A1 n1 c1) (.slice A2 n2 c2) (.slice A3 n3 c3) 139
      have hst : Below w2.heap.size w2 (w2.alloc (.cells #[.slice A0 n0 c0, .slice A1 n1 c1, .slice A2 n2 c2, .slice A3 n3 c3] 139)) := (Below.refl _ _).alloc (Nat.le_refl _) _
      have hss : (w2.alloc (.cells #[.slice A0 n0 c0, .slice A1 n1 c1, .slice A2 n2 c2, .slice A3 n3 c3] 139)).heap.size = w2.heap.size + 1 := World.heap_size_alloc _ _
      have HST := Lib.hid hst
      obtain ⟨k0', k1', k2', k3', -, -, -, -⟩ := id KB
      have KBH := Lib.hid KB
      clear q0 q1 q2 q3 f0 f1 f2 f3 b2 KB hst
      go_wp2_with fail
      generalize hWs : (w2.alloc (.cells #[.slice A0 n0 c0, .slice A1 n1 c1, .slice A2 n2 c2, .slice A3 n3 c3] 139)) = Ws at *
      clear hWs k0' k1' k2' k3'
      go_loopw [9, 10, 37] (fun _ _ i wr => (i = .int .i64 0 ∧ wr = Ws) ∨ (i = .int .i64 1 ∧ ∃ (X0 : Option Addr) (d0 : Nat) (X1 : Option Addr) (d1 : Nat), Box4 wr w2.heap.size (.slice X0 n0 d0) (.slice X1 0 d1) (.slice A2 n2 c2) (.slice A3 n3 c3) ∧ Hid (SlR wr (w2.heap.size + 1) wr.heap.size X0 n0 d0 (fallM k0 v0 [fa])) ∧ Hid (SlW wr (w2.heap.size + 1) wr.heap.size X1 0 d1 []) ∧ Hid (Below w2.heap.size Ws wr) ∧ w2.heap.size + 1 ≤ wr.heap.size) ∨ (i = .int .i64 2 ∧ ∃ (X0 : Option Addr) (d0 : Nat) (X1 : Option Addr) (d1 : Nat) (X2 : Option Addr) (d2 : Nat) (X3 : Option Addr) (d3 : Nat), Box4 wr w2.heap.size (.slice X0 n0 d0) (.slice X1 0 d1) (.slice X2 n2 d2) (.slice X3 0 d3) ∧ Hid (SlR wr (w2.heap.size + 1) wr.heap.size X0 n0 d0 (fallM k0 v0 [fa])) ∧ Hid (SlW wr (w2.heap.size + 1) wr.heap.size X1 0 d1 []) ∧ Hid (SlR wr (w2.heap.size + 1) wr.heap.size X2 n2 d2 (fallM k2 v2 [fb])) ∧ Hid (SlW wr (w2.heap.size + 1) wr.heap.size X3 0 d3 []) ∧ Hid (Below w2.heap.size Ws wr) ∧ w2.heap.size + 1 ≤ wr.heap.size)) (fun _ _ i _ => 2 - (intOf i).toNat)
      case atStart => exact .inl ⟨rfl, rfl⟩
      case round =>
        rcases hrel with ⟨rfl, rfl⟩ | ⟨rfl, X0, d0, X1, d1, bx, S0, S1, hb, hlt⟩ | ⟨rfl, X0, d0, X1, d1, X2, d2, X3, d3, bx, S0, S1, S2, S3, hb, hlt⟩
        · have hx : Below wr.heap.size wr (wr.alloc (.cells #[.slice A0 n0 c0, .slice A1 n1 c1] 67)) := (Below.refl _ _).alloc (Nat.le_refl _) _
          have hxb : Below w2.heap.size w2 (wr.alloc (.cells #[.slice A0 n0 c0, .slice A1 n1 c1] 67)) := HST.out.trans (hx.mono (by omega))
          have HXB := Lib.hid hxb
          obtain ⟨e0, e1, -, -⟩ := Box2.new wr (.slice A0 n0 c0) (.slice A1 n1 c1) 67
          have BX := Lib.hid (KBH.out.below hx (by omega))
          have hxs : (wr.alloc (.cells #[.slice A0 n0 c0, .slice A1 n1 c1] 67)).heap.size = wr.heap.size + 1 := World.heap_size_alloc _ _
          clear hx hxb
          obtain ⟨u0, u1, -, -⟩ := HSF.out _ HXB.out
          go_upto_region 13 with fail
          go_region_law (first | (go_simp; go_at_call 56; (with_reducible refine (CA.out _ (by first | exact HXB.out | exact HXB.out.drew | (repeat' (first | with_reducible exact Below.refl _ _ | with_reducible assumption | with_reducible refine Below.drew ?_ | with_reducible refine Below.alloc ?_ ?_ _ | with_reducible refine Below.setCell ?_ ?_ _ | with_reducible refine Below.trans ?_ (Below.mono (by assumption) ?_) | ((try simp only [World.heap_size_alloc, World.heap_size_drew, World.heap_size_setCell]); omega))))).mono ?_); rintro _ w3 ⟨X0, d0, X1, d1, rfl, s0, s1, b3⟩; have y3 := b3.size; (try simp only [World.heap_size_alloc, World.heap_size_drew] at y3); have hdw : Below (wr.heap.size + 1) (wr.alloc (.cells #[.slice A0 n0 c0, .slice A1 n1 c1] 67)) w3 := Below.trans (by (repeat' (first | with_reducible exact Below.refl _ _ | with_reducible assumption | with_reducible refine Below.drew ?_ | with_reducible refine Below.alloc ?_ ?_ _ | with_reducible refine Below.setCell ?_ ?_ _ | with_reducible refine Below.trans ?_ (Below.mono (by assumption) ?_) | ((try simp only [World.heap_size_alloc, World.heap_size_drew, World.heap_size_setCell]); omega)))) (b3.mono (by (try simp only [World.heap_size_alloc, World.heap_size_drew, World.heap_size_setCell]); omega)); have bx3 := BX.out.below hdw (by omega); have b30 := b3; obtain ⟨r0, r1, -, -, rf0, rf1, -, -⟩ := id bx3; have BX3 := Lib.hid (bx3.set01 (.slice X0 n0 d0) (.slice X1 0 d1)); have hb3 : Below w2.heap.size wr w3 := ((Below.refl _ _).alloc (by omega) _).trans (hdw.mono (by omega)); have HB3 := Lib.hid (hb3.trans (below2 (Nat.le_refl _)) : Below w2.heap.size wr ((w3.setCell ⟨w2.heap.size, 0, none⟩ (.slice X0 n0 d0)).setCell ⟨w2.heap.size, 1, none⟩ (.slice X1 0 d1))); have S0 := Lib.hid (s0.at2 (b := w2.heap.size) (p := 0) (q := 1) (x := .slice X0 n0 d0) (y := .slice X1 0 d1) (lo' := w2.heap.size + 1) (by (try simp only [World.heap_size_alloc, World.heap_size_drew, World.heap_size_setCell]); omega) (by (try simp only [World.heap_size_alloc, World.heap_size_drew, World.heap_size_setCell]); omega) (by (try simp only [World.heap_size_alloc, World.heap_size_drew, World.heap_size_setCell]); omega)); have S1 := Lib.hid (s1.at2 (b := w2.heap.size) (p := 0) (q := 1) (x := .slice X0 n0 d0) (y := .slice X1 0 d1) (lo' := w2.heap.size + 1) (by (try simp only [World.heap_size_alloc, World.heap_size_drew, World.heap_size_setCell]); omega) (by (try simp only [World.heap_size_alloc, World.heap_size_drew, World.heap_size_setCell]); omega) (by (try simp only [World.heap_size_alloc, World.heap_size_drew, World.heap_size_setCell]); omega)); clear s0 s1 b3 hb3 bx3 BX b30))
          all_goals
            go_wp2_with fail
            go_roundw
            case rel => exact .inr (.inl ⟨by go_num, X0, d0, X1, d1, BX3.out, S0, S1, HB3, by rw [size2]; omega⟩)
            case measure => simp [intOf]
        · have hx : Below wr.heap.size wr (wr.alloc (.cells #[.slice A2 n2 c2, .slice A3 n3 c3] 67)) := (Below.refl _ _).alloc (Nat.le_refl _) _
          have hxb : Below w2.heap.size w2 (wr.alloc (.cells #[.slice A2 n2 c2, .slice A3 n3 c3] 67)) := HST.out.trans (hb.out.trans (hx.mono (by omega)))
          have HXB := Lib.hid hxb
          obtain ⟨e0, e1, -, -⟩ := Box2.new wr (.slice A2 n2 c2) (.slice A3 n3 c3) 67
          have BX := Lib.hid (bx.below hx (by omega))
          have hxs : (wr.alloc (.cells #[.slice A2 n2 c2, .slice A3 n3 c3] 67)).heap.size = wr.heap.size + 1 := World.heap_size_alloc _ _
          clear hx hxb bx
          obtain ⟨u0, u1, -, -⟩ := HSF.out _ HXB.out
          go_upto_region 13 with fail
          go_region_law (first | (go_simp; go_at_call 56; (with_reducible refine (CB.out _ (by first | exact HXB.out | exact HXB.out.drew | (repeat' (first | with_reducible exact Below.refl _ _ | with_reducible assumption | with_reducible refine Below.drew ?_ | with_reducible refine Below.alloc ?_ ?_ _ | with_reducible refine Below.setCell ?_ ?_ _ | with_reducible refine Below.trans ?_ (Below.mono (by assumption) ?_) | ((try simp only [World.heap_size_alloc, World.heap_size_drew, World.heap_size_setCell]); omega))))).mono ?_); rintro _ w3 ⟨X2, d2, X3, d3, rfl, s2, s3, b3⟩; have y3 := b3.size; (try simp only [World.heap_size_alloc, World.heap_size_drew] at y3); have hdw : Below (wr.heap.size + 1) (wr.alloc (.cells #[.slice A2 n2 c2, .slice A3 n3 c3] 67)) w3 := Below.trans (by (repeat' (first | with_reducible exact Below.refl _ _ | with_reducible assumption | with_reducible refine Below.drew ?_ | with_reducible refine Below.alloc ?_ ?_ _ | with_reducible refine Below.setCell ?_ ?_ _ | with_reducible refine Below.trans ?_ (Below.mono (by assumption) ?_) | ((try simp only [World.heap_size_alloc, World.heap_size_drew, World.heap_size_setCell]); omega)))) (b3.mono (by (try simp only [World.heap_size_alloc, World.heap_size_drew, World.heap_size_setCell]); omega)); have bx3 := BX.out.below hdw (by omega); have b30 := b3; obtain ⟨-, -, r0, r1, -, -, rf0, rf1⟩ := id bx3; have BX3 := Lib.hid (bx3.set23 (.slice X2 n2 d2) (.slice X3 0 d3)); have hb3 : Below wr.heap.size wr w3 := ((Below.refl _ _).alloc (Nat.le_refl _) _).trans (hdw.mono (by omega)); have HB3 := Lib.hid ((hb.out.trans (hb3.mono (by omega))).trans (below2 (Nat.le_refl _)) : Below w2.heap.size Ws ((w3.setCell ⟨w2.heap.size, 2, none⟩ (.slice X2 n2 d2)).setCell ⟨w2.heap.size, 3, none⟩ (.slice X3 0 d3))); have Z2 := Lib.hid (s2.at2 (b := w2.heap.size) (p := 2) (q := 3) (x := .slice X2 n2 d2) (y := .slice X3 0 d3) (lo' := w2.heap.size + 1) (by (try simp only [World.heap_size_alloc, World.heap_size_drew, World.heap_size_setCell]); omega) (by (try simp only [World.heap_size_alloc, World.heap_size_drew, World.heap_size_setCell]); omega) (by (try simp only [World.heap_size_alloc, World.heap_size_drew, World.heap_size_setCell]); omega)); have Z3 := Lib.hid (s3.at2 (b := w2.heap.size) (p := 2) (q := 3) (x := .slice X2 n2 d2) (y := .slice X3 0 d3) (lo' := w2.heap.size + 1) (by (try simp only [World.heap_size_alloc, World.heap_size_drew, World.heap_size_setCell]); omega) (by (try simp only [World.heap_size_alloc, World.heap_size_drew, World.heap_size_setCell]); omega) (by (try simp only [World.heap_size_alloc, World.heap_size_drew, World.heap_size_setCell]); omega)); have Z0 := Lib.hid ((S0.out.below hb3 (Nat.le_refl _)).at2 (b := w2.heap.size) (p := 2) (q := 3) (x := .slice X2 n2 d2) (y := .slice X3 0 d3) (lo' := w2.heap.size + 1) (Nat.le_refl _) (Nat.le_refl _) (by (try simp only [World.heap_size_alloc, World.heap_size_drew, World.heap_size_setCell]); omega)); have Z1 := Lib.hid ((S1.out.below hb3 (Nat.le_refl _)).at2 (b := w2.heap.size) (p := 2) (q := 3) (x := .slice X2 n2 d2) (y := .slice X3 0 d3) (lo' := w2.heap.size + 1) (Nat.le_refl _) (Nat.le_refl _) (by (try simp only [World.heap_size_alloc, World.heap_size_drew, World.heap_size_setCell]); omega)); clear s2 s3 b3 hb3 bx3 BX hb S0 S1 b30))
          all_goals
            go_wp2_with fail
            go_roundw
            case rel => exact .inr (.inr ⟨by go_num, X0, d0, X1, d1, X2, d2, X3, d3, BX3.out, Z0, Z1, Z2, Z3, HB3, by rw [size2]; omega⟩)
            case measure => simp [intOf]
        · have BR := Lib.hid (T1.out _ (P2.out.trans ((HST.out.trans (hb.out.mono (Nat.le_refl _))).mono (by omega)))).2
          obtain ⟨r0, r1, r2, r3, -, -, -, -⟩ := bx
          have HBR := Lib.hid (HB2.out.trans ((HST.out.trans hb.out).mono (by omega)))
          clear hb
          go_wp2_with fail
          (with_reducible refine (twoOf_any _ _ _ _ _ _ _ _ _ _ _ _ _).mono ?_); rintro _ w3 ⟨rfl, b3⟩
          have y3 := b3.size
          obtain ⟨p0, p1, p2, p3, g0, g1, g2, g3⟩ := BR.out.below b3 (by omega)
          have hb4 : Below (w.heap.size + 1) w3 ((((w3.setCell ⟨w.heap.size + 1, 0, none⟩ (.slice X0 n0 d0)).setCell ⟨w.heap.size + 1, 1, none⟩ (.slice X1 0 d1)).setCell ⟨w.heap.size + 1, 2, none⟩ (.slice X2 n2 d2)).setCell ⟨w.heap.size + 1, 3, none⟩ (.slice X3 0 d3)) := below4 (Nat.le_refl _)
          have hu4 : Upd (w.heap.size + 1) (w.heap.size + 2) w3 ((((w3.setCell ⟨w.heap.size + 1, 0, none⟩ (.slice X0 n0 d0)).setCell ⟨w.heap.size + 1, 1, none⟩ (.slice X1 0 d1)).setCell ⟨w.heap.size + 1, 2, none⟩ (.slice X2 n2 d2)).setCell ⟨w.heap.size + 1, 3, none⟩ (.slice X3 0 d3)) := up4
          have Z0 := Lib.hid ((S0.out.below b3 (Nat.le_refl _)).at4 (b := w.heap.size + 1) (x := .slice X0 n0 d0) (y := .slice X1 0 d1) (z := .slice X2 n2 d2) (u := .slice X3 0 d3) (lo' := w.heap.size) (by omega) (by omega) (by omega))
          have Z1 := Lib.hid ((S1.out.below b3 (Nat.le_refl _)).at4 (b := w.heap.size + 1) (x := .slice X0 n0 d0) (y := .slice X1 0 d1) (z := .slice X2 n2 d2) (u := .slice X3 0 d3) (lo' := w.heap.size) (by omega) (by omega) (by omega))
          have Z2 := Lib.hid ((S2.out.below b3 (Nat.le_refl _)).at4 (b := w.heap.size + 1) (x := .slice X0 n0 d0) (y := .slice X1 0 d1) (z := .slice X2 n2 d2) (u := .slice X3 0 d3) (lo' := w.heap.size) (by omega) (by omega) (by omega))
          have Z3 := Lib.hid ((S3.out.below b3 (Nat.le_refl _)).at4 (b := w.heap.size + 1) (x := .slice X0 n0 d0) (y := .slice X1 0 d1) (z := .slice X2 n2 d2) (u := .slice X3 0 d3) (lo' := w.heap.size) (by omega) (by omega) (by omega))
          have HBZ := Lib.hid ((HBR.out.trans (b3.mono (by omega))).trans (hb4.mono (by omega)))
          clear b3 hb4 hu4 S0 S1 S2 S3
          go_wp2_with fail
          refine bodyPost_ret (v := .agg #[.slice X0 n0 d0, .slice X1 0 d1, .slice X2 n2 d2, .slice X3 0 d3]) (by simp [results, Try.results62, go_sem, p0, p1, p2, p3, g0, g1, g2, g3]) rfl ⟨X0, d0, X1, d1, X2, d2, X3, d3, rfl, Z0.out, Z1.out, Z2.out, Z3.out, HBZ.out⟩
end Go.Proofs.Ytgnilmdaegnaaaa
