/- Fates drawn, and the right rows of a sector. No conditions. -/
import Derived.Test.YtgnilmdaegnaaaaZTw2
import Derived.Deep.RegionLaw
import Derived.Test.YtgnilmdaegnaaaaZTw5
set_option linter.unusedSimpArgs false
set_option linter.unusedVariables false
namespace Go.Proofs.Ytgnilmdaegnaaaa
open Go.RowKit
def RowsAt (w : World) (base E : Nat) (v : Value) (L : List (List Int)) : Prop := ∃ vs, OwnV w base E 1 v L.length vs ∧ VRow w base w.heap.size v.ownBlock vs L
section
variable {w w' : World} {base E : Nat} {v : Value} {L : List (List Int)}
theorem RowsAt.new (w : World) (E : Nat) (hb : base ≤ w.heap.size) : RowsAt (w.alloc (.cells #[] E)) base E (.slice (some ⟨w.heap.size, 0, none⟩) 0 0) [] :=
  ⟨[], OwnV.made w E 1 #[] 0 hb (by omega) rfl, VRow.nil _ _ _ _⟩
theorem RowsAt.kept (h : RowsAt w base E v L) (b : Below w.heap.size w w') : RowsAt w' base E v L := by
  obtain ⟨vs, o, r⟩ := h
  exact ⟨vs, o.kept b, (r.below b (Nat.le_refl _)).mono (Nat.le_refl _) b.size⟩
theorem RowsAt.slr (h : RowsAt w base E v L) : ∃ A c, v = .slice A L.length c ∧ SlR w base w.heap.size A L.length c L := by
  obtain ⟨vs, o, r⟩ := h
  obtain ⟨A, c, e, -, s⟩ := SlR.of_own o r (Nat.le_refl _) (Nat.le_refl _)
  exact ⟨A, c, e, s⟩
theorem VRow.push2 {w3 wr w2 W : World} {B : Nat} {v v3 : Value} {vs : List Value} {L : List (List Int)} {r : List Int} {A2 : Option Addr} {n2 c2 : Nat} (V : VRow wr B wr.heap.size v.ownBlock vs L) (hlt : ∀ g, v.ownBlock = some g → g < wr.heap.size) (b : Below wr.heap.size wr w2) (hB : B ≤ wr.heap.size) (s2 : Sl w2 wr.heap.size w2.heap.size 1 A2 n2 c2 r) (bW : Below w2.heap.size w2 W) (g3 : W.grownBy w3 v.ownBlock) (a3 : v3.ownBlock = v.ownBlock ∨ v3.ownBlock = some W.heap.size) :
    VRow w3 B w3.heap.size v3.ownBlock (vs ++ [.slice A2 n2 c2]) (L ++ [r]) := by
  have h := VRow.push (rows := L ++ [r]) (m := L.length) (by rw [List.take_left]; exact V) hlt b hB s2 (by simp) bW g3 a3
  rwa [List.take_of_length_le (by simp)] at h
end
def right1 (a : List Int) : List (List Int) := if unsOk a then [unsM a] else []
def rightM (a b : List Int) : List (List Int) := if unsOk a then (if unsOk b then (if sameInts (unsM a) (unsM b) then [unsM a] else [unsM a, unsM b]) else [unsM a]) else (if unsOk b then [unsM b] else [])
set_option maxRecDepth 100000 in
set_option maxHeartbeats 8000000 in
theorem rightAt_any (A0 : Option Addr) (n0 c0 : Nat) (k0 : List (List Int)) (A1 : Option Addr) (c1 : Nat) (A2 : Option Addr) (n2 c2 : Nat) (k2 : List (List Int)) (A3 : Option Addr) (c3 : Nat) (lo hi : Nat) (w : World) (h0 : SlR w lo hi A0 n0 c0 k0) (h2 : SlR w lo hi A2 n2 c2 k2) (hhi : hi ≤ w.heap.size) (hc1 : c1 ≤ 9223372036854775807) (hc3 : c3 ≤ 9223372036854775807) (hd : twoOk k0 [] k2 [] = true) (q : Nat) (ra rb : List Int) (hra : k0[q]? = some ra) (hrb : k2[q]? = some rb) :
    Calls Try.prog 118 #[.agg #[.slice A0 n0 c0, .slice A1 0 c1, .slice A2 n2 c2, .slice A3 0 c3], .int .i64 (q : Int)] w (fun e w' => ∃ (A : Option Addr) (c : Nat), e = .returned (.slice A (rightM ra rb).length c) ∧ SlR w' w.heap.size w'.heap.size A (rightM ra rb).length c (rightM ra rb) ∧ Below w.heap.size w w') := by
  obtain ⟨hda, hdb, hkk⟩ : diskOk k0 [] = true ∧ diskOk k2 [] = true ∧ k0.length = k2.length := by
    simp only [twoOk, Bool.and_eq_true, decide_eq_true_eq] at hd
    exact hd
  obtain ⟨za1, za2, -, hka, -⟩ := diskOk_sizes hda
  obtain ⟨-, -, -, hkb, -⟩ := diskOk_sizes hdb
  have hoa := hka q ra hra
  have hob := hkb q rb hrb
  have hqn : q < n0 := by rw [← h0.len]; exact (List.getElem?_eq_some_iff.1 hra).1
  have hn40 : n0 ≤ 40 := by rw [← h0.len]; exact za2
  have H0 := Lib.hid h0
  have H2 := Lib.hid h2
  have IX0 := index0 A0 n0 c0 A1 0 c1 A2 n2 c2 A3 0 c3
  have IX1 := index1 A0 n0 c0 A1 0 c1 A2 n2 c2 A3 0 c3
  have C1 : Hid (∀ W, Below w.heap.size w W → Calls Try.prog 98 #[.agg #[.slice A0 n0 c0, .slice A1 0 c1, .slice A2 n2 c2, .slice A3 0 c3]] W fun e w' => e = .returned (.bool true) ∧ Below W.heap.size W w') := Lib.hid (fun W hW => by
    have h7 := twoOk_any A0 n0 c0 k0 A1 0 c1 [] A2 n2 c2 k2 A3 0 c3 [] lo hi W (H0.out.below hW hhi) (SlW.nil _ _ _ _ _ hc1) (H2.out.below hW hhi) (SlW.nil _ _ _ _ _ hc3) (Nat.le_trans hhi hW.size)
    rw [hd] at h7
    exact h7)
  have CS : Hid (∀ W, Calls Try.prog 110 #[.agg #[.slice A0 n0 c0, .slice A1 0 c1], .int .i64 (q : Int)] W fun e w' => e = .returned (.bool true) ∧ Below W.heap.size W w') := Lib.hid (fun W => by
    have h7 := sectorOk_any A0 n0 c0 A1 0 c1 (q : Int) W (by omega)
    rw [show btw (q : Int) 0 ((n0 : Int) - 1) = true from btw_iff.2 ⟨by omega, by omega⟩] at h7
    exact h7)
  have CR0 : Hid (∀ W, Below w.heap.size w W → Calls Try.prog 57 #[.agg #[.slice A0 n0 c0, .slice A1 0 c1], .int .i64 (q : Int)] W (RowBRes W ra true)) := Lib.hid (fun W hW => readAt_any A0 n0 c0 k0 A1 c1 lo hi W (H0.out.below hW hhi) hc1 (Nat.le_trans hhi hW.size) hda q ra hra)
  have CR2 : Hid (∀ W, Below w.heap.size w W → Calls Try.prog 57 #[.agg #[.slice A2 n2 c2, .slice A3 0 c3], .int .i64 (q : Int)] W (RowBRes W rb true)) := Lib.hid (fun W hW => readAt_any A2 n2 c2 k2 A3 c3 lo hi W (H2.out.below hW hhi) hc3 (Nat.le_trans hhi hW.size) hdb q rb hrb)
  obtain ⟨oka, hoka⟩ : ∃ x, unsOk ra = x := ⟨_, rfl⟩
  obtain ⟨okb, hokb⟩ : ∃ x, unsOk rb = x := ⟨_, rfl⟩
  have CUA : Hid (∀ (W : World) (A : Option Addr) (c lo hi : Nat), Sl W lo hi 1 A ra.length c ra → hi ≤ W.heap.size → Calls Try.prog 58 #[.slice A ra.length c] W (RowBRes W (unsM ra) oka)) := Lib.hid (fun W A c lo hi hs hh => by
    have h7 := unsummed_any A ra.length c lo hi ra W hs hh hoa
    rw [hoka] at h7
    exact h7)
  have CUB : Hid (∀ (W : World) (A : Option Addr) (c lo hi : Nat), Sl W lo hi 1 A rb.length c rb → hi ≤ W.heap.size → Calls Try.prog 58 #[.slice A rb.length c] W (RowBRes W (unsM rb) okb)) := Lib.hid (fun W A c lo hi hs hh => by
    have h7 := unsummed_any A rb.length c lo hi rb W hs hh hob
    rw [hokb] at h7
    exact h7)
  have E1 : Hid (right1 ra = if oka then [unsM ra] else []) := Lib.hid (by rw [← hoka]; rfl)
  have E2 : Hid (rightM ra rb = if oka then (if okb then (if sameInts (unsM ra) (unsM rb) then [unsM ra] else [unsM ra, unsM rb]) else [unsM ra]) else (if okb then [unsM rb] else [])) := Lib.hid (by rw [← hoka, ← hokb]; rfl)
  clear h0 h2 hd hda hdb hkk za1 za2 hka hkb hra hrb hoka hokb hqn hn40
  have HBX := Lib.hid (Box4.new w (.slice A0 n0 c0) (.slice A1 0 c1) (.slice A2 n2 c2) (.slice A3 0 c3) 69)
  have hb0 : Below w.heap.size w (w.alloc (.cells #[.slice A0 n0 c0, .slice A1 0 c1, .slice A2 n2 c2, .slice A3 0 c3] 69)) := (Below.refl _ _).alloc (Nat.le_refl _) _
  have hs0 : (w.alloc (.cells #[.slice A0 n0 c0, .slice A1 0 c1, .slice A2 n2 c2, .slice A3 0 c3] 69)).heap.size = w.heap.size + 1 := World.heap_size_alloc _ _
  go_enter Try.func118, Try.ntmps118
  go_wp2_with fail
  generalize hW0 : w.alloc (.cells #[.slice A0 n0 c0, .slice A1 0 c1, .slice A2 n2 c2, .slice A3 0 c3] 69) = W0 at *
  have hs0a := Nat.le_of_eq hs0
  have hs0b := Nat.le_of_eq hs0.symm
  clear hW0 hs0
  (with_reducible refine (C1.out _ hb0).mono ?_); rintro _ w1 ⟨rfl, b1⟩
  have y1 := b1.size
  obtain ⟨q0, q1, q2, q3, -, -, -, -⟩ := HBX.out.below b1 (by omega)
  have P1 := Lib.hid b1
  clear b1
  go_wp2_with fail
  (with_reducible refine (CS.out _).mono ?_); rintro _ w2 ⟨rfl, b2⟩
  have y2 := b2.size
  have P2 := Lib.hid (P1.out.trans (b2.mono y1))
  have hal : Below w2.heap.size w2 (w2.alloc (.cells #[] 28)) := (Below.refl _ _).alloc (Nat.le_refl _) _
  have hsl : (w2.alloc (.cells #[] 28)).heap.size = w2.heap.size + 1 := World.heap_size_alloc _ _
  have R0 := Lib.hid (RowsAt.new (base := w.heap.size) w2 28 (by omega))
  have P3 := Lib.hid (P2.out.trans (hal.mono (by omega)))
  clear q0 q1 q2 q3 b2 hal
  obtain ⟨q0, q1, q2, q3, -, -, -, -⟩ := HBX.out.below P3.out (by omega)
  go_wp2_with fail
  generalize w2.alloc (.cells #[] 28) = W3 at *
  (with_reducible refine (disks_any _ _ _ _ _ _ _ _ _ _ _ _ _).mono ?_); rintro _ w4 ⟨rfl, b4⟩
  have y4 := b4.size
  have R4 := Lib.hid (R0.out.kept b4)
  have P4 := Lib.hid (hb0.trans ((P3.out.trans (b4.mono P3.out.size)).mono (by omega)))
  clear b4 q0 q1 q2 q3 R0 P1 P2
  have hs4 : w2.heap.size + 1 ≤ w4.heap.size := by omega
  clear hsl
  go_wp2_with fail
  go_loopw [5, 7, 8, 9, 10, 11, 25] (fun v _ _ _ _ _ i wr => Hid (Below w.heap.size w wr) ∧ w.heap.size ≤ wr.heap.size ∧ ((i = .int .i64 0 ∧ v = .slice (some ⟨w2.heap.size, 0, none⟩) 0 0 ∧ Hid (RowsAt wr w.heap.size 28 (.slice (some ⟨w2.heap.size, 0, none⟩) 0 0) [])) ∨ (i = .int .i64 1 ∧ Hid (RowsAt wr w.heap.size 28 v (right1 ra))) ∨ (i = .int .i64 2 ∧ Hid (RowsAt wr w.heap.size 28 v (rightM ra rb))))) (fun _ _ _ _ _ _ i _ => 2 - (intOf i).toNat)
  case atStart => exact ⟨P4, by omega, .inl ⟨rfl, rfl, R4⟩⟩
  case round =>
    obtain ⟨HB, hyr, hcase⟩ := hrel
    rcases hcase with ⟨rfl, rfl, R⟩ | ⟨rfl, R⟩ | ⟨rfl, R⟩
    · have hx : Below wr.heap.size wr (wr.alloc (.cells #[.slice A0 n0 c0, .slice A1 0 c1] 67)) := (Below.refl _ _).alloc (Nat.le_refl _) _
      have HXB := Lib.hid (HB.out.trans (hx.mono hyr))
      have HX := Lib.hid hx
      obtain ⟨e0, e1, -, -⟩ := Box2.new wr (.slice A0 n0 c0) (.slice A1 0 c1) 67
      have hxs : wr.heap.size + 1 ≤ (wr.alloc (.cells #[.slice A0 n0 c0, .slice A1 0 c1] 67)).heap.size := by simp
      clear hx
      go_wp2_with fail
      (with_reducible refine (CR0.out _ HXB.out).mono ?_); rintro _ w5 ⟨Af, cf, rfl, sf, b5⟩
      have y5 := b5.size
      have CU9 := Lib.hid (CUA.out w5 Af cf _ _ sf (Nat.le_refl _))
      have P5 := Lib.hid (HX.out.trans (b5.mono (by omega)))
      clear sf b5 e0 e1
      go_wp2_with fail
      (with_reducible refine (CU9.out).mono ?_); rintro _ w6 ⟨Ar, cr, rfl, sr, b6⟩
      have y6 := b6.size
      have P6 := Lib.hid (P5.out.trans (b6.mono (by omega)))
      have SR := Lib.hid (sr.mono (lo' := wr.heap.size) (by omega) (Nat.le_refl _))
      have HB6 := Lib.hid (HB.out.trans (P6.out.mono hyr))
      clear sr b6 CU9
      cases oka with
      | false =>
        go_wp2_with fail
        go_roundw
        case rel => exact ⟨HB6, by omega, .inr (.inl ⟨by go_num, Lib.hid (by rw [E1.out]; exact R.out.kept P6.out)⟩)⟩
        case measure => simp [intOf]
      | true =>
        obtain ⟨vs, ov, vr⟩ := R.out
        have OV := Lib.hid ((ov.kept P6.out).kept ((Below.refl _ _).alloc (Nat.le_refl _) (.cells #[.slice Ar (unsM ra).length cr] 28)))
        have VR := Lib.hid vr
        have LT := Lib.hid ov.lt
        clear ov vr
        go_wp2_with (at_builtin; go_loud (refine wpList_append_v _ rfl (.tmp 53) (.tmp 55) 57 rfl w.heap.size 28 Try.underlying57 infoI64S rfl (by omega) _ 0 vs rfl OV.out _ 0 1 1 [.slice Ar (unsM ra).length cr] rfl rfl (src_cells w6 28 [.slice Ar (unsM ra).length cr]) (one_slice _ _ _) (by omega) (by omega) (by (try simp only [World.heap_size_alloc, World.heap_size_drew, World.heap_size_setCell]); omega) ?_); intro v8 w8 o8 g8 a8)
        have hb8 : Below w.heap.size (w6.alloc (.cells #[.slice Ar (unsM ra).length cr] 28)) w8 := grown_belowV g8 (by (try simp only [World.heap_size_alloc, World.heap_size_drew, World.heap_size_setCell]); omega) (fun b hb => (LT.out b hb).1)
        have y8 := hb8.size
        simp only [World.heap_size_alloc] at y8
        have R8 : Hid (RowsAt w8 w.heap.size 28 v8 ([(unsM ra)])) := Lib.hid ⟨_, o8, VR.out.push2 (fun b hb => (LT.out b hb).2) P6.out hyr SR.out ((Below.refl _ _).alloc (Nat.le_refl _) _) g8 a8⟩
        have HB8 := Lib.hid ((HB6.out.alloc (by omega) _).trans hb8)
        clear o8 g8 a8 hb8
        go_wp2_with fail
        go_roundw
        case rel => exact ⟨HB8, by omega, .inr (.inl ⟨by go_num, Lib.hid (by rw [E1.out]; exact R8.out)⟩)⟩
        case measure => simp [intOf]
    · cases oka with
      | false =>
        have R : Hid (RowsAt wr w.heap.size 28 _ []) := Lib.hid (by have h7 := R.out; rw [E1.out] at h7; exact h7)
        obtain ⟨Aw, cw, rfl, -⟩ := R.out.slr
        simp only [List.length_nil] at *
        have hx : Below wr.heap.size wr (wr.alloc (.cells #[.slice A2 n2 c2, .slice A3 0 c3] 67)) := (Below.refl _ _).alloc (Nat.le_refl _) _
        have HXB := Lib.hid (HB.out.trans (hx.mono hyr))
        have HX := Lib.hid hx
        obtain ⟨e0, e1, -, -⟩ := Box2.new wr (.slice A2 n2 c2) (.slice A3 0 c3) 67
        have hxs : wr.heap.size + 1 ≤ (wr.alloc (.cells #[.slice A2 n2 c2, .slice A3 0 c3] 67)).heap.size := by simp
        clear hx
        go_wp2_with fail
        (with_reducible refine (CR2.out _ HXB.out).mono ?_); rintro _ w5 ⟨Af, cf, rfl, sf, b5⟩
        have y5 := b5.size
        have CU9 := Lib.hid (CUB.out w5 Af cf _ _ sf (Nat.le_refl _))
        have P5 := Lib.hid (HX.out.trans (b5.mono (by omega)))
        clear sf b5 e0 e1
        go_wp2_with fail
        (with_reducible refine (CU9.out).mono ?_); rintro _ w6 ⟨Ar, cr, rfl, sr, b6⟩
        have y6 := b6.size
        have P6 := Lib.hid (P5.out.trans (b6.mono (by omega)))
        have SR := Lib.hid (sr.mono (lo' := wr.heap.size) (by omega) (Nat.le_refl _))
        have HB6 := Lib.hid (HB.out.trans (P6.out.mono hyr))
        clear sr b6 CU9
        cases okb with
        | false =>
          go_wp2_with fail
          go_roundw
          case rel => exact ⟨HB6, by omega, .inr (.inr ⟨by go_num, Lib.hid (by rw [E2.out]; exact R.out.kept P6.out)⟩)⟩
          case measure => simp [intOf]
        | true =>
          obtain ⟨vs, ov, vr⟩ := R.out
          have OV := Lib.hid ((ov.kept P6.out).kept ((Below.refl _ _).alloc (Nat.le_refl _) (.cells #[.slice Ar (unsM rb).length cr] 28)))
          have VR := Lib.hid vr
          have LT := Lib.hid ov.lt
          clear ov vr
          go_wp2_with (at_builtin; go_loud (refine wpList_append_v _ rfl (.tmp 53) (.tmp 55) 57 rfl w.heap.size 28 Try.underlying57 infoI64S rfl (by omega) _ 0 vs rfl OV.out _ 0 1 1 [.slice Ar (unsM rb).length cr] rfl rfl (src_cells w6 28 [.slice Ar (unsM rb).length cr]) (one_slice _ _ _) (by omega) (by omega) (by (try simp only [World.heap_size_alloc, World.heap_size_drew, World.heap_size_setCell]); omega) ?_); intro v8 w8 o8 g8 a8)
          have hb8 : Below w.heap.size (w6.alloc (.cells #[.slice Ar (unsM rb).length cr] 28)) w8 := grown_belowV g8 (by (try simp only [World.heap_size_alloc, World.heap_size_drew, World.heap_size_setCell]); omega) (fun b hb => (LT.out b hb).1)
          have y8 := hb8.size
          simp only [World.heap_size_alloc] at y8
          have R8 : Hid (RowsAt w8 w.heap.size 28 v8 ([(unsM rb)])) := Lib.hid ⟨_, o8, VR.out.push2 (fun b hb => (LT.out b hb).2) P6.out hyr SR.out ((Below.refl _ _).alloc (Nat.le_refl _) _) g8 a8⟩
          have HB8 := Lib.hid ((HB6.out.alloc (by omega) _).trans hb8)
          clear o8 g8 a8 hb8
          go_wp2_with fail
          go_roundw
          case rel => exact ⟨HB8, by omega, .inr (.inr ⟨by go_num, Lib.hid (by rw [E2.out]; exact R8.out)⟩)⟩
          case measure => simp [intOf]
      | true =>
        have R : Hid (RowsAt wr w.heap.size 28 _ [unsM ra]) := Lib.hid (by have h7 := R.out; rw [E1.out] at h7; exact h7)
        obtain ⟨Aw, cw, rfl, slr⟩ := R.out.slr
        simp only [List.length_singleton] at *
        have SLR := Lib.hid slr
        clear slr
        have hx : Below wr.heap.size wr (wr.alloc (.cells #[.slice A2 n2 c2, .slice A3 0 c3] 67)) := (Below.refl _ _).alloc (Nat.le_refl _) _
        have HXB := Lib.hid (HB.out.trans (hx.mono hyr))
        have HX := Lib.hid hx
        obtain ⟨e0, e1, -, -⟩ := Box2.new wr (.slice A2 n2 c2) (.slice A3 0 c3) 67
        have hxs : wr.heap.size + 1 ≤ (wr.alloc (.cells #[.slice A2 n2 c2, .slice A3 0 c3] 67)).heap.size := by simp
        clear hx
        go_wp2_with fail
        (with_reducible refine (CR2.out _ HXB.out).mono ?_); rintro _ w5 ⟨Af, cf, rfl, sf, b5⟩
        have y5 := b5.size
        have CU9 := Lib.hid (CUB.out w5 Af cf _ _ sf (Nat.le_refl _))
        have P5 := Lib.hid (HX.out.trans (b5.mono (by omega)))
        clear sf b5 e0 e1
        go_wp2_with fail
        (with_reducible refine (CU9.out).mono ?_); rintro _ w6 ⟨Ar, cr, rfl, sr, b6⟩
        have y6 := b6.size
        have P6 := Lib.hid (P5.out.trans (b6.mono (by omega)))
        have SR := Lib.hid (sr.mono (lo' := wr.heap.size) (by omega) (Nat.le_refl _))
        have HB6 := Lib.hid (HB.out.trans (P6.out.mono hyr))
        clear sr b6 CU9
        cases okb with
        | false =>
          go_wp2_with fail
          go_roundw
          case rel => exact ⟨HB6, by omega, .inr (.inr ⟨by go_num, Lib.hid (by rw [E2.out]; exact R.out.kept P6.out)⟩)⟩
          case measure => simp [intOf]
        | true =>
          obtain ⟨gz, oz, Az, nz, cz, rfl, -, hgz, pz, sz⟩ := SLR.out.lie 0 (unsM ra) rfl
          have pz6 : w6.cell? ⟨gz, oz, none⟩ = some (.slice Az nz cz) := (P6.out.cell (p := ⟨gz, oz, none⟩) hgz).trans (by simpa using pz)
          have CSR := Lib.hid (sameRow_any Az Ar nz cz (unsM rb).length cr _ _ _ _ (unsM ra) (unsM rb) w6 (sz.below P6.out (Nat.le_refl _)) SR.out)
          generalize hsame : sameInts (unsM ra) (unsM rb) = sm at *
          have HSM := Lib.hid hsame
          clear pz sz hsame
          go_wp2_with fail
          (with_reducible refine (CSR.out).mono ?_); rintro _ w7 ⟨rfl, b7⟩
          have y7 := b7.size
          have P7 := Lib.hid (P6.out.trans (b7.mono (by omega)))
          have HB7 := Lib.hid (HB6.out.trans (b7.mono (by omega)))
          have SR7 := Lib.hid ((SR.out.below b7 (Nat.le_refl _)).mono (Nat.le_refl _) y7)
          clear b7 pz6
          cases sm with
          | true =>
            go_wp2_with fail
            go_roundw
            case rel => exact ⟨HB7, by omega, .inr (.inr ⟨by go_num, Lib.hid (by rw [E2.out]; exact R.out.kept P7.out)⟩)⟩
            case measure => simp [intOf]
          | false =>
            obtain ⟨vs, ov, vr⟩ := R.out
            have OV := Lib.hid ((ov.kept P7.out).kept ((Below.refl _ _).alloc (Nat.le_refl _) (.cells #[.slice Ar (unsM rb).length cr] 28)))
            have VR := Lib.hid vr
            have LT := Lib.hid ov.lt
            clear ov vr
            go_wp2_with (at_builtin; go_loud (refine wpList_append_v _ rfl (.tmp 53) (.tmp 55) 57 rfl w.heap.size 28 Try.underlying57 infoI64S rfl (by omega) _ 1 vs rfl OV.out _ 0 1 1 [.slice Ar (unsM rb).length cr] rfl rfl (src_cells w7 28 [.slice Ar (unsM rb).length cr]) (one_slice _ _ _) (by omega) (by omega) (by (try simp only [World.heap_size_alloc, World.heap_size_drew, World.heap_size_setCell]); omega) ?_); intro v8 w8 o8 g8 a8)
            have hb8 : Below w.heap.size (w7.alloc (.cells #[.slice Ar (unsM rb).length cr] 28)) w8 := grown_belowV g8 (by (try simp only [World.heap_size_alloc, World.heap_size_drew, World.heap_size_setCell]); omega) (fun b hb => (LT.out b hb).1)
            have y8 := hb8.size
            simp only [World.heap_size_alloc] at y8
            have R8 : Hid (RowsAt w8 w.heap.size 28 v8 ([unsM ra, (unsM rb)])) := Lib.hid ⟨_, o8, VR.out.push2 (fun b hb => (LT.out b hb).2) P7.out hyr SR7.out ((Below.refl _ _).alloc (Nat.le_refl _) _) g8 a8⟩
            have HB8 := Lib.hid ((HB7.out.alloc (by omega) _).trans hb8)
            clear o8 g8 a8 hb8
            go_wp2_with fail
            go_roundw
            case rel => exact ⟨HB8, by omega, .inr (.inr ⟨by go_num, Lib.hid (by rw [E2.out]; exact R8.out)⟩)⟩
            case measure => simp [intOf]
    · go_wp2_with fail
      go_ret
      obtain ⟨Aw, cw, rfl, slr⟩ := R.out.slr
      exact ⟨Aw, cw, rfl, slr, HB.out⟩
end Go.Proofs.Ytgnilmdaegnaaaa
