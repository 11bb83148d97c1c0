/- The latest head of kept disks. No conditions. -/
import Derived.Test.YtgnilmdaegnaaaaZTw6
set_option linter.unusedSimpArgs false
set_option linter.unusedVariables false
namespace Go.Proofs.Ytgnilmdaegnaaaa
open Go.RowKit
abbrev HdS := Int × Int × Int × List MarkD × Bool
def hstep (p : Int) (s : HdS) (row : List Int) : HdS := if (rowHead row).2.2.2.2 = true ∧ (rowHead row).1 % 2 = p ∧ (s.2.2.2.2 = false ∨ s.1 < (rowHead row).1) then rowHead row else s
theorem hstep_take {p : Int} {s : HdS} {R : List (List Int)} {j : Nat} {r : List Int} (h : R[j]? = some r) : (R.take (j + 1)).foldl (hstep p) s = hstep p ((R.take j).foldl (hstep p) s) r := by
  rw [List.take_add_one, h]
  simp
def hd0 : HdS := (0, 0, 0, [], false)
theorem rowHead_nn {row : List Int} (h : (rowHead row).2.2.2.2 = true) : 0 ≤ (rowHead row).1 ∧ (rowHead row).1 ≤ 1000000000 := by
  unfold rowHead at h ⊢
  split
  · rename_i hc
    have h9 := hc.2.2.2
    simp only [headOk, Bool.and_eq_true, btw_iff] at h9
    exact ⟨h9.2.1.1, by omega⟩
  · rename_i hc
    rw [if_neg hc] at h
    cases h
theorem rightM_len (a b : List Int) : (rightM a b).length ≤ 2 := by
  unfold rightM
  (repeat' split) <;> simp
def headInM (a0 b0 a1 b1 : List Int) : HdS := (rightM a1 b1).foldl (hstep 1) ((rightM a0 b0).foldl (hstep 0) hd0)
set_option maxRecDepth 100000 in
set_option maxHeartbeats 8000000 in
theorem headIn_any (A0 : Option Addr) (n0 c0 : Nat) (k0 : List (List Int)) (A1 : Option Addr) (c1 : Nat) (A2 : Option Addr) (n2 c2 : Nat) (k2 : List (List Int)) (A3 : Option Addr) (c3 : Nat) (lo hi : Nat) (w : World) (h0 : SlR w lo hi A0 n0 c0 k0) (h2 : SlR w lo hi A2 n2 c2 k2) (hhi : hi ≤ w.heap.size) (hc1 : c1 ≤ 9223372036854775807) (hc3 : c3 ≤ 9223372036854775807) (hd : twoOk k0 [] k2 [] = true) (h22 : n0 = 22) (a0 b0 a1 b1 : List Int) (ha0 : k0[0]? = some a0) (hb0 : k2[0]? = some b0) (ha1 : k0[1]? = some a1) (hb1 : k2[1]? = some b1) :
    Calls Try.prog 61 #[.agg #[.slice A0 n0 c0, .slice A1 0 c1, .slice A2 n2 c2, .slice A3 0 c3]] w (HeadBRes w (headInM a0 b0 a1 b1).1 (headInM a0 b0 a1 b1).2.1 (headInM a0 b0 a1 b1).2.2.1 (headInM a0 b0 a1 b1).2.2.2.1.length ((headInM a0 b0 a1 b1).2.2.2.1.flatMap MarkD.ints) (headInM a0 b0 a1 b1).2.2.2.2) := by
  have H0 := Lib.hid h0
  have H2 := Lib.hid h2
  have C1 : Hid (∀ W, Below w.heap.size w W → Calls Try.prog 40 #[.agg #[.slice A0 n0 c0, .slice A1 0 c1, .slice A2 n2 c2, .slice A3 0 c3]] W fun e w' => e = .returned (.bool true) ∧ Below W.heap.size W w') := Lib.hid (fun W hW => by
    have h7 := keptOk_any A0 n0 c0 k0 A1 0 c1 [] A2 n2 c2 k2 A3 0 c3 [] lo hi W (H0.out.below hW hhi) (SlW.nil _ _ _ _ _ hc1) (H2.out.below hW hhi) (SlW.nil _ _ _ _ _ hc3) (Nat.le_trans hhi hW.size)
    rw [hd, H0.out.len, decide_eq_true h22] at h7
    exact h7)
  obtain ⟨hda, hdb, -⟩ : diskOk k0 [] = true ∧ diskOk k2 [] = true ∧ k0.length = k2.length := by
    simp only [twoOk, Bool.and_eq_true, decide_eq_true_eq] at hd
    exact hd
  obtain ⟨-, -, -, hka, -⟩ := diskOk_sizes hda
  obtain ⟨-, -, -, hkb, -⟩ := diskOk_sizes hdb
  have CR : Hid (∀ W, Below w.heap.size w W → Calls Try.prog 118 #[.agg #[.slice A0 n0 c0, .slice A1 0 c1, .slice A2 n2 c2, .slice A3 0 c3], .int .i64 0] W (fun e w' => ∃ (A : Option Addr) (c : Nat), e = .returned (.slice A (rightM a0 b0).length c) ∧ SlR w' W.heap.size w'.heap.size A (rightM a0 b0).length c (rightM a0 b0) ∧ Below W.heap.size W w')) := Lib.hid (fun W hW => rightAt_any A0 n0 c0 k0 A1 c1 A2 n2 c2 k2 A3 c3 lo hi W (H0.out.below hW hhi) (H2.out.below hW hhi) (Nat.le_trans hhi hW.size) hc1 hc3 hd 0 a0 b0 ha0 hb0)
  have CQ : Hid (∀ W, Below w.heap.size w W → Calls Try.prog 118 #[.agg #[.slice A0 n0 c0, .slice A1 0 c1, .slice A2 n2 c2, .slice A3 0 c3], .int .i64 1] W (fun e w' => ∃ (A : Option Addr) (c : Nat), e = .returned (.slice A (rightM a1 b1).length c) ∧ SlR w' W.heap.size w'.heap.size A (rightM a1 b1).length c (rightM a1 b1) ∧ Below W.heap.size W w')) := Lib.hid (fun W hW => rightAt_any A0 n0 c0 k0 A1 c1 A2 n2 c2 k2 A3 c3 lo hi W (H0.out.below hW hhi) (H2.out.below hW hhi) (Nat.le_trans hhi hW.size) hc1 hc3 hd 1 a1 b1 ha1 hb1)
  have L0 := Lib.hid (rightM_len a0 b0)
  have L1 := Lib.hid (rightM_len a1 b1)
  have HM : Hid (headInM a0 b0 a1 b1 = (rightM a1 b1).foldl (hstep 1) ((rightM a0 b0).foldl (hstep 0) hd0)) := Lib.hid rfl
  clear h0 h2 hd h22 hda hdb hka hkb ha0 hb0 ha1 hb1
  generalize headInM a0 b0 a1 b1 = M at *
  generalize rightM a0 b0 = R0 at *
  generalize rightM a1 b1 = R1 at *
  have T1 : Hid (∀ W, Below (w.heap.size + 2) ((w.alloc (.cells #[.slice A0 n0 c0, .slice A1 0 c1, .slice A2 n2 c2, .slice A3 0 c3] 69)).alloc (.cells #[.int .i64 0, .int .i64 0, .int .i64 0, .slice none 0 0] 49)) W → (Box4 W w.heap.size (.slice A0 n0 c0) (.slice A1 0 c1) (.slice A2 n2 c2) (.slice A3 0 c3) ∧ Box4 W (w.heap.size + 1) (.int .i64 0) (.int .i64 0) (.int .i64 0) (.slice none 0 0))) := Lib.hid (fun W hW => ⟨((Box4.new w (.slice A0 n0 c0) (.slice A1 0 c1) (.slice A2 n2 c2) (.slice A3 0 c3) 69).below (B := w.heap.size + 1) ((Below.refl _ _).alloc (by simp) (.cells #[.int .i64 0, .int .i64 0, .int .i64 0, .slice none 0 0] 49)) (by omega)).below hW (by omega), by
    have h9 := Box4.new (w.alloc (.cells #[.slice A0 n0 c0, .slice A1 0 c1, .slice A2 n2 c2, .slice A3 0 c3] 69)) (.int .i64 0) (.int .i64 0) (.int .i64 0) (.slice none 0 0) 49
    rw [World.heap_size_alloc] at h9
    exact h9.below hW (by omega)⟩)
  have hs9 : ((w.alloc (.cells #[.slice A0 n0 c0, .slice A1 0 c1, .slice A2 n2 c2, .slice A3 0 c3] 69)).alloc (.cells #[.int .i64 0, .int .i64 0, .int .i64 0, .slice none 0 0] 49)).heap.size = w.heap.size + 2 := by simp only [World.heap_size_alloc]
  have hb9 : Below w.heap.size w ((w.alloc (.cells #[.slice A0 n0 c0, .slice A1 0 c1, .slice A2 n2 c2, .slice A3 0 c3] 69)).alloc (.cells #[.int .i64 0, .int .i64 0, .int .i64 0, .slice none 0 0] 49)) := by (repeat' (first | with_reducible exact Below.refl _ _ | with_reducible assumption | with_reducible refine Below.drew ?_ | with_reducible refine Below.alloc ?_ ?_ _ | with_reducible refine Below.setCell ?_ ?_ _ | with_reducible refine Below.trans ?_ (Below.mono (by assumption) ?_) | ((try simp only [World.heap_size_alloc, World.heap_size_drew, World.heap_size_setCell]); omega)))
  go_enter Try.func61, Try.ntmps61
  go_wp2_with fail
  generalize hW0 : ((w.alloc (.cells #[.slice A0 n0 c0, .slice A1 0 c1, .slice A2 n2 c2, .slice A3 0 c3] 69)).alloc (.cells #[.int .i64 0, .int .i64 0, .int .i64 0, .slice none 0 0] 49)) = W0 at *
  have hs9a := Nat.le_of_eq hs9
  have hs9b := Nat.le_of_eq hs9.symm
  clear hW0 hs9
  (with_reducible refine (C1.out _ hb9).mono ?_); rintro _ w1 ⟨rfl, b1'⟩
  have y1 := b1'.size
  have P1 := Lib.hid (b1'.mono (by omega) : Below (w.heap.size + 2) W0 w1)
  have HB9 := Lib.hid hb9
  have KB := Lib.hid (Box4.new w1 (.int .i64 0) (.int .i64 0) (.int .i64 0) (.slice none 0 0) 49)
  have hal : Below w1.heap.size w1 (w1.alloc (.cells #[.int .i64 0, .int .i64 0, .int .i64 0, .slice none 0 0] 49)) := (Below.refl _ _).alloc (Nat.le_refl _) _
  have hsl : (w1.alloc (.cells #[.int .i64 0, .int .i64 0, .int .i64 0, .slice none 0 0] 49)).heap.size = w1.heap.size + 1 := World.heap_size_alloc _ _
  have P2 := Lib.hid (P1.out.trans (hal.mono (by omega)))
  clear b1' hb9 hal
  go_wp2_with fail
  generalize hW2 : w1.alloc (.cells #[.int .i64 0, .int .i64 0, .int .i64 0, .slice none 0 0] 49) = W2 at *
  have hsla := Nat.le_of_eq hsl
  have hslb := Nat.le_of_eq hsl.symm
  clear hW2 hsl
  go_loopw [5, 6, 8, 9, 10] (fun f i _ _ _ wr => Hid (Below (w.heap.size + 2) W0 wr) ∧ w1.heap.size + 1 ≤ wr.heap.size ∧ ∃ (S : HdS) (A : Option Addr) (c : Nat), f = .bool S.2.2.2.2 ∧ Hid (Box4 wr w1.heap.size (.int .i64 S.1) (.int .i64 S.2.1) (.int .i64 S.2.2.1) (.slice A S.2.2.2.1.length c)) ∧ Hid (Sl wr (w1.heap.size + 1) wr.heap.size 3 A S.2.2.2.1.length c (S.2.2.2.1.flatMap MarkD.ints)) ∧ ((i = .int .i64 0 ∧ Hid (S = hd0)) ∨ (i = .int .i64 1 ∧ Hid (S = R0.foldl (hstep 0) hd0)) ∨ (i = .int .i64 2 ∧ Hid (S = M)))) (fun _ i _ _ _ _ => 2 - (intOf i).toNat)
  case atStart => exact ⟨P2, by omega, hd0, none, 0, rfl, KB, Lib.hid (Sl.nil _ _ _ _ _ _ (by omega)), .inl ⟨rfl, Lib.hid rfl⟩⟩
  case round =>
    obtain ⟨HB, hyr, S, A, c, rfl, BX, SL, hcase⟩ := hrel
    obtain ⟨wo, rfl⟩ : ∃ x, x = wr := ⟨wr, rfl⟩
    rcases hcase with ⟨rfl, HS⟩ | ⟨rfl, HS⟩ | ⟨rfl, HS⟩
    · obtain ⟨q0, q1, q2, q3, -, -, -, -⟩ := (T1.out _ HB.out).1
      go_wp2_with fail
      (with_reducible refine (CR.out _ (HB9.out.trans (HB.out.mono (by omega)))).mono ?_); rintro _ w5 ⟨Ar, cr, rfl, sr, b5⟩
      have y5 := b5.size
      have SR := Lib.hid sr
      have hrl : R0.length ≤ 2 := L0.out
      have P5 := Lib.hid (HB.out.trans (b5.mono (by omega)))
      have BX5 := Lib.hid (BX.out.below b5 (by omega))
      have SL5 := Lib.hid ((SL.out.below b5 (Nat.le_refl _)).mono (Nat.le_refl _) y5)
      clear sr b5 q0 q1 q2 q3
      go_wp2_with fail
      go_loopw [5, 8, 9, 10, 24] (fun f _ _ _ i wr => ∃ j : Nat, j ≤ R0.length ∧ i = .int .i64 j ∧ Hid (Below w1.heap.size w5 wr) ∧ Hid (Upd w1.heap.size (w1.heap.size + 1) w5 wr) ∧ w5.heap.size ≤ wr.heap.size ∧ ∃ (S1 : HdS) (A1' : Option Addr) (c1' : Nat), f = .bool S1.2.2.2.2 ∧ Hid (Box4 wr w1.heap.size (.int .i64 S1.1) (.int .i64 S1.2.1) (.int .i64 S1.2.2.1) (.slice A1' S1.2.2.2.1.length c1')) ∧ Hid (Sl wr (w1.heap.size + 1) wr.heap.size 3 A1' S1.2.2.2.1.length c1' (S1.2.2.2.1.flatMap MarkD.ints)) ∧ Hid (S1 = (R0.take j).foldl (hstep 0) S)) (fun _ _ _ _ i _ => R0.length - (intOf i).toNat)
      case atStart => exact ⟨0, Nat.zero_le _, rfl, Lib.hid (Below.refl _ _), Lib.hid (Upd.refl _ _ _), Nat.le_refl _, S, A, c, rfl, BX5, SL5, Lib.hid rfl⟩
      case round =>
        obtain ⟨j, hj, rfl, HBb, HUx, hyx, S1, A1', c1', rfl, BX1, SL1, HS1⟩ := hrel
        by_cases hlt : j < R0.length
        · obtain ⟨r, hr⟩ : ∃ r, R0[j]? = some r := ⟨R0[j]'hlt, List.getElem?_eq_getElem _⟩
          obtain ⟨gr, og, Aj, nj, cj, rfl, hgl, hgr, pr, srj⟩ := SR.out.lie j r hr
          have hgx : gr < wr.heap.size := by omega
          have pr1 : wr.cell? ⟨gr, og + j, none⟩ = some (.slice Aj nj cj) := (World.cell?_of_block (w := w5) (a := ⟨gr, og + j, none⟩) (HUx.out.block gr hgr (.inr (by omega)))).trans pr
          have CH := Lib.hid (rowHead_any Aj nj cj _ _ r wr (srj.upd HUx.out (.inr (by omega))))
          have HT : Hid ((R0.take (j + 1)).foldl (hstep 0) S = hstep 0 S1 r) := Lib.hid (by rw [hstep_take hr, ← HS1.out])
          have HST : Hid (hstep 0 S1 r = if (rowHead r).2.2.2.2 = true ∧ (rowHead r).1 % 2 = 0 ∧ (S1.2.2.2.2 = false ∨ S1.1 < (rowHead r).1) then rowHead r else S1) := Lib.hid rfl
          have HNN := Lib.hid (fun h => rowHead_nn (row := r) h)
          generalize rowHead r = Q at *
          obtain ⟨u, bq, tq, lq, fq⟩ := Q
          simp only at CH HST HNN
          clear pr srj hr hgr
          go_wp2_with fail
          (with_reducible refine (CH.out).mono ?_); rintro _ w6 ⟨Aq, cq, rfl, sq, b6⟩
          have y6 := b6.size
          have hal : Below w6.heap.size w6 (w6.alloc (.cells #[.int .i64 u, .int .i64 bq, .int .i64 tq, .slice Aq lq.length cq] 49)) := (Below.refl _ _).alloc (Nat.le_refl _) _
          have hsa : (w6.alloc (.cells #[.int .i64 u, .int .i64 bq, .int .i64 tq, .slice Aq lq.length cq] 49)).heap.size = w6.heap.size + 1 := World.heap_size_alloc _ _
          have KH := Lib.hid (Box4.new w6 (.int .i64 u) (.int .i64 bq) (.int .i64 tq) (.slice Aq lq.length cq) 49)
          have P7 := Lib.hid (b6.trans (hal.mono y6))
          have SQ := Lib.hid (sq.below hal (Nat.le_refl _))
          clear sq b6 hal CH
          go_upto_region 11 with fail
          generalize hW7 : w6.alloc (.cells #[.int .i64 u, .int .i64 bq, .int .i64 tq, .slice Aq lq.length cq] 49) = W7 at *
          have hsa1 := Nat.le_of_eq hsa
          have hsa2 := Nat.le_of_eq hsa.symm
          clear hW7 hsa
          have BX7 := Lib.hid (BX1.out.below P7.out (by omega))
          have SL7 := Lib.hid ((SL1.out.below P7.out (Nat.le_refl _)).mono (hi' := W7.heap.size) (Nat.le_refl _) (by omega))
          have HU7 := Lib.hid (HUx.out.trans (Upd.of_below (lo := w1.heap.size) (hi := w1.heap.size + 1) (P7.out.mono (Nat.le_refl _))))
          have HB7 := Lib.hid (HBb.out.trans (P7.out.mono (by omega)))
          obtain ⟨x0, x1, x2, x3, xf0, xf1, xf2, xf3⟩ := BX7.out
          obtain ⟨z0, z1, z2, z3, -, -, -, -⟩ := KH.out
          obtain ⟨su, sb, stt, sl, sf⟩ := S1
          simp only at x0 x1 x2 x3 HST
          by_cases hcnd : fq = true ∧ u % 2 = 0 ∧ (sf = false ∨ su < u)
          · have e9 := HST.out
            rw [if_pos hcnd] at e9
            have BX8 := Lib.hid (BX7.out.set (.int .i64 u) (.int .i64 bq) (.int .i64 tq) (.slice Aq lq.length cq))
            have SQ8 := Lib.hid ((SQ.out.upd (up4 (b := w1.heap.size) (x := .int .i64 u) (y := .int .i64 bq) (z := .int .i64 tq) (u := .slice Aq lq.length cq)) (.inr (by omega))).mono (lo' := w1.heap.size + 1) (hi' := ((((W7.setCell ⟨w1.heap.size, 0, none⟩ (.int .i64 u)).setCell ⟨w1.heap.size, 1, none⟩ (.int .i64 bq)).setCell ⟨w1.heap.size, 2, none⟩ (.int .i64 tq)).setCell ⟨w1.heap.size, 3, none⟩ (.slice Aq lq.length cq)).heap.size) (by omega) (by rw [size4]; omega))
            have HU8 := Lib.hid (HU7.out.trans (up4 (w := W7) (b := w1.heap.size) (x := .int .i64 u) (y := .int .i64 bq) (z := .int .i64 tq) (u := .slice Aq lq.length cq)))
            have HB8 := Lib.hid (HB7.out.trans (below4 (w := W7) (x := .int .i64 u) (y := .int .i64 bq) (z := .int .i64 tq) (u := .slice Aq lq.length cq) (Nat.le_refl w1.heap.size)))
            obtain ⟨rfl, hmod, hor⟩ := hcnd
            have hun := (HNN.out rfl).1
            have HE := Lib.hid (HT.out.trans e9)
            clear e9 HT HST
            have hmd := Lib.hid hmod
            clear hmod
            have hm1 : u.tmod 2 = 0 := by rw [Int.tmod_eq_emod_of_nonneg hun]; exact hmd.out
            have hm2 : u % 2 = 0 := hmd.out
            cases sf with
            | false =>
              clear hor
              go_wp2_with fail
              go_roundw
              case rel => exact ⟨j + 1, hlt, by go_num, HB8, HU8, by rw [size4]; omega, (u, bq, tq, lq, true), Aq, cq, rfl, BX8, SQ8, Lib.hid HE.out.symm⟩
              case measure => simp [intOf]; omega
            | true =>
              have hgt : su < u := by rcases hor with h | h; exact absurd h (by simp); exact h
              clear hor
              go_wp2_with fail
              go_roundw
              case rel => exact ⟨j + 1, hlt, by go_num, HB8, HU8, by rw [size4]; omega, (u, bq, tq, lq, true), Aq, cq, rfl, BX8, SQ8, Lib.hid HE.out.symm⟩
              case measure => simp [intOf]; omega
          · have e9 := HST.out
            rw [if_neg hcnd] at e9
            have HE := Lib.hid (HT.out.trans e9)
            clear e9 HT HST
            cases fq with
            | false =>
              clear hcnd
              go_wp2_with fail
              go_roundw
              case rel => exact ⟨j + 1, hlt, by go_num, HB7, HU7, by omega, (su, sb, stt, sl, _), A1', c1', rfl, BX7, SL7, Lib.hid HE.out.symm⟩
              case measure => simp [intOf]; omega
            | true =>
              have hun := (HNN.out rfl).1
              by_cases hmod : u % 2 = 0
              · have hm1 : u.tmod 2 = 0 := by rw [Int.tmod_eq_emod_of_nonneg hun]; exact hmod
                cases sf with
                | false => exact absurd ⟨rfl, hmod, .inl rfl⟩ hcnd
                | true =>
                  have hgt : ¬ su < u := fun h => hcnd ⟨rfl, hmod, .inr h⟩
                  clear hcnd
                  go_wp2_with fail
                  go_roundw
                  case rel => exact ⟨j + 1, hlt, by go_num, HB7, HU7, by omega, (su, sb, stt, sl, _), A1', c1', rfl, BX7, SL7, Lib.hid HE.out.symm⟩
                  case measure => simp [intOf]; omega
              · have hm1 : ¬ u.tmod 2 = 0 := by rw [Int.tmod_eq_emod_of_nonneg hun]; exact hmod
                clear hcnd
                go_wp2_with fail
                go_roundw
                case rel => exact ⟨j + 1, hlt, by go_num, HB7, HU7, by omega, (su, sb, stt, sl, _), A1', c1', rfl, BX7, SL7, Lib.hid HE.out.symm⟩
                case measure => simp [intOf]; omega
        · have hjn : j = R0.length := by omega
          have HS2 : Hid (S1 = R0.foldl (hstep 0) S) := Lib.hid (by have h7 := HS1.out; rw [hjn, List.take_length] at h7; exact h7)
          have HBo := Lib.hid (P5.out.trans (HBb.out.mono (by omega)))
          clear hjn HS1
          go_wp2_with fail
          go_roundw
          case rel => exact ⟨HBo, by omega, S1, A1', c1', rfl, BX1, SL1, .inr (.inl ⟨by go_num, Lib.hid (by rw [HS2.out, HS.out])⟩)⟩
          case measure => simp [intOf]
    · obtain ⟨q0, q1, q2, q3, -, -, -, -⟩ := (T1.out _ HB.out).1
      go_wp2_with fail
      (with_reducible refine (CQ.out _ (HB9.out.trans (HB.out.mono (by omega)))).mono ?_); rintro _ w5 ⟨Ar, cr, rfl, sr, b5⟩
      have y5 := b5.size
      have SR := Lib.hid sr
      have hrl : R1.length ≤ 2 := L1.out
      have P5 := Lib.hid (HB.out.trans (b5.mono (by omega)))
      have BX5 := Lib.hid (BX.out.below b5 (by omega))
      have SL5 := Lib.hid ((SL.out.below b5 (Nat.le_refl _)).mono (Nat.le_refl _) y5)
      clear sr b5 q0 q1 q2 q3
      go_wp2_with fail
      go_loopw [5, 8, 9, 10, 24] (fun f _ _ _ i wr => ∃ j : Nat, j ≤ R1.length ∧ i = .int .i64 j ∧ Hid (Below w1.heap.size w5 wr) ∧ Hid (Upd w1.heap.size (w1.heap.size + 1) w5 wr) ∧ w5.heap.size ≤ wr.heap.size ∧ ∃ (S1 : HdS) (A1' : Option Addr) (c1' : Nat), f = .bool S1.2.2.2.2 ∧ Hid (Box4 wr w1.heap.size (.int .i64 S1.1) (.int .i64 S1.2.1) (.int .i64 S1.2.2.1) (.slice A1' S1.2.2.2.1.length c1')) ∧ Hid (Sl wr (w1.heap.size + 1) wr.heap.size 3 A1' S1.2.2.2.1.length c1' (S1.2.2.2.1.flatMap MarkD.ints)) ∧ Hid (S1 = (R1.take j).foldl (hstep 1) S)) (fun _ _ _ _ i _ => R1.length - (intOf i).toNat)
      case atStart => exact ⟨0, Nat.zero_le _, rfl, Lib.hid (Below.refl _ _), Lib.hid (Upd.refl _ _ _), Nat.le_refl _, S, A, c, rfl, BX5, SL5, Lib.hid rfl⟩
      case round =>
        obtain ⟨j, hj, rfl, HBb, HUx, hyx, S1, A1', c1', rfl, BX1, SL1, HS1⟩ := hrel
        by_cases hlt : j < R1.length
        · obtain ⟨r, hr⟩ : ∃ r, R1[j]? = some r := ⟨R1[j]'hlt, List.getElem?_eq_getElem _⟩
          obtain ⟨gr, og, Aj, nj, cj, rfl, hgl, hgr, pr, srj⟩ := SR.out.lie j r hr
          have hgx : gr < wr.heap.size := by omega
          have pr1 : wr.cell? ⟨gr, og + j, none⟩ = some (.slice Aj nj cj) := (World.cell?_of_block (w := w5) (a := ⟨gr, og + j, none⟩) (HUx.out.block gr hgr (.inr (by omega)))).trans pr
          have CH := Lib.hid (rowHead_any Aj nj cj _ _ r wr (srj.upd HUx.out (.inr (by omega))))
          have HT : Hid ((R1.take (j + 1)).foldl (hstep 1) S = hstep 1 S1 r) := Lib.hid (by rw [hstep_take hr, ← HS1.out])
          have HST : Hid (hstep 1 S1 r = if (rowHead r).2.2.2.2 = true ∧ (rowHead r).1 % 2 = 1 ∧ (S1.2.2.2.2 = false ∨ S1.1 < (rowHead r).1) then rowHead r else S1) := Lib.hid rfl
          have HNN := Lib.hid (fun h => rowHead_nn (row := r) h)
          generalize rowHead r = Q at *
          obtain ⟨u, bq, tq, lq, fq⟩ := Q
          simp only at CH HST HNN
          clear pr srj hr hgr
          go_wp2_with fail
          (with_reducible refine (CH.out).mono ?_); rintro _ w6 ⟨Aq, cq, rfl, sq, b6⟩
          have y6 := b6.size
          have hal : Below w6.heap.size w6 (w6.alloc (.cells #[.int .i64 u, .int .i64 bq, .int .i64 tq, .slice Aq lq.length cq] 49)) := (Below.refl _ _).alloc (Nat.le_refl _) _
          have hsa : (w6.alloc (.cells #[.int .i64 u, .int .i64 bq, .int .i64 tq, .slice Aq lq.length cq] 49)).heap.size = w6.heap.size + 1 := World.heap_size_alloc _ _
          have KH := Lib.hid (Box4.new w6 (.int .i64 u) (.int .i64 bq) (.int .i64 tq) (.slice Aq lq.length cq) 49)
          have P7 := Lib.hid (b6.trans (hal.mono y6))
          have SQ := Lib.hid (sq.below hal (Nat.le_refl _))
          clear sq b6 hal CH
          go_upto_region 11 with fail
          generalize hW7 : w6.alloc (.cells #[.int .i64 u, .int .i64 bq, .int .i64 tq, .slice Aq lq.length cq] 49) = W7 at *
          have hsa1 := Nat.le_of_eq hsa
          have hsa2 := Nat.le_of_eq hsa.symm
          clear hW7 hsa
          have BX7 := Lib.hid (BX1.out.below P7.out (by omega))
          have SL7 := Lib.hid ((SL1.out.below P7.out (Nat.le_refl _)).mono (hi' := W7.heap.size) (Nat.le_refl _) (by omega))
          have HU7 := Lib.hid (HUx.out.trans (Upd.of_below (lo := w1.heap.size) (hi := w1.heap.size + 1) (P7.out.mono (Nat.le_refl _))))
          have HB7 := Lib.hid (HBb.out.trans (P7.out.mono (by omega)))
          obtain ⟨x0, x1, x2, x3, xf0, xf1, xf2, xf3⟩ := BX7.out
          obtain ⟨z0, z1, z2, z3, -, -, -, -⟩ := KH.out
          obtain ⟨su, sb, stt, sl, sf⟩ := S1
          simp only at x0 x1 x2 x3 HST
          by_cases hcnd : fq = true ∧ u % 2 = 1 ∧ (sf = false ∨ su < u)
          · have e9 := HST.out
            rw [if_pos hcnd] at e9
            have BX8 := Lib.hid (BX7.out.set (.int .i64 u) (.int .i64 bq) (.int .i64 tq) (.slice Aq lq.length cq))
            have SQ8 := Lib.hid ((SQ.out.upd (up4 (b := w1.heap.size) (x := .int .i64 u) (y := .int .i64 bq) (z := .int .i64 tq) (u := .slice Aq lq.length cq)) (.inr (by omega))).mono (lo' := w1.heap.size + 1) (hi' := ((((W7.setCell ⟨w1.heap.size, 0, none⟩ (.int .i64 u)).setCell ⟨w1.heap.size, 1, none⟩ (.int .i64 bq)).setCell ⟨w1.heap.size, 2, none⟩ (.int .i64 tq)).setCell ⟨w1.heap.size, 3, none⟩ (.slice Aq lq.length cq)).heap.size) (by omega) (by rw [size4]; omega))
            have HU8 := Lib.hid (HU7.out.trans (up4 (w := W7) (b := w1.heap.size) (x := .int .i64 u) (y := .int .i64 bq) (z := .int .i64 tq) (u := .slice Aq lq.length cq)))
            have HB8 := Lib.hid (HB7.out.trans (below4 (w := W7) (x := .int .i64 u) (y := .int .i64 bq) (z := .int .i64 tq) (u := .slice Aq lq.length cq) (Nat.le_refl w1.heap.size)))
            obtain ⟨rfl, hmod, hor⟩ := hcnd
            have hun := (HNN.out rfl).1
            have HE := Lib.hid (HT.out.trans e9)
            clear e9 HT HST
            have hmd := Lib.hid hmod
            clear hmod
            have hm1 : u.tmod 2 = 1 := by rw [Int.tmod_eq_emod_of_nonneg hun]; exact hmd.out
            have hm2 : u % 2 = 1 := hmd.out
            cases sf with
            | false =>
              clear hor
              go_wp2_with fail
              go_roundw
              case rel => exact ⟨j + 1, hlt, by go_num, HB8, HU8, by rw [size4]; omega, (u, bq, tq, lq, true), Aq, cq, rfl, BX8, SQ8, Lib.hid HE.out.symm⟩
              case measure => simp [intOf]; omega
            | true =>
              have hgt : su < u := by rcases hor with h | h; exact absurd h (by simp); exact h
              clear hor
              go_wp2_with fail
              go_roundw
              case rel => exact ⟨j + 1, hlt, by go_num, HB8, HU8, by rw [size4]; omega, (u, bq, tq, lq, true), Aq, cq, rfl, BX8, SQ8, Lib.hid HE.out.symm⟩
              case measure => simp [intOf]; omega
          · have e9 := HST.out
            rw [if_neg hcnd] at e9
            have HE := Lib.hid (HT.out.trans e9)
            clear e9 HT HST
            cases fq with
            | false =>
              clear hcnd
              go_wp2_with fail
              go_roundw
              case rel => exact ⟨j + 1, hlt, by go_num, HB7, HU7, by omega, (su, sb, stt, sl, _), A1', c1', rfl, BX7, SL7, Lib.hid HE.out.symm⟩
              case measure => simp [intOf]; omega
            | true =>
              have hun := (HNN.out rfl).1
              by_cases hmod : u % 2 = 1
              · have hm1 : u.tmod 2 = 1 := by rw [Int.tmod_eq_emod_of_nonneg hun]; exact hmod
                cases sf with
                | false => exact absurd ⟨rfl, hmod, .inl rfl⟩ hcnd
                | true =>
                  have hgt : ¬ su < u := fun h => hcnd ⟨rfl, hmod, .inr h⟩
                  clear hcnd
                  go_wp2_with fail
                  go_roundw
                  case rel => exact ⟨j + 1, hlt, by go_num, HB7, HU7, by omega, (su, sb, stt, sl, _), A1', c1', rfl, BX7, SL7, Lib.hid HE.out.symm⟩
                  case measure => simp [intOf]; omega
              · have hm1 : ¬ u.tmod 2 = 1 := by rw [Int.tmod_eq_emod_of_nonneg hun]; exact hmod
                clear hcnd
                go_wp2_with fail
                go_roundw
                case rel => exact ⟨j + 1, hlt, by go_num, HB7, HU7, by omega, (su, sb, stt, sl, _), A1', c1', rfl, BX7, SL7, Lib.hid HE.out.symm⟩
                case measure => simp [intOf]; omega
        · have hjn : j = R1.length := by omega
          have HS2 : Hid (S1 = R1.foldl (hstep 1) S) := Lib.hid (by have h7 := HS1.out; rw [hjn, List.take_length] at h7; exact h7)
          have HBo := Lib.hid (P5.out.trans (HBb.out.mono (by omega)))
          clear hjn HS1
          go_wp2_with fail
          go_roundw
          case rel => exact ⟨HBo, by omega, S1, A1', c1', rfl, BX1, SL1, .inr (.inr ⟨by go_num, Lib.hid (by rw [HS2.out, HS.out, ← HM.out])⟩)⟩
          case measure => simp [intOf]
    · obtain ⟨x0, x1, x2, x3, -, -, -, -⟩ := BX.out
      have BR := Lib.hid (T1.out _ HB.out).2
      obtain ⟨p0, p1, p2, p3, g0, g1, g2, g3⟩ := BR.out
      have e9 := HS.out
      subst e9
      go_wp2_with fail
      refine bodyPost_ret (v := .tuple #[.agg #[.int .i64 S.1, .int .i64 S.2.1, .int .i64 S.2.2.1, .slice A S.2.2.2.1.length c], .bool S.2.2.2.2]) (by simp [results, Try.results61, go_sem, p0, p1, p2, p3, g0, g1, g2, g3]) rfl ⟨A, c, rfl, ((SL.out.upd (up4 (b := w.heap.size + 1)) (.inr (by omega))).mono (by omega) (by rw [size4]; omega)), ((HB9.out.trans (HB.out.mono (by omega))).trans (below4 (by omega)))⟩
end Go.Proofs.Ytgnilmdaegnaaaa
