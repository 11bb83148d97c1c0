/- The law FnTimers returns true for every input. No conditions. -/
import Derived.Test.YtkianeknbfahgaaTmr0
import Derived.Test.YtkianeknbfahgaaTim8
import Derived.Test.YtkianeknbfahgaaTim4
import Derived.Test.YtkianeknbfahgaaClk4
set_option linter.unusedSimpArgs false
set_option linter.unusedVariables false
namespace Go.Proofs.Ytkianeknbfahgaa
open Go.ChangeShapes Go.WideShapes Go.ChangeAt Go.RowKit
namespace Timers
theorem flat_ids (l : List TimerD) : l.flatMap (fun t => [t.id]) = l.map (fun t => t.id) := by
  induction l with
  | nil => rfl
  | cons x xs ih => rw [List.flatMap_cons, ih]; rfl
/-- Between two rounds of the draws: the list and the table. -/
def Tr (w w1 : World) (A : Option Addr) (n c : Nat) (v i : Value) (wr : World) : Prop :=
  ∃ (m : Nat) (l : List TimerD) (dl : List Int) (A2 : Option Addr) (n2 c2 : Nat), m ≤ 14 ∧ i = .int .i64 (m : Nat) ∧ v = .slice A2 n2 c2 ∧ Hid (TmR l dl ∧ l.length ≤ m) ∧ Sl wr (w1.heap.size + 2) wr.heap.size 2 A2 n2 c2 (l.flatMap TimerD.ints) ∧ Ints wr (w1.heap.size + 1) 0 dl ∧
    DiceAt wr w.heap.size w.heap.size A n c ∧ w1.heap.size + 2 ≤ wr.heap.size ∧ Below w.heap.size w wr
theorem Tr.step {w w1 w6 : World} {A : Option Addr} {n c m : Nat} {l : List TimerD} {dl : List Int} {A2 : Option Addr} {n2 c2 k : Nat} {y : Int} {lo hi : Nat} (hm : m < 14) (hr : TmR l (dl.set k y) ∧ l.length ≤ m + 1) (hs : Sl w6 lo hi 2 A2 n2 c2 (l.flatMap TimerD.ints)) (hlo : w1.heap.size + 2 ≤ lo) (hhi : hi ≤ w6.heap.size)
    (hI : Ints w6 (w1.heap.size + 1) 0 dl) (hd : DiceAt w6 w.heap.size w.heap.size A n c) (hz1 : w.heap.size < w1.heap.size) (hz : w1.heap.size + 2 ≤ w6.heap.size) (hb : Below w.heap.size w w6) {iv : Int} (hiv : iv = ((m + 1 : Nat) : Int)) :
    Tr w w1 A n c (.slice A2 n2 c2) (.int .i64 iv) (w6.setCell ⟨w1.heap.size + 1, k, none⟩ (.int .i64 y)) := by
  subst hiv
  have hu : Upd (w1.heap.size + 1) (w1.heap.size + 2) w6 (w6.setCell ⟨w1.heap.size + 1, k, none⟩ (.int .i64 y)) := (Upd.refl _ _ _).setCell (p := ⟨w1.heap.size + 1, k, none⟩) (Nat.le_refl _) (show w1.heap.size + 1 < w1.heap.size + 2 by omega) _
  refine ⟨m + 1, l, dl.set k y, A2, n2, c2, hm, rfl, rfl, hr, (hs.upd hu (.inr hlo)).mono hlo (by rw [World.heap_size_setCell]; exact hhi), ?_, hd.upd hu (.inl (by omega)), by rw [World.heap_size_setCell]; exact hz, hb.setCell (p := ⟨w1.heap.size + 1, k, none⟩) (by simp only; omega) _⟩
  have h9 := hI.set k y
  rw [Nat.zero_add] at h9
  exact h9
set_option maxRecDepth 100000 in
set_option maxHeartbeats 16000000 in
theorem law_any (A : Option Addr) (n c : Nat) (w : World) (h : ArgB w A n c) : Calls Try.prog 13 #[.slice A n c] w fun e w' => e = .returned (.bool true) ∧ Below w.heap.size w w' := by
  rcases Nat.lt_or_ge 4096 n with hn0 | hn0
  · have hbg : decide (4096 < n) = true := by simpa using hn0
    clear h
    go_enter Try.func13, Try.ntmps13
    go_wp2_with fail
    (with_reducible refine (big_any _ _ _ _).mono ?_); rintro _ _ ⟨rfl, rfl⟩
    rw [hbg]
    go_wp2_with fail
    go_ret
    exact ⟨rfl, Below.refl _ _⟩
  have hc := h.code hn0
  have hbg : decide (4096 < n) = false := by simp; omega
  have hmk : ∀ W, (Instr.makeSlice 22 (.int .i64 10) (.int .i64 10)).run Try.prog W = .ok (.slice (some ⟨W.heap.size, 0, none⟩) 10 10) (W.alloc (.cells (zeroRow (10 * 1)) 2)) := fun W => run_make_n (P := Try.prog) Try.underlying22 info64 rfl (by omega) 10 (by omega) (by omega) W
  clear h
  go_enter Try.func13, Try.ntmps13
  go_wp2_with fail
  (with_reducible refine (big_any _ _ _ _).mono ?_); rintro _ _ ⟨rfl, rfl⟩
  rw [hbg]
  go_wp2_with fail
  (with_reducible refine (roll_any _ _ _ _ 906 _ hc (Nat.le_refl _) (by omega) (by omega)).mono ?_); rintro _ w1 ⟨rfl, z1, d1, b1⟩
  have HD1 := Lib.hid d1
  have HB1 := Lib.hid b1
  clear d1 b1
  go_wp2_with fail
  go_loopw [6] (fun i wr => ∃ (m : Nat) (zs : List Int), m ≤ 10 ∧ i = .int .i64 (m : Nat) ∧ zs.length = 10 ∧ Hid (∀ j, j < m → zs[j]? = some (-1)) ∧ Ints wr (w1.heap.size + 1) 0 zs ∧ w1.heap.size + 2 ≤ wr.heap.size ∧ Below w1.heap.size w1 wr) (fun i _ => 10 - (intOf i).toNat)
  case atStart =>
    refine ⟨0, List.replicate 10 0, by omega, rfl, by simp, fun j hj => absurd hj (by omega), ?_, by (try simp only [World.heap_size_alloc, World.heap_size_drew, World.heap_size_setCell]); omega, by (repeat' (first | with_reducible exact Below.refl _ _ | with_reducible assumption | with_reducible refine Below.drew ?_ | with_reducible refine Below.alloc ?_ ?_ _ | with_reducible refine Below.setCell ?_ ?_ _ | with_reducible refine Below.trans ?_ (Below.mono (by assumption) ?_) | ((try simp only [World.heap_size_alloc, World.heap_size_drew, World.heap_size_setCell]); omega)))⟩
    have h9 := ints_zeroRow (w1.alloc (.cells #[] 60)) 2 (10 * 1)
    rw [World.heap_size_alloc] at h9
    exact h9
  case round =>
    clear hmk
    obtain ⟨m, zs, hm, rfl, hl10, hp, hI, hz, hb⟩ := hrel
    by_cases hlt : m < 10
    · obtain ⟨o1, f1⟩ := hI.getD (j := m) (by omega)
      rw [Nat.zero_add] at o1 f1
      have HI := Lib.hid hI
      have HL := Lib.hid hl10
      clear hI hl10
      go_wp2_with fail
      go_roundw
      case rel =>
        refine ⟨m + 1, zs.set m (-1), hlt, by go_num, by rw [List.length_set]; exact HL.out, fun j hj => ?_, ?_, by (try simp only [World.heap_size_alloc, World.heap_size_drew, World.heap_size_setCell]); omega, hb.setCell (p := ⟨w1.heap.size + 1, m, none⟩) (by simp only; omega) _⟩
        · rw [List.getElem?_set]
          by_cases hjm : m = j
          · subst hjm
            rw [if_pos rfl, if_pos (by rw [HL.out]; exact hlt)]
          · rw [if_neg hjm]
            exact hp.out j (by omega)
        · have h9 := HI.out.set m (-1)
          rw [Nat.zero_add] at h9
          exact h9
      case measure => simp [intOf]; omega
    · have hm10 : m = 10 := by omega
      subst hm10
      have hR0 := TmR.start hl10 hp.out
      have HR0 := Lib.hid hR0
      have HD2 := Lib.hid (HD1.out.below hb z1)
      have HB2 : Hid (Below w.heap.size w wr) := Lib.hid (HB1.out.trans (hb.mono (by omega)))
      have HI2 := Lib.hid hI
      clear hI hb hp hR0 hl10
      go_wp2_with fail
      go_loopw [2, 4, 7, 8, 9, 10] (fun _ v i _ _ _ wr => Tr w w1 A n c v i wr) (fun _ _ i _ _ _ _ => 14 - (intOf i).toNat)
      case atStart => exact ⟨0, [], zs, _, 0, 0, by omega, rfl, rfl, ⟨HR0.out, Nat.le_refl _⟩, Sl.nil _ _ _ _ _ _ (by omega), HI2.out, HD2.out, hz, HB2.out⟩
      case round =>
        clear HR0 HD2 HB2 HI2 hz
        obtain ⟨m, l, dl, A2, n2, c2, hm, rfl, rfl, hR, hs, hI, hd, hz, hb⟩ := hrel
        by_cases hlt : m < 14
        · go_wp2_with fail
          (with_reducible refine (below_any _ _ _ _ _ 10 _ (by omega) (by omega) hd).mono ?_); rintro _ w2 ⟨k0, rfl, k1, k2, hd2, hu2⟩
          obtain ⟨k, rfl⟩ := Int.eq_ofNat_of_zero_le k1
          have yw2 := hu2.size
          have s2 := hs.upd hu2 (.inr (by omega))
          have i2 := hI.upd hu2 (.inr (by omega))
          have hb2 : Below w.heap.size w w2 := hb.trans (hu2.below (Nat.le_refl _) (by omega))
          clear hs hI hd hu2
          go_wp2_with fail
          (with_reducible refine (below_any _ _ _ _ _ 4 _ (by omega) (by omega) hd2).mono ?_); rintro _ w3 ⟨q, rfl, q1, q2, hd3, hu3⟩
          have yw3 := hu3.size
          have s3 := s2.upd hu3 (.inr (by omega))
          have i3 := i2.upd hu3 (.inr (by omega))
          have hb3 : Below w.heap.size w w3 := hb2.trans (hu3.below (Nat.le_refl _) (by omega))
          clear s2 i2 hd2 hu3
          have hk10 : k < 10 := by omega
          obtain ⟨d, hdk⟩ : ∃ d, dl[k]? = some d := ⟨dl[k]'(by rw [hR.out.1.ten]; exact hk10), List.getElem?_eq_getElem _⟩
          have HDK := Lib.hid hdk
          have hnum := hR.out.1.has hdk
          by_cases hq0 : q = 0
          · have hq9 : (q == 0) = true := by simp [hq0]
            clear hq0
            have hof := hR.out.1.off k
            have hlen : (without l (k : Int)).length ≤ m + 1 := Nat.le_trans (List.length_filter_le _ _) (by have := hR.out.2; omega)
            obtain ⟨nl, hnl⟩ : ∃ nl, (without l (k : Int)).length = nl := ⟨_, rfl⟩
            obtain ⟨ol, hol⟩ : ∃ ol, without l (k : Int) = ol := ⟨_, rfl⟩
            by_cases hd0 : 0 ≤ d
            · have T1 : Hid (∀ A n c lo hi W, Sl W lo hi 2 A n c (l.flatMap TimerD.ints) → Calls Try.prog 40 #[.slice A n c, .int .i64 (k : Int)] W (SlBRes W 2 nl (ol.flatMap TimerD.ints, true))) := fun A n c lo hi W s => by
                have h7 := timerOff_any A n c lo hi l k W s
                rw [show timerOff l (k : Int) = (without l (k : Int), true) by unfold timerOff; rw [if_pos hR.out.1.ok, hnum]; simp [hd0], hnl, hol] at h7
                exact h7
              rw [hol] at hof hlen
              have HOF := Lib.hid hof
              have HLEN := Lib.hid hlen
              clear hof hlen hnum hnl hol
              go_wp2_with fail
              (with_reducible refine (T1.out _ _ _ _ _ _ s3).mono ?_); rintro _ w4 ⟨A4, c4, rfl, s4, b4⟩
              have yw4 := b4.size
              have i4 := i3.below b4 (by omega)
              have hd4 := hd3.below b4 (by omega)
              have hb4 : Below w.heap.size w w4 := hb3.trans (b4.mono (by omega))
              clear s3 i3 hd3 b4 T1
              obtain ⟨r0, f0⟩ := i4.getD (j := k) (by rw [hR.out.1.ten]; exact hk10)
              rw [Nat.zero_add] at r0 f0
              rw [show dl.getD k 0 = d by rw [List.getD, HDK.out]; rfl] at r0
              have S4 := Lib.hid s4
              have I4 := Lib.hid i4
              have HD4 := Lib.hid hd4
              have HB4 := Lib.hid hb4
              clear s4 i4 hd4 hb4 hdk
              go_wp2_with fail
              go_roundw
              case rel => refine ⟨_, _, _, _, _, _, _, _, _, _, _, _, _, _, _, _, _, _, _, _, _, _, _, _, _, _, _, _, _, _, _, _, _, _, _, _, _, _, _, _, _, _, _, _, _, _,  ?_, rfl⟩; exact Tr.step hlt ⟨HOF.out, HLEN.out⟩ S4.out (by omega) (Nat.le_refl _) I4.out HD4.out z1 (by omega) HB4.out (by go_num)
              case measure => simp [intOf]; omega
            · have T1 : Hid (∀ A n c lo hi W, Sl W lo hi 2 A n c (l.flatMap TimerD.ints) → Calls Try.prog 40 #[.slice A n c, .int .i64 (k : Int)] W (SlBRes W 2 nl (ol.flatMap TimerD.ints, false))) := fun A n c lo hi W s => by
                have h7 := timerOff_any A n c lo hi l k W s
                rw [show timerOff l (k : Int) = (without l (k : Int), false) by unfold timerOff; rw [if_pos hR.out.1.ok, hnum]; simp [hd0], hnl, hol] at h7
                exact h7
              rw [hol] at hof hlen
              have HOF := Lib.hid hof
              have HLEN := Lib.hid hlen
              clear hof hlen hnum hnl hol
              go_wp2_with fail
              (with_reducible refine (T1.out _ _ _ _ _ _ s3).mono ?_); rintro _ w4 ⟨A4, c4, rfl, s4, b4⟩
              have yw4 := b4.size
              have i4 := i3.below b4 (by omega)
              have hd4 := hd3.below b4 (by omega)
              have hb4 : Below w.heap.size w w4 := hb3.trans (b4.mono (by omega))
              clear s3 i3 hd3 b4 T1
              obtain ⟨r0, f0⟩ := i4.getD (j := k) (by rw [hR.out.1.ten]; exact hk10)
              rw [Nat.zero_add] at r0 f0
              rw [show dl.getD k 0 = d by rw [List.getD, HDK.out]; rfl] at r0
              have S4 := Lib.hid s4
              have I4 := Lib.hid i4
              have HD4 := Lib.hid hd4
              have HB4 := Lib.hid hb4
              clear s4 i4 hd4 hb4 hdk
              go_wp2_with fail
              go_roundw
              case rel => refine ⟨_, _, _, _, _, _, _, _, _, _, _, _, _, _, _, _, _, _, _, _, _, _, _, _, _, _, _, _, _, _, _, _, _, _, _, _, _, _, _, _, _, _, _, _, _, _,  ?_, rfl⟩; exact Tr.step hlt ⟨HOF.out, HLEN.out⟩ S4.out (by omega) (Nat.le_refl _) I4.out HD4.out z1 (by omega) HB4.out (by go_num)
              case measure => simp [intOf]; omega
          · have hq9 : (q == 0) = false := by simpa using hq0
            clear hq0 hnum
            go_wp2_with fail
            (with_reducible refine (below_any _ _ _ _ _ 40 _ (by omega) (by omega) hd3).mono ?_); rintro _ w4 ⟨t, rfl, t1, t2, hd4, hu4⟩
            have yw4 := hu4.size
            have s4 := s3.upd hu4 (.inr (by omega))
            have i4 := i3.upd hu4 (.inr (by omega))
            have hb4 : Below w.heap.size w w4 := hb3.trans (hu4.below (Nat.le_refl _) (by omega))
            clear s3 i3 hd3 hu4
            have hput := hR.out.1.put hk10 t1 t2 (by have := hR.out.2; omega)
            have hlen : (insT (without l (k : Int)) ⟨k, t⟩).length ≤ m + 1 := Nat.le_trans put_len (by have := hR.out.2; omega)
            obtain ⟨ol, hol⟩ : ∃ ol, insT (without l (k : Int)) ⟨k, t⟩ = ol := ⟨_, rfl⟩
            obtain ⟨nl, hnl⟩ : ∃ nl, ol.length = nl := ⟨_, rfl⟩
            rw [hol] at hput hlen
            have T1 : Hid (∀ A n c lo hi W, Sl W lo hi 2 A n c (l.flatMap TimerD.ints) → Calls Try.prog 36 #[.slice A n c, .int .i64 (k : Int), .int .i64 t] W (SlBRes W 2 nl (ol.flatMap TimerD.ints, true))) := fun A n c lo hi W s => by
              have h7 := timerSet_any A n c lo hi l k t W s
              rw [show timerSet l (k : Int) t = (ol, true) by unfold timerSet; rw [if_pos hR.out.1.ok, hol, if_pos hput.ok], hnl] at h7
              exact h7
            have HPUT := Lib.hid hput
            have HLEN := Lib.hid hlen
            clear hput hlen hol hnl
            go_wp2_with fail
            (with_reducible refine (T1.out _ _ _ _ _ _ s4).mono ?_); rintro _ w5 ⟨A5, c5, rfl, s5, b5⟩
            have yw5 := b5.size
            have i5 := i4.below b5 (by omega)
            have hd5 := hd4.below b5 (by omega)
            have hb5 : Below w.heap.size w w5 := hb4.trans (b5.mono (by omega))
            clear s4 i4 hd4 b5 T1
            obtain ⟨r0, f0⟩ := i5.getD (j := k) (by rw [hR.out.1.ten]; exact hk10)
            rw [Nat.zero_add] at r0 f0
            have S5 := Lib.hid s5
            have I5 := Lib.hid i5
            have HD5 := Lib.hid hd5
            have HB5 := Lib.hid hb5
            clear s5 i5 hd5 hb5 hdk
            go_wp2_with fail
            go_roundw
            case rel => refine ⟨_, _, _, _, _, _, _, _, _, _, _, _, _, _, _, _, _, _, _, _, _, _, _, _, _, _, _, _, _, _, _, _, _, _, _, _, _, _, _, _, _, _, _, _, _, _,  ?_, rfl⟩; exact Tr.step hlt ⟨HPUT.out, HLEN.out⟩ S5.out (by omega) (Nat.le_refl _) I5.out HD5.out z1 (by omega) HB5.out (by go_num)
            case measure => simp [intOf]; omega
        · have hm14 : m = 14 := by omega
          subst hm14
          go_wp2_with fail
          (with_reducible refine (below_any _ _ _ _ _ 45 _ (by omega) (by omega) hd).mono ?_); rintro _ w2 ⟨N, rfl, N0, N1, hd2, hu2⟩
          have yw2 := hu2.size
          have s2 := hs.upd hu2 (.inr (by omega))
          have i2 := hI.upd hu2 (.inr (by omega))
          have hb2 : Below w.heap.size w w2 := hb.trans (hu2.below (Nat.le_refl _) (by omega))
          clear hs hI hd hu2 hd2
          obtain ⟨tl, htl⟩ : ∃ tl, dueIn l N = tl := ⟨_, rfl⟩
          obtain ⟨tn, htn⟩ : ∃ tn, tl.length = tn := ⟨_, rfl⟩
          have T1 : Hid (∀ A n c lo hi W, Sl W lo hi 2 A n c (l.flatMap TimerD.ints) → Calls Try.prog 42 #[.slice A n c, .int .i64 N] W (SlRes W 1 tn (tl.map (fun t => t.id)))) := fun A n c lo hi W s => by
            have h7 := dueIn_any A n c lo hi l N W s
            rw [htl, htn, flat_ids] at h7
            exact h7
          have hcz := cnt_zero hR.out.1 N
          have hct := cnt_ten hR.out.1 N
          rw [htl, htn] at hct
          have htn14 : tn ≤ 14 := by
            rw [← htn, ← htl]
            unfold dueIn
            rw [if_pos hR.out.1.ok]
            exact Nat.le_trans (List.length_filter_le _ _) hR.out.2
          have HCZ := Lib.hid hcz
          have HCT := Lib.hid hct
          have HTL := Lib.hid htl
          have HTN := Lib.hid htn
          clear hcz hct htl htn
          go_wp2_with fail
          (with_reducible refine (T1.out _ _ _ _ _ _ s2).mono ?_); rintro _ w3 ⟨A3, c3, rfl, s3, b3⟩
          have yw3 := b3.size
          have i3 := i2.below b3 (by omega)
          have l3 := s2.below b3 (by omega)
          have hb3 : Below w.heap.size w w3 := hb2.trans (b3.mono (by omega))
          have I3 := Lib.hid i3
          have S3 := Lib.hid s3
          have L3 := Lib.hid l3
          have HB3 := Lib.hid hb3
          clear s2 i2 b3 T1 i3 s3 l3 hb3
          go_wp2_with fail
          go_loop [14, 15, 16] (fun p f i => ∃ (m C : Nat) (F : Int), m ≤ 10 ∧ i = .int .i64 (m : Nat) ∧ p = .int .i64 (C : Nat) ∧ C ≤ m ∧ Hid (C = cntT l N m) ∧ f = .int .i64 F ∧ Hid (FstR l m F)) (fun _ _ i => 10 - (intOf i).toNat)
          case atStart => exact ⟨0, 0, -1, by omega, rfl, rfl, Nat.le_refl _, HCZ.out.symm, rfl, FstR.start hR.out.1⟩
          case round =>
            obtain ⟨m, C, F, hm, rfl, rfl, hCm, hC, rfl, hF⟩ := hrel
            by_cases hlt : m < 10
            · obtain ⟨d, hdk⟩ : ∃ d, dl[m]? = some d := ⟨dl[m]'(by rw [hR.out.1.ten]; exact hlt), List.getElem?_eq_getElem _⟩
              obtain ⟨r0, f0⟩ := I3.out.getD (j := m) (by rw [hR.out.1.ten]; exact hlt)
              rw [Nat.zero_add] at r0 f0
              rw [show dl.getD m 0 = d by rw [List.getD, hdk]; rfl] at r0
              have HC1 := Lib.hid (cnt_step hR.out.1 (N := N) hdk)
              have HF1 := Lib.hid (FstR.step hR.out.1 hF.out hdk)
              clear hdk
              by_cases hd0 : 0 ≤ d
              · by_cases hdn : d ≤ N
                · by_cases hf0 : F < 0
                  · go_wp2_with fail
                    go_round
                    case rel => exact ⟨m + 1, C + 1, d, hlt, by go_num, by first | rfl | go_num, by omega, Lib.hid (by rw [HC1.out, if_pos ⟨hd0, hdn⟩, hC.out]), rfl, Lib.hid (by have h9 := HF1.out; rw [if_pos ⟨hd0, .inl hf0⟩] at h9; exact h9)⟩
                    case measure => simp [intOf]; omega
                  · by_cases hdf : d < F
                    · go_wp2_with fail
                      go_round
                      case rel => exact ⟨m + 1, C + 1, d, hlt, by go_num, by first | rfl | go_num, by omega, Lib.hid (by rw [HC1.out, if_pos ⟨hd0, hdn⟩, hC.out]), rfl, Lib.hid (by have h9 := HF1.out; rw [if_pos ⟨hd0, .inr hdf⟩] at h9; exact h9)⟩
                      case measure => simp [intOf]; omega
                    · go_wp2_with fail
                      go_round
                      case rel => exact ⟨m + 1, C + 1, F, hlt, by go_num, by first | rfl | go_num, by omega, Lib.hid (by rw [HC1.out, if_pos ⟨hd0, hdn⟩, hC.out]), rfl, Lib.hid (by have h9 := HF1.out; rw [if_neg (fun h9 => h9.2.elim hf0 hdf)] at h9; exact h9)⟩
                      case measure => simp [intOf]; omega
                · by_cases hf0 : F < 0
                  · go_wp2_with fail
                    go_round
                    case rel => exact ⟨m + 1, C, d, hlt, by go_num, by first | rfl | go_num, by omega, Lib.hid (by rw [HC1.out, if_neg (fun h9 => hdn h9.2), hC.out]), rfl, Lib.hid (by have h9 := HF1.out; rw [if_pos ⟨hd0, .inl hf0⟩] at h9; exact h9)⟩
                    case measure => simp [intOf]; omega
                  · by_cases hdf : d < F
                    · go_wp2_with fail
                      go_round
                      case rel => exact ⟨m + 1, C, d, hlt, by go_num, by first | rfl | go_num, by omega, Lib.hid (by rw [HC1.out, if_neg (fun h9 => hdn h9.2), hC.out]), rfl, Lib.hid (by have h9 := HF1.out; rw [if_pos ⟨hd0, .inr hdf⟩] at h9; exact h9)⟩
                      case measure => simp [intOf]; omega
                    · go_wp2_with fail
                      go_round
                      case rel => exact ⟨m + 1, C, F, hlt, by go_num, by first | rfl | go_num, by omega, Lib.hid (by rw [HC1.out, if_neg (fun h9 => hdn h9.2), hC.out]), rfl, Lib.hid (by have h9 := HF1.out; rw [if_neg (fun h9 => h9.2.elim hf0 hdf)] at h9; exact h9)⟩
                      case measure => simp [intOf]; omega
              · go_wp2_with fail
                go_round
                case rel => exact ⟨m + 1, C, F, hlt, by go_num, by first | rfl | go_num, by omega, Lib.hid (by rw [HC1.out, if_neg (fun h9 => hd0 h9.1), hC.out]), rfl, Lib.hid (by have h9 := HF1.out; rw [if_neg (fun h9 => hd0 h9.1)] at h9; exact h9)⟩
                case measure => simp [intOf]; omega
            · have hm10 : m = 10 := by omega
              subst hm10
              have hCtn : C = tn := hC.out.trans HCT.out
              subst hCtn
              clear hC hCm
              have hlast := FstR.last hR.out.1 hF.out
              go_wp2_with fail
              go_loopw [2, 13, 17] (fun _ x i wr => ∃ (m : Nat) (X : Int), m ≤ C ∧ i = .int .i64 (m : Nat) ∧ x = .int .i64 X ∧ Hid (∀ e, tl[m]? = some e → X < e.due * 100 + e.id) ∧ Below w3.heap.size w3 wr) (fun _ _ i _ => C - (intOf i).toNat)
              case atStart => exact ⟨0, -1, Nat.zero_le _, rfl, rfl, fun e he => by
                rw [← HTL.out] at he
                obtain ⟨k, hk, _, _, h0, _⟩ := due_pair hR.out.1 he
                omega, Below.refl _ _⟩
              case round =>
                obtain ⟨m, X, hm, rfl, rfl, hX, hb⟩ := hrel
                have yb := hb.size
                by_cases hlt : m < C
                · obtain ⟨gl, gof, z, rfl, _, hgl, hz', cl⟩ := S3.out.int hlt
                  obtain ⟨e, he⟩ : ∃ e, tl[m]? = some e := ⟨tl[m]'(by rw [HTN.out]; exact hlt), List.getElem?_eq_getElem _⟩
                  have he2 := he
                  rw [← HTL.out] at he2
                  obtain ⟨k, hk, hk10, hdk, h0, h40, hN⟩ := due_pair hR.out.1 he2
                  obtain rfl : z = (k : Int) := by
                    rw [List.getElem?_map, he] at hz'
                    simp at hz'
                    rw [← hz', hk]
                  have hXe := hX.out e he
                  rw [hk] at hXe
                  have rl := (hb.cell (p := ⟨gl, gof + m, none⟩) (show gl < w3.heap.size by omega)).trans cl
                  obtain ⟨c0, f0⟩ := I3.out.getD (j := k) (by rw [hR.out.1.ten]; exact hk10)
                  rw [Nat.zero_add] at c0 f0
                  rw [show dl.getD k 0 = e.due by rw [List.getD, hdk]; rfl] at c0
                  have rd := (hb.cell (p := ⟨w1.heap.size + 1, k, none⟩) (show w1.heap.size + 1 < w3.heap.size by omega)).trans c0
                  have frl := fun d os => cell_regrown rl d os
                  have frd := fun d os => cell_regrown rd d os
                  have hk9 : ¬ (9 : Int) < (k : Int) := by omega
                  have hkz : ¬ (k : Int) < 0 := by omega
                  have hkt : (k : Int) < 10 := by omega
                  have hdz : ¬ e.due < 0 := by omega
                  have hNd : ¬ N < e.due := by omega
                  have hXd : ¬ e.due * 100 + (k : Int) ≤ X := by omega
                  have hw1 : IntKind.i64.wrap (e.due * 100) = e.due * 100 := IntWalk.i64_in _ (by omega)
                  have hw2 : IntKind.i64.wrap (e.due * 100 + (k : Int)) = e.due * 100 + (k : Int) := IntWalk.i64_in _ (by omega)
                  have HK := Lib.hid hk
                  have HE := Lib.hid he2
                  have HEX := Lib.hid he
                  have gl3 : gl < w3.heap.size := by omega
                  clear hz' cl c0 f0 he he2 hdk hk hXe
                  go_wp2_with fail
                  refine wp_region_quiet_below (by kernel_rfl) (by kernel_rfl) ?_; (repeat (first | go_big_quiet_step (fail) | quiet_step (fail))); refine wpQuiet_nil ?_; intro _ hw'; obtain ⟨⟨nq, osq⟩, hw''⟩ := hw'; subst hw''; have hq := below_regrown wr nq osq; generalize Sort.grow (redrawn wr nq) osq = w5 at *
                  have y5 := hq.size
                  have rl5 := (hq.cell (p := ⟨gl, gof + m, none⟩) (show gl < wr.heap.size by omega)).trans rl
                  have rd5 := (hq.cell (p := ⟨w1.heap.size + 1, k, none⟩) (show w1.heap.size + 1 < wr.heap.size by omega)).trans rd
                  have frl5 := fun d os => cell_regrown rl5 d os
                  have frd5 := fun d os => cell_regrown rd5 d os
                  have hb5 : Below w3.heap.size w3 w5 := hb.trans (hq.mono hb.size)
                  clear hq rl rd frl frd
                  go_wp2_with fail
                  refine wp_region_quiet_below (by kernel_rfl) (by kernel_rfl) ?_; (repeat (first | go_big_quiet_step (fail) | quiet_step (fail))); refine wpQuiet_nil ?_; intro _ hw'; obtain ⟨⟨nq, osq⟩, hw''⟩ := hw'; subst hw''; have hq := below_regrown w5 nq osq; generalize Sort.grow (redrawn w5 nq) osq = w6 at *
                  have hb6 : Below w3.heap.size w3 w6 := hb5.trans (hq.mono (by omega))
                  go_wp2_with fail
                  go_roundw
                  case rel => exact ⟨m + 1, _, hlt, by go_num, rfl, fun e' he' => by
                    rw [← HTL.out] at he'
                    have := due_next hR.out.1 HE.out he'
                    have := HK.out
                    omega, hb6⟩
                  case measure => simp [intOf]; omega
                · have hLm := L3.out.below hb (by omega)
                  have HLM := Lib.hid hLm
                  have T2 : Hid (∀ A n c lo hi W, Sl W lo hi 2 A n c (l.flatMap TimerD.ints) → Calls Try.prog 33 #[.slice A n c] W fun x w' => x = .returned (.bool true) ∧ Below W.heap.size W w') := fun A n c lo hi W s => by
                    have h7 := timersOk_any A n c lo hi l W s
                    rw [hR.out.1.ok] at h7
                    exact h7
                  obtain ⟨nx, so, hns⟩ : ∃ nx so, nextDue l = (nx, so) := ⟨_, _, rfl⟩
                  rw [hns] at hlast
                  obtain ⟨hla, hlb⟩ := hlast
                  simp only at hla hlb
                  have T3 : Hid (∀ A n c lo hi W, Sl W lo hi 2 A n c (l.flatMap TimerD.ints) → Calls Try.prog 44 #[.slice A n c] W (IntBRes W (nx, so))) := fun A n c lo hi W s => by
                    have h7 := nextDue_any A n c lo hi l W s
                    rw [hns] at h7
                    exact h7
                  clear hns hLm
                  by_cases hF0 : 0 ≤ F
                  · obtain rfl : so = true := by rw [hla]; simp [hF0]
                    obtain rfl : nx = F := hlb rfl
                    have hff : (nx == nx) = true := by simp
                    clear hla hlb
                    have hCC : ((C : Int) == (C : Int)) = true := by simp
                    go_wp2_with fail
                    (with_reducible refine (T3.out _ _ _ _ _ _ HLM.out).mono ?_); rintro _ w7 ⟨rfl, b7⟩
                    have y7 := b7.size
                    have HL7 := Lib.hid (HLM.out.below b7 (by omega))
                    have hb7 : Below w3.heap.size w3 w7 := hb.trans (b7.mono hb.size)
                    clear b7
                    go_wp2_with fail
                    (with_reducible refine (T2.out _ _ _ _ _ _ HL7.out).mono ?_); rintro _ w8 ⟨rfl, b8⟩
                    have hb8 : Below w3.heap.size w3 w8 := hb7.trans (b8.mono (by omega))
                    go_wp2_with fail
                    go_ret
                    exact ⟨rfl, HB3.out.trans (hb8.mono (by omega))⟩
                  · obtain rfl : so = false := by rw [hla]; simp [hF0]
                    have hFx : (decide (0 ≤ F)) = false := by simp [hF0]
                    have hFlt : F < 0 := by omega
                    clear hla hlb
                    have hCC : ((C : Int) == (C : Int)) = true := by simp
                    go_wp2_with fail
                    (with_reducible refine (T3.out _ _ _ _ _ _ HLM.out).mono ?_); rintro _ w7 ⟨rfl, b7⟩
                    have y7 := b7.size
                    have HL7 := Lib.hid (HLM.out.below b7 (by omega))
                    have hb7 : Below w3.heap.size w3 w7 := hb.trans (b7.mono hb.size)
                    clear b7
                    go_wp2_with fail
                    (with_reducible refine (T2.out _ _ _ _ _ _ HL7.out).mono ?_); rintro _ w8 ⟨rfl, b8⟩
                    have hb8 : Below w3.heap.size w3 w8 := hb7.trans (b8.mono (by omega))
                    go_wp2_with fail
                    go_ret
                    exact ⟨rfl, HB3.out.trans (hb8.mono (by omega))⟩
theorem own : ownKnob Try.prog.godebug = none := by kernel_rfl
theorem laidOut : laidOutB Try.prog = true := by kernel_rfl
set_option maxRecDepth 100000 in
theorem lifted (os : Os) (started : os.Started) (H : Type) (enc : TypeId × Value → H) :
    ReturnsInHanded {} Try.checked os 13 .any (Rows.fnTimersSpec.pre6 enc Try.prog Try.f13 Rows.fnTimersRow.domain false) (Rows.fnTimersSpec.post enc Try.prog Try.f13 false true false false) := by
  refine returnsInHanded_of_change (C := Try.checked) own started (by kernel_rfl) Try.func13
    (ChangeSpec.witness6 (enc := enc) (C := Try.checked) false ⟨#[], #[.slice none 0 0], []⟩ 8 (by kernel_rfl) (by kernel_rfl) (by kernel_rfl) (by kernel_rfl)) ?_
  intro W base args ds gs before hval0 hW hcnd _
  have hval : ∀ (j : Nat) t v, Try.f13.params[j]? = some t → args[j]? = some v → Value.okWide Try.prog W .any base t v := hval0
  have hW' := hW
  obtain ⟨p, q, hA0, hV, rfl, hfz, hnd⟩ := hW
  have hA : DataW.TrodAll enc Try.prog W 0 (fun _ => true) true Try.f13.params.toList args.toList ds p := hA0
  rw [Try.params13] at hA hval
  obtain ⟨v0, d0, rfl, rfl, h0⟩ := trodAll_one hA
  obtain ⟨rfl, rfl⟩ := trodVars_none hV
  obtain ⟨A0, n0, c0, rfl, hz0⟩ := open_bytes Try.underlying31 Try.underlying5 (by kernel_rfl) (hval 0 31 v0 rfl rfl) h0
  clear hA0 hval0
  refine (law_any A0 n0 c0 W hz0).mono fun e W' ⟨he, hb⟩ => ?_
  subst he
  exact ⟨_, rfl, law_post laidOut (by kernel_rfl) rfl Try.underlying4 rfl hW' hb rfl rfl rfl⟩
theorem holds : Rows.FnTimersSaid :=
  OpenClaim.holds_of_wide 13 Try.f13 rfl rfl rfl rfl rfl rfl rfl ⟨rfl, rfl, rfl, rfl, rfl⟩ rfl rfl rfl rfl rfl (by kernel_rfl) Try.func13 (by kernel_rfl)
    (of_decide_eq_true (by kernel_rfl)) (by unfold Func.isWrapper; first | (rw [if_pos (by decide +kernel)]; kernel_rfl) | (rw [if_neg (by decide +kernel)]; exact ⟨rfl, rfl⟩))
    (fun os started H enc _ => lifted os started H enc)
#print axioms holds
end Timers
end Go.Proofs.Ytkianeknbfahgaa
