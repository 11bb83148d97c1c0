/- The law FnWho returns true for every input. No conditions. -/
import Derived.Test.YtcbaokkflkpndaaGen0
set_option linter.unusedSimpArgs false
set_option linter.unusedVariables false
namespace Go.Proofs.Ytcbaokkflkpndaa
open Go.ChangeShapes Go.WideShapes Go.ChangeAt Go.RowKit
namespace Who
set_option maxRecDepth 100000 in
set_option maxHeartbeats 8000000 in
theorem law_any (A : Option Addr) (n c : Nat) (w : World) (h : ArgB w A n c) : Calls Try.prog 13 #[.slice A n c] w fun e w' => e = .returned (.bool true) ∧ Below w.heap.size w w' := by
  rcases Nat.lt_or_ge 4096 n with hn0 | hn0
  · have hbg : decide (4096 < n) = true := by simpa using hn0
    clear h
    go_enter Try.func13, Try.ntmps13
    go_wp2_with fail
    (with_reducible refine (big_any _ _ _ _).mono ?_); rintro _ _ ⟨rfl, rfl⟩
    rw [hbg]
    go_wp2_with fail
    go_ret
    exact ⟨rfl, Below.refl _ _⟩
  have hc := h.code hn0
  have hbg : decide (4096 < n) = false := by simp; omega
  clear h
  go_enter Try.func13, Try.ntmps13
  go_wp2_with fail
  (with_reducible refine (big_any _ _ _ _).mono ?_); rintro _ _ ⟨rfl, rfl⟩
  rw [hbg]
  go_wp2_with fail
  (with_reducible refine (roll_any _ _ _ _ 908 _ hc (Nat.le_refl _) (by omega) (by omega)).mono ?_); rintro _ w1 ⟨rfl, z1, d1, b1⟩
  have d1' : DiceAt (w1.alloc (.cells #[] 34)) w.heap.size w.heap.size A n c := d1.below (B := w1.heap.size) (by (repeat' (first | with_reducible exact Below.refl _ _ | with_reducible assumption | with_reducible refine Below.drew ?_ | with_reducible refine Below.alloc ?_ ?_ _ | with_reducible refine Below.setCell ?_ ?_ _ | with_reducible refine Below.trans ?_ (Below.mono (by assumption) ?_) | ((try simp only [World.heap_size_alloc, World.heap_size_drew, World.heap_size_setCell]); omega)))) z1
  go_wp2_with fail
  (with_reducible refine (below_any _ _ _ _ _ 12 _ (by omega) (by omega) d1').mono ?_); rintro _ w2 ⟨x, rfl, x0, x1, d2, u2⟩
  obtain ⟨many, rfl⟩ := Int.eq_ofNat_of_zero_le x0
  have y2 := u2.size
  simp only [World.heap_size_alloc] at y2
  go_wp2_with fail
  (with_reducible refine (w9List_any A n c _ _ _ 0 0 0 0 [] many _ d2 (Sl.nil _ _ _ _ _ _ (by omega)) (fun e he => absurd he (by simp)) (by omega)).mono ?_); rintro _ w3 ⟨ds, B, q, hds, hdr, rfl, s3, d3, u3⟩
  have y3 := u3.size
  have e0 : stA [] = st0 := rfl
  rw [e0] at s3
  have hok := gen0_ok hdr (by omega)
  have hll := genE_len ds st0
  have hix : ∀ (j : Nat) (e : EntryD), (genE st0 ds)[j]? = some e → e.index = (j : Int) + 1 := fun j e he => (gen0_at hdr he).1
  have hcl : ∀ e ∈ genE st0 ds, 0 ≤ e.client ∧ e.client < ((6 : Nat) : Int) := fun e he => by
    obtain ⟨j, hj, rfl⟩ := List.getElem_of_mem he
    have := gen0_at hdr (List.getElem?_eq_getElem hj)
    omega
  generalize genE st0 ds = l at s3 hok hll hix hcl
  have hlm : l.length = many := by omega
  have hb3 : Below w.heap.size w w3 := by
    have h1 : Below w.heap.size w (w1.alloc (.cells #[] 34)) := by (repeat' (first | with_reducible exact Below.refl _ _ | with_reducible assumption | with_reducible refine Below.drew ?_ | with_reducible refine Below.alloc ?_ ?_ _ | with_reducible refine Below.setCell ?_ ?_ _ | with_reducible refine Below.trans ?_ (Below.mono (by assumption) ?_) | ((try simp only [World.heap_size_alloc, World.heap_size_drew, World.heap_size_setCell]); omega)))
    have h2 : Below w.heap.size (w1.alloc (.cells #[] 34)) w2 := u2.below (Nat.le_refl _) (by (try simp only [World.heap_size_alloc, World.heap_size_drew, World.heap_size_setCell]); omega)
    exact (h1.trans h2).trans (u3.below (Nat.le_refl _) (by omega))
  have s4 := s3.fit (by omega)
  have hhi : min w3.heap.size w3.heap.size ≤ w3.heap.size := Nat.min_le_right _ _
  generalize min w3.heap.size w3.heap.size = hi at s4 hhi
  have CO : ∀ W, Below w3.heap.size w3 W → Calls Try.prog 42 #[.slice B many q] W fun e w' => e = .returned (.bool true) ∧ Below W.heap.size W w' := fun W hW => by
    have h7 := entriesOk_any B many q _ _ l W (s4.below hW hhi)
    rw [hok] at h7
    exact h7
  have CE : ∀ W (k : Nat), Below w3.heap.size w3 W → Calls Try.prog 45 #[.slice B many q, .int .i64 (k : Int)] W (SlRes W 9 (l.filter (fun x => x.client == (k : Int))).length ((l.filter (fun x => x.client == (k : Int))).flatMap EntryD.ints)) := fun W k hW => by
    have h7 := entriesOf_any B many q _ _ l (k : Int) W (s4.below hW hhi)
    rw [show entriesOf l (k : Int) = l.filter (fun x => x.client == (k : Int)) from if_pos hok] at h7
    exact h7
  have HO := Lib.hid CO
  have HE := Lib.hid CE
  have HS := Lib.hid s4
  have HB := Lib.hid hb3
  have HIX := Lib.hid hix
  have HLM := Lib.hid hlm
  have HALL := Lib.hid (cntTo_all hcl)
  have hm12 : many < 12 := by omega
  clear CO CE s3 s4 hok hll hix hcl hlm hdr hds d1 d1' d2 d3 u2 u3 hb3 e0
  go_wp2_with fail
  (with_reducible refine (HO.out _ (Below.refl _ _)).mono ?_); rintro _ w4 ⟨rfl, b4⟩
  have HB4 := Lib.hid b4
  clear b4
  go_wp2_with fail
  go_loopw [5, 6, 7, 8, 9, 10] (fun mn k _ _ _ _ wr => ∃ kk : Nat, kk ≤ 6 ∧ k = .int .i64 kk ∧ mn = .int .i64 (cntTo l kk : Nat) ∧ Below w3.heap.size w3 wr) (fun _ k _ _ _ _ _ => 6 - (intOf k).toNat)
  case atStart => exact ⟨0, by omega, rfl, rfl, HB4.out⟩
  case round =>
    obtain ⟨kk, hkk, rfl, rfl, hb⟩ := hrel
    have hcle := cntTo_le l kk
    rw [HLM.out] at hcle
    have hc66 : cntTo l kk ≤ 66 := Nat.le_trans hcle (Nat.le_trans (Nat.mul_le_mul hkk (show many ≤ 11 by omega)) (by decide))
    clear hcle
    by_cases hlt : kk < 6
    · go_wp2_with fail
      (with_reducible refine (HE.out _ kk hb).mono ?_); rintro _ w5 ⟨C, cc, rfl, s5, b5⟩
      have hpl := List.length_filter_le (fun x : EntryD => x.client == (kk : Int)) l
      rw [HLM.out] at hpl
      have hp : ∀ (i : Nat) (e : EntryD), (l.filter (fun x => x.client == (kk : Int)))[i]? = some e → e.client = (kk : Int) ∧ lastAt (l.filter (fun x => x.client == (kk : Int))) i < e.index ∧ ∃ j : Nat, e.index = (j : Int) + 1 ∧ j < l.length ∧ l[j]? = some e := fun i e he => part_at HIX.out he
      have hcs : Hid (cntTo l (kk + 1) = cntTo l kk + (l.filter (fun x => x.client == (kk : Int))).length) := Lib.hid rfl
      generalize l.filter (fun x => x.client == (kk : Int)) = part at s5 hpl hp hcs ⊢
      have HP := Lib.hid hp
      have hb5 : Below w3.heap.size w3 w5 := hb.trans (b5.mono hb.size)
      generalize part.length = np at s5 hpl hcs ⊢
      have S5 := Lib.hid s5
      have HB5 := Lib.hid hb5
      clear hp hb hb5 b5 s5
      go_wp2_with fail
      go_loopw [8, 9, 10] (fun la i _ wr => ∃ m : Nat, m ≤ np ∧ i = .int .i64 m ∧ (∃ x : Int, la = .int .i64 x ∧ Hid (x = lastAt part m)) ∧ Below w5.heap.size w5 wr) (fun _ i _ _ => np - (intOf i).toNat)
      case atStart => exact ⟨0, Nat.zero_le _, rfl, ⟨_, rfl, rfl⟩, Below.refl _ _⟩
      case round =>
        obtain ⟨m, hm, rfl, ⟨la, rfl, hla⟩, hb⟩ := hrel
        have hb3 : Below w3.heap.size w3 wr := HB5.out.trans (hb.mono HB5.out.size)
        by_cases hlt2 : m < np
        · obtain ⟨g, off, e, rfl, _, hg, he, p0, p1, p2, p3, p4, p5, p6, p7, p8⟩ := S5.out.entry hlt2
          obtain ⟨hx1, hx2, j, hx3, hx4, hx5⟩ := HP.out m e he
          rw [HLM.out] at hx4
          obtain ⟨g', off', e', rfl, _, hg', he', q0, q1, q2, q3, q4, q5, q6, q7, q8⟩ := HS.out.entry hx4
          obtain rfl : e = e' := by rw [hx5] at he'; injection he'
          have hgw : g' < w3.heap.size := by omega
          have hla2 : la < e.index := by rw [hla.out]; exact hx2
          have HE1 := Lib.hid (lastAt_succ he)
          clear he he' hx2 hx5
          rcases e with ⟨ei, et, ec, es, ⟨ok, oa, ob, oc, od⟩⟩
          simp only at hx1 hx3 hla2 p0 p1 p2 p3 p4 p5 p6 p7 p8 q0 q1 q2 q3 q4 q5 q6 q7 q8 HE1
          subst hx1 hx3
          have r0 := (hb.cell (p := ⟨g, off + m * 9, none⟩) hg).trans p0
          have s0 := (hb3.cell (p := ⟨g', off' + j * 9, none⟩) hgw).trans q0
          have fr0 := fun d os => cell_regrown r0 d os
          have fs0 := fun d os => cell_regrown s0 d os
          have r1 := (hb.cell (p := ⟨g, off + m * 9 + 1, none⟩) hg).trans p1
          have s1 := (hb3.cell (p := ⟨g', off' + j * 9 + 1, none⟩) hgw).trans q1
          have fr1 := fun d os => cell_regrown r1 d os
          have fs1 := fun d os => cell_regrown s1 d os
          have r2 := (hb.cell (p := ⟨g, off + m * 9 + 2, none⟩) hg).trans p2
          have s2 := (hb3.cell (p := ⟨g', off' + j * 9 + 2, none⟩) hgw).trans q2
          have fr2 := fun d os => cell_regrown r2 d os
          have fs2 := fun d os => cell_regrown s2 d os
          have r3 := (hb.cell (p := ⟨g, off + m * 9 + 3, none⟩) hg).trans p3
          have s3 := (hb3.cell (p := ⟨g', off' + j * 9 + 3, none⟩) hgw).trans q3
          have fr3 := fun d os => cell_regrown r3 d os
          have fs3 := fun d os => cell_regrown s3 d os
          have r4 := (hb.cell (p := ⟨g, off + m * 9 + 4, none⟩) hg).trans p4
          have s4 := (hb3.cell (p := ⟨g', off' + j * 9 + 4, none⟩) hgw).trans q4
          have fr4 := fun d os => cell_regrown r4 d os
          have fs4 := fun d os => cell_regrown s4 d os
          have r5 := (hb.cell (p := ⟨g, off + m * 9 + 5, none⟩) hg).trans p5
          have s5 := (hb3.cell (p := ⟨g', off' + j * 9 + 5, none⟩) hgw).trans q5
          have fr5 := fun d os => cell_regrown r5 d os
          have fs5 := fun d os => cell_regrown s5 d os
          have r6 := (hb.cell (p := ⟨g, off + m * 9 + 6, none⟩) hg).trans p6
          have s6 := (hb3.cell (p := ⟨g', off' + j * 9 + 6, none⟩) hgw).trans q6
          have fr6 := fun d os => cell_regrown r6 d os
          have fs6 := fun d os => cell_regrown s6 d os
          have r7 := (hb.cell (p := ⟨g, off + m * 9 + 7, none⟩) hg).trans p7
          have s7 := (hb3.cell (p := ⟨g', off' + j * 9 + 7, none⟩) hgw).trans q7
          have fr7 := fun d os => cell_regrown r7 d os
          have fs7 := fun d os => cell_regrown s7 d os
          have r8 := (hb.cell (p := ⟨g, off + m * 9 + 8, none⟩) hg).trans p8
          have s8 := (hb3.cell (p := ⟨g', off' + j * 9 + 8, none⟩) hgw).trans q8
          have fr8 := fun d os => cell_regrown r8 d os
          have fs8 := fun d os => cell_regrown s8 d os
          clear p0 q0 p1 q1 p2 q2 p3 q3 p4 q4 p5 q5 p6 q6 p7 q7 p8 q8
          have hc1 : decide ((j : Int) + 1 ≤ la) = false := by simp; omega
          have hc2 : decide ((many : Int) < (j : Int) + 1) = false := by simp; omega
          have hi1 : ((j : Nat) : Int) < (many : Int) := by omega
          have hi2 : (0 : Int) ≤ ((j : Nat) : Int) := by omega
          have hi3 : ((m : Nat) : Int) < (np : Int) := by omega
          have hw1 : IntKind.i64.wrap (((j : Nat) : Int) + 1 - 1) = (j : Int) := by rw [IntWalk.i64_in _ (by omega)]; omega
          have hw2 : IntKind.i64.wrap ((j : Nat) : Int) = (j : Int) := IntWalk.i64_in _ (by omega)
          go_wp2
          refine wp_region_quiet_below (by kernel_rfl) (by kernel_rfl) ?_; (repeat (first | go_big_quiet_step (fail) | quiet_step (fail))); refine wpQuiet_nil ?_; intro _ hw'; obtain ⟨⟨nq, osq⟩, hw''⟩ := hw'; subst hw''; have hq := below_regrown wr nq osq; generalize Sort.grow (redrawn wr nq) osq = w6 at *
          have hbz := hb.size
          have hbw : Below w5.heap.size w5 w6 := by (repeat' (first | with_reducible exact Below.refl _ _ | with_reducible assumption | with_reducible refine Below.drew ?_ | with_reducible refine Below.alloc ?_ ?_ _ | with_reducible refine Below.setCell ?_ ?_ _ | with_reducible refine Below.trans ?_ (Below.mono (by assumption) ?_) | ((try simp only [World.heap_size_alloc, World.heap_size_drew, World.heap_size_setCell]); omega)))
          clear hw1 hw2
          go_wp2
          go_roundw
          case rel => exact ⟨m + 1, hlt2, by go_num, ⟨_, rfl, HE1.out.symm⟩, hbw⟩
          case measure => simp [intOf]; omega
        · have hmn : m = np := by omega
          subst hmn
          go_wp2
          go_roundw
          case rel => exact ⟨kk + 1, hlt, by go_num, by rw [hcs.out]; go_num, hb3⟩
          case measure => simp [intOf]; omega
    · have hk6 : kk = 6 := by omega
      subst hk6
      have e6 : cntTo l 6 = many := HALL.out.trans HLM.out
      have hbz := HB.out.size
      have HB9 := Lib.hid (HB.out.trans (hb.mono hbz))
      clear hb
      go_wp2
      go_ret
      exact ⟨rfl, HB9.out⟩
theorem own : ownKnob Try.prog.godebug = none := by kernel_rfl
theorem laidOut : laidOutB Try.prog = true := by kernel_rfl
set_option maxRecDepth 100000 in
theorem lifted (os : Os) (started : os.Started) (H : Type) (enc : TypeId × Value → H) :
    ReturnsInHanded {} Try.checked os 13 .any (Rows.fnWhoSpec.pre6 enc Try.prog Try.f13 Rows.fnWhoRow.domain false) (Rows.fnWhoSpec.post enc Try.prog Try.f13 false true false false) := by
  refine returnsInHanded_of_change (C := Try.checked) own started (by kernel_rfl) Try.func13
    (ChangeSpec.witness6 (enc := enc) (C := Try.checked) false ⟨#[], #[.slice none 0 0], []⟩ 8 (by kernel_rfl) (by kernel_rfl) (by kernel_rfl) (by kernel_rfl)) ?_
  intro W base args ds gs before hval0 hW hcnd _
  have hval : ∀ (j : Nat) t v, Try.f13.params[j]? = some t → args[j]? = some v → Value.okWide Try.prog W .any base t v := hval0
  have hW' := hW
  obtain ⟨p, q, hA0, hV, rfl, hfz, hnd⟩ := hW
  have hA : DataW.TrodAll enc Try.prog W 0 (fun _ => true) true Try.f13.params.toList args.toList ds p := hA0
  rw [Try.params13] at hA hval
  obtain ⟨v0, d0, rfl, rfl, h0⟩ := trodAll_one hA
  obtain ⟨rfl, rfl⟩ := trodVars_none hV
  obtain ⟨A0, n0, c0, rfl, hz0⟩ := open_bytes Try.underlying60 Try.underlying5 (by kernel_rfl) (hval 0 60 v0 rfl rfl) h0
  clear hA0 hval0
  refine (law_any A0 n0 c0 W hz0).mono fun e W' ⟨he, hb⟩ => ?_
  subst he
  exact ⟨_, rfl, law_post laidOut (by kernel_rfl) rfl Try.underlying4 rfl hW' hb rfl rfl rfl⟩
theorem holds : Rows.FnWhoSaid :=
  OpenClaim.holds_of_wide 13 Try.f13 rfl rfl rfl rfl rfl rfl rfl ⟨rfl, rfl, rfl, rfl, rfl⟩ rfl rfl rfl rfl rfl (by kernel_rfl) Try.func13 (by kernel_rfl)
    (of_decide_eq_true (by kernel_rfl)) (by unfold Func.isWrapper; first | (rw [if_pos (by decide +kernel)]; kernel_rfl) | (rw [if_neg (by decide +kernel)]; exact ⟨rfl, rfl⟩))
    (fun os started H enc _ => lifted os started H enc)
#print axioms holds
end Who
end Go.Proofs.Ytcbaokkflkpndaa
