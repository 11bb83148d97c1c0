/- The law FnSeenParts returns true for every input. No conditions. -/
import Derived.Test.YthdhhdjcnhacfaaSeenG
import Derived.Test.YthdhhdjcnhacfaaSeen7
import Derived.Test.YthdhhdjcnhacfaaCut
set_option linter.unusedSimpArgs false
set_option linter.unusedVariables false
namespace Go.Proofs.Ythdhhdjcnhacfaa
open Go.ChangeShapes Go.WideShapes Go.ChangeAt Go.RowKit
namespace SeenParts
set_option maxRecDepth 100000 in
set_option maxHeartbeats 8000000 in
theorem law_any (A : Option Addr) (n c : Nat) (w : World) (h : ArgB w A n c) : Calls Try.prog 11 #[.slice A n c] w fun e w' => e = .returned (.bool true) ∧ Below w.heap.size w w' := by
  rcases Nat.lt_or_ge 4096 n with hn0 | hn0
  · have hbg : decide (4096 < n) = true := by simpa using hn0
    clear h
    go_enter Try.func11, Try.ntmps11
    go_wp2_with fail
    (with_reducible refine (big_any _ _ _ _).mono ?_); rintro _ _ ⟨rfl, rfl⟩
    rw [hbg]
    go_wp2_with fail
    go_ret
    exact ⟨rfl, Below.refl _ _⟩
  have hc := h.code hn0
  have hbg : decide (4096 < n) = false := by simp; omega
  clear h
  go_enter Try.func11, Try.ntmps11
  go_wp2_with fail
  (with_reducible refine (big_any _ _ _ _).mono ?_); rintro _ _ ⟨rfl, rfl⟩
  rw [hbg]
  go_wp2_with fail
  (with_reducible refine (roll_any _ _ _ _ 912 _ hc (Nat.le_refl _) (by omega) (by omega)).mono ?_); rintro _ w1 ⟨rfl, z1, d1, b1⟩
  have d1' : DiceAt (w1.alloc (.cells #[] 46)) w.heap.size w.heap.size A n c := d1.below (B := w1.heap.size) (by (repeat' (first | with_reducible exact Below.refl _ _ | with_reducible assumption | with_reducible refine Below.drew ?_ | with_reducible refine Below.alloc ?_ ?_ _ | with_reducible refine Below.setCell ?_ ?_ _ | with_reducible refine Below.trans ?_ (Below.mono (by assumption) ?_) | ((try simp only [World.heap_size_alloc, World.heap_size_drew, World.heap_size_setCell]); omega)))) z1
  go_wp2_with fail
  (with_reducible refine (below_any _ _ _ _ _ 12 _ (by omega) (by omega) d1').mono ?_); rintro _ w2 ⟨x, rfl, x0, x1, d2, u2⟩
  obtain ⟨many, rfl⟩ := Int.eq_ofNat_of_zero_le x0
  have y2 := u2.size
  simp only [World.heap_size_alloc] at y2
  go_wp2_with fail
  (with_reducible refine (w9List_any A n c _ _ _ 0 0 0 0 [] many _ d2 (Sl.nil _ _ _ _ _ _ (by omega)) (fun e he => absurd he (by simp)) (by omega)).mono ?_); rintro _ w3 ⟨ds, B, q, hds, hdr, rfl, s3, d3, u3⟩
  have y3 := u3.size
  have e0 : stA [] = st0 := rfl
  rw [e0] at s3
  have hll := genE_len ds st0
  obtain ⟨r, hr, hrk, hri, hrm⟩ := over0 hdr (by omega)
  generalize genE st0 ds = l at s3 hll hr hri hrm
  have hlm : l.length = many := by omega
  have hb3 : Below w.heap.size w w3 := by
    have h1 : Below w.heap.size w (w1.alloc (.cells #[] 46)) := by (repeat' (first | with_reducible exact Below.refl _ _ | with_reducible assumption | with_reducible refine Below.drew ?_ | with_reducible refine Below.alloc ?_ ?_ _ | with_reducible refine Below.setCell ?_ ?_ _ | with_reducible refine Below.trans ?_ (Below.mono (by assumption) ?_) | ((try simp only [World.heap_size_alloc, World.heap_size_drew, World.heap_size_setCell]); omega)))
    have h2 : Below w.heap.size (w1.alloc (.cells #[] 46)) w2 := u2.below (Nat.le_refl _) (by (try simp only [World.heap_size_alloc, World.heap_size_drew, World.heap_size_setCell]); omega)
    exact (h1.trans h2).trans (u3.below (Nat.le_refl _) (by omega))
  have hmt : many ≤ 11 := by omega
  clear hll hdr hds d1 d1' d2 u2 u3 e0
  go_wp2_with fail
  (with_reducible refine (below_any _ _ _ _ _ ((many : Int) + 1) _ (by omega) (by omega) d3).mono ?_); rintro _ w4 ⟨x, rfl, x0, x1, d4, u4⟩
  obtain ⟨k, rfl⟩ := Int.eq_ofNat_of_zero_le x0
  have y4 := u4.size
  have hkm : k ≤ many := by omega
  have hb4 : Below w.heap.size w w4 := hb3.trans (u4.below (Nat.le_refl _) (by omega))
  have s4 := (s3.upd u4 (.inr (by omega))).fit (by omega)
  have hhi : min w3.heap.size w4.heap.size ≤ w4.heap.size := Nat.min_le_right _ _
  generalize min w3.heap.size w4.heap.size = hi at s4 hhi
  obtain ⟨r1, hr1, hr2⟩ := overGo_take hr k
  have hrk1 : seenOk r1 = true := overGo_ok rfl hr1
  have hcap := s4.cap
  have hbig := s4.big
  obtain ⟨B2, hrun, hsl⟩ := tail_at B many q k hkm
  have hfr := run_front B many q k (by omega)
  have CX : ∀ W (D : Option Addr), Below w4.heap.size w4 W → Calls Try.prog 34 #[.slice D 0 0, .slice B many q] W (SlBRes W 3 r.length (r.flatMap MarkD.ints, true)) := fun W D hW => by
    have h7 := seenOver_any D 0 0 0 0 [] B many q _ _ l W (Sl.nil _ _ _ _ _ _ (by omega)) (s4.below hW hhi)
    rw [seenOver_some rfl (by omega) hr] at h7
    exact h7
  have CY : ∀ W (D : Option Addr), Below w4.heap.size w4 W → Calls Try.prog 34 #[.slice D 0 0, .slice B k q] W (SlBRes W 3 r1.length (r1.flatMap MarkD.ints, true)) := fun W D hW => by
    have h7 := seenOver_any D 0 0 0 0 [] B k q _ _ (l.take k) W (Sl.nil _ _ _ _ _ _ (by omega)) ((s4.below hW hhi).cutFront EntryD.ints_len hkm)
    rw [seenOver_some rfl (by simp; omega) hr1] at h7
    exact h7
  have CZ : ∀ W (D : Option Addr) (nn cc lo' hi' : Nat), Below w4.heap.size w4 W → Sl W lo' hi' 3 D nn cc (r1.flatMap MarkD.ints) → Calls Try.prog 34 #[.slice D nn cc, .slice B2 (many - k) (q - k)] W (SlBRes W 3 r.length (r.flatMap MarkD.ints, true)) := fun W D nn cc lo' hi' hW hs => by
    have h7 := seenOver_any D nn cc lo' hi' r1 B2 (many - k) (q - k) _ _ (l.drop k) W hs (hsl _ _ _ _ (s4.below hW hhi))
    rw [seenOver_some hrk1 (by simp; omega) hr2] at h7
    exact h7
  have CS : ∀ W (D D' : Option Addr) (nn cc lo' hi' nn' cc' lo2 hi2 : Nat), Sl W lo' hi' 3 D nn cc (r.flatMap MarkD.ints) → Sl W lo2 hi2 3 D' nn' cc' (r.flatMap MarkD.ints) → Calls Try.prog 15 #[.slice D nn cc, .slice D' nn' cc'] W (BoolRes W true) := fun W D D' nn cc lo' hi' nn' cc' lo2 hi2 hs hs' => by
    have h7 := sameSeen_any D D' nn cc nn' cc' _ _ _ _ r r W hs hs'
    rw [show sameSeen r r = true by simp [sameSeen]] at h7
    exact h7
  have CK : ∀ W (D : Option Addr) (nn cc lo' hi' : Nat), Sl W lo' hi' 3 D nn cc (r.flatMap MarkD.ints) → Calls Try.prog 18 #[.slice D nn cc] W (BoolRes W true) := fun W D nn cc lo' hi' hs => by
    have h7 := seenOk_any D nn cc _ _ r W hs
    rw [hrk] at h7
    exact h7
  have CL : ∀ W (D : Option Addr) (nn cc lo' hi' : Nat), Sl W lo' hi' 3 D nn cc (r.flatMap MarkD.ints) → Calls Try.prog 25 #[.slice D nn cc] W fun e w' => e = .returned (.int .i64 (many : Int)) ∧ Below W.heap.size W w' := fun W D nn cc lo' hi' hs => by
    have h7 := lastSeen_any D nn cc _ _ r W hs
    rw [show lastSeen r = (many : Int) by rw [lastSeen, if_pos hrk, hri, hlm]] at h7
    exact h7
  have CM : ∀ W (D : Option Addr) (nn cc lo' hi' : Nat) (who : Int), Sl W lo' hi' 3 D nn cc (r.flatMap MarkD.ints) → Calls Try.prog 20 #[.slice D nn cc, .int .i64 who] W (MarkVRes W (lastMark zeroMark l who)) := fun W D nn cc lo' hi' who hs => by
    have h7 := markOf_any D nn cc _ _ r who W hs
    rw [show markOf r who = lastMark zeroMark l who by rw [markOf, if_pos hrk]; exact hrm who] at h7
    exact h7
  have HX := Lib.hid CX
  have HY := Lib.hid CY
  have HZ := Lib.hid CZ
  have HS := Lib.hid CS
  have HK := Lib.hid CK
  have HL := Lib.hid CL
  have HM := Lib.hid CM
  have HLM := Lib.hid hlm
  have HS4 := Lib.hid s4
  have HB4 := Lib.hid hb4
  have HKM := Lib.hid hkm
  generalize hrn : r.length = rn at HX HZ
  generalize hrn1 : r1.length = rn1 at HY
  clear CX CY CZ CS CK CL CM hr hrk hri hrm hr1 hr2 hrk1 s3 s4 d3 d4 u4 hb3 hb4 hlm hsl hcap hbig hrn hrn1 hkm x0 x1
  have z4 : Below w4.heap.size w4 (w4.alloc (.cells #[] 31)) := by (repeat' (first | with_reducible exact Below.refl _ _ | with_reducible assumption | with_reducible refine Below.drew ?_ | with_reducible refine Below.alloc ?_ ?_ _ | with_reducible refine Below.setCell ?_ ?_ _ | with_reducible refine Below.trans ?_ (Below.mono (by assumption) ?_) | ((try simp only [World.heap_size_alloc, World.heap_size_drew, World.heap_size_setCell]); omega)))
  go_wp2_with fail
  (with_reducible refine (HX.out _ _ z4).mono ?_); rintro _ w5 ⟨A5, c5, rfl, s5, b5⟩
  have y5 := b5.size
  simp only [World.heap_size_alloc] at y5
  have z5 : Below w4.heap.size w4 w5 := z4.trans (b5.mono (by (try simp only [World.heap_size_alloc, World.heap_size_drew, World.heap_size_setCell]); omega))
  have z6 : Below w4.heap.size w4 (w5.alloc (.cells #[] 31)) := z5.alloc (by omega) _
  go_wp2_with fail
  (with_reducible refine (HY.out _ _ z6).mono ?_); rintro _ w6 ⟨A6, c6, rfl, s6, b6⟩
  have y6 := b6.size
  simp only [World.heap_size_alloc] at y6
  have z7 : Below w4.heap.size w4 w6 := z6.trans (b6.mono (by (try simp only [World.heap_size_alloc, World.heap_size_drew, World.heap_size_setCell]); omega))
  have t6 := s5.below (B := w5.heap.size) (w' := w6) (((Below.refl _ _).alloc (Nat.le_refl _) _).trans (b6.mono (by (try simp only [World.heap_size_alloc, World.heap_size_drew, World.heap_size_setCell]); omega))) (Nat.le_refl _)
  go_wp2_with fail
  (with_reducible refine (HZ.out _ _ _ _ _ _ z7 s6).mono ?_); rintro _ w7 ⟨A7, c7, rfl, s7, b7⟩
  have y7 := b7.size
  have z8 : Below w4.heap.size w4 w7 := z7.trans (b7.mono (by omega))
  have t7 := t6.below b7 (by omega)
  go_wp2_with fail
  (with_reducible refine (HS.out _ _ _ _ _ _ _ _ _ _ _ t7 s7).mono ?_); rintro _ w8 ⟨rfl, b8⟩
  have y8 := b8.size
  have t8 := t7.below b8 (by omega)
  go_wp2_with fail
  (with_reducible refine (HK.out _ _ _ _ _ _ t8).mono ?_); rintro _ w9 ⟨rfl, b9⟩
  have y9 := b9.size
  have t9 := t8.below b9 (by omega)
  go_wp2_with fail
  (with_reducible refine (HL.out _ _ _ _ _ _ t9).mono ?_); rintro _ w10 ⟨rfl, b10⟩
  have y10 := b10.size
  have t10 := t9.below b10 (by omega)
  have z10 : Below w4.heap.size w4 w10 := ((z8.trans (b8.mono (by omega))).trans (b9.mono (by omega))).trans (b10.mono (by omega))
  have T := Lib.hid t10
  have Z := Lib.hid z10
  have hz10 : w4.heap.size ≤ w10.heap.size := z10.size
  have hz510 : w5.heap.size ≤ w10.heap.size := by omega
  clear t10 z10 t9 t8 t7 t6 s7 s6 s5 b5 b6 b7 b8 b9 b10 z4 z5 z6 z7 z8 y5 y6 y7 y8 y9 y10 hrun hfr
  go_wp2_with fail
  go_loopw [11, 12, 13] (fun who _ _ wr => ∃ kk : Nat, kk ≤ 4 ∧ who = .int .i64 (2 + (kk : Int)) ∧ Below w10.heap.size w10 wr) (fun who _ _ _ => 6 - (intOf who).toNat)
  case atStart => exact ⟨0, by omega, rfl, Below.refl _ _⟩
  case round =>
    obtain ⟨wo, rfl⟩ : ∃ wo, wo = wr := ⟨wr, rfl⟩
    obtain ⟨kk, hkk, rfl, hb⟩ := hrel
    have hbz := hb.size
    by_cases hlt : kk < 4
    · obtain ⟨wh, hwh⟩ : ∃ wh : Int, wh = 2 + (kk : Int) := ⟨_, rfl⟩
      have hw1 : decide (2 + (kk : Int) < 6) = true := by simp; omega
      have HB := Lib.hid hb
      clear hb
      go_wp2_with fail
      go_loopw [13] (fun i wr => ∃ (m : Nat) (mk : MarkD), m ≤ many ∧ i = .int .i64 m ∧ Hid (mk = lastMark zeroMark (l.take m) wh) ∧ wr.cell? ⟨wo.heap.size, 0, none⟩ = some (.int .i64 mk.client) ∧ wr.cell? ⟨wo.heap.size, 1, none⟩ = some (.int .i64 mk.seq) ∧ wr.cell? ⟨wo.heap.size, 2, none⟩ = some (.int .i64 mk.index) ∧
        wr.frozen? ⟨wo.heap.size, 0, none⟩ = false ∧ wr.frozen? ⟨wo.heap.size, 1, none⟩ = false ∧ wr.frozen? ⟨wo.heap.size, 2, none⟩ = false ∧ Below wo.heap.size wo wr) (fun i _ => many - (intOf i).toNat)
      case atStart => exact ⟨0, zeroMark, Nat.zero_le _, rfl, rfl, by simp [zeroMark], by simp [zeroMark], by simp [zeroMark], by simp, by simp, by simp, by (repeat' (first | with_reducible exact Below.refl _ _ | with_reducible assumption | with_reducible refine Below.drew ?_ | with_reducible refine Below.alloc ?_ ?_ _ | with_reducible refine Below.setCell ?_ ?_ _ | with_reducible refine Below.trans ?_ (Below.mono (by assumption) ?_) | ((try simp only [World.heap_size_alloc, World.heap_size_drew, World.heap_size_setCell]); omega)))⟩
      case round =>
        obtain ⟨m, mk, hm, rfl, hmk, c0, c1, c2, f0, f1, f2, hb2⟩ := hrel
        have hb2z := hb2.size
        by_cases hlt2 : m < many
        · obtain ⟨g, off, e, rfl, _, hg, he, p0, p1, p2, p3, _⟩ := HS4.out.entry hlt2
          have hz : Below w4.heap.size w4 wr := (Z.out.trans (HB.out.mono hz10)).trans (hb2.mono (by omega))
          have r0 := (hz.cell (p := ⟨g, off + m * 9, none⟩) (by show g < _; omega)).trans p0
          have r2 := (hz.cell (p := ⟨g, off + m * 9 + 2, none⟩) (by show g < _; omega)).trans p2
          have r3 := (hz.cell (p := ⟨g, off + m * 9 + 3, none⟩) (by show g < _; omega)).trans p3
          have HE := Lib.hid he
          have hgz : g < wr.heap.size := by omega
          clear he p0 p1 p2 p3 hz
          have hts : Hid (lastMark zeroMark (l.take (m + 1)) wh = if e.client = wh then e.mark else mk) := Lib.hid (by
            obtain ⟨h1, h2⟩ := List.getElem?_eq_some_iff.1 HE.out
            rw [List.take_succ_eq_append_getElem h1, lastMark_snoc, h2, hmk.out])
          by_cases hcw : e.client = wh
          · have hcw2 : (e.client == 2 + (kk : Int)) = true := by rw [hcw, hwh]; simp
            have HCW := Lib.hid hcw
            clear hcw
            go_wp2
            refine wp_region_still_tail 12 (by kernel_rfl) (by kernel_rfl) ?_; simp only [List.take_succ_cons, List.take_zero, List.drop_succ_cons, List.drop_zero]; change wpStill _ _ (World.drew wr) _ _ _; (repeat still_step); refine wpStill_nil ?_; change wpList _ _ _ _ _ (World.drew wr)
            go_wp2_with fail
            go_roundw
            case rel => exact ⟨m + 1, e.mark, hlt2, by go_num, Lib.hid (by rw [hts.out, if_pos HCW.out]), by simp [go_sem, c0, c1, c2, f0, f1, f2, EntryD.mark, HCW.out, hwh], by simp [go_sem, c0, c1, c2, f0, f1, f2, EntryD.mark], by simp [go_sem, c0, c1, c2, f0, f1, f2, EntryD.mark], by simp [go_sem, f0], by simp [go_sem, f1], by simp [go_sem, f2], by (repeat' (first | with_reducible exact Below.refl _ _ | with_reducible assumption | with_reducible refine Below.drew ?_ | with_reducible refine Below.alloc ?_ ?_ _ | with_reducible refine Below.setCell ?_ ?_ _ | with_reducible refine Below.trans ?_ (Below.mono (by assumption) ?_) | ((try simp only [World.heap_size_alloc, World.heap_size_drew, World.heap_size_setCell]); omega)))⟩
            case measure => simp [intOf]; omega
          · have hcw2 : (e.client == 2 + (kk : Int)) = false := by rw [← hwh]; simpa using hcw
            have HCW := Lib.hid hcw
            clear hcw
            go_wp2
            go_roundw
            case rel => exact ⟨m + 1, mk, hlt2, by go_num, Lib.hid (by rw [hts.out, if_neg HCW.out]), c0, c1, c2, f0, f1, f2, hb2⟩
            case measure => simp [intOf]; omega
        · have hmm : m = many := by omega
          subst hmm
          have hmk2 : lastMark zeroMark l (2 + (kk : Int)) = mk := by
            rw [hmk.out, hwh, List.take_of_length_le (by rw [HLM.out]; exact Nat.le_refl _)]
          have fc0 := fun d os => cell_regrown c0 d os
          have fc1 := fun d os => cell_regrown c1 d os
          have fc2 := fun d os => cell_regrown c2 d os
          have CM2 : ∀ W, Sl W 0 w10.heap.size 3 A5 rn c5 (r.flatMap MarkD.ints) → Calls Try.prog 20 #[.slice A5 rn c5, .int .i64 (2 + (kk : Int))] W (MarkVRes W mk) := fun W hs => by
            have h7 := HM.out W _ _ _ _ _ (2 + (kk : Int)) hs
            rw [hmk2] at h7
            exact h7
          have HM2 := Lib.hid CM2
          have T2 : Hid (Sl wr 0 w10.heap.size 3 A5 rn c5 (r.flatMap MarkD.ints)) := Lib.hid ((T.out.mono (Nat.zero_le _) hz510).below ((HB.out.trans (hb2.mono hbz))) (Nat.le_refl _))
          have hz5 : w10.heap.size ≤ wr.heap.size := by omega
          have hbo := HB.out.trans (hb2.mono hbz)
          clear CM2 hmk2
          go_wp2
          refine wp_region_quiet_below (by kernel_rfl) (by kernel_rfl) ?_; (repeat (first | go_big_quiet_step ((first | (go_at_call 20; with_reducible exact Calls.regrown_of (HM2.out _ (T2.out.below (below_regrown _ _ _) hz5))))) | quiet_step ((first | (go_at_call 20; with_reducible exact Calls.regrown_of (HM2.out _ (T2.out.below (below_regrown _ _ _) hz5))))))); refine wpQuiet_nil ?_; intro _ hw'; obtain ⟨⟨nq, osq⟩, hw''⟩ := hw'; subst hw''; have hq := below_regrown wr nq osq; generalize Sort.grow (redrawn wr nq) osq = w6 at *
          have hbw : Below w10.heap.size w10 w6 := hbo.trans (hq.mono hz5)
          go_wp2
          go_roundw
          case rel => exact ⟨kk + 1, hlt, by go_num, hbw⟩
          case measure => simp [intOf]; omega
    · have hk4 : kk = 4 := by omega
      subst hk4
      have HB9 := Lib.hid (HB4.out.trans ((Z.out.trans (hb.mono hz10)).mono HB4.out.size))
      clear hb
      go_wp2
      go_ret
      exact ⟨rfl, HB9.out⟩
theorem own : ownKnob Try.prog.godebug = none := by kernel_rfl
theorem laidOut : laidOutB Try.prog = true := by kernel_rfl
set_option maxRecDepth 100000 in
theorem lifted (os : Os) (started : os.Started) (H : Type) (enc : TypeId × Value → H) :
    ReturnsInHanded {} Try.checked os 11 .any (Rows.fnSeenPartsSpec.pre6 enc Try.prog Try.f11 Rows.fnSeenPartsRow.domain false) (Rows.fnSeenPartsSpec.post enc Try.prog Try.f11 false true false false) := by
  refine returnsInHanded_of_change (C := Try.checked) own started (by kernel_rfl) Try.func11
    (ChangeSpec.witness6 (enc := enc) (C := Try.checked) false ⟨#[], #[.slice none 0 0], []⟩ 8 (by kernel_rfl) (by kernel_rfl) (by kernel_rfl) (by kernel_rfl)) ?_
  intro W base args ds gs before hval0 hW hcnd _
  have hval : ∀ (j : Nat) t v, Try.f11.params[j]? = some t → args[j]? = some v → Value.okWide Try.prog W .any base t v := hval0
  have hW' := hW
  obtain ⟨p, q, hA0, hV, rfl, hfz, hnd⟩ := hW
  have hA : DataW.TrodAll enc Try.prog W 0 (fun _ => true) true Try.f11.params.toList args.toList ds p := hA0
  rw [Try.params11] at hA hval
  obtain ⟨v0, d0, rfl, rfl, h0⟩ := trodAll_one hA
  obtain ⟨rfl, rfl⟩ := trodVars_none hV
  obtain ⟨A0, n0, c0, rfl, hz0⟩ := open_bytes Try.underlying58 Try.underlying5 (by kernel_rfl) (hval 0 58 v0 rfl rfl) h0
  clear hA0 hval0
  refine (law_any A0 n0 c0 W hz0).mono fun e W' ⟨he, hb⟩ => ?_
  subst he
  exact ⟨_, rfl, law_post laidOut (by kernel_rfl) rfl Try.underlying4 rfl hW' hb rfl rfl rfl⟩
theorem holds : Rows.FnSeenPartsSaid :=
  OpenClaim.holds_of_wide 11 Try.f11 rfl rfl rfl rfl rfl rfl rfl ⟨rfl, rfl, rfl, rfl, rfl⟩ rfl rfl rfl rfl rfl (by kernel_rfl) Try.func11 (by kernel_rfl)
    (of_decide_eq_true (by kernel_rfl)) (by unfold Func.isWrapper; first | (rw [if_pos (by decide +kernel)]; kernel_rfl) | (rw [if_neg (by decide +kernel)]; exact ⟨rfl, rfl⟩))
    (fun os started H enc _ => lifted os started H enc)
#print axioms holds
end SeenParts
end Go.Proofs.Ythdhhdjcnhacfaa
