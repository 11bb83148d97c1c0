/- The law FnFresh returns true for every input. No conditions. -/
import Derived.Test.YthdhhdjcnhacfaaSeenG
import Derived.Test.YthdhhdjcnhacfaaSeen7
import Derived.Test.YthdhhdjcnhacfaaCut
import Derived.Deep.RegionHeld3
set_option linter.unusedSimpArgs false
set_option linter.unusedVariables false
namespace Go.Proofs.Ythdhhdjcnhacfaa
open Go.ChangeShapes Go.WideShapes Go.ChangeAt Go.RowKit
namespace Fresh
set_option maxRecDepth 100000 in
set_option maxHeartbeats 8000000 in
theorem law_any (A : Option Addr) (n c : Nat) (w : World) (h : ArgB w A n c) : Calls Try.prog 10 #[.slice A n c] w fun e w' => e = .returned (.bool true) ∧ Below w.heap.size w w' := by
  rcases Nat.lt_or_ge 4096 n with hn0 | hn0
  · have hbg : decide (4096 < n) = true := by simpa using hn0
    clear h
    go_enter Try.func10, Try.ntmps10
    go_wp2_with fail
    (with_reducible refine (big_any _ _ _ _).mono ?_); rintro _ _ ⟨rfl, rfl⟩
    rw [hbg]
    go_wp2_with fail
    go_ret
    exact ⟨rfl, Below.refl _ _⟩
  have hc := h.code hn0
  have hbg : decide (4096 < n) = false := by simp; omega
  clear h
  go_enter Try.func10, Try.ntmps10
  go_wp2_with fail
  (with_reducible refine (big_any _ _ _ _).mono ?_); rintro _ _ ⟨rfl, rfl⟩
  rw [hbg]
  go_wp2_with fail
  (with_reducible refine (roll_any _ _ _ _ 913 _ hc (Nat.le_refl _) (by omega) (by omega)).mono ?_); rintro _ w1 ⟨rfl, z1, d1, b1⟩
  have d1' : DiceAt (w1.alloc (.cells #[] 46)) w.heap.size w.heap.size A n c := d1.below (B := w1.heap.size) (by (repeat' (first | with_reducible exact Below.refl _ _ | with_reducible assumption | with_reducible refine Below.drew ?_ | with_reducible refine Below.alloc ?_ ?_ _ | with_reducible refine Below.setCell ?_ ?_ _ | with_reducible refine Below.trans ?_ (Below.mono (by assumption) ?_) | ((try simp only [World.heap_size_alloc, World.heap_size_drew, World.heap_size_setCell]); omega)))) z1
  go_wp2_with fail
  (with_reducible refine (below_any _ _ _ _ _ 9 _ (by omega) (by omega) d1').mono ?_); rintro _ w2 ⟨x, rfl, x0, x1, d2, u2⟩
  obtain ⟨many, rfl⟩ := Int.eq_ofNat_of_zero_le x0
  have y2 := u2.size
  simp only [World.heap_size_alloc] at y2
  go_wp2_with fail
  have hm1 : (1 : Int) + (many : Int) = ((many + 1 : Nat) : Int) := by omega
  have hx9 : many + 1 ≤ 9 := by omega
  try rw [hm1]
  clear x0 x1 hm1
  generalize many + 1 = many' at hx9 ⊢
  (with_reducible refine (w9List_any A n c _ _ _ 0 0 0 0 [] many' _ d2 (Sl.nil _ _ _ _ _ _ (by omega)) (fun e he => absurd he (by simp)) (by omega)).mono ?_); rintro _ w3 ⟨ds, B, q, hds, hdr, rfl, s3, d3, u3⟩
  have y3 := u3.size
  have e0 : stA [] = st0 := rfl
  rw [e0] at s3
  have hll := genE_len ds st0
  obtain ⟨rr, hr, hrk, hri, hrm⟩ := over0 hdr (by omega)
  have hat : ∀ (j : Nat) (e : EntryD), (genE st0 ds)[j]? = some e → 1 ≤ e.seq ∧ e.seq ≤ 20 ∧ 1 ≤ e.index ∧ e.index ≤ 20 := fun j e he => by
    have h1 := gen0_at hdr he
    have h2 := (List.getElem?_eq_some_iff.1 he).1
    rw [genE_len] at h2
    exact ⟨by omega, by omega, by omega, by omega⟩
  generalize genE st0 ds = l at s3 hll hr hri hrm hat
  have hlm : l.length = many' := by omega
  have hb3 : Below w.heap.size w w3 := by
    have h1 : Below w.heap.size w (w1.alloc (.cells #[] 46)) := by (repeat' (first | with_reducible exact Below.refl _ _ | with_reducible assumption | with_reducible refine Below.drew ?_ | with_reducible refine Below.alloc ?_ ?_ _ | with_reducible refine Below.setCell ?_ ?_ _ | with_reducible refine Below.trans ?_ (Below.mono (by assumption) ?_) | ((try simp only [World.heap_size_alloc, World.heap_size_drew, World.heap_size_setCell]); omega)))
    have h2 : Below w.heap.size (w1.alloc (.cells #[] 46)) w2 := u2.below (Nat.le_refl _) (by (try simp only [World.heap_size_alloc, World.heap_size_drew, World.heap_size_setCell]); omega)
    exact (h1.trans h2).trans (u3.below (Nat.le_refl _) (by omega))
  have hmt : many' ≤ 9 := by omega
  clear hll hdr hds d1 d1' d2 u2 u3 e0
  have s4 := s3.fit (by omega)
  have hhi : min w3.heap.size w3.heap.size ≤ w3.heap.size := Nat.min_le_right _ _
  generalize min w3.heap.size w3.heap.size = hi at s4 hhi
  have HS := Lib.hid s4
  have HR := Lib.hid hr
  have HB := Lib.hid hb3
  have HLM := Lib.hid hlm
  have HAT := Lib.hid hat
  clear s3 s4 hr hrk hri hrm hb3 hlm hat d3
  go_wp2_with fail
  go_loopw [5, 6, 7, 8, 9, 10, 11] (fun s i _ _ _ _ _ wr => ∃ (m nn cs : Nat) (r : List MarkD) (As : Option Addr), m ≤ many' ∧ s = .slice As nn cs ∧ i = .int .i64 m ∧ Hid (nn = r.length) ∧ Hid (overGo [] (l.take m) = some r) ∧ Hid (Sl wr 0 wr.heap.size 3 As nn cs (r.flatMap MarkD.ints)) ∧ Below w3.heap.size w3 wr) (fun _ i _ _ _ _ _ _ => many' - (intOf i).toNat)
  case atStart => exact ⟨0, 0, 0, [], _, Nat.zero_le _, rfl, rfl, rfl, rfl, Lib.hid (Sl.nil _ _ _ _ _ _ (by omega)), by (repeat' (first | with_reducible exact Below.refl _ _ | with_reducible assumption | with_reducible refine Below.drew ?_ | with_reducible refine Below.alloc ?_ ?_ _ | with_reducible refine Below.setCell ?_ ?_ _ | with_reducible refine Below.trans ?_ (Below.mono (by assumption) ?_) | ((try simp only [World.heap_size_alloc, World.heap_size_drew, World.heap_size_setCell]); omega)))⟩
  case round =>
    obtain ⟨wo, rfl⟩ : ∃ wo, wo = wr := ⟨wr, rfl⟩
    obtain ⟨m, nn, cs, r, As, hm, rfl, rfl, hnn, hov, hsl, hb⟩ := hrel
    have hbz := hb.size
    by_cases hlt : m < many'
    · obtain ⟨g, off, e, rfl, _, hg, he, p0, p1, p2, p3, p4, p5, p6, p7, p8⟩ := HS.out.entry hlt
      have hgw : g < w3.heap.size := by omega
      obtain ⟨q0, q1, q2, q3⟩ := HAT.out m e he
      obtain ⟨r2, h2, _⟩ := overGo_take HR.out (m + 1)
      obtain ⟨n1, n2, n3, n4⟩ := marked_next rfl hov.out he h2
      have n5 := fresh_next (overGo_ok rfl h2) n3 n4 (by omega)
      have HK2 := Lib.hid h2
      have CF : ∀ W, Sl W 0 wo.heap.size 3 As nn cs (r.flatMap MarkD.ints) → Calls Try.prog 23 #[.slice As nn cs, .int .i64 e.client, .int .i64 e.seq] W fun x w' => x = .returned (.bool true) ∧ Below W.heap.size W w' := fun W s => by
        have h7 := freshIn_any As nn cs _ _ r e.client e.seq W s
        rw [n2] at h7
        exact h7
      have CM : ∀ W, Sl W 0 wo.heap.size 3 As nn cs (r.flatMap MarkD.ints) → Calls Try.prog 28 #[.slice As nn cs, .agg #[.int .i64 e.index, .int .i64 e.time, .int .i64 e.client, .int .i64 e.seq, .int .i64 e.op.kind, .int .i64 e.op.a, .int .i64 e.op.b, .int .i64 e.op.c, .int .i64 e.op.d]] W (SlBRes W 3 r2.length (r2.flatMap MarkD.ints, true)) := fun W s => by
        have h7 := marked_any As nn cs _ _ r e W s
        rw [n1] at h7
        exact h7
      have CF2 : ∀ W (D : Option Addr) (k d lo' hi' : Nat), Sl W lo' hi' 3 D k d (r2.flatMap MarkD.ints) → Calls Try.prog 23 #[.slice D k d, .int .i64 e.client, .int .i64 (e.seq + 1)] W fun x w' => x = .returned (.bool true) ∧ Below W.heap.size W w' := fun W D k d lo' hi' s => by
        have h7 := freshIn_any D k d _ _ r2 e.client (e.seq + 1) W s
        rw [n5] at h7
        exact h7
      have CA : ∀ (j : Nat) (x : EntryD), j ≤ m → l[j]? = some x → marked r2 ⟨e.index + 1, x.time, x.client, x.seq, x.op⟩ = (r2, false) ∧ freshIn r2 x.client x.seq = false := fun j x hj hx => marked_again rfl HK2.out (List.mem_take_iff_getElem.2 ⟨j, by have := (List.getElem?_eq_some_iff.1 hx).1; omega, (List.getElem?_eq_some_iff.1 hx).2⟩) rfl rfl
      have CSS : ∀ W (D D' : Option Addr) (k d lo' hi' k' d' lo2 hi2 : Nat), Sl W lo' hi' 3 D k d (r2.flatMap MarkD.ints) → Sl W lo2 hi2 3 D' k' d' (r2.flatMap MarkD.ints) → Calls Try.prog 15 #[.slice D k d, .slice D' k' d'] W (BoolRes W true) := fun W D D' k d lo' hi' k' d' lo2 hi2 hs hs' => by
        have h7 := sameSeen_any D D' k d k' d' _ _ _ _ r2 r2 W hs hs'
        rw [show sameSeen r2 r2 = true by simp [sameSeen]] at h7
        exact h7
      have HF := Lib.hid CF
      have HM := Lib.hid CM
      have HF2 := Lib.hid CF2
      have HA := Lib.hid CA
      have HSS := Lib.hid CSS
      have HE := Lib.hid he
      clear CF CM CF2 CA CSS n1 n2 n3 n4 n5 h2 he
      have hbw := hb
      have rc0 := (hbw.cell (p := ⟨g, off + m * 9, none⟩) hgw).trans p0
      have frc0 := fun d os => cell_regrown rc0 d os
      have rc1 := (hbw.cell (p := ⟨g, off + m * 9 + 1, none⟩) hgw).trans p1
      have frc1 := fun d os => cell_regrown rc1 d os
      have rc2 := (hbw.cell (p := ⟨g, off + m * 9 + 2, none⟩) hgw).trans p2
      have frc2 := fun d os => cell_regrown rc2 d os
      have rc3 := (hbw.cell (p := ⟨g, off + m * 9 + 3, none⟩) hgw).trans p3
      have frc3 := fun d os => cell_regrown rc3 d os
      have rc4 := (hbw.cell (p := ⟨g, off + m * 9 + 4, none⟩) hgw).trans p4
      have frc4 := fun d os => cell_regrown rc4 d os
      have rc5 := (hbw.cell (p := ⟨g, off + m * 9 + 5, none⟩) hgw).trans p5
      have frc5 := fun d os => cell_regrown rc5 d os
      have rc6 := (hbw.cell (p := ⟨g, off + m * 9 + 6, none⟩) hgw).trans p6
      have frc6 := fun d os => cell_regrown rc6 d os
      have rc7 := (hbw.cell (p := ⟨g, off + m * 9 + 7, none⟩) hgw).trans p7
      have frc7 := fun d os => cell_regrown rc7 d os
      have rc8 := (hbw.cell (p := ⟨g, off + m * 9 + 8, none⟩) hgw).trans p8
      have frc8 := fun d os => cell_regrown rc8 d os
      have HBO := Lib.hid hb
      clear hb hbw
      go_wp2
      refine wp_region_quiet_below (by kernel_rfl) (by kernel_rfl) ?_; (repeat (first | go_big_quiet_step ((first | (go_at_call 23; with_reducible exact Calls.regrown_of (HF.out _ (hsl.out.below (below_regrown _ _ _) (Nat.le_refl _)))))) | quiet_step ((first | (go_at_call 23; with_reducible exact Calls.regrown_of (HF.out _ (hsl.out.below (below_regrown _ _ _) (Nat.le_refl _)))))))); refine wpQuiet_nil ?_; intro _ hw'; obtain ⟨⟨nq, osq⟩, hw''⟩ := hw'; subst hw''; have hq := below_regrown wo nq osq; generalize Sort.grow (redrawn wo nq) osq = w4 at *
      have hz4 := hq.size
      have v0 := (hq.cell (p := ⟨g, off + m * 9, none⟩) (by show g < _; omega)).trans rc0
      have v1 := (hq.cell (p := ⟨g, off + m * 9 + 1, none⟩) (by show g < _; omega)).trans rc1
      have v2 := (hq.cell (p := ⟨g, off + m * 9 + 2, none⟩) (by show g < _; omega)).trans rc2
      have v3 := (hq.cell (p := ⟨g, off + m * 9 + 3, none⟩) (by show g < _; omega)).trans rc3
      have v4 := (hq.cell (p := ⟨g, off + m * 9 + 4, none⟩) (by show g < _; omega)).trans rc4
      have v5 := (hq.cell (p := ⟨g, off + m * 9 + 5, none⟩) (by show g < _; omega)).trans rc5
      have v6 := (hq.cell (p := ⟨g, off + m * 9 + 6, none⟩) (by show g < _; omega)).trans rc6
      have v7 := (hq.cell (p := ⟨g, off + m * 9 + 7, none⟩) (by show g < _; omega)).trans rc7
      have v8 := (hq.cell (p := ⟨g, off + m * 9 + 8, none⟩) (by show g < _; omega)).trans rc8
      clear rc0 frc0 rc1 frc1 rc2 frc2 rc3 frc3 rc4 frc4 rc5 frc5 rc6 frc6 rc7 frc7 rc8 frc8
      have S4 := Lib.hid (hsl.out.below hq (Nat.le_refl _))
      have B4 := Lib.hid (HBO.out.trans (hq.mono hbz))
      clear hq
      go_wp2_with fail
      (with_reducible refine (HM.out _ S4.out).mono ?_); rintro _ w5 ⟨A5, c5, rfl, s5, b5⟩
      have hz5 := b5.size
      have S5 := Lib.hid (s5.mono (lo' := 0) (Nat.zero_le _) (Nat.le_refl _))
      have B5 := Lib.hid (B4.out.trans (b5.mono (by omega)))
      clear s5 b5 v0 v1 v2 v3 v4 v5 v6 v7 v8
      go_wp2_with fail
      go_loopw [9, 10, 11] (fun k _ _ wr => ∃ kk : Nat, kk ≤ m + 1 ∧ k = .int .i64 kk ∧ Below w5.heap.size w5 wr) (fun k _ _ _ => m + 1 - (intOf k).toNat)
      case atStart => exact ⟨0, Nat.zero_le _, rfl, Below.refl _ _⟩
      case round =>
        obtain ⟨kk, hkk, rfl, hb⟩ := hrel
        have hbz2 := hb.size
        by_cases hlt2 : kk < m + 1
        · obtain ⟨g', off', x, e9, _, hg', hx, p0', p1', p2', p3', p4', p5', p6', p7', p8'⟩ := HS.out.entry (show kk < many' by omega)
          injection e9 with e9
          injection e9 with e9 e8
          subst e9 e8
          obtain ⟨a1, a2⟩ := HA.out kk x (by omega) hx
          have CM3 : ∀ W (D : Option Addr) (k d lo' hi' : Nat), Sl W lo' hi' 3 D k d (r2.flatMap MarkD.ints) → Calls Try.prog 28 #[.slice D k d, .agg #[.int .i64 (e.index + 1), .int .i64 x.time, .int .i64 x.client, .int .i64 x.seq, .int .i64 x.op.kind, .int .i64 x.op.a, .int .i64 x.op.b, .int .i64 x.op.c, .int .i64 x.op.d]] W (SlBRes W 3 r2.length (r2.flatMap MarkD.ints, false)) := fun W D k d lo' hi' s => by
            have h7 := marked_any D k d _ _ r2 ⟨e.index + 1, x.time, x.client, x.seq, x.op⟩ W s
            rw [a1] at h7
            exact h7
          have CF3 : ∀ W (D : Option Addr) (k d lo' hi' : Nat), Sl W lo' hi' 3 D k d (r2.flatMap MarkD.ints) → Calls Try.prog 23 #[.slice D k d, .int .i64 x.client, .int .i64 x.seq] W fun y w' => y = .returned (.bool false) ∧ Below W.heap.size W w' := fun W D k d lo' hi' s => by
            have h7 := freshIn_any D k d _ _ r2 x.client x.seq W s
            rw [a2] at h7
            exact h7
          have HM3 := Lib.hid CM3
          have HF3 := Lib.hid CF3
          clear CM3 CF3 a1 a2 hx
          have B6 := Lib.hid (B5.out.trans (hb.mono (by omega)))
          have S6 := Lib.hid (S5.out.below hb (Nat.le_refl _))
          have hleq : decide ((kk : Int) ≤ (m : Int)) = true := by simp; omega
          have hi1 : (kk : Int) < (many' : Int) := by omega
          have HB2 := Lib.hid hb
          have hwx : IntKind.i64.wrap (e.index + 1) = e.index + 1 := IntWalk.i64_in _ (by omega)
          have SK : ∀ W, Below wr.heap.size wr W → (W.cell? ⟨g, off + m * 9, none⟩ = some (.int .i64 e.index) ∧ W.cell? ⟨g, off + kk * 9 + 1, none⟩ = some (.int .i64 x.time) ∧ W.cell? ⟨g, off + kk * 9 + 2, none⟩ = some (.int .i64 x.client) ∧ W.cell? ⟨g, off + kk * 9 + 3, none⟩ = some (.int .i64 x.seq) ∧ W.cell? ⟨g, off + kk * 9 + 4, none⟩ = some (.int .i64 x.op.kind) ∧ W.cell? ⟨g, off + kk * 9 + 5, none⟩ = some (.int .i64 x.op.a) ∧ W.cell? ⟨g, off + kk * 9 + 6, none⟩ = some (.int .i64 x.op.b) ∧ W.cell? ⟨g, off + kk * 9 + 7, none⟩ = some (.int .i64 x.op.c) ∧ W.cell? ⟨g, off + kk * 9 + 8, none⟩ = some (.int .i64 x.op.d) ∧ Below wr.heap.size wr W) := fun W hbW => ⟨((B6.out.trans (hbW.mono (by omega))).cell (p := ⟨g, off + m * 9, none⟩) hgw).trans p0, ((B6.out.trans (hbW.mono (by omega))).cell (p := ⟨g, off + kk * 9 + 1, none⟩) hgw).trans p1', ((B6.out.trans (hbW.mono (by omega))).cell (p := ⟨g, off + kk * 9 + 2, none⟩) hgw).trans p2', ((B6.out.trans (hbW.mono (by omega))).cell (p := ⟨g, off + kk * 9 + 3, none⟩) hgw).trans p3', ((B6.out.trans (hbW.mono (by omega))).cell (p := ⟨g, off + kk * 9 + 4, none⟩) hgw).trans p4', ((B6.out.trans (hbW.mono (by omega))).cell (p := ⟨g, off + kk * 9 + 5, none⟩) hgw).trans p5', ((B6.out.trans (hbW.mono (by omega))).cell (p := ⟨g, off + kk * 9 + 6, none⟩) hgw).trans p6', ((B6.out.trans (hbW.mono (by omega))).cell (p := ⟨g, off + kk * 9 + 7, none⟩) hgw).trans p7', ((B6.out.trans (hbW.mono (by omega))).cell (p := ⟨g, off + kk * 9 + 8, none⟩) hgw).trans p8', hbW⟩
          have HSK := Lib.hid SK
          obtain ⟨fx0, fx1, fx2, fx3, fx4, fx5, fx6, fx7, fx8, -⟩ := SK wr (Below.refl _ _)
          clear SK p0' p1' p2' p3' p4' p5' p6' p7' p8' hb
          go_wp2_with fail
          go_region_held3 (fun w' => w'.cell? ⟨g, off + m * 9, none⟩ = some (.int .i64 e.index) ∧ w'.cell? ⟨g, off + kk * 9 + 1, none⟩ = some (.int .i64 x.time) ∧ w'.cell? ⟨g, off + kk * 9 + 2, none⟩ = some (.int .i64 x.client) ∧ w'.cell? ⟨g, off + kk * 9 + 3, none⟩ = some (.int .i64 x.seq) ∧ w'.cell? ⟨g, off + kk * 9 + 4, none⟩ = some (.int .i64 x.op.kind) ∧ w'.cell? ⟨g, off + kk * 9 + 5, none⟩ = some (.int .i64 x.op.a) ∧ w'.cell? ⟨g, off + kk * 9 + 6, none⟩ = some (.int .i64 x.op.b) ∧ w'.cell? ⟨g, off + kk * 9 + 7, none⟩ = some (.int .i64 x.op.c) ∧ w'.cell? ⟨g, off + kk * 9 + 8, none⟩ = some (.int .i64 x.op.d) ∧ Below wr.heap.size wr w')
            (first | (refine HSK.out _ ?_; (repeat' (first | with_reducible exact Below.refl _ _ | with_reducible assumption | with_reducible refine Below.drew ?_ | with_reducible refine Below.alloc ?_ ?_ _ | with_reducible refine Below.setCell ?_ ?_ _ | with_reducible refine Below.trans ?_ (Below.mono (by assumption) ?_) | ((try simp only [World.heap_size_alloc, World.heap_size_drew, World.heap_size_setCell]); omega)))) | (go_split_ands; refine HSK.out _ ?_; (repeat' (first | with_reducible exact Below.refl _ _ | with_reducible assumption | with_reducible refine Below.drew ?_ | with_reducible refine Below.alloc ?_ ?_ _ | with_reducible refine Below.setCell ?_ ?_ _ | with_reducible refine Below.trans ?_ (Below.mono (by assumption) ?_) | ((try simp only [World.heap_size_alloc, World.heap_size_drew, World.heap_size_setCell]); omega)))))
            (first | (go_at_call 28; (with_reducible refine (HM3.out _ _ _ _ _ _ (S6.out.below (B := wr.heap.size) (by (repeat' (first | with_reducible exact Below.refl _ _ | with_reducible assumption | with_reducible refine Below.drew ?_ | with_reducible refine Below.alloc ?_ ?_ _ | with_reducible refine Below.setCell ?_ ?_ _ | with_reducible refine Below.trans ?_ (Below.mono (by assumption) ?_) | ((try simp only [World.heap_size_alloc, World.heap_size_drew, World.heap_size_setCell]); omega)))) hbz2)).mono ?_); rintro _ w7 ⟨A7, c7, rfl, s7, b7⟩; have hb7 : Below wr.heap.size wr w7 := (by (repeat' (first | with_reducible exact Below.refl _ _ | with_reducible assumption | with_reducible refine Below.drew ?_ | with_reducible refine Below.alloc ?_ ?_ _ | with_reducible refine Below.setCell ?_ ?_ _ | with_reducible refine Below.trans ?_ (Below.mono (by assumption) ?_) | ((try simp only [World.heap_size_alloc, World.heap_size_drew, World.heap_size_setCell]); omega)))); have hz7 := hb7.size))
          clear fx0 fx1 fx2 fx3 fx4 fx5 fx6 fx7 fx8
          obtain ⟨fx0, fx1, fx2, fx3, fx4, fx5, fx6, fx7, fx8, -⟩ := HSK.out w7 hb7
          have gx0 := fun d os => cell_regrown fx0 d os
          have gx1 := fun d os => cell_regrown fx1 d os
          have gx2 := fun d os => cell_regrown fx2 d os
          have gx3 := fun d os => cell_regrown fx3 d os
          have gx4 := fun d os => cell_regrown fx4 d os
          have gx5 := fun d os => cell_regrown fx5 d os
          have gx6 := fun d os => cell_regrown fx6 d os
          have gx7 := fun d os => cell_regrown fx7 d os
          have gx8 := fun d os => cell_regrown fx8 d os
          have S7 := Lib.hid (S6.out.below hb7 hbz2)
          have T7 := Lib.hid (s7.mono (lo' := 0) (Nat.zero_le _) (Nat.le_refl _))
          clear s7 b7
          go_wp2
          refine wp_region_quiet_below (by kernel_rfl) (by kernel_rfl) ?_; (repeat (first | go_big_quiet_step ((first | (go_at_call 23; with_reducible exact Calls.regrown_of (HF3.out _ _ _ _ _ _ (S7.out.below (below_regrown _ _ _) (by omega)))) | (go_at_call 15; with_reducible exact Calls.regrown_of (HSS.out _ _ _ _ _ _ _ _ _ _ _ (T7.out.below (below_regrown _ _ _) (Nat.le_refl _)) (S7.out.below (below_regrown _ _ _) (by omega)))))) | quiet_step ((first | (go_at_call 23; with_reducible exact Calls.regrown_of (HF3.out _ _ _ _ _ _ (S7.out.below (below_regrown _ _ _) (by omega)))) | (go_at_call 15; with_reducible exact Calls.regrown_of (HSS.out _ _ _ _ _ _ _ _ _ _ _ (T7.out.below (below_regrown _ _ _) (Nat.le_refl _)) (S7.out.below (below_regrown _ _ _) (by omega)))))))); refine wpQuiet_nil ?_; intro _ hw'; obtain ⟨⟨nq, osq⟩, hw''⟩ := hw'; subst hw''; have hq := below_regrown w7 nq osq; generalize Sort.grow (redrawn w7 nq) osq = w8 at *
          have hbw : Below w5.heap.size w5 w8 := HB2.out.trans ((hb7.trans (hq.mono hz7)).mono hbz2)
          go_wp2
          go_roundw
          case rel => exact ⟨kk + 1, by omega, by go_num, hbw⟩
          case measure => simp [intOf]; omega
        · have hkm : kk = m + 1 := by omega
          subst hkm
          have hleq : decide (((m + 1 : Nat) : Int) ≤ (m : Int)) = false := by simp; omega
          have B6 := Lib.hid (B5.out.trans (hb.mono (by omega)))
          have S6 := Lib.hid (S5.out.below hb (Nat.le_refl _))
          have hwx : IntKind.i64.wrap (e.seq + 1) = e.seq + 1 := IntWalk.i64_in _ (by omega)
          have hbw := B6.out
          have rc0 := (hbw.cell (p := ⟨g, off + m * 9, none⟩) hgw).trans p0
          have frc0 := fun d os => cell_regrown rc0 d os
          have rc1 := (hbw.cell (p := ⟨g, off + m * 9 + 1, none⟩) hgw).trans p1
          have frc1 := fun d os => cell_regrown rc1 d os
          have rc2 := (hbw.cell (p := ⟨g, off + m * 9 + 2, none⟩) hgw).trans p2
          have frc2 := fun d os => cell_regrown rc2 d os
          have rc3 := (hbw.cell (p := ⟨g, off + m * 9 + 3, none⟩) hgw).trans p3
          have frc3 := fun d os => cell_regrown rc3 d os
          have rc4 := (hbw.cell (p := ⟨g, off + m * 9 + 4, none⟩) hgw).trans p4
          have frc4 := fun d os => cell_regrown rc4 d os
          have rc5 := (hbw.cell (p := ⟨g, off + m * 9 + 5, none⟩) hgw).trans p5
          have frc5 := fun d os => cell_regrown rc5 d os
          have rc6 := (hbw.cell (p := ⟨g, off + m * 9 + 6, none⟩) hgw).trans p6
          have frc6 := fun d os => cell_regrown rc6 d os
          have rc7 := (hbw.cell (p := ⟨g, off + m * 9 + 7, none⟩) hgw).trans p7
          have frc7 := fun d os => cell_regrown rc7 d os
          have rc8 := (hbw.cell (p := ⟨g, off + m * 9 + 8, none⟩) hgw).trans p8
          have frc8 := fun d os => cell_regrown rc8 d os
          clear hb hbw
          go_wp2
          refine wp_region_quiet_below (by kernel_rfl) (by kernel_rfl) ?_; (repeat (first | go_big_quiet_step ((first | (go_at_call 23; with_reducible exact Calls.regrown_of (HF2.out _ _ _ _ _ _ (S6.out.below (below_regrown _ _ _) hbz2))))) | quiet_step ((first | (go_at_call 23; with_reducible exact Calls.regrown_of (HF2.out _ _ _ _ _ _ (S6.out.below (below_regrown _ _ _) hbz2))))))); refine wpQuiet_nil ?_; intro _ hw'; obtain ⟨⟨nq, osq⟩, hw''⟩ := hw'; subst hw''; have hq := below_regrown wr nq osq; generalize Sort.grow (redrawn wr nq) osq = w6 at *
          have hz6 := hq.size
          have B7 := B6.out.trans (hq.mono (by omega))
          have S8 := (S6.out.below hq hbz2).mono (Nat.zero_le _) (show w5.heap.size ≤ w6.heap.size by omega)
          go_wp2
          go_roundw
          case rel => exact ⟨m + 1, _, _, r2, _, hlt, rfl, by go_num, rfl, HK2, Lib.hid S8, B7⟩
          case measure => simp [intOf]; omega
    · have HB9 := Lib.hid (HB.out.trans (hb.mono HB.out.size))
      clear hb
      go_wp2
      go_ret
      exact ⟨rfl, HB9.out⟩
theorem own : ownKnob Try.prog.godebug = none := by kernel_rfl
theorem laidOut : laidOutB Try.prog = true := by kernel_rfl
set_option maxRecDepth 100000 in
theorem lifted (os : Os) (started : os.Started) (H : Type) (enc : TypeId × Value → H) :
    ReturnsInHanded {} Try.checked os 10 .any (Rows.fnFreshSpec.pre6 enc Try.prog Try.f10 Rows.fnFreshRow.domain false) (Rows.fnFreshSpec.post enc Try.prog Try.f10 false true false false) := by
  refine returnsInHanded_of_change (C := Try.checked) own started (by kernel_rfl) Try.func10
    (ChangeSpec.witness6 (enc := enc) (C := Try.checked) false ⟨#[], #[.slice none 0 0], []⟩ 8 (by kernel_rfl) (by kernel_rfl) (by kernel_rfl) (by kernel_rfl)) ?_
  intro W base args ds gs before hval0 hW hcnd _
  have hval : ∀ (j : Nat) t v, Try.f10.params[j]? = some t → args[j]? = some v → Value.okWide Try.prog W .any base t v := hval0
  have hW' := hW
  obtain ⟨p, q, hA0, hV, rfl, hfz, hnd⟩ := hW
  have hA : DataW.TrodAll enc Try.prog W 0 (fun _ => true) true Try.f10.params.toList args.toList ds p := hA0
  rw [Try.params10] at hA hval
  obtain ⟨v0, d0, rfl, rfl, h0⟩ := trodAll_one hA
  obtain ⟨rfl, rfl⟩ := trodVars_none hV
  obtain ⟨A0, n0, c0, rfl, hz0⟩ := open_bytes Try.underlying58 Try.underlying5 (by kernel_rfl) (hval 0 58 v0 rfl rfl) h0
  clear hA0 hval0
  refine (law_any A0 n0 c0 W hz0).mono fun e W' ⟨he, hb⟩ => ?_
  subst he
  exact ⟨_, rfl, law_post laidOut (by kernel_rfl) rfl Try.underlying4 rfl hW' hb rfl rfl rfl⟩
theorem holds : Rows.FnFreshSaid :=
  OpenClaim.holds_of_wide 10 Try.f10 rfl rfl rfl rfl rfl rfl rfl ⟨rfl, rfl, rfl, rfl, rfl⟩ rfl rfl rfl rfl rfl (by kernel_rfl) Try.func10 (by kernel_rfl)
    (of_decide_eq_true (by kernel_rfl)) (by unfold Func.isWrapper; first | (rw [if_pos (by decide +kernel)]; kernel_rfl) | (rw [if_neg (by decide +kernel)]; exact ⟨rfl, rfl⟩))
    (fun os started H enc _ => lifted os started H enc)
#print axioms holds
end Fresh
end Go.Proofs.Ythdhhdjcnhacfaa
