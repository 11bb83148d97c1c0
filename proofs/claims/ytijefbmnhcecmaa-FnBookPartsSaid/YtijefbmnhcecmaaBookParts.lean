/- The law FnBookParts returns true for every input. No conditions. -/
import Derived.Test.YtijefbmnhcecmaaBp
import Derived.Test.YtijefbmnhcecmaaPart2
import Derived.Test.YtijefbmnhcecmaaBk8
import Derived.Test.YtijefbmnhcecmaaBk14
import Derived.Test.YtijefbmnhcecmaaRec3
import Derived.Deep.RegionLaw
set_option linter.unusedSimpArgs false
set_option linter.unusedVariables false
namespace Go.Proofs.Ytijefbmnhcecmaa
open Go.ChangeShapes Go.WideShapes Go.ChangeAt Go.RowKit
namespace BookParts
set_option maxRecDepth 100000 in
set_option maxHeartbeats 16000000 in
theorem law_any (A : Option Addr) (n c : Nat) (w : World) (h : ArgB w A n c) : Calls Try.prog 15 #[.slice A n c] w fun e w' => e = .returned (.bool true) ∧ Below w.heap.size w w' := by
  rcases Nat.lt_or_ge 4096 n with hn0 | hn0
  · have hbg : decide (4096 < n) = true := by simpa using hn0
    clear h
    go_enter Try.func15, Try.ntmps15
    go_wp2_with fail
    (with_reducible refine (big_any _ _ _ _).mono ?_); rintro _ _ ⟨rfl, rfl⟩
    rw [hbg]
    go_wp2_with fail
    go_ret
    exact ⟨rfl, Below.refl _ _⟩
  have hc := h.code hn0
  have hbg : decide (4096 < n) = false := by simp; omega
  clear h
  go_enter Try.func15, Try.ntmps15
  go_wp2_with fail
  (with_reducible refine (big_any _ _ _ _).mono ?_); rintro _ _ ⟨rfl, rfl⟩
  rw [hbg]
  go_wp2_with fail
  (with_reducible refine (roll_any _ _ _ _ 909 _ hc (Nat.le_refl _) (by omega) (by omega)).mono ?_); rintro _ w1 ⟨rfl, z1, d1, b1⟩
  have d1' : DiceAt (w1.alloc (.cells #[] 37)) w.heap.size w.heap.size A n c := d1.below (B := w1.heap.size) (by (repeat' (first | with_reducible exact Below.refl _ _ | with_reducible assumption | with_reducible refine Below.drew ?_ | with_reducible refine Below.alloc ?_ ?_ _ | with_reducible refine Below.setCell ?_ ?_ _ | with_reducible refine Below.trans ?_ (Below.mono (by assumption) ?_) | ((try simp only [World.heap_size_alloc, World.heap_size_drew, World.heap_size_setCell]); omega)))) z1
  go_wp2_with fail
  (with_reducible refine (below_any _ _ _ _ _ 16 _ (by omega) (by omega) d1').mono ?_); rintro _ w2 ⟨x, rfl, x0, x1, d2, u2⟩
  obtain ⟨many, rfl⟩ := Int.eq_ofNat_of_zero_le x0
  have y2 := u2.size
  simp only [World.heap_size_alloc] at y2
  go_wp2_with fail
  (with_reducible refine (w9List_any A n c _ _ _ 0 0 0 0 [] many _ d2 (Sl.nil _ _ _ _ _ _ (by omega)) (fun e he => absurd he (by simp)) (by omega)).mono ?_); rintro _ w3 ⟨ds, B, q, hds, hdr, rfl, s3, d3, u3⟩
  have y3 := u3.size
  have e0 : stA [] = st0 := rfl
  rw [e0] at s3
  have hll := genE_len ds st0
  have hbk := gen0_book hdr (by omega)
  generalize genE st0 ds = l at s3 hll hbk
  have hlm : l.length = many := by omega
  have hb3 : Below w.heap.size w w3 := by
    have h1 : Below w.heap.size w (w1.alloc (.cells #[] 37)) := by (repeat' (first | with_reducible exact Below.refl _ _ | with_reducible assumption | with_reducible refine Below.drew ?_ | with_reducible refine Below.alloc ?_ ?_ _ | with_reducible refine Below.setCell ?_ ?_ _ | with_reducible refine Below.trans ?_ (Below.mono (by assumption) ?_) | ((try simp only [World.heap_size_alloc, World.heap_size_drew, World.heap_size_setCell]); omega)))
    have h2 : Below w.heap.size (w1.alloc (.cells #[] 37)) w2 := u2.below (Nat.le_refl _) (by (try simp only [World.heap_size_alloc, World.heap_size_drew, World.heap_size_setCell]); omega)
    exact (h1.trans h2).trans (u3.below (Nat.le_refl _) (by omega))
  have hmt : many ≤ 15 := by omega
  clear hll hdr hds d1 d1' d2 u2 u3 e0
  go_wp2_with fail
  (with_reducible refine (below_any _ _ _ _ _ ((many : Int) + 1) _ (by omega) (by omega) d3).mono ?_); rintro _ w4 ⟨x, rfl, k0, k1, d4, u4⟩
  obtain ⟨k, rfl⟩ := Int.eq_ofNat_of_zero_le k0
  have y4 := u4.size
  have hkm : k ≤ many := by omega
  have hb4 : Below w.heap.size w w4 := hb3.trans (u4.below (Nat.le_refl _) (by omega))
  have s4 := (s3.upd u4 (.inr (by omega))).fit (by omega)
  have hhi : min w3.heap.size w4.heap.size ≤ w4.heap.size := Nat.min_le_right _ _
  generalize min w3.heap.size w4.heap.size = hi at s4 hhi
  have hcap := s4.cap
  have hbig := s4.big
  have hqm := hcap
  obtain ⟨B2, hrun, hsl⟩ := tail_at B many q k hkm
  have hfr : ∀ W, (Instr.sliceAt 27 (.slice B many q) none (some (.int .i64 (k : Int))) none).run Try.prog W = .ok (.slice B k q) W := fun W => run_front B many q k (by omega) W
  have hlk : (l.take k).length = k := by rw [List.length_take]; omega
  have hkb : bookOk 0 0 (l.take k) = true := bookOk_prefix (es := l.drop k) (by rw [List.take_append_drop]; exact hbk)
  have e1 : grownM 0 0 [] l = (0, 0, l, true) := grownM_of_ok (k := []) hbk
  have e2 : grownM 0 0 [] (l.take k) = (0, 0, l.take k, true) := grownM_of_ok (k := []) hkb
  have e3 : grownM 0 0 (l.take k) (l.drop k) = (0, 0, l, true) := by
    have h7 := grownM_of_ok (b := 0) (t := 0) (k := l.take k) (es := l.drop k) (by rw [List.take_append_drop]; exact hbk)
    rwa [List.take_append_drop] at h7
  have CG : ∀ W, Below w4.heap.size w4 W → Calls Try.prog 47 #[.agg #[.int .i64 0, .int .i64 0, .slice none 0 0], .slice B many q] W (BookBRes W 0 0 many (l.flatMap EntryD.ints) true) := fun W hW => by
    have h7 := grown_any 0 0 none 0 0 0 0 [] B many q _ _ l W (Sl.nil _ _ _ _ _ _ (by omega)) (s4.below hW hhi)
    rw [e1, hlm] at h7
    exact h7
  have CF : ∀ W, Below w4.heap.size w4 W → Calls Try.prog 47 #[.agg #[.int .i64 0, .int .i64 0, .slice none 0 0], .slice B k q] W (BookBRes W 0 0 k ((l.take k).flatMap EntryD.ints) true) := fun W hW => by
    have h7 := grown_any 0 0 none 0 0 0 0 [] B k q _ _ (l.take k) W (Sl.nil _ _ _ _ _ _ (by omega)) ((s4.below hW hhi).cutFront EntryD.ints_len hkm)
    rw [e2, hlk] at h7
    exact h7
  have CG2 : ∀ W (D : Option Addr) (d lo' hi' : Nat), Below w4.heap.size w4 W → Sl W lo' hi' 9 D k d ((l.take k).flatMap EntryD.ints) → Calls Try.prog 47 #[.agg #[.int .i64 0, .int .i64 0, .slice D k d], .slice B2 (many - k) (q - k)] W (BookBRes W 0 0 many (l.flatMap EntryD.ints) true) := fun W D d lo' hi' hW hs => by
    have h7 := grown_any 0 0 D k d _ _ (l.take k) B2 (many - k) (q - k) _ _ (l.drop k) W hs (hsl _ _ _ _ (s4.below hW hhi))
    rw [e3, hlm] at h7
    exact h7
  have CS : ∀ W (D D' : Option Addr) (d d' lo' hi' lo2 hi2 : Nat), Sl W lo' hi' 9 D many d (l.flatMap EntryD.ints) → Sl W lo2 hi2 9 D' many d' (l.flatMap EntryD.ints) → Calls Try.prog 19 #[.agg #[.int .i64 0, .int .i64 0, .slice D many d], .agg #[.int .i64 0, .int .i64 0, .slice D' many d']] W (BoolRes W true) := fun W D D' d d' lo' hi' lo2 hi2 hs hs' => by
    have h7 := sameBook_any 0 0 D many d _ _ l 0 0 D' many d' _ _ l W hs hs'
    rw [show sameBook 0 0 l 0 0 l = true by simp [sameBook, sameEnts]] at h7
    exact h7
  have CL : ∀ W (D : Option Addr) (d lo' hi' : Nat), Sl W lo' hi' 9 D many d (l.flatMap EntryD.ints) → Calls Try.prog 27 #[.agg #[.int .i64 0, .int .i64 0, .slice D many d]] W fun e w' => e = .returned (.int .i64 (many : Int)) ∧ Below W.heap.size W w' := fun W D d lo' hi' hs => by
    have h7 := lastOfM_any 0 0 D many d _ _ l W hs
    rw [show lastOfM 0 0 l = (many : Int) by rw [lastOfM, if_pos hbk, hlm]; omega] at h7
    exact h7
  have CK : ∀ W (D : Option Addr) (d lo' hi' : Nat), Sl W lo' hi' 9 D many d (l.flatMap EntryD.ints) → Calls Try.prog 22 #[.agg #[.int .i64 0, .int .i64 0, .slice D many d]] W (BoolRes W true) := fun W D d lo' hi' hs => by
    have h7 := bookOk_any 0 0 D many d _ _ l W hs
    rw [hbk] at h7
    exact h7
  have CT : ∀ W (D : Option Addr) (d lo' hi' : Nat) (x : Int), timeOfM 0 0 l = x → Sl W lo' hi' 9 D many d (l.flatMap EntryD.ints) → Calls Try.prog 29 #[.agg #[.int .i64 0, .int .i64 0, .slice D many d]] W fun e w' => e = .returned (.int .i64 x) ∧ Below W.heap.size W w' := fun W D d lo' hi' x hx hs => by
    have h7 := timeOf_any 0 0 D many d _ _ l W hs
    rw [hx] at h7
    exact h7
  have CE : ∀ W (D : Option Addr) (d lo' hi' j : Nat) (r : EntryD × Bool), entryAtM 0 0 l (j : Int) = r → Sl W lo' hi' 9 D many d (l.flatMap EntryD.ints) → Calls Try.prog 24 #[.agg #[.int .i64 0, .int .i64 0, .slice D many d], .int .i64 (j : Int)] W (EntryVBRes W r) := fun W D d lo' hi' j r hr hs => by
    have h7 := entryAt_any 0 0 D many d _ _ l (j : Int) W hs
    rw [hr] at h7
    exact h7
  have CP : ∀ W (D : Option Addr) (d lo' hi' f s tq : Nat), f ≤ many → tq = min (f + s) many → Sl W lo' hi' 9 D many d (l.flatMap EntryD.ints) → Calls Try.prog 31 #[.agg #[.int .i64 0, .int .i64 0, .slice D many d], .int .i64 (1 + (f : Int)), .int .i64 (s : Int)] W (SlRes W 9 (tq - f) (((l.drop f).take (tq - f)).flatMap EntryD.ints)) := fun W D d lo' hi' f s tq hf ht hs => by
    have h7 := partOf_any 0 0 D many d _ _ l ((f : Int) + 1) (s : Int) W hs
    rw [partOf_book hbk (by omega) (show tq = min (f + s) l.length by omega), show ((l.drop f).take (tq - f)).length = tq - f by rw [List.length_take, List.length_drop]; omega] at h7
    rw [show 1 + (f : Int) = (f : Int) + 1 by omega]
    exact h7
  have hin : ∀ (j : Nat) (e : EntryD), l[j]? = some e → entryAtM 0 0 l ((j + 1 : Nat) : Int) = (e, true) := fun j e he => entryAt_in hbk he (by omega)
  have hout : ∀ j : Nat, (j = 0 ∨ many < j) → entryAtM 0 0 l (j : Int) = (zeroEntry, false) := fun j hj => entryAt_out (by rcases hj with h | h; exact .inl (by omega); exact .inr (by omega))
  have htim : ∀ (j : Nat) (e : EntryD), many = j + 1 → l[j]? = some e → timeOfM 0 0 l = e.time := fun j e hj he => by rw [timeOfM, if_pos hbk, lastTime_at (by rw [hlm, show many - 1 = j by omega]; exact he)]
  have HG := Lib.hid CG
  have HF := Lib.hid CF
  have HG2 := Lib.hid CG2
  have HS := Lib.hid CS
  have HL := Lib.hid CL
  have HK := Lib.hid CK
  have HT := Lib.hid CT
  have HE := Lib.hid CE
  have HP := Lib.hid CP
  have HIN := Lib.hid hin
  have HOUT := Lib.hid hout
  have HTIM := Lib.hid htim
  have HS4 := Lib.hid s4
  have HB4 := Lib.hid hb4
  have HD4 := Lib.hid d4
  have hgw : w.heap.size < w4.heap.size := by omega
  clear CG CF CG2 CS CL CK CT CE CP e1 e2 e3 hkb hlk hbk hlm s3 s4 d3 d4 u4 hb3 hb4 hsl hcap hbig k0 k1 x0 x1 hkm hin hout htim
  go_wp2_with fail
  (with_reducible refine (HG.out _ (Below.refl _ _)).mono ?_); rintro _ w5 ⟨A5, c5, rfl, s5, b5⟩
  have y5 := b5.size
  have V5 : Below w5.heap.size w5 (w5.alloc (.cells #[.int .i64 0, .int .i64 0, .slice A5 many c5] 29)) := by (repeat' (first | with_reducible exact Below.refl _ _ | with_reducible assumption | with_reducible refine Below.drew ?_ | with_reducible refine Below.alloc ?_ ?_ _ | with_reducible refine Below.setCell ?_ ?_ _ | with_reducible refine Below.trans ?_ (Below.mono (by assumption) ?_) | ((try simp only [World.heap_size_alloc, World.heap_size_drew, World.heap_size_setCell]); omega)))
  have r5 := Rec3.new w5 (.int .i64 0) (.int .i64 0) (.slice A5 many c5) 29
  have t5 := s5.below V5 (Nat.le_refl _)
  have h5 : Below w4.heap.size w4 (w5.alloc (.cells #[.int .i64 0, .int .i64 0, .slice A5 many c5] 29)) := b5.trans (V5.mono (by omega))
  go_wp2_with fail
  (with_reducible refine (HF.out _ h5).mono ?_); rintro _ w6 ⟨A6, c6, rfl, s6, b6⟩
  have y6 := b6.size
  simp only [World.heap_size_alloc] at y6
  obtain ⟨W6, hW6⟩ : ∃ W6, W6 = (w6.alloc (.cells #[.int .i64 0, .int .i64 0, .slice A6 k c6] 29)) := ⟨_, rfl⟩
  have V6 : Below w6.heap.size w6 W6 := by rw [hW6]; (repeat' (first | with_reducible exact Below.refl _ _ | with_reducible assumption | with_reducible refine Below.drew ?_ | with_reducible refine Below.alloc ?_ ?_ _ | with_reducible refine Below.setCell ?_ ?_ _ | with_reducible refine Below.trans ?_ (Below.mono (by assumption) ?_) | ((try simp only [World.heap_size_alloc, World.heap_size_drew, World.heap_size_setCell]); omega)))
  have hz6 : W6.heap.size = w6.heap.size + 1 := by rw [hW6]; simp
  have r6 := Lib.hid ((r5.below b6 (by (try simp only [World.heap_size_alloc, World.heap_size_drew, World.heap_size_setCell]); omega)).below V6 (by omega))
  have q6 : Rec3 W6 w6.heap.size (.int .i64 0) (.int .i64 0) (.slice A6 k c6) := by rw [hW6]; exact Rec3.new _ _ _ _ _
  have t6 := Lib.hid ((t5.below b6 (by (try simp only [World.heap_size_alloc, World.heap_size_drew, World.heap_size_setCell]); omega)).below V6 (by omega))
  have p6 := Lib.hid ((s6.below V6 (Nat.le_refl _)).mono (Nat.le_refl _) (show w6.heap.size ≤ W6.heap.size by omega))
  have z6 := Lib.hid (h5.trans ((b6.mono (by (try simp only [World.heap_size_alloc, World.heap_size_drew, World.heap_size_setCell]); omega)).trans (V6.mono (by omega))))
  have Q6 := Lib.hid q6
  have hq6 := q6.lt
  obtain ⟨cx0, cx1, cx2, fx0, fx1, fx2⟩ := id q6
  clear s5 s6 V5 V6 b5 b6 r5 t5 h5 q6
  go_upto_region 9 with fail
  rw [← hW6]
  clear hW6
  go_cut [11] (fun s11 wx => ∃ (A7 : Option Addr) (c7 lo7 hi7 : Nat), s11 = .bool true ∧ Rec3 wx w6.heap.size (.int .i64 0) (.int .i64 0) (.slice A7 many c7) ∧ Sl wx lo7 hi7 9 A7 many c7 (l.flatMap EntryD.ints) ∧ hi7 ≤ wx.heap.size ∧ Upd w6.heap.size (w6.heap.size + 1) W6 wx)
  case first =>
    have SK : ∀ W, Below W6.heap.size W6 W → (W.cell? ⟨w6.heap.size, 0, none⟩ = some (.int .i64 0) ∧ W.cell? ⟨w6.heap.size, 1, none⟩ = some (.int .i64 0) ∧ W.cell? ⟨w6.heap.size, 2, none⟩ = some (.slice A6 k c6) ∧ Below W6.heap.size W6 W) := fun W hb => ⟨(hb.cell (p := ⟨w6.heap.size, 0, none⟩) hq6).trans cx0, (hb.cell (p := ⟨w6.heap.size, 1, none⟩) hq6).trans cx1, (hb.cell (p := ⟨w6.heap.size, 2, none⟩) hq6).trans cx2, hb⟩
    have HSK := Lib.hid SK
    clear SK cx0 cx1 cx2 fx0 fx1 fx2
    obtain ⟨cx0, cx1, cx2, fx0, fx1, fx2⟩ := id Q6.out
    clear HSK
    go_region_law (first | (go_simp; go_at_call 47; (with_reducible refine (HG2.out _ _ _ _ _ (z6.out.trans (Below.mono (B := W6.heap.size) (by (repeat' (first | with_reducible exact Below.refl _ _ | with_reducible assumption | with_reducible refine Below.drew ?_ | with_reducible refine Below.alloc ?_ ?_ _ | with_reducible refine Below.setCell ?_ ?_ _ | with_reducible refine Below.trans ?_ (Below.mono (by assumption) ?_) | ((try simp only [World.heap_size_alloc, World.heap_size_drew, World.heap_size_setCell]); omega)))) z6.out.size)) (p6.out.below (B := W6.heap.size) (by (repeat' (first | with_reducible exact Below.refl _ _ | with_reducible assumption | with_reducible refine Below.drew ?_ | with_reducible refine Below.alloc ?_ ?_ _ | with_reducible refine Below.setCell ?_ ?_ _ | with_reducible refine Below.trans ?_ (Below.mono (by assumption) ?_) | ((try simp only [World.heap_size_alloc, World.heap_size_drew, World.heap_size_setCell]); omega)))) (Nat.le_refl _))).mono ?_); rintro _ w7 ⟨A7, c7, rfl, s7, b7⟩; have hb7 : Below W6.heap.size W6 w7 := (by (repeat' (first | with_reducible exact Below.refl _ _ | with_reducible assumption | with_reducible refine Below.drew ?_ | with_reducible refine Below.alloc ?_ ?_ _ | with_reducible refine Below.setCell ?_ ?_ _ | with_reducible refine Below.trans ?_ (Below.mono (by assumption) ?_) | ((try simp only [World.heap_size_alloc, World.heap_size_drew, World.heap_size_setCell]); omega)))); have y7 := b7.size; (try simp only [World.heap_size_drew] at y7); have k7 := Q6.out.below hb7 hq6; have K7 := Lib.hid k7; have S7 := Lib.hid s7; have HB7 := Lib.hid hb7; clear cx0 cx1 cx2 fx0 fx1 fx2 b7 s7 hb7; obtain ⟨ka, kb, kc, kd, ke, kf⟩ := id k7; clear k7))
    all_goals
      go_wp2_with fail
      go_meet
      exact ⟨A7, c7, W6.heap.size, w7.heap.size, rfl, Rec3.set K7.out _ _ _, (S7.out.mono (Nat.le_refl _) (Nat.le_refl _)).upd (lo' := w6.heap.size) (hi' := w6.heap.size + 1) ((((Upd.refl _ _ _).setCell (p := ⟨w6.heap.size, 0, none⟩) (Nat.le_refl _) (Nat.lt_succ_self _) _).setCell (p := ⟨w6.heap.size, 1, none⟩) (Nat.le_refl _) (Nat.lt_succ_self _) _).setCell (p := ⟨w6.heap.size, 2, none⟩) (Nat.le_refl _) (Nat.lt_succ_self _) _) (.inr (by omega)), by simp, (Upd.of_below HB7.out).trans ((((Upd.refl _ _ _).setCell (p := ⟨w6.heap.size, 0, none⟩) (Nat.le_refl _) (Nat.lt_succ_self _) _).setCell (p := ⟨w6.heap.size, 1, none⟩) (Nat.le_refl _) (Nat.lt_succ_self _) _).setCell (p := ⟨w6.heap.size, 2, none⟩) (Nat.le_refl _) (Nat.lt_succ_self _) _)⟩
  case rest =>
    obtain ⟨wd, rfl⟩ : ∃ x, x = wc := ⟨wc, rfl⟩
    obtain ⟨A7, c7, lo7, hi7, rfl, r7, s7, hh7, u7⟩ := hcut
    have y7 := u7.size
    have hr7 := r7.lt
    clear cx0 cx1 cx2 fx0 fx1 fx2
    have R7 := Lib.hid (r6.out.upd u7 (.inl (by omega)))
    have T7 := Lib.hid (t6.out.upd u7 (.inl (by omega)))
    have S7 := Lib.hid s7
    have L7 := Lib.hid ((HS4.out.below z6.out hhi).upd u7 (.inl (by omega)))
    have z6s := z6.out.size
    have D7 := Lib.hid (((HD4.out.below z6.out hgw).upd u7 (.inl (by omega))))
    have Z7 := Lib.hid (HB4.out.trans ((z6.out.trans (u7.below (B := w4.heap.size) (by omega) (by omega))).mono HB4.out.size))
    have hr5 := R7.out.lt
    have hw5 : w5.heap.size ≤ wd.heap.size := by omega
    obtain ⟨a0, a1, a2, -, -, -⟩ := id R7.out
    obtain ⟨d0, d1, d2, -, -, -⟩ := id r7
    clear s7 u7 r7
    go_wp2_with fail
    (with_reducible refine (HS.out _ _ _ _ _ _ _ _ _ T7.out S7.out).mono ?_); rintro _ w8 ⟨rfl, b8⟩
    have y8 := b8.size
    clear a0 a1 a2 d0 d1 d2
    obtain ⟨a0, a1, a2, -, -, -⟩ := R7.out.below b8 hr5
    have T8 := Lib.hid (T7.out.below b8 hw5)
    go_wp2_with fail
    (with_reducible refine (HL.out _ _ _ _ _ T8.out).mono ?_); rintro _ w9 ⟨rfl, b9⟩
    have y9 := b9.size
    have hb9 : Below wd.heap.size wd w9 := b8.trans (b9.mono y8)
    clear a0 a1 a2
    obtain ⟨a0, a1, a2, -, -, -⟩ := R7.out.below hb9 hr5
    have T9 := Lib.hid (T7.out.below hb9 hw5)
    go_wp2_with fail
    (with_reducible refine (HK.out _ _ _ _ _ T9.out).mono ?_); rintro _ w10 ⟨rfl, b10⟩
    have y10 := b10.size
    have hb10 : Below wd.heap.size wd w10 := hb9.trans (b10.mono (by omega))
    clear a0 a1 a2
    have R10 := Lib.hid (R7.out.below hb10 hr5)
    have T10 := Lib.hid (T7.out.below hb10 hw5)
    have L10 := Lib.hid (L7.out.below hb10 (by omega))
    have D10 := Lib.hid (D7.out.below hb10 (by omega))
    have Z10 := Lib.hid (Z7.out.trans (hb10.mono Z7.out.size))
    have hrx := R10.out.lt
    clear b8 b9 b10 hb9 hb10
    obtain ⟨a0, a1, a2, -, -, -⟩ := id R10.out
    go_upto_region 12 with fail
    go_cut [94] (fun s94 wx => s94 = .bool false ∧ Below w10.heap.size w10 wx)
    case first =>
      have fa0 := fun d os => cell_regrown a0 d os
      have fa1 := fun d os => cell_regrown a1 d os
      have fa2 := fun d os => cell_regrown a2 d os
      by_cases hm0 : many = 0
      · have hm1 : decide ((0 : Int) < (many : Int)) = false := by simp; omega
        have hm2 : ¬ 0 < many := by omega
        clear hm0
        refine wp_region_quiet_below (by kernel_rfl) (by kernel_rfl) ?_; (repeat (first | go_big_quiet_step (fail) | quiet_step (fail))); refine wpQuiet_nil ?_; intro _ hw'; obtain ⟨⟨nq, osq⟩, hw''⟩ := hw'; subst hw''; have hq := below_regrown w10 nq osq; generalize Sort.grow (redrawn w10 nq) osq = w11 at *
        go_wp2_with fail
        go_meet
        exact ⟨rfl, hq⟩
      · obtain ⟨mj, hmj⟩ : ∃ mj, many = mj + 1 := ⟨many - 1, by omega⟩
        have hm1 : decide ((0 : Int) < (many : Int)) = true := by simp; omega
        have hm2 : 0 < many := by omega
        obtain ⟨g, off, e, rfl, _, hg, he, _, p1, _⟩ := L10.out.entry (show mj < many by omega)
        have htime := HTIM.out mj e hmj he
        have HTM := Lib.hid htime
        have hi3 : IntKind.i64.wrap ((many : Int) - 1) = (mj : Int) := by rw [IntWalk.i64_in _ (by omega)]; omega
        have hi4 : (mj : Int) < (many : Int) := by omega
        have hi5 : mj < many := by omega
        have fp1 := fun d os => cell_regrown p1 d os
        clear hm0 hmj he htime
        refine wp_region_quiet_below (by kernel_rfl) (by kernel_rfl) ?_; (repeat (first | go_big_quiet_step ((go_at_call 29; with_reducible exact Calls.regrown_of (HT.out _ _ _ _ _ _ HTM.out (T10.out.below (below_regrown _ _ _) (by omega))))) | quiet_step ((go_at_call 29; with_reducible exact Calls.regrown_of (HT.out _ _ _ _ _ _ HTM.out (T10.out.below (below_regrown _ _ _) (by omega))))))); refine wpQuiet_nil ?_; intro _ hw'; obtain ⟨⟨nq, osq⟩, hw''⟩ := hw'; subst hw''; have hq := below_regrown w10 nq osq; generalize Sort.grow (redrawn w10 nq) osq = w11 at *
        go_wp2_with fail
        go_meet
        exact ⟨rfl, hq⟩
    case rest =>
      obtain ⟨we, rfl⟩ : ∃ x, x = wc := ⟨wc, rfl⟩
      obtain ⟨rfl, b11⟩ := hcut
      have y11 := b11.size
      have R11 := Lib.hid (R10.out.below b11 hrx)
      have T11 := Lib.hid (T10.out.below b11 (by omega))
      have L11 := Lib.hid (L10.out.below b11 (by omega))
      have D11 := Lib.hid (D10.out.below b11 (by omega))
      have Z11 := Lib.hid (Z10.out.trans (b11.mono Z10.out.size))
      have hre := R11.out.lt
      have hw5e : w5.heap.size ≤ we.heap.size := by omega
      have hhe : hi ≤ we.heap.size := by omega
      clear a0 a1 a2 b11
      have hmw : IntKind.i64.wrap ((many : Int) + 1) = (many : Int) + 1 := IntWalk.i64_in _ (by omega)
      go_wp2_with fail
      go_loopw [12, 13, 14] (fun i _ _ wr => ∃ j : Nat, j ≤ many + 2 ∧ i = .int .i64 (j : Int) ∧ Below we.heap.size we wr) (fun i _ _ _ => many + 2 - (intOf i).toNat)
      case atStart => exact ⟨0, by omega, rfl, Below.refl _ _⟩
      case round =>
        obtain ⟨j, hj, rfl, hb⟩ := hrel
        have hbz := hb.size
        obtain ⟨v0, v1, v2, -, -, -⟩ := R11.out.below hb hre
        by_cases hlt : j < many + 2
        · have hle : decide ((j : Int) ≤ (many : Int) + 1) = true := by simp; omega
          have T12 := Lib.hid (T11.out.below hb hw5e)
          by_cases hin : 1 ≤ j ∧ j ≤ many
          · obtain ⟨h1j, hjm⟩ := hin
            obtain ⟨jj, hjj⟩ : ∃ jj, j = jj + 1 := ⟨j - 1, by omega⟩
            obtain ⟨g, off, e, rfl, _, hg, he, p0, p1, p2, p3, p4, p5, p6, p7, p8⟩ := L11.out.entry (show jj < many by omega)
            have hex : entryAtM 0 0 l (j : Int) = (e, true) := by rw [hjj]; exact HIN.out jj e he
            have h0j : 0 < j := h1j
            have hd1 : decide ((1 : Int) ≤ (j : Int)) = true := by simp; omega
            have hd2 : decide ((j : Int) ≤ (many : Int)) = true := by simp; omega
            have hi3 : IntKind.i64.wrap ((j : Int) - 1) = (jj : Int) := by rw [IntWalk.i64_in _ (by omega)]; omega
            have hi4 : (jj : Int) < (many : Int) := by omega
            have hi5 : jj < many := by omega
            have HEX := Lib.hid hex
            have HB := Lib.hid hb
            clear he hb hex hjj
            go_wp2_with fail
            (with_reducible refine (HE.out _ _ _ _ _ j _ HEX.out T12.out).mono ?_); rintro _ w12 ⟨rfl, b12⟩
            have y12 := b12.size
            have hb12 : Below we.heap.size we (w12.alloc (.cells #[.int .i64 e.index, .int .i64 e.time, .int .i64 e.client, .int .i64 e.seq, .int .i64 e.op.kind, .int .i64 e.op.a, .int .i64 e.op.b, .int .i64 e.op.c, .int .i64 e.op.d] 37)) := (HB.out.trans (b12.mono hbz)).alloc (by omega) _
            have r0 := (hb12.cell (p := ⟨g, off + jj * 9, none⟩) (show g < we.heap.size by omega)).trans p0
            have fr0 := fun d os => cell_regrown r0 d os
            have x0 : (w12.alloc (.cells #[.int .i64 e.index, .int .i64 e.time, .int .i64 e.client, .int .i64 e.seq, .int .i64 e.op.kind, .int .i64 e.op.a, .int .i64 e.op.b, .int .i64 e.op.c, .int .i64 e.op.d] 37)).cell? ⟨w12.heap.size, 0, none⟩ = some (.int .i64 e.index) := by simp
            have fx0 := fun d os => cell_regrown x0 d os
            have r1 := (hb12.cell (p := ⟨g, off + jj * 9 + 1, none⟩) (show g < we.heap.size by omega)).trans p1
            have fr1 := fun d os => cell_regrown r1 d os
            have x1 : (w12.alloc (.cells #[.int .i64 e.index, .int .i64 e.time, .int .i64 e.client, .int .i64 e.seq, .int .i64 e.op.kind, .int .i64 e.op.a, .int .i64 e.op.b, .int .i64 e.op.c, .int .i64 e.op.d] 37)).cell? ⟨w12.heap.size, 1, none⟩ = some (.int .i64 e.time) := by simp
            have fx1 := fun d os => cell_regrown x1 d os
            have r2 := (hb12.cell (p := ⟨g, off + jj * 9 + 2, none⟩) (show g < we.heap.size by omega)).trans p2
            have fr2 := fun d os => cell_regrown r2 d os
            have x2 : (w12.alloc (.cells #[.int .i64 e.index, .int .i64 e.time, .int .i64 e.client, .int .i64 e.seq, .int .i64 e.op.kind, .int .i64 e.op.a, .int .i64 e.op.b, .int .i64 e.op.c, .int .i64 e.op.d] 37)).cell? ⟨w12.heap.size, 2, none⟩ = some (.int .i64 e.client) := by simp
            have fx2 := fun d os => cell_regrown x2 d os
            have r3 := (hb12.cell (p := ⟨g, off + jj * 9 + 3, none⟩) (show g < we.heap.size by omega)).trans p3
            have fr3 := fun d os => cell_regrown r3 d os
            have x3 : (w12.alloc (.cells #[.int .i64 e.index, .int .i64 e.time, .int .i64 e.client, .int .i64 e.seq, .int .i64 e.op.kind, .int .i64 e.op.a, .int .i64 e.op.b, .int .i64 e.op.c, .int .i64 e.op.d] 37)).cell? ⟨w12.heap.size, 3, none⟩ = some (.int .i64 e.seq) := by simp
            have fx3 := fun d os => cell_regrown x3 d os
            have r4 := (hb12.cell (p := ⟨g, off + jj * 9 + 4, none⟩) (show g < we.heap.size by omega)).trans p4
            have fr4 := fun d os => cell_regrown r4 d os
            have x4 : (w12.alloc (.cells #[.int .i64 e.index, .int .i64 e.time, .int .i64 e.client, .int .i64 e.seq, .int .i64 e.op.kind, .int .i64 e.op.a, .int .i64 e.op.b, .int .i64 e.op.c, .int .i64 e.op.d] 37)).cell? ⟨w12.heap.size, 4, none⟩ = some (.int .i64 e.op.kind) := by simp
            have fx4 := fun d os => cell_regrown x4 d os
            have r5 := (hb12.cell (p := ⟨g, off + jj * 9 + 5, none⟩) (show g < we.heap.size by omega)).trans p5
            have fr5 := fun d os => cell_regrown r5 d os
            have x5 : (w12.alloc (.cells #[.int .i64 e.index, .int .i64 e.time, .int .i64 e.client, .int .i64 e.seq, .int .i64 e.op.kind, .int .i64 e.op.a, .int .i64 e.op.b, .int .i64 e.op.c, .int .i64 e.op.d] 37)).cell? ⟨w12.heap.size, 5, none⟩ = some (.int .i64 e.op.a) := by simp
            have fx5 := fun d os => cell_regrown x5 d os
            have r6 := (hb12.cell (p := ⟨g, off + jj * 9 + 6, none⟩) (show g < we.heap.size by omega)).trans p6
            have fr6 := fun d os => cell_regrown r6 d os
            have x6 : (w12.alloc (.cells #[.int .i64 e.index, .int .i64 e.time, .int .i64 e.client, .int .i64 e.seq, .int .i64 e.op.kind, .int .i64 e.op.a, .int .i64 e.op.b, .int .i64 e.op.c, .int .i64 e.op.d] 37)).cell? ⟨w12.heap.size, 6, none⟩ = some (.int .i64 e.op.b) := by simp
            have fx6 := fun d os => cell_regrown x6 d os
            have r7 := (hb12.cell (p := ⟨g, off + jj * 9 + 7, none⟩) (show g < we.heap.size by omega)).trans p7
            have fr7 := fun d os => cell_regrown r7 d os
            have x7 : (w12.alloc (.cells #[.int .i64 e.index, .int .i64 e.time, .int .i64 e.client, .int .i64 e.seq, .int .i64 e.op.kind, .int .i64 e.op.a, .int .i64 e.op.b, .int .i64 e.op.c, .int .i64 e.op.d] 37)).cell? ⟨w12.heap.size, 7, none⟩ = some (.int .i64 e.op.c) := by simp
            have fx7 := fun d os => cell_regrown x7 d os
            have r8 := (hb12.cell (p := ⟨g, off + jj * 9 + 8, none⟩) (show g < we.heap.size by omega)).trans p8
            have fr8 := fun d os => cell_regrown r8 d os
            have x8 : (w12.alloc (.cells #[.int .i64 e.index, .int .i64 e.time, .int .i64 e.client, .int .i64 e.seq, .int .i64 e.op.kind, .int .i64 e.op.a, .int .i64 e.op.b, .int .i64 e.op.c, .int .i64 e.op.d] 37)).cell? ⟨w12.heap.size, 8, none⟩ = some (.int .i64 e.op.d) := by simp
            have fx8 := fun d os => cell_regrown x8 d os
            clear p0 p1 p2 p3 p4 p5 p6 p7 p8 v0 v1 v2
            go_wp2
            refine wp_region_quiet_below (by kernel_rfl) (by kernel_rfl) ?_; (repeat (first | go_big_quiet_step (fail) | quiet_step (fail))); refine wpQuiet_nil ?_; intro _ hw'; obtain ⟨⟨nq, osq⟩, hw''⟩ := hw'; subst hw''; have hq := below_regrown (w12.alloc (.cells #[.int .i64 e.index, .int .i64 e.time, .int .i64 e.client, .int .i64 e.seq, .int .i64 e.op.kind, .int .i64 e.op.a, .int .i64 e.op.b, .int .i64 e.op.c, .int .i64 e.op.d] 37)) nq osq; generalize Sort.grow (redrawn (w12.alloc (.cells #[.int .i64 e.index, .int .i64 e.time, .int .i64 e.client, .int .i64 e.seq, .int .i64 e.op.kind, .int .i64 e.op.a, .int .i64 e.op.b, .int .i64 e.op.c, .int .i64 e.op.d] 37)) nq) osq = w13 at *
            have hbw : Below we.heap.size we w13 := hb12.trans (hq.mono (by (try simp only [World.heap_size_alloc, World.heap_size_drew, World.heap_size_setCell]); omega))
            clear hi3
            go_wp2
            go_roundw
            case rel => exact ⟨j + 1, hlt, by go_num, hbw⟩
            case measure => simp [intOf]; omega
          · by_cases hj0 : j = 0
            · have hjo : j = 0 ∨ many < j := .inl hj0
              have hd1 : decide ((1 : Int) ≤ (j : Int)) = false := by simp; omega
              have hd3 : ¬ 1 ≤ j := by omega
              have hd4 : ¬ 0 < j := by omega
              clear hj0 hin
              have HB := Lib.hid hb
              have HEX := Lib.hid (HOUT.out j hjo)
              clear hb hjo
              go_wp2_with fail
              (with_reducible refine (HE.out _ _ _ _ _ j _ HEX.out T12.out).mono ?_); rintro _ w12 ⟨rfl, b12⟩
              have y12 := b12.size
              have hb12 : Below we.heap.size we (w12.alloc (.cells #[.int .i64 0, .int .i64 0, .int .i64 0, .int .i64 0, .int .i64 0, .int .i64 0, .int .i64 0, .int .i64 0, .int .i64 0] 37)) := (HB.out.trans (b12.mono hbz)).alloc (by omega) _
              clear v0 v1 v2
              simp only [zeroEntry]
              go_wp2
              refine wp_region_quiet_below (by kernel_rfl) (by kernel_rfl) ?_; (repeat (first | go_big_quiet_step (fail) | quiet_step (fail))); refine wpQuiet_nil ?_; intro _ hw'; obtain ⟨⟨nq, osq⟩, hw''⟩ := hw'; subst hw''; have hq := below_regrown (w12.alloc (.cells #[.int .i64 0, .int .i64 0, .int .i64 0, .int .i64 0, .int .i64 0, .int .i64 0, .int .i64 0, .int .i64 0, .int .i64 0] 37)) nq osq; generalize Sort.grow (redrawn (w12.alloc (.cells #[.int .i64 0, .int .i64 0, .int .i64 0, .int .i64 0, .int .i64 0, .int .i64 0, .int .i64 0, .int .i64 0, .int .i64 0] 37)) nq) osq = w13 at *
              have hbw : Below we.heap.size we w13 := hb12.trans (hq.mono (by (try simp only [World.heap_size_alloc, World.heap_size_drew, World.heap_size_setCell]); omega))
              go_wp2
              go_roundw
              case rel => exact ⟨j + 1, hlt, by go_num, hbw⟩
              case measure => simp [intOf]; omega
            · have hjo : j = 0 ∨ many < j := .inr (by omega)
              have hd1 : decide ((1 : Int) ≤ (j : Int)) = true := by simp; omega
              have hd2 : decide ((j : Int) ≤ (many : Int)) = false := by simp; omega
              have hd3 : 1 ≤ j := by omega
              have hd4 : 0 < j := by omega
              have hd5 : ¬ j ≤ many := by omega
              clear hj0 hin
              have HB := Lib.hid hb
              have HEX := Lib.hid (HOUT.out j hjo)
              clear hb hjo
              go_wp2_with fail
              (with_reducible refine (HE.out _ _ _ _ _ j _ HEX.out T12.out).mono ?_); rintro _ w12 ⟨rfl, b12⟩
              have y12 := b12.size
              have hb12 : Below we.heap.size we (w12.alloc (.cells #[.int .i64 0, .int .i64 0, .int .i64 0, .int .i64 0, .int .i64 0, .int .i64 0, .int .i64 0, .int .i64 0, .int .i64 0] 37)) := (HB.out.trans (b12.mono hbz)).alloc (by omega) _
              clear v0 v1 v2
              simp only [zeroEntry]
              go_wp2
              refine wp_region_quiet_below (by kernel_rfl) (by kernel_rfl) ?_; (repeat (first | go_big_quiet_step (fail) | quiet_step (fail))); refine wpQuiet_nil ?_; intro _ hw'; obtain ⟨⟨nq, osq⟩, hw''⟩ := hw'; subst hw''; have hq := below_regrown (w12.alloc (.cells #[.int .i64 0, .int .i64 0, .int .i64 0, .int .i64 0, .int .i64 0, .int .i64 0, .int .i64 0, .int .i64 0, .int .i64 0] 37)) nq osq; generalize Sort.grow (redrawn (w12.alloc (.cells #[.int .i64 0, .int .i64 0, .int .i64 0, .int .i64 0, .int .i64 0, .int .i64 0, .int .i64 0, .int .i64 0, .int .i64 0] 37)) nq) osq = w13 at *
              have hbw : Below we.heap.size we w13 := hb12.trans (hq.mono (by (try simp only [World.heap_size_alloc, World.heap_size_drew, World.heap_size_setCell]); omega))
              go_wp2
              go_roundw
              case rel => exact ⟨j + 1, hlt, by go_num, hbw⟩
              case measure => simp [intOf]; omega
        · have hle : decide ((j : Int) ≤ (many : Int) + 1) = false := by simp; omega
          have T12 := Lib.hid (T11.out.below hb hw5e)
          have L12 := Lib.hid (L11.out.below hb hhe)
          have R12 := Lib.hid (R11.out.below hb hre)
          have D12 := D11.out.below hb (show w.heap.size < we.heap.size by omega)
          have Z12 := Lib.hid (Z11.out.trans (hb.mono Z11.out.size))
          clear hb v0 v1 v2
          go_wp2_with fail
          (with_reducible refine (below_any _ _ _ _ _ ((many : Int) + 1) _ (by omega) (by omega) D12).mono ?_); rintro _ w13 ⟨x, rfl, x0, x1, d13, u13⟩
          obtain ⟨f, rfl⟩ := Int.eq_ofNat_of_zero_le x0
          have y13 := u13.size
          have hfm : f ≤ many := by omega
          have hw1 : IntKind.i64.wrap (1 + (f : Int)) = 1 + (f : Int) := IntWalk.i64_in _ (by omega)
          go_wp2_with fail
          (with_reducible refine (below_any _ _ _ _ _ 6 _ (by omega) (by omega) d13).mono ?_); rintro _ w14 ⟨x, rfl, x2, x3, d14, u14⟩
          obtain ⟨s, rfl⟩ := Int.eq_ofNat_of_zero_le x2
          have y14 := u14.size
          have hu : Upd w.heap.size (w.heap.size + 1) wr w14 := u13.trans u14
          have R14 := Lib.hid (R12.out.upd hu (.inr (by omega)))
          have T14 := Lib.hid (T12.out.upd hu (.inr (by omega)))
          have L14 := Lib.hid (L12.out.upd hu (.inr (by omega)))
          have Z14 := Lib.hid (Z12.out.trans (hu.below (Nat.le_refl _) (by omega)))
          have hr14 := R14.out.lt
          obtain ⟨ts, hts⟩ : ∃ ts, ts = f + s := ⟨_, rfl⟩
          have hts2 : ts ≤ many + 6 := by omega
          have hw2 : IntKind.i64.wrap (1 + (f : Int) - 1) = (f : Int) := by rw [IntWalk.i64_in _ (by omega)]; omega
          have hw3 : IntKind.i64.wrap ((f : Int) + (s : Int)) = (ts : Int) := by rw [IntWalk.i64_in _ (by omega)]; omega
          have HTS := Lib.hid hts
          clear hu u13 u14 d13 d14 D12 x0 x1 x2 x3 hts
          by_cases hgt : many < ts
          · have hgt2 : decide ((many : Int) < (ts : Int)) = true := by simp; omega
            have htoo : many = min (f + s) many := by have := HTS.out; omega
            obtain ⟨B3, hrun3, hsl3⟩ := mid_at B many q f many (by omega) (by omega) hqm
            have HB3 := Lib.hid (fun W hW => hsl3 W _ _ l (L14.out.below (B := w14.heap.size) hW (by omega)))
            have HPP := Lib.hid (fun W D d lo' hi' hs => HP.out W D d lo' hi' f s many hfm htoo hs)
            obtain ⟨a0, a1, a2, -, -, -⟩ := id R14.out
            have SK : ∀ W, Below w14.heap.size w14 W → (W.cell? ⟨w5.heap.size, 0, none⟩ = some (.int .i64 0) ∧ W.cell? ⟨w5.heap.size, 1, none⟩ = some (.int .i64 0) ∧ W.cell? ⟨w5.heap.size, 2, none⟩ = some (.slice A5 many c5) ∧ Below w14.heap.size w14 W) := fun W hb => ⟨(hb.cell (p := ⟨w5.heap.size, 0, none⟩) hr14).trans a0, (hb.cell (p := ⟨w5.heap.size, 1, none⟩) hr14).trans a1, (hb.cell (p := ⟨w5.heap.size, 2, none⟩) hr14).trans a2, hb⟩
            have HSK := Lib.hid SK
            clear SK hsl3 htoo hts2
            go_wp2_with fail
            go_region_held3 (fun w' => w'.cell? ⟨w5.heap.size, 0, none⟩ = some (.int .i64 0) ∧ w'.cell? ⟨w5.heap.size, 1, none⟩ = some (.int .i64 0) ∧ w'.cell? ⟨w5.heap.size, 2, none⟩ = some (.slice A5 many c5) ∧ Below w14.heap.size w14 w')
              (first | (refine HSK.out _ ?_; (repeat' (first | with_reducible exact Below.refl _ _ | with_reducible assumption | with_reducible refine Below.drew ?_ | with_reducible refine Below.alloc ?_ ?_ _ | with_reducible refine Below.setCell ?_ ?_ _ | with_reducible refine Below.trans ?_ (Below.mono (by assumption) ?_) | ((try simp only [World.heap_size_alloc, World.heap_size_drew, World.heap_size_setCell]); omega)))) | (go_split_ands; refine HSK.out _ ?_; (repeat' (first | with_reducible exact Below.refl _ _ | with_reducible assumption | with_reducible refine Below.drew ?_ | with_reducible refine Below.alloc ?_ ?_ _ | with_reducible refine Below.setCell ?_ ?_ _ | with_reducible refine Below.trans ?_ (Below.mono (by assumption) ?_) | ((try simp only [World.heap_size_alloc, World.heap_size_drew, World.heap_size_setCell]); omega)))))
              (first
              | (go_at_call 31; (with_reducible refine (HPP.out _ _ _ _ _ (T14.out.below (B := w14.heap.size) (by (repeat' (first | with_reducible exact Below.refl _ _ | with_reducible assumption | with_reducible refine Below.drew ?_ | with_reducible refine Below.alloc ?_ ?_ _ | with_reducible refine Below.setCell ?_ ?_ _ | with_reducible refine Below.trans ?_ (Below.mono (by assumption) ?_) | ((try simp only [World.heap_size_alloc, World.heap_size_drew, World.heap_size_setCell]); omega)))) (by omega))).mono ?_); rintro _ w15 ⟨A15, c15, rfl, s15, b15⟩; have y15 := b15.size; (try simp only [World.heap_size_drew] at y15); have hb15 : Below w14.heap.size w14 w15 := (by (repeat' (first | with_reducible exact Below.refl _ _ | with_reducible assumption | with_reducible refine Below.drew ?_ | with_reducible refine Below.alloc ?_ ?_ _ | with_reducible refine Below.setCell ?_ ?_ _ | with_reducible refine Below.trans ?_ (Below.mono (by assumption) ?_) | ((try simp only [World.heap_size_alloc, World.heap_size_drew, World.heap_size_setCell]); omega)))); have S15 := Lib.hid s15; clear s15)
              | (go_at_call 53; (with_reducible refine (w9Same_any _ _ _ _ _ _ _ _ _ _ _ S15.out (HB3.out _ hb15)).mono ?_); rintro _ w16 ⟨rfl, b16⟩; have hb16 : Below w14.heap.size w14 w16 := hb15.trans (b16.mono (by omega))))
            all_goals
              go_wp2_with fail
              go_ret
              exact ⟨rfl, Z14.out.trans (hb16.mono Z14.out.size)⟩
          · have hgt2 : decide ((many : Int) < (ts : Int)) = false := by simp; omega
            have htoo : ts = min (f + s) many := by have := HTS.out; omega
            have hft : f ≤ ts := by have := HTS.out; omega
            obtain ⟨B3, hrun3, hsl3⟩ := mid_at B many q f ts (by omega) (by omega) hqm
            have HB3 := Lib.hid (fun W hW => hsl3 W _ _ l (L14.out.below (B := w14.heap.size) hW (by omega)))
            have HPP := Lib.hid (fun W D d lo' hi' hs => HP.out W D d lo' hi' f s ts hfm htoo hs)
            obtain ⟨a0, a1, a2, -, -, -⟩ := id R14.out
            have SK : ∀ W, Below w14.heap.size w14 W → (W.cell? ⟨w5.heap.size, 0, none⟩ = some (.int .i64 0) ∧ W.cell? ⟨w5.heap.size, 1, none⟩ = some (.int .i64 0) ∧ W.cell? ⟨w5.heap.size, 2, none⟩ = some (.slice A5 many c5) ∧ Below w14.heap.size w14 W) := fun W hb => ⟨(hb.cell (p := ⟨w5.heap.size, 0, none⟩) hr14).trans a0, (hb.cell (p := ⟨w5.heap.size, 1, none⟩) hr14).trans a1, (hb.cell (p := ⟨w5.heap.size, 2, none⟩) hr14).trans a2, hb⟩
            have HSK := Lib.hid SK
            clear SK hsl3 htoo hts2
            go_wp2_with fail
            go_region_held3 (fun w' => w'.cell? ⟨w5.heap.size, 0, none⟩ = some (.int .i64 0) ∧ w'.cell? ⟨w5.heap.size, 1, none⟩ = some (.int .i64 0) ∧ w'.cell? ⟨w5.heap.size, 2, none⟩ = some (.slice A5 many c5) ∧ Below w14.heap.size w14 w')
              (first | (refine HSK.out _ ?_; (repeat' (first | with_reducible exact Below.refl _ _ | with_reducible assumption | with_reducible refine Below.drew ?_ | with_reducible refine Below.alloc ?_ ?_ _ | with_reducible refine Below.setCell ?_ ?_ _ | with_reducible refine Below.trans ?_ (Below.mono (by assumption) ?_) | ((try simp only [World.heap_size_alloc, World.heap_size_drew, World.heap_size_setCell]); omega)))) | (go_split_ands; refine HSK.out _ ?_; (repeat' (first | with_reducible exact Below.refl _ _ | with_reducible assumption | with_reducible refine Below.drew ?_ | with_reducible refine Below.alloc ?_ ?_ _ | with_reducible refine Below.setCell ?_ ?_ _ | with_reducible refine Below.trans ?_ (Below.mono (by assumption) ?_) | ((try simp only [World.heap_size_alloc, World.heap_size_drew, World.heap_size_setCell]); omega)))))
              (first
              | (go_at_call 31; (with_reducible refine (HPP.out _ _ _ _ _ (T14.out.below (B := w14.heap.size) (by (repeat' (first | with_reducible exact Below.refl _ _ | with_reducible assumption | with_reducible refine Below.drew ?_ | with_reducible refine Below.alloc ?_ ?_ _ | with_reducible refine Below.setCell ?_ ?_ _ | with_reducible refine Below.trans ?_ (Below.mono (by assumption) ?_) | ((try simp only [World.heap_size_alloc, World.heap_size_drew, World.heap_size_setCell]); omega)))) (by omega))).mono ?_); rintro _ w15 ⟨A15, c15, rfl, s15, b15⟩; have y15 := b15.size; (try simp only [World.heap_size_drew] at y15); have hb15 : Below w14.heap.size w14 w15 := (by (repeat' (first | with_reducible exact Below.refl _ _ | with_reducible assumption | with_reducible refine Below.drew ?_ | with_reducible refine Below.alloc ?_ ?_ _ | with_reducible refine Below.setCell ?_ ?_ _ | with_reducible refine Below.trans ?_ (Below.mono (by assumption) ?_) | ((try simp only [World.heap_size_alloc, World.heap_size_drew, World.heap_size_setCell]); omega)))); have S15 := Lib.hid s15; clear s15)
              | (go_at_call 53; (with_reducible refine (w9Same_any _ _ _ _ _ _ _ _ _ _ _ S15.out (HB3.out _ hb15)).mono ?_); rintro _ w16 ⟨rfl, b16⟩; have hb16 : Below w14.heap.size w14 w16 := hb15.trans (b16.mono (by omega))))
            all_goals
              go_wp2_with fail
              go_ret
              exact ⟨rfl, Z14.out.trans (hb16.mono Z14.out.size)⟩
theorem own : ownKnob Try.prog.godebug = none := by kernel_rfl
theorem laidOut : laidOutB Try.prog = true := by kernel_rfl
set_option maxRecDepth 100000 in
theorem lifted (os : Os) (started : os.Started) (H : Type) (enc : TypeId × Value → H) :
    ReturnsInHanded {} Try.checked os 15 .any (Rows.fnBookPartsSpec.pre6 enc Try.prog Try.f15 Rows.fnBookPartsRow.domain false) (Rows.fnBookPartsSpec.post enc Try.prog Try.f15 false true false false) := by
  refine returnsInHanded_of_change (C := Try.checked) own started (by kernel_rfl) Try.func15
    (ChangeSpec.witness6 (enc := enc) (C := Try.checked) false ⟨#[], #[.slice none 0 0], []⟩ 8 (by kernel_rfl) (by kernel_rfl) (by kernel_rfl) (by kernel_rfl)) ?_
  intro W base args ds gs before hval0 hW hcnd _
  have hval : ∀ (j : Nat) t v, Try.f15.params[j]? = some t → args[j]? = some v → Value.okWide Try.prog W .any base t v := hval0
  have hW' := hW
  obtain ⟨p, q, hA0, hV, rfl, hfz, hnd⟩ := hW
  have hA : DataW.TrodAll enc Try.prog W 0 (fun _ => true) true Try.f15.params.toList args.toList ds p := hA0
  rw [Try.params15] at hA hval
  obtain ⟨v0, d0, rfl, rfl, h0⟩ := trodAll_one hA
  obtain ⟨rfl, rfl⟩ := trodVars_none hV
  obtain ⟨A0, n0, c0, rfl, hz0⟩ := open_bytes Try.underlying60 Try.underlying5 (by kernel_rfl) (hval 0 60 v0 rfl rfl) h0
  clear hA0 hval0
  refine (law_any A0 n0 c0 W hz0).mono fun e W' ⟨he, hb⟩ => ?_
  subst he
  exact ⟨_, rfl, law_post laidOut (by kernel_rfl) rfl Try.underlying4 rfl hW' hb rfl rfl rfl⟩
theorem holds : Rows.FnBookPartsSaid :=
  OpenClaim.holds_of_wide 15 Try.f15 rfl rfl rfl rfl rfl rfl rfl ⟨rfl, rfl, rfl, rfl, rfl⟩ rfl rfl rfl rfl rfl (by kernel_rfl) Try.func15 (by kernel_rfl)
    (of_decide_eq_true (by kernel_rfl)) (by unfold Func.isWrapper; first | (rw [if_pos (by decide +kernel)]; kernel_rfl) | (rw [if_neg (by decide +kernel)]; exact ⟨rfl, rfl⟩))
    (fun os started H enc _ => lifted os started H enc)
#print axioms holds
end BookParts
end Go.Proofs.Ytijefbmnhcecmaa
