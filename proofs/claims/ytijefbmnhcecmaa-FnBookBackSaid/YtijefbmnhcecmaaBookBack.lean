/- The law FnBookBack returns true for every input. No conditions. -/
import Derived.Test.YtijefbmnhcecmaaBookG
import Derived.Test.YtijefbmnhcecmaaBk14
import Derived.Test.YtijefbmnhcecmaaCut
import Derived.Test.YtijefbmnhcecmaaRec3
set_option linter.unusedSimpArgs false
set_option linter.unusedVariables false
namespace Go.Proofs.Ytijefbmnhcecmaa
open Go.ChangeShapes Go.WideShapes Go.ChangeAt Go.RowKit
namespace BookBack
set_option maxRecDepth 100000 in
set_option maxHeartbeats 8000000 in
theorem law_any (A : Option Addr) (n c : Nat) (w : World) (h : ArgB w A n c) : Calls Try.prog 13 #[.slice A n c] w fun e w' => e = .returned (.bool true) ∧ Below w.heap.size w w' := by
  rcases Nat.lt_or_ge 4096 n with hn0 | hn0
  · have hbg : decide (4096 < n) = true := by simpa using hn0
    clear h
    go_enter Try.func13, Try.ntmps13
    go_wp2_with fail
    (with_reducible refine (big_any _ _ _ _).mono ?_); rintro _ _ ⟨rfl, rfl⟩
    rw [hbg]
    go_wp2_with fail
    go_ret
    exact ⟨rfl, Below.refl _ _⟩
  have hc := h.code hn0
  have hbg : decide (4096 < n) = false := by simp; omega
  clear h
  go_enter Try.func13, Try.ntmps13
  go_wp2_with fail
  (with_reducible refine (big_any _ _ _ _).mono ?_); rintro _ _ ⟨rfl, rfl⟩
  rw [hbg]
  go_wp2_with fail
  (with_reducible refine (roll_any _ _ _ _ 911 _ hc (Nat.le_refl _) (by omega) (by omega)).mono ?_); rintro _ w1 ⟨rfl, z1, d1, b1⟩
  have d1' : DiceAt (w1.alloc (.cells #[] 37)) w.heap.size w.heap.size A n c := d1.below (B := w1.heap.size) (by (repeat' (first | with_reducible exact Below.refl _ _ | with_reducible assumption | with_reducible refine Below.drew ?_ | with_reducible refine Below.alloc ?_ ?_ _ | with_reducible refine Below.setCell ?_ ?_ _ | with_reducible refine Below.trans ?_ (Below.mono (by assumption) ?_) | ((try simp only [World.heap_size_alloc, World.heap_size_drew, World.heap_size_setCell]); omega)))) z1
  go_wp2_with fail
  (with_reducible refine (below_any _ _ _ _ _ 15 _ (by omega) (by omega) d1').mono ?_); rintro _ w2 ⟨x, rfl, x0, x1, d2, u2⟩
  obtain ⟨many, rfl⟩ := Int.eq_ofNat_of_zero_le x0
  have y2 := u2.size
  simp only [World.heap_size_alloc] at y2
  go_wp2_with fail
  have hm1 : (1 : Int) + (many : Int) = ((many + 1 : Nat) : Int) := by omega
  have hx9 : many + 1 ≤ 15 := by omega
  try rw [hm1]
  clear x0 x1 hm1
  generalize many + 1 = many' at hx9 ⊢
  (with_reducible refine (w9List_any A n c _ _ _ 0 0 0 0 [] many' _ d2 (Sl.nil _ _ _ _ _ _ (by omega)) (fun e he => absurd he (by simp)) (by omega)).mono ?_); rintro _ w3 ⟨ds, B, q, hds, hdr, rfl, s3, d3, u3⟩
  have y3 := u3.size
  have e0 : stA [] = st0 := rfl
  rw [e0] at s3
  have hll := genE_len ds st0
  have hbk := gen0_book hdr (by omega)
  generalize genE st0 ds = l at s3 hll hbk
  have hlm : l.length = many' := by omega
  have hb3 : Below w.heap.size w w3 := by
    have h1 : Below w.heap.size w (w1.alloc (.cells #[] 37)) := by (repeat' (first | with_reducible exact Below.refl _ _ | with_reducible assumption | with_reducible refine Below.drew ?_ | with_reducible refine Below.alloc ?_ ?_ _ | with_reducible refine Below.setCell ?_ ?_ _ | with_reducible refine Below.trans ?_ (Below.mono (by assumption) ?_) | ((try simp only [World.heap_size_alloc, World.heap_size_drew, World.heap_size_setCell]); omega)))
    have h2 : Below w.heap.size (w1.alloc (.cells #[] 37)) w2 := u2.below (Nat.le_refl _) (by (try simp only [World.heap_size_alloc, World.heap_size_drew, World.heap_size_setCell]); omega)
    exact (h1.trans h2).trans (u3.below (Nat.le_refl _) (by omega))
  have hmt : many' ≤ 15 := by omega
  clear hll hdr hds d1 d1' d2 u2 u3 e0
  go_wp2_with fail
  (with_reducible refine (below_any _ _ _ _ _ ((many' : Int) + 1) _ (by omega) (by omega) d3).mono ?_); rintro _ w4 ⟨x, rfl, x0, x1, d4, u4⟩
  obtain ⟨k, rfl⟩ := Int.eq_ofNat_of_zero_le x0
  have y4 := u4.size
  have hkm : k ≤ many' := by omega
  have hb4 : Below w.heap.size w w4 := hb3.trans (u4.below (Nat.le_refl _) (by omega))
  have s4 := (s3.upd u4 (.inr (by omega))).fit (by omega)
  have hhi : min w3.heap.size w4.heap.size ≤ w4.heap.size := Nat.min_le_right _ _
  generalize min w3.heap.size w4.heap.size = hi at s4 hhi
  have hcap := s4.cap
  have hbig := s4.big
  obtain ⟨B2, hrun, hsl⟩ := tail_at B many' q k hkm
  have hlk : (l.take k).length = k := by rw [List.length_take]; omega
  have hkb : bookOk 0 0 (l.take k) = true := bookOk_prefix (es := l.drop k) (by rw [List.take_append_drop]; exact hbk)
  have e1 : grownM 0 0 [] l = (0, 0, l, true) := grownM_of_ok (k := []) hbk
  have e2 : backTo 0 0 l (k : Int) = (0, 0, l.take k, true) := by
    have h7 := backTo_at hbk (k := k) (by omega)
    rwa [Int.zero_add] at h7
  have e3 : grownM 0 0 (l.take k) (l.drop k) = (0, 0, l, true) := by
    have h7 := grownM_of_ok (b := 0) (t := 0) (k := l.take k) (es := l.drop k) (by rw [List.take_append_drop]; exact hbk)
    rwa [List.take_append_drop] at h7
  have CG : ∀ W, Below w4.heap.size w4 W → Calls Try.prog 47 #[.agg #[.int .i64 0, .int .i64 0, .slice none 0 0], .slice B many' q] W (BookBRes W 0 0 many' (l.flatMap EntryD.ints) true) := fun W hW => by
    have h7 := grown_any 0 0 none 0 0 0 0 [] B many' q _ _ l W (Sl.nil _ _ _ _ _ _ (by omega)) (s4.below hW hhi)
    rw [e1, hlm] at h7
    exact h7
  have CB : ∀ W (D : Option Addr) (d lo' hi' : Nat), Sl W lo' hi' 9 D many' d (l.flatMap EntryD.ints) → Calls Try.prog 37 #[.agg #[.int .i64 0, .int .i64 0, .slice D many' d], .int .i64 (k : Int)] W (BookBRes W 0 0 k ((l.take k).flatMap EntryD.ints) true) := fun W D d lo' hi' hs => by
    have h7 := backTo_any 0 0 D many' d _ _ l (k : Int) W hs
    rw [e2, hlk] at h7
    exact h7
  have CL : ∀ W (D : Option Addr) (d lo' hi' : Nat), Sl W lo' hi' 9 D k d ((l.take k).flatMap EntryD.ints) → Calls Try.prog 27 #[.agg #[.int .i64 0, .int .i64 0, .slice D k d]] W fun e w' => e = .returned (.int .i64 (k : Int)) ∧ Below W.heap.size W w' := fun W D d lo' hi' hs => by
    have h7 := lastOfM_any 0 0 D k d _ _ (l.take k) W hs
    rw [show lastOfM 0 0 (l.take k) = (k : Int) by rw [lastOfM, if_pos hkb, hlk]; omega] at h7
    exact h7
  have CK : ∀ W (D : Option Addr) (d lo' hi' : Nat), Sl W lo' hi' 9 D k d ((l.take k).flatMap EntryD.ints) → Calls Try.prog 22 #[.agg #[.int .i64 0, .int .i64 0, .slice D k d]] W (BoolRes W true) := fun W D d lo' hi' hs => by
    have h7 := bookOk_any 0 0 D k d _ _ (l.take k) W hs
    rw [hkb] at h7
    exact h7
  have CG2 : ∀ W (D : Option Addr) (d lo' hi' : Nat), Below w4.heap.size w4 W → Sl W lo' hi' 9 D k d ((l.take k).flatMap EntryD.ints) → Calls Try.prog 47 #[.agg #[.int .i64 0, .int .i64 0, .slice D k d], .slice B2 (many' - k) (q - k)] W (BookBRes W 0 0 many' (l.flatMap EntryD.ints) true) := fun W D d lo' hi' hW hs => by
    have h7 := grown_any 0 0 D k d _ _ (l.take k) B2 (many' - k) (q - k) _ _ (l.drop k) W hs (hsl _ _ _ _ (s4.below hW hhi))
    rw [e3, hlm] at h7
    exact h7
  have CA : ∀ W (D : Option Addr) (d lo' hi' : Nat) (o : OpD), Sl W lo' hi' 9 D k d ((l.take k).flatMap EntryD.ints) → Calls Try.prog 43 #[.agg #[.int .i64 0, .int .i64 0, .slice D k d], .agg #[.int .i64 ((k : Int) + 2), .int .i64 90000, .int .i64 4, .int .i64 1, .int .i64 o.kind, .int .i64 o.a, .int .i64 o.b, .int .i64 o.c, .int .i64 o.d]] W (BookBRes W 0 0 k ((l.take k).flatMap EntryD.ints) false) := fun W D d lo' hi' o hs => by
    have h7 := appended_any 0 0 D k d _ _ (l.take k) ⟨(k : Int) + 2, 90000, 4, 1, o⟩ W hs
    have hf : fitsM 0 0 (l.take k) ⟨(k : Int) + 2, 90000, 4, 1, o⟩ = false := by
      cases hc : fitsM 0 0 (l.take k) ⟨(k : Int) + 2, 90000, 4, 1, o⟩ with
      | false => rfl
      | true =>
        have := (fitsM_iff.1 hc).2.1
        rw [hlk] at this
        simp only at this
        omega
    rw [show appendedM 0 0 (l.take k) ⟨(k : Int) + 2, 90000, 4, 1, o⟩ = (0, 0, l.take k, false) by simp [appendedM, hkb, hf], hlk] at h7
    exact h7
  have CS : ∀ W (zl : List EntryD) (D D' : Option Addr) (nn d d' lo' hi' lo2 hi2 : Nat), Sl W lo' hi' 9 D nn d (zl.flatMap EntryD.ints) → Sl W lo2 hi2 9 D' nn d' (zl.flatMap EntryD.ints) → Calls Try.prog 19 #[.agg #[.int .i64 0, .int .i64 0, .slice D nn d], .agg #[.int .i64 0, .int .i64 0, .slice D' nn d']] W (BoolRes W true) := fun W zl D D' nn d d' lo' hi' lo2 hi2 hs hs' => by
    have h7 := sameBook_any 0 0 D nn d _ _ zl 0 0 D' nn d' _ _ zl W hs hs'
    rw [show sameBook 0 0 zl 0 0 zl = true by simp [sameBook, sameEnts]] at h7
    exact h7
  have HG := Lib.hid CG
  have HB := Lib.hid CB
  have HL := Lib.hid CL
  have HK := Lib.hid CK
  have HG2 := Lib.hid CG2
  have HA := Lib.hid CA
  have HS1 := Lib.hid (fun W => CS W l)
  have HS2 := Lib.hid (fun W => CS W (l.take k))
  have HS4 := Lib.hid s4
  have HB4 := Lib.hid hb4
  have HD4 := Lib.hid d4
  have hgw : w.heap.size < w4.heap.size := by omega
  have hkw : IntKind.i64.wrap ((k : Int) + 2) = (k : Int) + 2 := IntWalk.i64_in _ (by omega)
  clear CG CB CL CK CG2 CA CS e1 e2 e3 hkb hlk hbk hlm s3 s4 d3 d4 u4 hb3 hb4 hsl hcap hbig x0 x1 hkm
  generalize hz1 : l.flatMap EntryD.ints = zl at *
  generalize hz2 : (l.take k).flatMap EntryD.ints = zk at *
  go_wp2_with fail
  (with_reducible refine (HG.out _ (Below.refl _ _)).mono ?_); rintro _ w5 ⟨A5, c5, rfl, s5, b5⟩
  have y5 := b5.size
  have V5 : Below w5.heap.size w5 (w5.alloc (.cells #[.int .i64 0, .int .i64 0, .slice A5 many' c5] 29)) := by (repeat' (first | with_reducible exact Below.refl _ _ | with_reducible assumption | with_reducible refine Below.drew ?_ | with_reducible refine Below.alloc ?_ ?_ _ | with_reducible refine Below.setCell ?_ ?_ _ | with_reducible refine Below.trans ?_ (Below.mono (by assumption) ?_) | ((try simp only [World.heap_size_alloc, World.heap_size_drew, World.heap_size_setCell]); omega)))
  have r5 := Rec3.new w5 (.int .i64 0) (.int .i64 0) (.slice A5 many' c5) 29
  have t5 := s5.below V5 (Nat.le_refl _)
  go_wp2_with fail
  (with_reducible refine (HB.out _ _ _ _ _ t5).mono ?_); rintro _ w6 ⟨A6, c6, rfl, s6, b6⟩
  have y6 := b6.size
  simp only [World.heap_size_alloc] at y6
  have V6 : Below w6.heap.size w6 (w6.alloc (.cells #[.int .i64 0, .int .i64 0, .slice A6 k c6] 29)) := by (repeat' (first | with_reducible exact Below.refl _ _ | with_reducible assumption | with_reducible refine Below.drew ?_ | with_reducible refine Below.alloc ?_ ?_ _ | with_reducible refine Below.setCell ?_ ?_ _ | with_reducible refine Below.trans ?_ (Below.mono (by assumption) ?_) | ((try simp only [World.heap_size_alloc, World.heap_size_drew, World.heap_size_setCell]); omega)))
  have r6 := (r5.below b6 (by (try simp only [World.heap_size_alloc, World.heap_size_drew, World.heap_size_setCell]); omega)).below V6 (by omega)
  have q6 := Rec3.new w6 (.int .i64 0) (.int .i64 0) (.slice A6 k c6) 29
  have t6 := (t5.below b6 (by (try simp only [World.heap_size_alloc, World.heap_size_drew, World.heap_size_setCell]); omega)).below V6 (by omega)
  have p6 := s6.below V6 (Nat.le_refl _)
  have z6 : Below w4.heap.size w4 (w6.alloc (.cells #[.int .i64 0, .int .i64 0, .slice A6 k c6] 29)) := ((b5.trans (V5.mono (by omega))).trans (b6.mono (by (try simp only [World.heap_size_alloc, World.heap_size_drew, World.heap_size_setCell]); omega))).trans (V6.mono (by omega))
  obtain ⟨cx0, cx1, cx2, fx0, fx1, fx2⟩ := id q6
  clear s5 s6 V5 V6 b5 b6 r5 t5
  go_wp2_with fail
  (with_reducible refine (HL.out _ _ _ _ _ p6).mono ?_); rintro _ w7 ⟨rfl, b7⟩
  have y7 := b7.size
  simp only [World.heap_size_alloc] at y7
  have q7 := q6.below b7 (by (try simp only [World.heap_size_alloc, World.heap_size_drew, World.heap_size_setCell]); omega)
  have p7 := p6.below b7 (by (try simp only [World.heap_size_alloc, World.heap_size_drew, World.heap_size_setCell]); omega)
  clear cx0 cx1 cx2 fx0 fx1 fx2
  obtain ⟨cx0, cx1, cx2, fx0, fx1, fx2⟩ := id q7
  go_wp2_with fail
  (with_reducible refine (HK.out _ _ _ _ _ p7).mono ?_); rintro _ w8 ⟨rfl, b8⟩
  have y8 := b8.size
  have q8 := q7.below b8 (by omega)
  have p8 := (p7.below b8 (by omega)).mono (Nat.le_refl _) (show w6.heap.size ≤ w8.heap.size by omega)
  have r8 := (r6.below b7 (by (try simp only [World.heap_size_alloc, World.heap_size_drew, World.heap_size_setCell]); omega)).below b8 (by omega)
  have t8 := ((t6.below b7 (by (try simp only [World.heap_size_alloc, World.heap_size_drew, World.heap_size_setCell]); omega)).below b8 (by omega)).mono (Nat.le_refl _) (show w5.heap.size ≤ w8.heap.size by omega)
  have z8 : Below w4.heap.size w4 w8 := (z6.trans (b7.mono (by (try simp only [World.heap_size_alloc, World.heap_size_drew, World.heap_size_setCell]); omega))).trans (b8.mono (by omega))
  have hz8 := z8.size
  have P8 := Lib.hid p8
  have Q8 := Lib.hid q8
  have R8 := Lib.hid r8
  have T8 := Lib.hid t8
  have Z8 := Lib.hid z8
  clear cx0 cx1 cx2 fx0 fx1 fx2 p8 r8 t8 z8 q7 p7 r6 t6 q6 p6 z6 b7 b8
  obtain ⟨cx0, cx1, cx2, fx0, fx1, fx2⟩ := id q8
  have hq8 := q8.lt
  clear q8
  go_upto_region 11 with fail
  go_cut [11, 12] (fun s11 s12 wx => BoxRel w8 0 0 many' zl s11 wx ∧ s12 = .bool true ∧ Below w8.heap.size w8 wx)
  case first =>
    have SK : ∀ W, Below w8.heap.size w8 W → (W.cell? ⟨w6.heap.size, 0, none⟩ = some (.int .i64 0) ∧ W.cell? ⟨w6.heap.size, 1, none⟩ = some (.int .i64 0) ∧ W.cell? ⟨w6.heap.size, 2, none⟩ = some (.slice A6 k c6) ∧ Below w8.heap.size w8 W) := fun W hb => ⟨(hb.cell (p := ⟨w6.heap.size, 0, none⟩) hq8).trans cx0, (hb.cell (p := ⟨w6.heap.size, 1, none⟩) hq8).trans cx1, (hb.cell (p := ⟨w6.heap.size, 2, none⟩) hq8).trans cx2, hb⟩
    have HSK := Lib.hid SK
    clear SK
    go_region_held3 (fun w' => w'.cell? ⟨w6.heap.size, 0, none⟩ = some (.int .i64 0) ∧ w'.cell? ⟨w6.heap.size, 1, none⟩ = some (.int .i64 0) ∧ w'.cell? ⟨w6.heap.size, 2, none⟩ = some (.slice A6 k c6) ∧ Below w8.heap.size w8 w')
      (first | (refine HSK.out _ ?_; (repeat' (first | with_reducible exact Below.refl _ _ | with_reducible assumption | with_reducible refine Below.drew ?_ | with_reducible refine Below.alloc ?_ ?_ _ | with_reducible refine Below.setCell ?_ ?_ _ | with_reducible refine Below.trans ?_ (Below.mono (by assumption) ?_) | ((try simp only [World.heap_size_alloc, World.heap_size_drew, World.heap_size_setCell]); omega)))) | (go_split_ands; refine HSK.out _ ?_; (repeat' (first | with_reducible exact Below.refl _ _ | with_reducible assumption | with_reducible refine Below.drew ?_ | with_reducible refine Below.alloc ?_ ?_ _ | with_reducible refine Below.setCell ?_ ?_ _ | with_reducible refine Below.trans ?_ (Below.mono (by assumption) ?_) | ((try simp only [World.heap_size_alloc, World.heap_size_drew, World.heap_size_setCell]); omega)))))
      (first | (go_at_call 47; (with_reducible refine (HG2.out _ _ _ _ _ (Z8.out.trans (Below.mono (B := w8.heap.size) (by (repeat' (first | with_reducible exact Below.refl _ _ | with_reducible assumption | with_reducible refine Below.drew ?_ | with_reducible refine Below.alloc ?_ ?_ _ | with_reducible refine Below.setCell ?_ ?_ _ | with_reducible refine Below.trans ?_ (Below.mono (by assumption) ?_) | ((try simp only [World.heap_size_alloc, World.heap_size_drew, World.heap_size_setCell]); omega)))) hz8)) (P8.out.below (B := w8.heap.size) (by (repeat' (first | with_reducible exact Below.refl _ _ | with_reducible assumption | with_reducible refine Below.drew ?_ | with_reducible refine Below.alloc ?_ ?_ _ | with_reducible refine Below.setCell ?_ ?_ _ | with_reducible refine Below.trans ?_ (Below.mono (by assumption) ?_) | ((try simp only [World.heap_size_alloc, World.heap_size_drew, World.heap_size_setCell]); omega)))) (Nat.le_refl _))).mono ?_); rintro _ w9 ⟨A9, c9, rfl, s9, b9⟩; have hb9 : Below w8.heap.size w8 w9 := (by (repeat' (first | with_reducible exact Below.refl _ _ | with_reducible assumption | with_reducible refine Below.drew ?_ | with_reducible refine Below.alloc ?_ ?_ _ | with_reducible refine Below.setCell ?_ ?_ _ | with_reducible refine Below.trans ?_ (Below.mono (by assumption) ?_) | ((try simp only [World.heap_size_alloc, World.heap_size_drew, World.heap_size_setCell]); omega)))); have y9 := b9.size; (try simp only [World.heap_size_alloc, World.heap_size_drew] at y9); (try have k9 : Rec3 w9 w8.heap.size (.int .i64 0) (.int .i64 0) (.slice none 0 0) := (by first | exact (Rec3.new w8 (.int .i64 0) (.int .i64 0) (.slice none 0 0) 29).below b9 (by (try simp only [World.heap_size_alloc, World.heap_size_drew, World.heap_size_setCell]); omega) | exact (Rec3.new w8.drew (.int .i64 0) (.int .i64 0) (.slice none 0 0) 29).below b9 (by (try simp only [World.heap_size_alloc, World.heap_size_drew, World.heap_size_setCell]); omega))); (try obtain ⟨ka, kb, kc, kd, ke, kf⟩ := id k9)))
    all_goals
      go_wp2_with fail
      go_meet
      first
        | exact ⟨BoxRel.new s9 (by omega) (by first | exact Nat.le_refl _ | ((try simp only [World.heap_size_alloc, World.heap_size_drew, World.heap_size_setCell]); omega)) (Nat.le_refl _), rfl, by (repeat' (first | with_reducible exact Below.refl _ _ | with_reducible assumption | with_reducible refine Below.drew ?_ | with_reducible refine Below.alloc ?_ ?_ _ | with_reducible refine Below.setCell ?_ ?_ _ | with_reducible refine Below.trans ?_ (Below.mono (by assumption) ?_) | ((try simp only [World.heap_size_alloc, World.heap_size_drew, World.heap_size_setCell]); omega)))⟩
        | exact ⟨BoxRel.set k9 s9 (Nat.le_refl _) (by (try simp only [World.heap_size_alloc, World.heap_size_drew, World.heap_size_setCell]); omega) (Nat.le_refl _), rfl, by (repeat' (first | with_reducible exact Below.refl _ _ | with_reducible assumption | with_reducible refine Below.drew ?_ | with_reducible refine Below.alloc ?_ ?_ _ | with_reducible refine Below.setCell ?_ ?_ _ | with_reducible refine Below.trans ?_ (Below.mono (by assumption) ?_) | ((try simp only [World.heap_size_alloc, World.heap_size_drew, World.heap_size_setCell]); omega)))⟩
  case rest =>
    obtain ⟨wd, rfl⟩ : ∃ x, x = wc := ⟨wc, rfl⟩
    obtain ⟨⟨g9, lo9, hi9, A9, c9, rfl, hg9, r9, s9, hl9, hh9, ho9⟩, rfl, b9⟩ := hcut
    have y9 := b9.size
    have hg9l := r9.lt
    have q9 := Q8.out.below b9 hq8
    have P9 := Lib.hid (P8.out.below b9 (Nat.le_refl _))
    have R9 := Lib.hid (R8.out.below b9 (by omega))
    have T9 := Lib.hid (T8.out.below b9 (Nat.le_refl _))
    have D9 := Lib.hid (HD4.out.below (Z8.out.trans (b9.mono hz8)) hgw)
    have S9 := Lib.hid s9
    have U9 := Lib.hid r9
    have Z9 := Lib.hid (HB4.out.trans ((Z8.out.trans (b9.mono hz8)).mono HB4.out.size))
    clear s9 r9 b9 cx0 cx1 cx2 fx0 fx1 fx2
    obtain ⟨cx0, cx1, cx2, fx0, fx1, fx2⟩ := id q9
    have HQ9 := Lib.hid q9
    clear q9
    go_upto_region 12 with fail
    go_cut [13, 14] (fun s13 s14 wx => BoxRel wd 0 0 k zk s13 wx ∧ s14 = .bool false ∧ Upd w.heap.size (w.heap.size + 1) wd wx)
    case first =>
      have SK : ∀ W, Upd w.heap.size (w.heap.size + 1) wd W → (W.cell? ⟨w6.heap.size, 0, none⟩ = some (.int .i64 0) ∧ W.cell? ⟨w6.heap.size, 1, none⟩ = some (.int .i64 0) ∧ W.cell? ⟨w6.heap.size, 2, none⟩ = some (.slice A6 k c6) ∧ Upd w.heap.size (w.heap.size + 1) wd W) := fun W hu => by
        have h7 := HQ9.out.upd hu (.inr (by omega))
        exact ⟨h7.1, h7.2.1, h7.2.2.1, hu⟩
      have HSK := Lib.hid SK
      have hdz := Lib.hid ((show w.heap.size < wd.heap.size by omega))
      clear SK
      go_region_held3 (fun w' => w'.cell? ⟨w6.heap.size, 0, none⟩ = some (.int .i64 0) ∧ w'.cell? ⟨w6.heap.size, 1, none⟩ = some (.int .i64 0) ∧ w'.cell? ⟨w6.heap.size, 2, none⟩ = some (.slice A6 k c6) ∧ Upd w.heap.size (w.heap.size + 1) wd w')
        (first | (refine HSK.out _ ?_; (repeat' (first | with_reducible exact Upd.refl _ _ _ | with_reducible assumption | with_reducible refine Upd.drew ?_ | with_reducible refine Upd.alloc ?_ _ | with_reducible refine Upd.setNew ?_ ?_ _ | ((try simp only [World.heap_size_alloc, World.heap_size_drew, World.heap_size_setCell]); omega)))) | (go_split_ands; refine HSK.out _ ?_; (repeat' (first | with_reducible exact Upd.refl _ _ _ | with_reducible assumption | with_reducible refine Upd.drew ?_ | with_reducible refine Upd.alloc ?_ _ | with_reducible refine Upd.setNew ?_ ?_ _ | ((try simp only [World.heap_size_alloc, World.heap_size_drew, World.heap_size_setCell]); omega)))))
        (first
        | (go_at_call 52; (with_reducible refine (w9Op_any _ _ _ _ _ _ (D9.out.below (B := wd.heap.size) (by (repeat' (first | with_reducible exact Below.refl _ _ | with_reducible assumption | with_reducible refine Below.drew ?_ | with_reducible refine Below.alloc ?_ ?_ _ | with_reducible refine Below.setCell ?_ ?_ _ | with_reducible refine Below.trans ?_ (Below.mono (by assumption) ?_) | ((try simp only [World.heap_size_alloc, World.heap_size_drew, World.heap_size_setCell]); omega)))) hdz.out)).mono ?_); rintro _ w10 ⟨o, rfl, ho, d10, u10⟩; have hU10 : Upd w.heap.size (w.heap.size + 1) wd w10 := Upd.trans (by (repeat' (first | with_reducible exact Upd.refl _ _ _ | with_reducible assumption | with_reducible refine Upd.drew ?_ | with_reducible refine Upd.alloc ?_ _ | with_reducible refine Upd.setNew ?_ ?_ _ | ((try simp only [World.heap_size_alloc, World.heap_size_drew, World.heap_size_setCell]); omega)))) u10; have y10 := u10.size; (try simp only [World.heap_size_alloc, World.heap_size_drew] at y10); (try have k10 : Rec3 w10 wd.heap.size (.int .i64 0) (.int .i64 0) (.slice none 0 0) := (by first | exact (Rec3.new wd (.int .i64 0) (.int .i64 0) (.slice none 0 0) 29).upd u10 (.inr (by omega)) | exact (Rec3.new wd.drew (.int .i64 0) (.int .i64 0) (.slice none 0 0) 29).upd u10 (.inr (by (try simp only [World.heap_size_alloc, World.heap_size_drew, World.heap_size_setCell]); omega)))); have P10 := Lib.hid (P9.out.upd hU10 (.inr (by (try simp only [World.heap_size_alloc, World.heap_size_drew, World.heap_size_setCell]); omega))))
        | (go_at_call 43; (with_reducible refine (HA.out _ _ _ _ _ o (P10.out.below (B := w10.heap.size) (by (repeat' (first | with_reducible exact Below.refl _ _ | with_reducible assumption | with_reducible refine Below.drew ?_ | with_reducible refine Below.alloc ?_ ?_ _ | with_reducible refine Below.setCell ?_ ?_ _ | with_reducible refine Below.trans ?_ (Below.mono (by assumption) ?_) | ((try simp only [World.heap_size_alloc, World.heap_size_drew, World.heap_size_setCell]); omega)))) (by omega))).mono ?_); rintro _ w11 ⟨A11, c11, rfl, s11, b11⟩; have hU11 : Upd w.heap.size (w.heap.size + 1) wd w11 := Upd.trans (by (repeat' (first | with_reducible exact Upd.refl _ _ _ | with_reducible assumption | with_reducible refine Upd.drew ?_ | with_reducible refine Upd.alloc ?_ _ | with_reducible refine Upd.setNew ?_ ?_ _ | ((try simp only [World.heap_size_alloc, World.heap_size_drew, World.heap_size_setCell]); omega)))) (Upd.of_below b11); have y11 := b11.size; (try simp only [World.heap_size_alloc, World.heap_size_drew] at y11);
            (try have k11 : Rec3 w11 wd.heap.size (.int .i64 0) (.int .i64 0) (.slice none 0 0) := k10.below b11 (by (try simp only [World.heap_size_alloc, World.heap_size_drew, World.heap_size_setCell]); omega)); (try obtain ⟨ka, kb, kc, kd, ke, kf⟩ := id k11);
            (try have j11 : Rec3 w11 w10.heap.size (.int .i64 0) (.int .i64 0) (.slice none 0 0) := (by first | exact (Rec3.new w10 (.int .i64 0) (.int .i64 0) (.slice none 0 0) 29).below b11 (by (try simp only [World.heap_size_alloc, World.heap_size_drew, World.heap_size_setCell]); omega) | exact (Rec3.new w10.drew (.int .i64 0) (.int .i64 0) (.slice none 0 0) 29).below b11 (by (try simp only [World.heap_size_alloc, World.heap_size_drew, World.heap_size_setCell]); omega))); (try obtain ⟨ja, jb, jc, jd, je, jf⟩ := id j11)))
      all_goals
        go_wp2_with fail
        go_meet
        first
          | exact ⟨BoxRel.new s11 (by omega) (by (try simp only [World.heap_size_alloc, World.heap_size_drew, World.heap_size_setCell]); omega) (Nat.le_refl _), rfl, by (repeat' (first | with_reducible exact Upd.refl _ _ _ | with_reducible assumption | with_reducible refine Upd.drew ?_ | with_reducible refine Upd.alloc ?_ _ | with_reducible refine Upd.setNew ?_ ?_ _ | ((try simp only [World.heap_size_alloc, World.heap_size_drew, World.heap_size_setCell]); omega)))⟩
          | exact ⟨BoxRel.set k11 s11 (by omega) (by (try simp only [World.heap_size_alloc, World.heap_size_drew, World.heap_size_setCell]); omega) (Nat.le_refl _), rfl, by (repeat' (first | with_reducible exact Upd.refl _ _ _ | with_reducible assumption | with_reducible refine Upd.drew ?_ | with_reducible refine Upd.alloc ?_ _ | with_reducible refine Upd.setNew ?_ ?_ _ | ((try simp only [World.heap_size_alloc, World.heap_size_drew, World.heap_size_setCell]); omega)))⟩
          | exact ⟨BoxRel.set j11 s11 (by omega) (by (try simp only [World.heap_size_alloc, World.heap_size_drew, World.heap_size_setCell]); omega) (Nat.le_refl _), rfl, by (repeat' (first | with_reducible exact Upd.refl _ _ _ | with_reducible assumption | with_reducible refine Upd.drew ?_ | with_reducible refine Upd.alloc ?_ _ | with_reducible refine Upd.setNew ?_ ?_ _ | ((try simp only [World.heap_size_alloc, World.heap_size_drew, World.heap_size_setCell]); omega)))⟩
    case rest =>
      obtain ⟨⟨g12, lo12, hi12, A12, c12, rfl, hg12, r12, s12, hl12, hh12, ho12⟩, rfl, u12⟩ := hcut
      have y12 := u12.size
      have q12 := HQ9.out.upd u12 (.inr (by omega))
      have P12 := Lib.hid (P9.out.upd u12 (.inr (by (try simp only [World.heap_size_alloc, World.heap_size_drew, World.heap_size_setCell]); omega)))
      have R12 := R9.out.upd u12 (.inr (by omega))
      have T12 := Lib.hid (T9.out.upd u12 (.inr (by omega)))
      have U12 := U9.out.upd u12 (.inr (by omega))
      have S12 := Lib.hid (S9.out.upd u12 (.inr (by omega)))
      have V12 := Lib.hid s12
      have Z12 := Lib.hid (Z9.out.trans (u12.below (Nat.le_refl _) (by omega)))
      have hlt1 := q12.lt
      have hlt2 := r12.lt
      have HQ12 := Lib.hid q12
      have HR12 := Lib.hid r12
      clear u12 s12 cx0 cx1 cx2 fx0 fx1 fx2 q12 r12
      obtain ⟨a0, a1, a2, -, -, -⟩ := U12
      obtain ⟨d0, d1, d2, -, -, -⟩ := R12
      go_wp2_with fail
      (with_reducible refine (HS1.out _ _ _ _ _ _ _ _ _ _ S12.out T12.out).mono ?_); rintro _ w13 ⟨rfl, b13⟩
      have y13 := b13.size
      clear a0 a1 a2 d0 d1 d2
      obtain ⟨a0, a1, a2, -, -, -⟩ := HR12.out.below b13 hlt2
      obtain ⟨d0, d1, d2, -, -, -⟩ := HQ12.out.below b13 hlt1
      go_wp2_with fail
      (with_reducible refine (HS2.out _ _ _ _ _ _ _ _ _ _ (V12.out.below b13 hh12) (P12.out.below b13 (by omega))).mono ?_); rintro _ w14 ⟨rfl, b14⟩
      have Z14 : Below w.heap.size w w14 := (Z12.out.trans (b13.mono Z12.out.size)).trans (b14.mono (Nat.le_trans Z12.out.size y13))
      go_wp2_with fail
      go_ret
      exact ⟨rfl, Z14⟩
theorem own : ownKnob Try.prog.godebug = none := by kernel_rfl
theorem laidOut : laidOutB Try.prog = true := by kernel_rfl
set_option maxRecDepth 100000 in
theorem lifted (os : Os) (started : os.Started) (H : Type) (enc : TypeId × Value → H) :
    ReturnsInHanded {} Try.checked os 13 .any (Rows.fnBookBackSpec.pre6 enc Try.prog Try.f13 Rows.fnBookBackRow.domain false) (Rows.fnBookBackSpec.post enc Try.prog Try.f13 false true false false) := by
  refine returnsInHanded_of_change (C := Try.checked) own started (by kernel_rfl) Try.func13
    (ChangeSpec.witness6 (enc := enc) (C := Try.checked) false ⟨#[], #[.slice none 0 0], []⟩ 8 (by kernel_rfl) (by kernel_rfl) (by kernel_rfl) (by kernel_rfl)) ?_
  intro W base args ds gs before hval0 hW hcnd _
  have hval : ∀ (j : Nat) t v, Try.f13.params[j]? = some t → args[j]? = some v → Value.okWide Try.prog W .any base t v := hval0
  have hW' := hW
  obtain ⟨p, q, hA0, hV, rfl, hfz, hnd⟩ := hW
  have hA : DataW.TrodAll enc Try.prog W 0 (fun _ => true) true Try.f13.params.toList args.toList ds p := hA0
  rw [Try.params13] at hA hval
  obtain ⟨v0, d0, rfl, rfl, h0⟩ := trodAll_one hA
  obtain ⟨rfl, rfl⟩ := trodVars_none hV
  obtain ⟨A0, n0, c0, rfl, hz0⟩ := open_bytes Try.underlying60 Try.underlying5 (by kernel_rfl) (hval 0 60 v0 rfl rfl) h0
  clear hA0 hval0
  refine (law_any A0 n0 c0 W hz0).mono fun e W' ⟨he, hb⟩ => ?_
  subst he
  exact ⟨_, rfl, law_post laidOut (by kernel_rfl) rfl Try.underlying4 rfl hW' hb rfl rfl rfl⟩
theorem holds : Rows.FnBookBackSaid :=
  OpenClaim.holds_of_wide 13 Try.f13 rfl rfl rfl rfl rfl rfl rfl ⟨rfl, rfl, rfl, rfl, rfl⟩ rfl rfl rfl rfl rfl (by kernel_rfl) Try.func13 (by kernel_rfl)
    (of_decide_eq_true (by kernel_rfl)) (by unfold Func.isWrapper; first | (rw [if_pos (by decide +kernel)]; kernel_rfl) | (rw [if_neg (by decide +kernel)]; exact ⟨rfl, rfl⟩))
    (fun os started H enc _ => lifted os started H enc)
#print axioms holds
end BookBack
end Go.Proofs.Ytijefbmnhcecmaa
