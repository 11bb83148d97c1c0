/- The law FnBookTrims returns true for every input. No conditions. -/
import Derived.Test.YtijefbmnhcecmaaBookG
import Derived.Test.YtijefbmnhcecmaaBk8
import Derived.Test.YtijefbmnhcecmaaBk14
import Derived.Test.YtijefbmnhcecmaaRec3
set_option linter.unusedSimpArgs false
set_option linter.unusedVariables false
namespace Go.Proofs.Ytijefbmnhcecmaa
open Go.ChangeShapes Go.WideShapes Go.ChangeAt Go.RowKit
namespace BookTrims
set_option maxRecDepth 100000 in
set_option maxHeartbeats 8000000 in
theorem law_any (A : Option Addr) (n c : Nat) (w : World) (h : ArgB w A n c) : Calls Try.prog 14 #[.slice A n c] w fun e w' => e = .returned (.bool true) ∧ Below w.heap.size w w' := by
  rcases Nat.lt_or_ge 4096 n with hn0 | hn0
  · have hbg : decide (4096 < n) = true := by simpa using hn0
    clear h
    go_enter Try.func14, Try.ntmps14
    go_wp2_with fail
    (with_reducible refine (big_any _ _ _ _).mono ?_); rintro _ _ ⟨rfl, rfl⟩
    rw [hbg]
    go_wp2_with fail
    go_ret
    exact ⟨rfl, Below.refl _ _⟩
  have hc := h.code hn0
  have hbg : decide (4096 < n) = false := by simp; omega
  clear h
  go_enter Try.func14, Try.ntmps14
  go_wp2_with fail
  (with_reducible refine (big_any _ _ _ _).mono ?_); rintro _ _ ⟨rfl, rfl⟩
  rw [hbg]
  go_wp2_with fail
  (with_reducible refine (roll_any _ _ _ _ 910 _ hc (Nat.le_refl _) (by omega) (by omega)).mono ?_); rintro _ w1 ⟨rfl, z1, d1, b1⟩
  have d1' : DiceAt (w1.alloc (.cells #[] 37)) w.heap.size w.heap.size A n c := d1.below (B := w1.heap.size) (by (repeat' (first | with_reducible exact Below.refl _ _ | with_reducible assumption | with_reducible refine Below.drew ?_ | with_reducible refine Below.alloc ?_ ?_ _ | with_reducible refine Below.setCell ?_ ?_ _ | with_reducible refine Below.trans ?_ (Below.mono (by assumption) ?_) | ((try simp only [World.heap_size_alloc, World.heap_size_drew, World.heap_size_setCell]); omega)))) z1
  go_wp2_with fail
  (with_reducible refine (below_any _ _ _ _ _ 15 _ (by omega) (by omega) d1').mono ?_); rintro _ w2 ⟨x, rfl, x0, x1, d2, u2⟩
  obtain ⟨many, rfl⟩ := Int.eq_ofNat_of_zero_le x0
  have y2 := u2.size
  simp only [World.heap_size_alloc] at y2
  go_wp2_with fail
  have hm1 : (1 : Int) + (many : Int) = ((many + 1 : Nat) : Int) := by omega
  have hx9 : many + 1 ≤ 15 := by omega
  have hx8 : 0 < many + 1 := by omega
  try rw [hm1]
  clear x0 x1 hm1
  generalize many + 1 = many' at hx9 hx8 ⊢
  (with_reducible refine (w9List_any A n c _ _ _ 0 0 0 0 [] many' _ d2 (Sl.nil _ _ _ _ _ _ (by omega)) (fun e he => absurd he (by simp)) (by omega)).mono ?_); rintro _ w3 ⟨ds, B, q, hds, hdr, rfl, s3, d3, u3⟩
  have y3 := u3.size
  have e0 : stA [] = st0 := rfl
  rw [e0] at s3
  have hll := genE_len ds st0
  have hbk := gen0_book hdr (by omega)
  generalize genE st0 ds = l at s3 hll hbk
  have hlm : l.length = many' := by omega
  have hb3 : Below w.heap.size w w3 := by
    have h1 : Below w.heap.size w (w1.alloc (.cells #[] 37)) := by (repeat' (first | with_reducible exact Below.refl _ _ | with_reducible assumption | with_reducible refine Below.drew ?_ | with_reducible refine Below.alloc ?_ ?_ _ | with_reducible refine Below.setCell ?_ ?_ _ | with_reducible refine Below.trans ?_ (Below.mono (by assumption) ?_) | ((try simp only [World.heap_size_alloc, World.heap_size_drew, World.heap_size_setCell]); omega)))
    have h2 : Below w.heap.size (w1.alloc (.cells #[] 37)) w2 := u2.below (Nat.le_refl _) (by (try simp only [World.heap_size_alloc, World.heap_size_drew, World.heap_size_setCell]); omega)
    exact (h1.trans h2).trans (u3.below (Nat.le_refl _) (by omega))
  have hmt : many' ≤ 15 := by omega
  clear hll hdr hds d1 d1' d2 u2 u3 e0
  obtain ⟨mq, rfl⟩ : ∃ mq, many' = mq + 1 := ⟨many' - 1, by omega⟩
  have s3' := s3.fit (by omega)
  have hhi : min w3.heap.size w3.heap.size ≤ w3.heap.size := Nat.min_le_right _ _
  generalize min w3.heap.size w3.heap.size = hi at s3' hhi
  have e1 : grownM 0 0 [] l = (0, 0, l, true) := grownM_of_ok (k := []) hbk
  have CG : ∀ W, Below w3.heap.size w3 W → Calls Try.prog 47 #[.agg #[.int .i64 0, .int .i64 0, .slice none 0 0], .slice B (mq + 1) q] W (BookBRes W 0 0 (mq + 1) (l.flatMap EntryD.ints) true) := fun W hW => by
    have h7 := grown_any 0 0 none 0 0 0 0 [] B (mq + 1) q _ _ l W (Sl.nil _ _ _ _ _ _ (by omega)) (s3'.below hW hhi)
    rw [e1, hlm] at h7
    exact h7
  have HG := Lib.hid CG
  have HS3 := Lib.hid s3'
  have HB3 := Lib.hid hb3
  have HBK := Lib.hid hbk
  have HLM := Lib.hid hlm
  have HD3 := Lib.hid d3
  have y23 : w.heap.size + 1 ≤ w2.heap.size := by omega
  have hi2 : w2.heap.size ≤ w3.heap.size := y3
  clear CG e1 s3 s3' hb3 hbk hlm d3 y2 y3 z1
  go_wp2_with fail
  (with_reducible refine (HG.out _ (Below.refl _ _)).mono ?_); rintro _ w4 ⟨A4, c4, rfl, s4, b4⟩
  have y4 := b4.size
  have V4 : Below w4.heap.size w4 (w4.alloc (.cells #[.int .i64 0, .int .i64 0, .slice A4 (mq + 1) c4] 29)) := by (repeat' (first | with_reducible exact Below.refl _ _ | with_reducible assumption | with_reducible refine Below.drew ?_ | with_reducible refine Below.alloc ?_ ?_ _ | with_reducible refine Below.setCell ?_ ?_ _ | with_reducible refine Below.trans ?_ (Below.mono (by assumption) ?_) | ((try simp only [World.heap_size_alloc, World.heap_size_drew, World.heap_size_setCell]); omega)))
  have r4 := Rec3.new w4 (.int .i64 0) (.int .i64 0) (.slice A4 (mq + 1) c4) 29
  have t4 := s4.below V4 (Nat.le_refl _)
  have D4 := HD3.out.below (b4.trans (V4.mono (by omega))) (show w.heap.size < w3.heap.size by omega)
  go_wp2_with fail
  (with_reducible refine (below_any _ _ _ _ _ ((mq : Int) + 1 + 1) _ (by omega) (by omega) D4).mono ?_); rintro _ w5 ⟨x, rfl, x0, x1, d5, u5⟩
  obtain ⟨k, rfl⟩ := Int.eq_ofNat_of_zero_le x0
  have y5 := u5.size
  simp only [World.heap_size_alloc] at y5
  have hkm : k ≤ mq + 1 := by omega
  have hkd : (mq : Int) + 1 - (k : Int) + 1 ≤ 17 := by omega
  have hkd0 : 0 < (mq : Int) + 1 - (k : Int) + 1 := by omega
  go_wp2_with fail
  (with_reducible refine (below_any _ _ _ _ _ ((mq : Int) + 1 - (k : Int) + 1) _ hkd0 (by omega) d5).mono ?_); rintro _ w6 ⟨x', rfl, x2, x3, d6, u6⟩
  obtain ⟨m, hm⟩ : ∃ m : Nat, (m : Int) = (k : Int) + x' := ⟨((k : Int) + x').toNat, by omega⟩
  have y6 := u6.size
  have hk' : k ≤ m := by omega
  have hmm : m ≤ mq + 1 := by omega
  have hx7 : x' = (m : Int) - (k : Int) := by omega
  have hx8' : (k : Int) + ((m : Int) - (k : Int)) = (m : Int) := by omega
  subst hx7
  clear hm
  have hu : Upd w.heap.size (w.heap.size + 1) (w4.alloc (.cells #[.int .i64 0, .int .i64 0, .slice A4 (mq + 1) c4] 29)) w6 := u5.trans u6
  have r6 := r4.upd hu (.inr (by omega))
  have t6 := (t4.upd hu (.inr (by omega))).mono (Nat.le_refl _) (show w4.heap.size ≤ w6.heap.size by omega)
  have L6 := Lib.hid (((HS3.out.below (b4.trans (V4.mono (by omega))) hhi).upd hu (.inr (by omega))))
  have Z6 := Lib.hid ((HB3.out.trans ((b4.trans (V4.mono (by omega))).mono HB3.out.size)).trans (hu.below (Nat.le_refl _) (by (try simp only [World.heap_size_alloc, World.heap_size_drew, World.heap_size_setCell]); omega)))
  -- plain facts
  obtain ⟨tk, htk⟩ : ∃ t, t = timeAt 0 0 l (k : Int) := ⟨_, rfl⟩
  obtain ⟨tm, htm⟩ : ∃ t, t = timeAt 0 0 l (m : Int) := ⟨_, rfl⟩
  have hkl : k ≤ l.length := by rw [HLM.out]; exact hkm
  have hml : m ≤ l.length := by rw [HLM.out]; exact hmm
  have hbx : bookOk (k : Int) tk (l.drop k) = true := by
    have h7 := trim_ok HBK.out hkl
    rwa [Int.zero_add, ← htk] at h7
  have hby : bookOk (m : Int) tm (l.drop m) = true := by
    have h7 := trim_ok HBK.out hml
    rwa [Int.zero_add, ← htm] at h7
  have e2 : trimmedTo 0 0 l (k : Int) = ((k : Int), tk, l.drop k, true) := by
    have h7 := trimmedTo_at HBK.out hkl
    rwa [Int.zero_add, ← htk] at h7
  have e4 : trimmedTo 0 0 l (m : Int) = ((m : Int), tm, l.drop m, true) := by
    have h7 := trimmedTo_at HBK.out hml
    rwa [Int.zero_add, ← htm] at h7
  have e3 : trimmedTo (k : Int) tk (l.drop k) (m : Int) = ((m : Int), tm, l.drop m, true) := by
    have h7 := trimmedTo_at hbx (k := m - k) (by rw [List.length_drop]; omega)
    have h8 := timeAt_trim (b := 0) (t := 0) (l := l) hk' hml
    rw [Int.zero_add, Int.zero_add, ← htk, ← htm] at h8
    rw [show (k : Int) + ((m - k : Nat) : Int) = (m : Int) by omega, h8, List.drop_drop, show k + (m - k) = m by omega] at h7
    exact h7
  have e5 : trimmedTo (m : Int) tm (l.drop m) ((m : Int) - 1) = ((m : Int), tm, l.drop m, false) := by
    have h7 : btw ((m : Int) - 1) (m : Int) ((m : Int) + ((l.drop m).length : Int)) = false := by
      cases hb : btw ((m : Int) - 1) (m : Int) ((m : Int) + ((l.drop m).length : Int)) with
      | false => rfl
      | true => have := btw_iff.1 hb; omega
    unfold trimmedTo
    rw [if_pos hby, if_neg (by rw [h7]; simp)]
  have hel : l[mq]? = some (l[mq]'(by rw [HLM.out]; omega)) := List.getElem?_eq_getElem _
  generalize l[mq]'(by rw [HLM.out]; omega) = el at hel
  have e6 : lastTime 0 l = el.time := lastTime_at (by rw [HLM.out]; exact hel)
  have e7 : timeOfM (m : Int) tm (l.drop m) = el.time := by
    have h7 := lastTime_trim (b := 0) (t := 0) hml (by rw [HLM.out]; omega)
    rw [Int.zero_add, ← htm, e6] at h7
    rw [timeOfM, if_pos hby, h7]
  have e8 : timeOfM 0 0 l = el.time := by rw [timeOfM, if_pos HBK.out, e6]
  have hdl : (l.drop m).length = mq + 1 - m := by rw [List.length_drop, HLM.out]
  have hdk : (l.drop k).length = mq + 1 - k := by rw [List.length_drop, HLM.out]
  have e9 : lastOfM (m : Int) tm (l.drop m) = (mq : Int) + 1 := by rw [lastOfM, if_pos hby, hdl]; omega
  have hin : ∀ (j : Nat) (e : EntryD), m ≤ j → l[j]? = some e → entryAtM (m : Int) tm (l.drop m) (1 + (j : Int)) = (e, true) := fun j e hj he => entryAt_in hby (j := j - m) (by rw [List.getElem?_drop, show m + (j - m) = j by omega]; exact he) (by omega)
  have hout : ∀ j : Nat, j < m → entryAtM (m : Int) tm (l.drop m) (1 + (j : Int)) = (zeroEntry, false) := fun j hj => entryAt_out (.inl (by omega))
  have C1 : ∀ W (D : Option Addr) (d lo' hi' : Nat), Sl W lo' hi' 9 D (mq + 1) d (l.flatMap EntryD.ints) → Calls Try.prog 40 #[.agg #[.int .i64 0, .int .i64 0, .slice D (mq + 1) d], .int .i64 (k : Int)] W (BookBRes W (k : Int) tk (mq + 1 - k) ((l.drop k).flatMap EntryD.ints) true) := fun W D d lo' hi' hs => by
    have h7 := trimmedTo_any 0 0 D (mq + 1) d _ _ l (k : Int) W hs
    rw [e2, hdk] at h7
    exact h7
  have C2 : ∀ W (D : Option Addr) (d lo' hi' : Nat), Sl W lo' hi' 9 D (mq + 1 - k) d ((l.drop k).flatMap EntryD.ints) → Calls Try.prog 40 #[.agg #[.int .i64 (k : Int), .int .i64 tk, .slice D (mq + 1 - k) d], .int .i64 (m : Int)] W (BookBRes W (m : Int) tm (mq + 1 - m) ((l.drop m).flatMap EntryD.ints) true) := fun W D d lo' hi' hs => by
    have h7 := trimmedTo_any (k : Int) tk D (mq + 1 - k) d _ _ (l.drop k) (m : Int) W hs
    rw [e3, hdl] at h7
    exact h7
  have C3 : ∀ W (D : Option Addr) (d lo' hi' : Nat), Sl W lo' hi' 9 D (mq + 1) d (l.flatMap EntryD.ints) → Calls Try.prog 40 #[.agg #[.int .i64 0, .int .i64 0, .slice D (mq + 1) d], .int .i64 (m : Int)] W (BookBRes W (m : Int) tm (mq + 1 - m) ((l.drop m).flatMap EntryD.ints) true) := fun W D d lo' hi' hs => by
    have h7 := trimmedTo_any 0 0 D (mq + 1) d _ _ l (m : Int) W hs
    rw [e4, hdl] at h7
    exact h7
  have C4 : ∀ W (D : Option Addr) (d lo' hi' : Nat), Sl W lo' hi' 9 D (mq + 1 - m) d ((l.drop m).flatMap EntryD.ints) → Calls Try.prog 40 #[.agg #[.int .i64 (m : Int), .int .i64 tm, .slice D (mq + 1 - m) d], .int .i64 ((m : Int) - 1)] W (BookBRes W (m : Int) tm (mq + 1 - m) ((l.drop m).flatMap EntryD.ints) false) := fun W D d lo' hi' hs => by
    have h7 := trimmedTo_any (m : Int) tm D (mq + 1 - m) d _ _ (l.drop m) ((m : Int) - 1) W hs
    rw [e5, hdl] at h7
    exact h7
  have CS : ∀ W (D D' : Option Addr) (d d' lo' hi' lo2 hi2 : Nat), Sl W lo' hi' 9 D (mq + 1 - m) d ((l.drop m).flatMap EntryD.ints) → Sl W lo2 hi2 9 D' (mq + 1 - m) d' ((l.drop m).flatMap EntryD.ints) → Calls Try.prog 19 #[.agg #[.int .i64 (m : Int), .int .i64 tm, .slice D (mq + 1 - m) d], .agg #[.int .i64 (m : Int), .int .i64 tm, .slice D' (mq + 1 - m) d']] W (BoolRes W true) := fun W D D' d d' lo' hi' lo2 hi2 hs hs' => by
    have h7 := sameBook_any (m : Int) tm D (mq + 1 - m) d _ _ (l.drop m) (m : Int) tm D' (mq + 1 - m) d' _ _ (l.drop m) W hs hs'
    rw [show sameBook (m : Int) tm (l.drop m) (m : Int) tm (l.drop m) = true by simp [sameBook, sameEnts]] at h7
    exact h7
  have CL : ∀ W (D : Option Addr) (d lo' hi' : Nat), Sl W lo' hi' 9 D (mq + 1 - m) d ((l.drop m).flatMap EntryD.ints) → Calls Try.prog 27 #[.agg #[.int .i64 (m : Int), .int .i64 tm, .slice D (mq + 1 - m) d]] W fun e w' => e = .returned (.int .i64 ((mq : Int) + 1)) ∧ Below W.heap.size W w' := fun W D d lo' hi' hs => by
    have h7 := lastOfM_any (m : Int) tm D (mq + 1 - m) d _ _ (l.drop m) W hs
    rw [e9] at h7
    exact h7
  have CTY : ∀ W (D : Option Addr) (d lo' hi' : Nat), Sl W lo' hi' 9 D (mq + 1 - m) d ((l.drop m).flatMap EntryD.ints) → Calls Try.prog 29 #[.agg #[.int .i64 (m : Int), .int .i64 tm, .slice D (mq + 1 - m) d]] W fun e w' => e = .returned (.int .i64 el.time) ∧ Below W.heap.size W w' := fun W D d lo' hi' hs => by
    have h7 := timeOf_any (m : Int) tm D (mq + 1 - m) d _ _ (l.drop m) W hs
    rw [e7] at h7
    exact h7
  have CTB : ∀ W (D : Option Addr) (d lo' hi' : Nat), Sl W lo' hi' 9 D (mq + 1) d (l.flatMap EntryD.ints) → Calls Try.prog 29 #[.agg #[.int .i64 0, .int .i64 0, .slice D (mq + 1) d]] W fun e w' => e = .returned (.int .i64 el.time) ∧ Below W.heap.size W w' := fun W D d lo' hi' hs => by
    have h7 := timeOf_any 0 0 D (mq + 1) d _ _ l W hs
    rw [e8] at h7
    exact h7
  have CE : ∀ W (D : Option Addr) (d lo' hi' j : Nat) (r : EntryD × Bool), entryAtM (m : Int) tm (l.drop m) (1 + (j : Int)) = r → Sl W lo' hi' 9 D (mq + 1 - m) d ((l.drop m).flatMap EntryD.ints) → Calls Try.prog 24 #[.agg #[.int .i64 (m : Int), .int .i64 tm, .slice D (mq + 1 - m) d], .int .i64 (1 + (j : Int))] W (EntryVBRes W r) := fun W D d lo' hi' j r hr hs => by
    have h7 := entryAt_any (m : Int) tm D (mq + 1 - m) d _ _ (l.drop m) (1 + (j : Int)) W hs
    rw [hr] at h7
    exact h7
  have CK : ∀ W (D : Option Addr) (d lo' hi' : Nat), Sl W lo' hi' 9 D (mq + 1 - m) d ((l.drop m).flatMap EntryD.ints) → Calls Try.prog 22 #[.agg #[.int .i64 (m : Int), .int .i64 tm, .slice D (mq + 1 - m) d]] W (BoolRes W true) := fun W D d lo' hi' hs => by
    have h7 := bookOk_any (m : Int) tm D (mq + 1 - m) d _ _ (l.drop m) W hs
    rw [hby] at h7
    exact h7
  have H1 := Lib.hid C1
  have H2 := Lib.hid C2
  have H3 := Lib.hid C3
  have H4 := Lib.hid C4
  have HS := Lib.hid CS
  have HL := Lib.hid CL
  have HTY := Lib.hid CTY
  have HTB := Lib.hid CTB
  have HE := Lib.hid CE
  have HK := Lib.hid CK
  have HIN := Lib.hid hin
  have HOUT := Lib.hid hout
  have HEL := Lib.hid hel
  have HMM := Lib.hid hmm
  have yy4 : w3.heap.size ≤ w4.heap.size := y4
  clear C1 C2 C3 C4 CS CL CTY CTB CE CK hin hout hel e2 e3 e4 e5 e6 e7 e8 e9 hbx hby htk htm hkl hml hdl hdk s4 t4 r4 d5 d6 D4 u5 u6 hu b4 V4 x0 x1 x2 x3 hkd hkd0 hk' hmm
  generalize (l.drop k).flatMap EntryD.ints = zk at *
  generalize (l.drop m).flatMap EntryD.ints = zm at *
  obtain ⟨a0, a1, a2, -, -, -⟩ := id r6
  have hwm : wrap64 (m : Int) = (m : Int) := IntWalk.wrap64_in _ (by have := HMM.out; omega)
  have HWM := Lib.hid hwm
  clear hwm
  go_wp2_with fail
  rw [HWM.out]
  clear HWM hx8'
  (with_reducible refine (H1.out _ _ _ _ _ t6).mono ?_); rintro _ w7 ⟨A7, c7, rfl, s7, b7⟩
  have y7 := b7.size
  have V7 : Below w7.heap.size w7 (w7.alloc (.cells #[.int .i64 (k : Int), .int .i64 tk, .slice A7 (mq + 1 - k) c7] 29)) := by (repeat' (first | with_reducible exact Below.refl _ _ | with_reducible assumption | with_reducible refine Below.drew ?_ | with_reducible refine Below.alloc ?_ ?_ _ | with_reducible refine Below.setCell ?_ ?_ _ | with_reducible refine Below.trans ?_ (Below.mono (by assumption) ?_) | ((try simp only [World.heap_size_alloc, World.heap_size_drew, World.heap_size_setCell]); omega)))
  have r7 := (r6.below b7 r6.lt).below V7 (by have := r6.lt; omega)
  have t7 := (t6.below b7 (Nat.le_refl _)).below V7 (by omega)
  have q7 := Rec3.new w7 (.int .i64 (k : Int)) (.int .i64 tk) (.slice A7 (mq + 1 - k) c7) 29
  have p7 := s7.below V7 (Nat.le_refl _)
  have z7 := Lib.hid (b7.trans (V7.mono (by omega)))
  clear a0 a1 a2
  obtain ⟨a0, a1, a2, -, -, -⟩ := id q7
  have R7 := Lib.hid r7
  have T7 := Lib.hid (t7.mono (Nat.le_refl _) (show w6.heap.size ≤ w7.heap.size by omega))
  have hr6 := r6.lt
  clear q7 r7 t7 r6 t6 b7 V7 s7
  go_wp2_with fail
  (with_reducible refine (H2.out _ _ _ _ _ p7).mono ?_); rintro _ w8 ⟨A8, c8, rfl, s8, b8⟩
  have y8 := b8.size
  simp only [World.heap_size_alloc] at y8
  have V8 : Below w8.heap.size w8 (w8.alloc (.cells #[.int .i64 (m : Int), .int .i64 tm, .slice A8 (mq + 1 - m) c8] 29)) := by (repeat' (first | with_reducible exact Below.refl _ _ | with_reducible assumption | with_reducible refine Below.drew ?_ | with_reducible refine Below.alloc ?_ ?_ _ | with_reducible refine Below.setCell ?_ ?_ _ | with_reducible refine Below.trans ?_ (Below.mono (by assumption) ?_) | ((try simp only [World.heap_size_alloc, World.heap_size_drew, World.heap_size_setCell]); omega)))
  have r8 := (R7.out.below b8 (by (try simp only [World.heap_size_alloc, World.heap_size_drew, World.heap_size_setCell]); omega)).below V8 (by omega)
  have t8 := (T7.out.below b8 (by (try simp only [World.heap_size_alloc, World.heap_size_drew, World.heap_size_setCell]); omega)).below V8 (by omega)
  have Q8 := Lib.hid (Rec3.new w8 (.int .i64 (m : Int)) (.int .i64 tm) (.slice A8 (mq + 1 - m) c8) 29)
  have P8 := Lib.hid (s8.below V8 (Nat.le_refl _))
  have z8 := Lib.hid (z7.out.trans ((b8.mono (by (try simp only [World.heap_size_alloc, World.heap_size_drew, World.heap_size_setCell]); omega)).trans (V8.mono (by omega))))
  clear a0 a1 a2
  obtain ⟨a0, a1, a2, -, -, -⟩ := id r8
  have R8 := Lib.hid r8
  clear r8 b8 V8 s8 p7
  go_wp2_with fail
  (with_reducible refine (H3.out _ _ _ _ _ t8).mono ?_); rintro _ w9 ⟨A9, c9, rfl, s9, b9⟩
  have y9 := b9.size
  simp only [World.heap_size_alloc] at y9
  obtain ⟨W, hW⟩ : ∃ W, W = (w9.alloc (.cells #[.int .i64 (m : Int), .int .i64 tm, .slice A9 (mq + 1 - m) c9] 29)) := ⟨_, rfl⟩
  have V9 : Below w9.heap.size w9 W := by rw [hW]; (repeat' (first | with_reducible exact Below.refl _ _ | with_reducible assumption | with_reducible refine Below.drew ?_ | with_reducible refine Below.alloc ?_ ?_ _ | with_reducible refine Below.setCell ?_ ?_ _ | with_reducible refine Below.trans ?_ (Below.mono (by assumption) ?_) | ((try simp only [World.heap_size_alloc, World.heap_size_drew, World.heap_size_setCell]); omega)))
  have hWz : W.heap.size = w9.heap.size + 1 := by rw [hW]; simp
  have RB := (R8.out.below b9 (by (try simp only [World.heap_size_alloc, World.heap_size_drew, World.heap_size_setCell]); omega)).below V9 (by omega)
  have RY := (Q8.out.below b9 (by (try simp only [World.heap_size_alloc, World.heap_size_drew, World.heap_size_setCell]); omega)).below V9 (by omega)
  have RZ : Rec3 W w9.heap.size (.int .i64 (m : Int)) (.int .i64 tm) (.slice A9 (mq + 1 - m) c9) := by rw [hW]; exact Rec3.new _ _ _ _ _
  have TB := Lib.hid (((t8.below b9 (by (try simp only [World.heap_size_alloc, World.heap_size_drew, World.heap_size_setCell]); omega)).below V9 (by omega)).mono (Nat.zero_le _) (show w7.heap.size ≤ W.heap.size by omega))
  have TY := Lib.hid (((P8.out.below b9 (by (try simp only [World.heap_size_alloc, World.heap_size_drew, World.heap_size_setCell]); omega)).below V9 (by omega)).mono (Nat.zero_le _) (show w8.heap.size ≤ W.heap.size by omega))
  have TZ := Lib.hid ((s9.below V9 (Nat.le_refl _)).mono (Nat.zero_le _) (show w9.heap.size ≤ W.heap.size by omega))
  have zW := z8.out.trans ((b9.mono (by (try simp only [World.heap_size_alloc, World.heap_size_drew, World.heap_size_setCell]); omega)).trans (V9.mono (by omega)))
  have LL := Lib.hid ((L6.out.fit (by omega)).below zW (Nat.min_le_right _ _))
  have ZW := Lib.hid (Z6.out.trans (zW.mono Z6.out.size))
  have hmw : min hi w6.heap.size ≤ W.heap.size := by omega
  obtain ⟨b0, b1', b2', -, -, -⟩ := id RB
  obtain ⟨v0, v1, v2, -, -, -⟩ := id RY
  obtain ⟨u0, u1, u2', -, -, -⟩ := id RZ
  obtain ⟨g, off, e', rfl, _, hg, he', _, p1, _⟩ := LL.out.entry (show mq < mq + 1 by omega)
  obtain rfl : el = e' := by
    have h9 := HEL.out
    rw [he'] at h9
    injection h9 with h9
    exact h9.symm
  have hrb := RB.lt
  have hry := RY.lt
  have HRY := Lib.hid RY
  clear a0 a1 a2 t8 s9 b9 V9 RB RY RZ he'
  go_upto_region 12 with fail
  rw [← hW]
  clear hW
  have fb0 := fun d os => cell_regrown b0 d os
  have fb1' := fun d os => cell_regrown b1' d os
  have fb2' := fun d os => cell_regrown b2' d os
  have fv0 := fun d os => cell_regrown v0 d os
  have fv1 := fun d os => cell_regrown v1 d os
  have fv2 := fun d os => cell_regrown v2 d os
  have fu0 := fun d os => cell_regrown u0 d os
  have fu1 := fun d os => cell_regrown u1 d os
  have fu2' := fun d os => cell_regrown u2' d os
  have fp1 := fun d os => cell_regrown p1 d os
  have hi3 : IntKind.i64.wrap ((mq : Int) + 1 - 1) = (mq : Int) := by rw [IntWalk.i64_in _ (by omega)]; omega
  have hi4 : ((mq : Nat) : Int) < (mq : Int) + 1 := by omega
  have hi5 : (0 : Int) ≤ (mq : Int) := by omega
  refine wp_region_quiet_below (by kernel_rfl) (by kernel_rfl) ?_; (repeat (first | go_big_quiet_step ((first | (go_at_call 19; with_reducible exact Calls.regrown_of (HS.out _ _ _ _ _ _ _ _ _ (TY.out.below (below_regrown _ _ _) (Nat.le_refl _)) (TZ.out.below (below_regrown _ _ _) (Nat.le_refl _)))) | (go_at_call 27; with_reducible exact Calls.regrown_of (HL.out _ _ _ _ _ (TY.out.below (below_regrown _ _ _) (Nat.le_refl _)))) | (go_at_call 29; with_reducible exact Calls.regrown_of (HTY.out _ _ _ _ _ (TY.out.below (below_regrown _ _ _) (Nat.le_refl _)))) | (go_at_call 29; with_reducible exact Calls.regrown_of (HTB.out _ _ _ _ _ (TB.out.below (below_regrown _ _ _) (Nat.le_refl _)))))) | quiet_step ((first | (go_at_call 19; with_reducible exact Calls.regrown_of (HS.out _ _ _ _ _ _ _ _ _ (TY.out.below (below_regrown _ _ _) (Nat.le_refl _)) (TZ.out.below (below_regrown _ _ _) (Nat.le_refl _)))) | (go_at_call 27; with_reducible exact Calls.regrown_of (HL.out _ _ _ _ _ (TY.out.below (below_regrown _ _ _) (Nat.le_refl _)))) | (go_at_call 29; with_reducible exact Calls.regrown_of (HTY.out _ _ _ _ _ (TY.out.below (below_regrown _ _ _) (Nat.le_refl _)))) | (go_at_call 29; with_reducible exact Calls.regrown_of (HTB.out _ _ _ _ _ (TB.out.below (below_regrown _ _ _) (Nat.le_refl _)))))))); refine wpQuiet_nil ?_; intro _ hw'; obtain ⟨⟨nq, osq⟩, hw''⟩ := hw'; subst hw''; have hq := below_regrown W nq osq; generalize Sort.grow (redrawn W nq) osq = w10 at *
  have y10 := hq.size
  have RY2 := Lib.hid (HRY.out.below hq hry)
  have TY2 := Lib.hid (TY.out.below hq (Nat.le_refl _))
  have LL2 := Lib.hid (LL.out.below hq hmw)
  have Z10 := Lib.hid (ZW.out.trans (hq.mono ZW.out.size))
  clear b0 b1' b2' v0 v1 v2 u0 u1 u2' p1 fb0 fb1' fb2' fv0 fv1 fv2 fu0 fu1 fu2' fp1 hq hi3 hi4 hi5
  have hry2 := RY2.out.lt
  go_wp2_with fail
  go_loopw [16, 17, 18] (fun i _ _ wr => ∃ j : Nat, j ≤ mq + 1 ∧ i = .int .i64 (1 + (j : Int)) ∧ Below w10.heap.size w10 wr) (fun i _ _ _ => mq + 2 - (intOf i).toNat)
  case atStart => exact ⟨0, Nat.zero_le _, rfl, Below.refl _ _⟩
  case round =>
    obtain ⟨j, hj, rfl, hb⟩ := hrel
    have hbz := hb.size
    obtain ⟨v0, v1, v2, -, -, -⟩ := RY2.out.below hb hry2
    by_cases hlt : j < mq + 1
    · have hle : decide (1 + (j : Int) ≤ (mq : Int) + 1) = true := by simp; omega
      have TY3 := Lib.hid (TY2.out.below hb (by omega))
      by_cases hmj : m ≤ j
      · obtain ⟨g', off', e, e9, _, hg', he, p0, p1, p2, p3, p4, p5, p6, p7, p8⟩ := LL2.out.entry hlt
        injection e9 with e9
        injection e9 with e9 e8
        subst e9 e8
        have hex := HIN.out j e hmj he
        have hgt : decide ((m : Int) < 1 + (j : Int)) = true := by simp; omega
        have HB := Lib.hid hb
        clear he hb
        go_wp2_with fail
        (with_reducible refine (HE.out _ _ _ _ _ j _ hex TY3.out).mono ?_); rintro _ w11 ⟨rfl, b11⟩
        have y11 := b11.size
        have hb12 : Below w10.heap.size w10 (w11.alloc (.cells #[.int .i64 e.index, .int .i64 e.time, .int .i64 e.client, .int .i64 e.seq, .int .i64 e.op.kind, .int .i64 e.op.a, .int .i64 e.op.b, .int .i64 e.op.c, .int .i64 e.op.d] 37)) := (HB.out.trans (b11.mono hbz)).alloc (by omega) _
        have r0 := (hb12.cell (p := ⟨g, off + j * 9, none⟩) (show g < w10.heap.size by omega)).trans p0
        have fr0 := fun d os => cell_regrown r0 d os
        have x0 : (w11.alloc (.cells #[.int .i64 e.index, .int .i64 e.time, .int .i64 e.client, .int .i64 e.seq, .int .i64 e.op.kind, .int .i64 e.op.a, .int .i64 e.op.b, .int .i64 e.op.c, .int .i64 e.op.d] 37)).cell? ⟨w11.heap.size, 0, none⟩ = some (.int .i64 e.index) := by simp
        have fx0 := fun d os => cell_regrown x0 d os
        have r1 := (hb12.cell (p := ⟨g, off + j * 9 + 1, none⟩) (show g < w10.heap.size by omega)).trans p1
        have fr1 := fun d os => cell_regrown r1 d os
        have x1 : (w11.alloc (.cells #[.int .i64 e.index, .int .i64 e.time, .int .i64 e.client, .int .i64 e.seq, .int .i64 e.op.kind, .int .i64 e.op.a, .int .i64 e.op.b, .int .i64 e.op.c, .int .i64 e.op.d] 37)).cell? ⟨w11.heap.size, 1, none⟩ = some (.int .i64 e.time) := by simp
        have fx1 := fun d os => cell_regrown x1 d os
        have r2 := (hb12.cell (p := ⟨g, off + j * 9 + 2, none⟩) (show g < w10.heap.size by omega)).trans p2
        have fr2 := fun d os => cell_regrown r2 d os
        have x2 : (w11.alloc (.cells #[.int .i64 e.index, .int .i64 e.time, .int .i64 e.client, .int .i64 e.seq, .int .i64 e.op.kind, .int .i64 e.op.a, .int .i64 e.op.b, .int .i64 e.op.c, .int .i64 e.op.d] 37)).cell? ⟨w11.heap.size, 2, none⟩ = some (.int .i64 e.client) := by simp
        have fx2 := fun d os => cell_regrown x2 d os
        have r3 := (hb12.cell (p := ⟨g, off + j * 9 + 3, none⟩) (show g < w10.heap.size by omega)).trans p3
        have fr3 := fun d os => cell_regrown r3 d os
        have x3 : (w11.alloc (.cells #[.int .i64 e.index, .int .i64 e.time, .int .i64 e.client, .int .i64 e.seq, .int .i64 e.op.kind, .int .i64 e.op.a, .int .i64 e.op.b, .int .i64 e.op.c, .int .i64 e.op.d] 37)).cell? ⟨w11.heap.size, 3, none⟩ = some (.int .i64 e.seq) := by simp
        have fx3 := fun d os => cell_regrown x3 d os
        have r4 := (hb12.cell (p := ⟨g, off + j * 9 + 4, none⟩) (show g < w10.heap.size by omega)).trans p4
        have fr4 := fun d os => cell_regrown r4 d os
        have x4 : (w11.alloc (.cells #[.int .i64 e.index, .int .i64 e.time, .int .i64 e.client, .int .i64 e.seq, .int .i64 e.op.kind, .int .i64 e.op.a, .int .i64 e.op.b, .int .i64 e.op.c, .int .i64 e.op.d] 37)).cell? ⟨w11.heap.size, 4, none⟩ = some (.int .i64 e.op.kind) := by simp
        have fx4 := fun d os => cell_regrown x4 d os
        have r5 := (hb12.cell (p := ⟨g, off + j * 9 + 5, none⟩) (show g < w10.heap.size by omega)).trans p5
        have fr5 := fun d os => cell_regrown r5 d os
        have x5 : (w11.alloc (.cells #[.int .i64 e.index, .int .i64 e.time, .int .i64 e.client, .int .i64 e.seq, .int .i64 e.op.kind, .int .i64 e.op.a, .int .i64 e.op.b, .int .i64 e.op.c, .int .i64 e.op.d] 37)).cell? ⟨w11.heap.size, 5, none⟩ = some (.int .i64 e.op.a) := by simp
        have fx5 := fun d os => cell_regrown x5 d os
        have r6 := (hb12.cell (p := ⟨g, off + j * 9 + 6, none⟩) (show g < w10.heap.size by omega)).trans p6
        have fr6 := fun d os => cell_regrown r6 d os
        have x6 : (w11.alloc (.cells #[.int .i64 e.index, .int .i64 e.time, .int .i64 e.client, .int .i64 e.seq, .int .i64 e.op.kind, .int .i64 e.op.a, .int .i64 e.op.b, .int .i64 e.op.c, .int .i64 e.op.d] 37)).cell? ⟨w11.heap.size, 6, none⟩ = some (.int .i64 e.op.b) := by simp
        have fx6 := fun d os => cell_regrown x6 d os
        have r7 := (hb12.cell (p := ⟨g, off + j * 9 + 7, none⟩) (show g < w10.heap.size by omega)).trans p7
        have fr7 := fun d os => cell_regrown r7 d os
        have x7 : (w11.alloc (.cells #[.int .i64 e.index, .int .i64 e.time, .int .i64 e.client, .int .i64 e.seq, .int .i64 e.op.kind, .int .i64 e.op.a, .int .i64 e.op.b, .int .i64 e.op.c, .int .i64 e.op.d] 37)).cell? ⟨w11.heap.size, 7, none⟩ = some (.int .i64 e.op.c) := by simp
        have fx7 := fun d os => cell_regrown x7 d os
        have r8 := (hb12.cell (p := ⟨g, off + j * 9 + 8, none⟩) (show g < w10.heap.size by omega)).trans p8
        have fr8 := fun d os => cell_regrown r8 d os
        have x8 : (w11.alloc (.cells #[.int .i64 e.index, .int .i64 e.time, .int .i64 e.client, .int .i64 e.seq, .int .i64 e.op.kind, .int .i64 e.op.a, .int .i64 e.op.b, .int .i64 e.op.c, .int .i64 e.op.d] 37)).cell? ⟨w11.heap.size, 8, none⟩ = some (.int .i64 e.op.d) := by simp
        have fx8 := fun d os => cell_regrown x8 d os
        clear p0 p1 p2 p3 p4 p5 p6 p7 p8
        have hi3 : IntKind.i64.wrap (1 + (j : Int) - 1) = (j : Int) := by rw [IntWalk.i64_in _ (by omega)]; omega
        have hi4 : ((j : Nat) : Int) < (mq : Int) + 1 := by omega
        clear v0 v1 v2
        go_wp2
        refine wp_region_quiet_below (by kernel_rfl) (by kernel_rfl) ?_; (repeat (first | go_big_quiet_step (fail) | quiet_step (fail))); refine wpQuiet_nil ?_; intro _ hw'; obtain ⟨⟨nq, osq⟩, hw''⟩ := hw'; subst hw''; have hq := below_regrown (w11.alloc (.cells #[.int .i64 e.index, .int .i64 e.time, .int .i64 e.client, .int .i64 e.seq, .int .i64 e.op.kind, .int .i64 e.op.a, .int .i64 e.op.b, .int .i64 e.op.c, .int .i64 e.op.d] 37)) nq osq; generalize Sort.grow (redrawn (w11.alloc (.cells #[.int .i64 e.index, .int .i64 e.time, .int .i64 e.client, .int .i64 e.seq, .int .i64 e.op.kind, .int .i64 e.op.a, .int .i64 e.op.b, .int .i64 e.op.c, .int .i64 e.op.d] 37)) nq) osq = w12 at *
        have hbw : Below w10.heap.size w10 w12 := hb12.trans (hq.mono (by (try simp only [World.heap_size_alloc, World.heap_size_drew, World.heap_size_setCell]); omega))
        clear hi3
        go_wp2
        go_roundw
        case rel => exact ⟨j + 1, hlt, by go_num, hbw⟩
        case measure => simp [intOf]; omega
      · have hex := HOUT.out j (by omega)
        have hgt : decide ((m : Int) < 1 + (j : Int)) = false := by simp; omega
        have HB := Lib.hid hb
        clear hb
        go_wp2_with fail
        (with_reducible refine (HE.out _ _ _ _ _ j _ hex TY3.out).mono ?_); rintro _ w11 ⟨rfl, b11⟩
        have y11 := b11.size
        have hb12 : Below w10.heap.size w10 (w11.alloc (.cells #[.int .i64 0, .int .i64 0, .int .i64 0, .int .i64 0, .int .i64 0, .int .i64 0, .int .i64 0, .int .i64 0, .int .i64 0] 37)) := (HB.out.trans (b11.mono hbz)).alloc (by omega) _
        have hi3 : IntKind.i64.wrap (1 + (j : Int) - 1) = (j : Int) := by rw [IntWalk.i64_in _ (by omega)]; omega
        clear v0 v1 v2
        simp only [zeroEntry]
        go_wp2
        refine wp_region_quiet_below (by kernel_rfl) (by kernel_rfl) ?_; (repeat (first | go_big_quiet_step (fail) | quiet_step (fail))); refine wpQuiet_nil ?_; intro _ hw'; obtain ⟨⟨nq, osq⟩, hw''⟩ := hw'; subst hw''; have hq := below_regrown (w11.alloc (.cells #[.int .i64 0, .int .i64 0, .int .i64 0, .int .i64 0, .int .i64 0, .int .i64 0, .int .i64 0, .int .i64 0, .int .i64 0] 37)) nq osq; generalize Sort.grow (redrawn (w11.alloc (.cells #[.int .i64 0, .int .i64 0, .int .i64 0, .int .i64 0, .int .i64 0, .int .i64 0, .int .i64 0, .int .i64 0, .int .i64 0] 37)) nq) osq = w12 at *
        have hbw : Below w10.heap.size w10 w12 := hb12.trans (hq.mono (by (try simp only [World.heap_size_alloc, World.heap_size_drew, World.heap_size_setCell]); omega))
        clear hi3
        go_wp2
        go_roundw
        case rel => exact ⟨j + 1, hlt, by go_num, hbw⟩
        case measure => simp [intOf]; omega
    · have hle : decide (1 + (j : Int) ≤ (mq : Int) + 1) = false := by simp; omega
      have TY3 := Lib.hid (TY2.out.below hb (by omega))
      have Z11 := Lib.hid (Z10.out.trans (hb.mono Z10.out.size))
      have hmm := HMM.out
      have RY3 := Lib.hid (RY2.out.below hb hry2)
      have hry3 := RY3.out.lt
      clear hb
      go_wp2_with fail
      (with_reducible refine (H4.out _ _ _ _ _ TY3.out).mono ?_); rintro _ w13 ⟨A13, c13, rfl, s13, b13⟩
      have y13 := b13.size
      obtain ⟨W2, hW2⟩ : ∃ W2, W2 = (w13.alloc (.cells #[.int .i64 (m : Int), .int .i64 tm, .slice A13 (mq + 1 - m) c13] 29)) := ⟨_, rfl⟩
      have V13 : Below w13.heap.size w13 W2 := by rw [hW2]; (repeat' (first | with_reducible exact Below.refl _ _ | with_reducible assumption | with_reducible refine Below.drew ?_ | with_reducible refine Below.alloc ?_ ?_ _ | with_reducible refine Below.setCell ?_ ?_ _ | with_reducible refine Below.trans ?_ (Below.mono (by assumption) ?_) | ((try simp only [World.heap_size_alloc, World.heap_size_drew, World.heap_size_setCell]); omega)))
      clear v0 v1 v2
      obtain ⟨v0, v1, v2, -, -, -⟩ := (RY3.out.below b13 hry3).below V13 (by omega)
      have TY4 := Lib.hid ((TY3.out.below b13 (by omega)).below V13 (by omega))
      have Z13 := Lib.hid (Z11.out.trans (((b13.trans (V13.mono y13))).mono Z11.out.size))
      have zz := Z13.out.size
      subst hW2
      clear s13 b13 V13
      go_wp2_with fail
      (with_reducible refine (HK.out _ _ _ _ _ TY4.out).mono ?_); rintro _ w14 ⟨rfl, b14⟩
      have Z14 : Below w.heap.size w w14 := Z13.out.trans (b14.mono zz)
      go_wp2_with fail
      go_ret
      exact ⟨rfl, Z14⟩
theorem own : ownKnob Try.prog.godebug = none := by kernel_rfl
theorem laidOut : laidOutB Try.prog = true := by kernel_rfl
set_option maxRecDepth 100000 in
theorem lifted (os : Os) (started : os.Started) (H : Type) (enc : TypeId × Value → H) :
    ReturnsInHanded {} Try.checked os 14 .any (Rows.fnBookTrimsSpec.pre6 enc Try.prog Try.f14 Rows.fnBookTrimsRow.domain false) (Rows.fnBookTrimsSpec.post enc Try.prog Try.f14 false true false false) := by
  refine returnsInHanded_of_change (C := Try.checked) own started (by kernel_rfl) Try.func14
    (ChangeSpec.witness6 (enc := enc) (C := Try.checked) false ⟨#[], #[.slice none 0 0], []⟩ 8 (by kernel_rfl) (by kernel_rfl) (by kernel_rfl) (by kernel_rfl)) ?_
  intro W base args ds gs before hval0 hW hcnd _
  have hval : ∀ (j : Nat) t v, Try.f14.params[j]? = some t → args[j]? = some v → Value.okWide Try.prog W .any base t v := hval0
  have hW' := hW
  obtain ⟨p, q, hA0, hV, rfl, hfz, hnd⟩ := hW
  have hA : DataW.TrodAll enc Try.prog W 0 (fun _ => true) true Try.f14.params.toList args.toList ds p := hA0
  rw [Try.params14] at hA hval
  obtain ⟨v0, d0, rfl, rfl, h0⟩ := trodAll_one hA
  obtain ⟨rfl, rfl⟩ := trodVars_none hV
  obtain ⟨A0, n0, c0, rfl, hz0⟩ := open_bytes Try.underlying60 Try.underlying5 (by kernel_rfl) (hval 0 60 v0 rfl rfl) h0
  clear hA0 hval0
  refine (law_any A0 n0 c0 W hz0).mono fun e W' ⟨he, hb⟩ => ?_
  subst he
  exact ⟨_, rfl, law_post laidOut (by kernel_rfl) rfl Try.underlying4 rfl hW' hb rfl rfl rfl⟩
theorem holds : Rows.FnBookTrimsSaid :=
  OpenClaim.holds_of_wide 14 Try.f14 rfl rfl rfl rfl rfl rfl rfl ⟨rfl, rfl, rfl, rfl, rfl⟩ rfl rfl rfl rfl rfl (by kernel_rfl) Try.func14 (by kernel_rfl)
    (of_decide_eq_true (by kernel_rfl)) (by unfold Func.isWrapper; first | (rw [if_pos (by decide +kernel)]; kernel_rfl) | (rw [if_neg (by decide +kernel)]; exact ⟨rfl, rfl⟩))
    (fun os started H enc _ => lifted os started H enc)
#print axioms holds
end BookTrims
end Go.Proofs.Ytijefbmnhcecmaa
