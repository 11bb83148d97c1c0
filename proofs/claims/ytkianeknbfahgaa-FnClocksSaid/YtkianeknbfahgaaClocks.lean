/- The law FnClocks returns true for every input. No conditions. -/
import Derived.Test.YtkianeknbfahgaaClk4
set_option linter.unusedSimpArgs false
set_option linter.unusedVariables false
namespace Go.Proofs.Ytkianeknbfahgaa
open Go.ChangeShapes Go.WideShapes Go.ChangeAt Go.RowKit
namespace Clocks
set_option maxRecDepth 100000 in
set_option maxHeartbeats 8000000 in
theorem law_any (A : Option Addr) (n c : Nat) (w : World) (h : ArgB w A n c) : Calls Try.prog 7 #[.slice A n c] w fun e w' => e = .returned (.bool true) ∧ Below w.heap.size w w' := by
  rcases Nat.lt_or_ge 4096 n with hn0 | hn0
  · have hbg : decide (4096 < n) = true := by simpa using hn0
    clear h
    go_enter Try.func7, Try.ntmps7
    go_wp2_with fail
    (with_reducible refine (big_any _ _ _ _).mono ?_); rintro _ _ ⟨rfl, rfl⟩
    rw [hbg]
    go_wp2_with fail
    go_ret
    exact ⟨rfl, Below.refl _ _⟩
  have hc := h.code hn0
  have hbg : decide (4096 < n) = false := by simp; omega
  clear h
  go_enter Try.func7, Try.ntmps7
  go_wp2_with fail
  (with_reducible refine (big_any _ _ _ _).mono ?_); rintro _ _ ⟨rfl, rfl⟩
  rw [hbg]
  go_wp2_with fail
  (with_reducible refine (roll_any _ _ _ _ 905 _ hc (Nat.le_refl _) (by omega) (by omega)).mono ?_); rintro _ w1 ⟨rfl, z1, d1, b1⟩
  have o1 : Own (w1.alloc (.cells #[] 2)) w1.heap.size 2 1 (.slice (some ⟨w1.heap.size, 0, none⟩) 0 0) 0 [] := Own.new w1 2 1 [] rfl (by omega) (by omega)
  have hb1 : Below w.heap.size w (w1.alloc (.cells #[] 2)) := by (repeat' (first | with_reducible exact Below.refl _ _ | with_reducible assumption | with_reducible refine Below.drew ?_ | with_reducible refine Below.alloc ?_ ?_ _ | with_reducible refine Below.setCell ?_ ?_ _ | with_reducible refine Below.trans ?_ (Below.mono (by assumption) ?_) | ((try simp only [World.heap_size_alloc, World.heap_size_drew, World.heap_size_setCell]); omega)))
  have hd1 : DiceAt (w1.alloc (.cells #[] 2)) w.heap.size w.heap.size A n c := d1.below (B := w1.heap.size) (by (repeat' (first | with_reducible exact Below.refl _ _ | with_reducible assumption | with_reducible refine Below.drew ?_ | with_reducible refine Below.alloc ?_ ?_ _ | with_reducible refine Below.setCell ?_ ?_ _ | with_reducible refine Below.trans ?_ (Below.mono (by assumption) ?_) | ((try simp only [World.heap_size_alloc, World.heap_size_drew, World.heap_size_setCell]); omega)))) z1
  have O1 := Lib.hid o1
  have HB1 := Lib.hid hb1
  have HD1 := Lib.hid hd1
  clear o1 hb1 hd1 d1
  go_wp2_with fail
  go_loopw [4, 5] (fun v i wr => DrawRel w w1.heap.size w.heap.size w.heap.size A n c 2 v i wr) (fun _ i _ => 6 - (intOf i).toNat)
  case atStart => exact ⟨0, _, [], by omega, rfl, rfl, O1.out, fun j x hx => by simp at hx, HD1.out, by (try simp only [World.heap_size_alloc, World.heap_size_drew, World.heap_size_setCell]); omega, HB1.out⟩
  case round =>
    obtain ⟨m, u, zs, hm, rfl, rfl, ho, hz, hd, hB, hb⟩ := hrel
    have HO := Lib.hid ho
    have HZ := Lib.hid hz
    clear ho hz
    by_cases hlt : m < 6
    · go_wp2_with fail
      (with_reducible refine (below_any _ _ _ _ _ 200 _ (by omega) (by omega) hd).mono ?_); rintro _ w2 ⟨x, rfl, x0, x1, hd2, hu2⟩
      have HO2 := Lib.hid (HO.out.upd hu2 (show w.heap.size + 1 ≤ w1.heap.size by omega))
      have y2 := hu2.size
      have hsrc : Sl (w2.alloc (.cells #[.int .i64 x] 2)) w2.heap.size (w2.alloc (.cells #[.int .i64 x] 2)).heap.size 1 (some ⟨w2.heap.size, 0, none⟩) 1 1 [x] := ⟨rfl, by omega, by omega, fun _ => ⟨_, 0, rfl, Nat.le_refl _, by simp, ints_new w2 2 [x]⟩⟩
      have HS1 := Lib.hid hsrc
      have HB2 : Hid (Below w2.heap.size w2 (w2.alloc (.cells #[.int .i64 x] 2))) := (by (repeat' (first | with_reducible exact Below.refl _ _ | with_reducible assumption | with_reducible refine Below.drew ?_ | with_reducible refine Below.alloc ?_ ?_ _ | with_reducible refine Below.setCell ?_ ?_ _ | with_reducible refine Below.trans ?_ (Below.mono (by assumption) ?_) | ((try simp only [World.heap_size_alloc, World.heap_size_drew, World.heap_size_setCell]); omega))) : Below w2.heap.size w2 (w2.alloc (.cells #[.int .i64 x] 2)))
      have hge : w1.heap.size ≤ (w2.alloc (.cells #[.int .i64 x] 2)).heap.size := by simp only [World.heap_size_alloc]; omega
      clear hsrc
      go_wp2_with (at_builtin; go_loud (refine wpList_append_sl _ rfl (.tmp 28) (.tmp 31) 22 rfl w1.heap.size 2 Try.underlying22 info64 rfl (by omega) _ _ _ rfl (HO2.out.kept HB2.out) _ 1 1 _ _ [x] rfl HS1.out (by omega) (by omega) hge ?_); intro v2 w3 o2 g2 a2)
      have hb3 : Below w1.heap.size (w2.alloc (.cells #[.int .i64 x] 2)) w3 := grown_below g2 hge (fun g hg => (Own.lt HO2.out g hg).1)
      have y3 := g2.size
      have HO3 := Lib.hid o2
      have hw2 : Below w.heap.size wr w2 := hu2.below (Nat.le_refl _) (by omega)
      have hw3 : Below w.heap.size w w3 := ((hb.trans hw2).trans (HB2.out.mono (by omega))).trans (hb3.mono (by omega))
      have hd3 : DiceAt w3 w.heap.size w.heap.size A n c := (hd2.below HB2.out (by omega)).below hb3 z1
      clear o2 a2 g2
      go_roundw
      case rel => exact ⟨m + 1, v2, zs ++ [x], hlt, by go_num, rfl, HO3.out, append_bd HZ.out x0 x1, hd3, by omega, hw3⟩
      case measure => simp [intOf]; omega
    · have hm6 : m = 6 := by omega
      subst hm6
      obtain ⟨A2, c2, rfl, s2⟩ := HO.out.sl
      have hl6 : zs.length = 6 := by have := s2.len; omega
      have yr := hb.size
      clear HO
      go_wp2_with fail
      (with_reducible refine (below_any _ _ _ _ _ 6 _ (by omega) (by omega) hd).mono ?_); rintro _ w2 ⟨k0, rfl, k1, k2, hd2, hu2⟩
      obtain ⟨k, rfl⟩ := Int.eq_ofNat_of_zero_le k1
      have s3 := s2.upd hu2 (.inr (by omega))
      have yw2 := hu2.size
      have hb2 : Below w.heap.size w w2 := hb.trans (hu2.below (Nat.le_refl _) (by omega))
      clear s2 hd hu2
      go_wp2_with fail
      (with_reducible refine (below_any _ _ _ _ _ 50 _ (by omega) (by omega) hd2).mono ?_); rintro _ w3 ⟨a, rfl, a0, a1, hd3, hu3⟩
      have s4 := s3.upd hu3 (.inr (by omega))
      have yw3 := hu3.size
      have hb3 : Below w.heap.size w w3 := hb2.trans (hu3.below (Nat.le_refl _) (by omega))
      clear s3 hd2 hu3
      go_wp2_with fail
      (with_reducible refine (below_any _ _ _ _ _ 50 _ (by omega) (by omega) hd3).mono ?_); rintro _ w4 ⟨b, rfl, b0, b1', hd4, hu4⟩
      have s5 := s4.upd hu4 (.inr (by omega))
      have yw4 := hu4.size
      have hb4 : Below w.heap.size w w4 := hb3.trans (hu4.below (Nat.le_refl _) (by omega))
      clear s4 hd3 hu4
      have hk6 : k < 6 := by omega
      obtain ⟨z, hzk⟩ : ∃ z, zs[k]? = some z := ⟨zs[k]'(by omega), List.getElem?_eq_getElem _⟩
      obtain ⟨F1, F2, F3, F4⟩ := clocks_four hl6 HZ.out hk6 hzk a0 (by omega) b0 (by omega)
      have T1 : Hid (∀ A c lo hi W, Sl W lo hi 1 A 6 c zs → Calls Try.prog 23 #[.slice A 6 c, .int .i64 (k : Int), .int .i64 a] W (SlBRes W 1 6 (zs.set k (z + a), true))) := fun A c lo hi W s => by
        have h7 := ticked_any A 6 c lo hi zs k a W s
        rw [F1] at h7
        simpa [hl6] using h7
      have T2 : Hid (∀ A c lo hi W, Sl W lo hi 1 A 6 c (zs.set k (z + a)) → Calls Try.prog 23 #[.slice A 6 c, .int .i64 (k : Int), .int .i64 b] W (SlBRes W 1 6 (zs.set k (z + a + b), true))) := fun A c lo hi W s => by
        have h7 := ticked_any A 6 c lo hi (zs.set k (z + a)) k b W s
        rw [F2] at h7
        simpa [hl6] using h7
      have T3 : Hid (∀ A c lo hi W, Sl W lo hi 1 A 6 c zs → Calls Try.prog 23 #[.slice A 6 c, .int .i64 (k : Int), .int .i64 (a + b)] W (SlBRes W 1 6 (zs.set k (z + a + b), true))) := fun A c lo hi W s => by
        have h7 := ticked_any A 6 c lo hi zs k (a + b) W s
        rw [F3] at h7
        simpa [hl6] using h7
      have T4 : Hid (∀ A c lo hi W, Sl W lo hi 1 A 6 c (zs.set k (z + a + b)) → Calls Try.prog 19 #[.slice A 6 c, .int .i64 (k : Int), .int .i64 z] W (SlBRes W 1 6 (zs, true))) := fun A c lo hi W s => by
        have h7 := jumped_any A 6 c lo hi (zs.set k (z + a + b)) k z W s
        rw [F4] at h7
        simpa [hl6] using h7
      clear F1 F2 F3 F4
      go_wp2_with fail
      (with_reducible refine (T1.out _ _ _ _ _ s5).mono ?_); rintro _ w5 ⟨A3, c3, rfl, t1, e5⟩
      have v5 := e5.size
      have s6 := s5.below e5 (by omega)
      go_wp2_with fail
      (with_reducible refine (T2.out _ _ _ _ _ t1).mono ?_); rintro _ w6 ⟨A4, c4, rfl, t2, e6⟩
      have v6 := e6.size
      have s7 := s6.below e6 (by omega)
      clear t1 s5 s6
      go_wp2_with fail
      (with_reducible refine (T3.out _ _ _ _ _ s7).mono ?_); rintro _ w7 ⟨A5, c5, rfl, t3, e7⟩
      have v7 := e7.size
      have s8 := s7.below e7 (by omega)
      have t22 := t2.below e7 (Nat.le_refl _)
      clear s7 t2
      obtain ⟨gl, ol, z', rfl, _, hgl, hz', cl⟩ := s8.int hk6
      obtain rfl : z = z' := by rw [hzk] at hz'; injection hz'
      clear hz'
      go_wp2_with fail
      (with_reducible refine (T4.out _ _ _ _ _ t3).mono ?_); rintro _ w8 ⟨A6, c6, rfl, t4, e8⟩
      have v8 := e8.size
      have s9 := s8.below e8 (by omega)
      have t23 := t22.below e8 (by omega)
      have t33 := t3.below e8 (by omega)
      clear s8 t22 t3 cl
      go_wp2_with fail
      (with_reducible refine (likeInts_same _ _ _ _ _ _ _ _ _ _ _ t23 t33).mono ?_); rintro _ w9 ⟨rfl, e9⟩
      have v9 := e9.size
      have s10 := s9.below e9 (by omega)
      have t34 := t33.below e9 (by omega)
      have t44 := t4.below e9 (by omega)
      clear s9 t23 t33 t4
      go_wp2_with fail
      (with_reducible refine (likeInts_same _ _ _ _ _ _ _ _ _ _ _ t44 s10).mono ?_); rintro _ w10 ⟨rfl, e10⟩
      have v10 := e10.size
      have s11 := s10.below e10 (by omega)
      have t35 := t34.below e10 (by omega)
      have hb10 : Below w.heap.size w w10 := (((((hb4.trans (e5.mono (by omega))).trans (e6.mono (by omega))).trans (e7.mono (by omega))).trans (e8.mono (by omega))).trans (e9.mono (by omega))).trans (e10.mono (by omega))
      have hok : clocksOk (zs.set k (z + a + b)) = true := by
        have h0 := HZ.out k z hzk
        exact clocksOk_bd (by simpa using hl6) (set_bd (fun j x hx => by have := HZ.out j x hx; omega) (by omega) (by omega))
      have hYk : (zs.set k (z + a + b))[k]? = some (z + a + b) := by simp [hl6, hk6]
      have hYo : ∀ m : Nat, m ≠ k → (zs.set k (z + a + b))[m]? = zs[m]? := fun m hm => by rw [List.getElem?_set_ne (fun e => hm e.symm)]
      have hz0 := HZ.out k z hzk
      obtain ⟨Y, hY⟩ : ∃ Y, Y = zs.set k (z + a + b) := ⟨_, rfl⟩
      rw [← hY] at t35 hok hYk hYo
      have HOK := Lib.hid hok
      have HYK := Lib.hid hYk
      have HYO := Lib.hid hYo
      have HZK := Lib.hid hzk
      clear s10 t34 t44 T1 T2 T3 T4 hY hok hYk hYo hzk
      obtain ⟨gy, oy, y0, rfl, _, hgy, hy0, cy0⟩ := t35.int (show 0 < 6 by omega)
      rw [Nat.add_zero] at cy0
      have HY0 := Lib.hid hy0
      have S11 := Lib.hid (s11.fit (by omega))
      have T35 := Lib.hid (t35.fit (by omega))
      have hLat : ∀ W, Below w10.heap.size w10 W → Calls Try.prog 16 #[.slice (some ⟨gy, oy, none⟩) 6 c5] W fun e w' => e = .returned (.int .i64 (mostTo Y 6)) ∧ Below W.heap.size W w' := fun W hW => by
        have h7 := latest_any (some ⟨gy, oy, none⟩) 6 c5 _ _ Y W (T35.out.below hW (Nat.min_le_right _ _))
        rw [show latest Y = mostTo Y 6 by simp [latest, HOK.out, mostTo_eq HOK.out]] at h7
        exact h7
      have hApa : ∀ W, Below w10.heap.size w10 W → Calls Try.prog 25 #[.slice (some ⟨gy, oy, none⟩) 6 c5] W fun e w' => e = .returned (.int .i64 (mostTo Y 6 - minTo Y 6)) ∧ Below W.heap.size W w' := fun W hW => by
        have h7 := apartIn_any (some ⟨gy, oy, none⟩) 6 c5 _ _ Y W (T35.out.below hW (Nat.min_le_right _ _))
        rw [show apartIn Y = mostTo Y 6 - minTo Y 6 by simp [apartIn, HOK.out, mostTo_eq HOK.out]] at h7
        exact h7
      have HLAT := Lib.hid hLat
      have HAPA := Lib.hid hApa
      clear hLat hApa hy0 s11 t35
      go_wp2_with fail
      go_loopw [16, 17, 18] (fun p q i wr => ∃ (m : Nat) (P Q : Int), m ≤ 6 ∧ i = .int .i64 (m : Nat) ∧ p = .int .i64 P ∧ q = .int .i64 Q ∧ Hid (P = mostTo Y m ∧ Q = minTo Y m) ∧ Below w10.heap.size w10 wr) (fun _ _ i _ => 6 - (intOf i).toNat)
      case atStart => exact ⟨0, 0, y0, by omega, rfl, rfl, rfl, ⟨rfl, by simp [minTo, List.getD, HY0.out]⟩, Below.refl _ _⟩
      case round =>
        obtain ⟨m, P, Q, hm, rfl, rfl, rfl, hPQ, hb⟩ := hrel
        by_cases hlt : m < 6
        · obtain ⟨g1, o1, xv, hA1, _, hg1, hxv, cx⟩ := S11.out.int hlt
          injection hA1 with hA1
          injection hA1 with hA1 hA2
          subst hA1
          subst hA2
          obtain ⟨g2, o2, yv, hB1, _, hg2, hyv, cyv⟩ := T35.out.int hlt
          injection hB1 with hB1
          injection hB1 with hB1 hB2
          subst hB1
          subst hB2
          have rx := (hb.cell (p := ⟨gl, ol + m, none⟩) (Nat.lt_of_lt_of_le hg1 (Nat.min_le_right _ _))).trans cx
          have ry := (hb.cell (p := ⟨gy, oy + m, none⟩) (Nat.lt_of_lt_of_le hg2 (Nat.min_le_right _ _))).trans cyv
          have HYV := Lib.hid hyv
          have HXV := Lib.hid hxv
          have frx := fun d os => cell_regrown rx d os
          have fry := fun d os => cell_regrown ry d os
          clear cx cyv hyv hxv
          by_cases hmk : m = k
          · subst hmk
            have hne : ((m : Int) != (m : Int)) = false := by simp
            go_wp2
            refine wp_region_quiet_below (by kernel_rfl) (by kernel_rfl) ?_; (repeat (first | go_big_quiet_step (fail) | quiet_step (fail))); refine wpQuiet_nil ?_; intro _ hw'; obtain ⟨⟨nq, osq⟩, hw''⟩ := hw'; subst hw''; have hq := below_regrown wr nq osq; generalize Sort.grow (redrawn wr nq) osq = w11 at *
            have hb11 : Below w10.heap.size w10 w11 := hb.trans (hq.mono hb.size)
            have gyw : gy < wr.heap.size := World.block_lt_of_cell? wr _ ry
            have ry1 := (hq.cell (p := ⟨gy, oy + m, none⟩) gyw).trans ry
            by_cases hP : P < yv
            · by_cases hQ : yv < Q
              · go_wp2
                go_roundw
                case rel => exact ⟨m + 1, yv, yv, hlt, by go_num, rfl, rfl, ⟨by rw [mostTo_succ HYV.out, ← hPQ.out.1]; omega, by rw [minTo_succ HYV.out, ← hPQ.out.2]; omega⟩, hb11⟩
                case measure => simp [intOf]; omega
              · go_wp2
                go_roundw
                case rel => exact ⟨m + 1, yv, Q, hlt, by go_num, rfl, rfl, ⟨by rw [mostTo_succ HYV.out, ← hPQ.out.1]; omega, by rw [minTo_succ HYV.out, ← hPQ.out.2]; omega⟩, hb11⟩
                case measure => simp [intOf]; omega
            · by_cases hQ : yv < Q
              · go_wp2
                go_roundw
                case rel => exact ⟨m + 1, P, yv, hlt, by go_num, rfl, rfl, ⟨by rw [mostTo_succ HYV.out, ← hPQ.out.1]; omega, by rw [minTo_succ HYV.out, ← hPQ.out.2]; omega⟩, hb11⟩
                case measure => simp [intOf]; omega
              · go_wp2
                go_roundw
                case rel => exact ⟨m + 1, P, Q, hlt, by go_num, rfl, rfl, ⟨by rw [mostTo_succ HYV.out, ← hPQ.out.1]; omega, by rw [minTo_succ HYV.out, ← hPQ.out.2]; omega⟩, hb11⟩
                case measure => simp [intOf]; omega
          · have hne : ((m : Int) != (k : Int)) = true := by simp; omega
            obtain rfl : xv = yv := by
              have h8 := HYV.out
              rw [HYO.out m hmk, HXV.out] at h8
              injection h8
            have hyy : (xv != xv) = false := by simp
            go_wp2
            refine wp_region_quiet_below (by kernel_rfl) (by kernel_rfl) ?_; (repeat (first | go_big_quiet_step (fail) | quiet_step (fail))); refine wpQuiet_nil ?_; intro _ hw'; obtain ⟨⟨nq, osq⟩, hw''⟩ := hw'; subst hw''; have hq := below_regrown wr nq osq; generalize Sort.grow (redrawn wr nq) osq = w11 at *
            have hb11 : Below w10.heap.size w10 w11 := hb.trans (hq.mono hb.size)
            have gyw : gy < wr.heap.size := World.block_lt_of_cell? wr _ ry
            have ry1 := (hq.cell (p := ⟨gy, oy + m, none⟩) gyw).trans ry
            by_cases hP : P < xv
            · by_cases hQ : xv < Q
              · go_wp2
                go_roundw
                case rel => exact ⟨m + 1, xv, xv, hlt, by go_num, rfl, rfl, ⟨by rw [mostTo_succ HYV.out, ← hPQ.out.1]; omega, by rw [minTo_succ HYV.out, ← hPQ.out.2]; omega⟩, hb11⟩
                case measure => simp [intOf]; omega
              · go_wp2
                go_roundw
                case rel => exact ⟨m + 1, xv, Q, hlt, by go_num, rfl, rfl, ⟨by rw [mostTo_succ HYV.out, ← hPQ.out.1]; omega, by rw [minTo_succ HYV.out, ← hPQ.out.2]; omega⟩, hb11⟩
                case measure => simp [intOf]; omega
            · by_cases hQ : xv < Q
              · go_wp2
                go_roundw
                case rel => exact ⟨m + 1, P, xv, hlt, by go_num, rfl, rfl, ⟨by rw [mostTo_succ HYV.out, ← hPQ.out.1]; omega, by rw [minTo_succ HYV.out, ← hPQ.out.2]; omega⟩, hb11⟩
                case measure => simp [intOf]; omega
              · go_wp2
                go_roundw
                case rel => exact ⟨m + 1, P, Q, hlt, by go_num, rfl, rfl, ⟨by rw [mostTo_succ HYV.out, ← hPQ.out.1]; omega, by rw [minTo_succ HYV.out, ← hPQ.out.2]; omega⟩, hb11⟩
                case measure => simp [intOf]; omega
        · have hm6 : m = 6 := by omega
          subst hm6
          obtain ⟨g1, o1, xv, hA1, _, hg1, hxv, cx⟩ := S11.out.int hk6
          injection hA1 with hA1
          injection hA1 with hA1 hA2
          subst hA1
          subst hA2
          obtain ⟨g2, o2, yv, hB1, _, hg2, hyv, cyv⟩ := T35.out.int hk6
          injection hB1 with hB1
          injection hB1 with hB1 hB2
          subst hB1
          subst hB2
          obtain rfl : z = xv := by have h8 := HZK.out; rw [hxv] at h8; injection h8 with h8; exact h8.symm
          obtain rfl : yv = z + a + b := by have h8 := HYK.out; rw [hyv] at h8; injection h8
          have rx := (hb.cell (p := ⟨gl, ol + k, none⟩) (Nat.lt_of_lt_of_le hg1 (Nat.min_le_right _ _))).trans cx
          have ry := (hb.cell (p := ⟨gy, oy + k, none⟩) (Nat.lt_of_lt_of_le hg2 (Nat.min_le_right _ _))).trans cyv
          have frx := fun d os => cell_regrown rx d os
          have fry := fun d os => cell_regrown ry d os
          obtain ⟨q0, q1⟩ := maxTo_btw HOK.out
          obtain ⟨q2, q3⟩ := minTo_btw HOK.out
          rw [← mostTo_eq HOK.out] at q0 q1
          rw [← hPQ.out.1] at HLAT HAPA q0 q1
          rw [← hPQ.out.2] at HAPA q2 q3
          have hyy : (z + a + b == z + a + b) = true := by simp
          have hpp : (P == P) = true := by simp
          have hpq : (P - Q == P - Q) = true := by simp
          clear cx cyv hyv hxv
          go_wp2
          refine wp_region_quiet_below (by kernel_rfl) (by kernel_rfl) ?_; (repeat (first | go_big_quiet_step ((first | (go_at_call 16; exact Calls.regrown_of (HLAT.out _ (hb.trans ((below_regrown _ _ _).mono hb.size)))) | (go_at_call 25; exact Calls.regrown_of (HAPA.out _ (hb.trans ((below_regrown _ _ _).mono hb.size)))))) | quiet_step ((first | (go_at_call 16; exact Calls.regrown_of (HLAT.out _ (hb.trans ((below_regrown _ _ _).mono hb.size)))) | (go_at_call 25; exact Calls.regrown_of (HAPA.out _ (hb.trans ((below_regrown _ _ _).mono hb.size)))))))); refine wpQuiet_nil ?_; intro _ hw'; obtain ⟨⟨nq, osq⟩, hw''⟩ := hw'; subst hw''; have hq := below_regrown wr nq osq; generalize Sort.grow (redrawn wr nq) osq = w12 at *
          have hb12 : Below w10.heap.size w10 w12 := hb.trans (hq.mono hb.size)
          have y10 := hb10.size
          go_wp2
          go_ret
          exact ⟨rfl, hb10.trans (hb12.mono y10)⟩
theorem own : ownKnob Try.prog.godebug = none := by kernel_rfl
theorem laidOut : laidOutB Try.prog = true := by kernel_rfl
set_option maxRecDepth 100000 in
theorem lifted (os : Os) (started : os.Started) (H : Type) (enc : TypeId × Value → H) :
    ReturnsInHanded {} Try.checked os 7 .any (Rows.fnClocksSpec.pre6 enc Try.prog Try.f7 Rows.fnClocksRow.domain false) (Rows.fnClocksSpec.post enc Try.prog Try.f7 false true false false) := by
  refine returnsInHanded_of_change (C := Try.checked) own started (by kernel_rfl) Try.func7
    (ChangeSpec.witness6 (enc := enc) (C := Try.checked) false ⟨#[], #[.slice none 0 0], []⟩ 8 (by kernel_rfl) (by kernel_rfl) (by kernel_rfl) (by kernel_rfl)) ?_
  intro W base args ds gs before hval0 hW hcnd _
  have hval : ∀ (j : Nat) t v, Try.f7.params[j]? = some t → args[j]? = some v → Value.okWide Try.prog W .any base t v := hval0
  have hW' := hW
  obtain ⟨p, q, hA0, hV, rfl, hfz, hnd⟩ := hW
  have hA : DataW.TrodAll enc Try.prog W 0 (fun _ => true) true Try.f7.params.toList args.toList ds p := hA0
  rw [Try.params7] at hA hval
  obtain ⟨v0, d0, rfl, rfl, h0⟩ := trodAll_one hA
  obtain ⟨rfl, rfl⟩ := trodVars_none hV
  obtain ⟨A0, n0, c0, rfl, hz0⟩ := open_bytes Try.underlying31 Try.underlying5 (by kernel_rfl) (hval 0 31 v0 rfl rfl) h0
  clear hA0 hval0
  refine (law_any A0 n0 c0 W hz0).mono fun e W' ⟨he, hb⟩ => ?_
  subst he
  exact ⟨_, rfl, law_post laidOut (by kernel_rfl) rfl Try.underlying4 rfl hW' hb rfl rfl rfl⟩
theorem holds : Rows.FnClocksSaid :=
  OpenClaim.holds_of_wide 7 Try.f7 rfl rfl rfl rfl rfl rfl rfl ⟨rfl, rfl, rfl, rfl, rfl⟩ rfl rfl rfl rfl rfl (by kernel_rfl) Try.func7 (by kernel_rfl)
    (of_decide_eq_true (by kernel_rfl)) (by unfold Func.isWrapper; first | (rw [if_pos (by decide +kernel)]; kernel_rfl) | (rw [if_neg (by decide +kernel)]; exact ⟨rfl, rfl⟩))
    (fun os started H enc _ => lifted os started H enc)
#print axioms holds
end Clocks
end Go.Proofs.Ytkianeknbfahgaa
