/- A timer set: what the program's function returns. No conditions. -/
import Derived.Test.YtkianeknbfahgaaTim7
set_option linter.unusedSimpArgs false
set_option linter.unusedVariables false
namespace Go.Proofs.Ytkianeknbfahgaa
open Go.RowKit

theorem wpList_append_rm {P : Program} {ops : Array Oper} {rest : List Oper} {o : Oper} {a : Act} {w : World} {Q : Exit → Act → World → Prop} (hgd : o.guard = none) (s x : Operand) (t : TypeId)
    (hop : o.op = Op.call { callee := Callee.builtin Builtin.append, args := #[s, x], argTypes := #[t, t] })
    (e : TypeId) (i : TypeInfo) (size : Nat) (h1 : P.underlying t = some (.slice e)) (h2 : P.info? e = some i) (h4 : i.size = size)
    (b off n cap : Nat) (hs : a.eval s = .slice (some ⟨b, off, none⟩) n cap)
    (ad : Addr) (m c : Nat) (news : List Value) (hx : a.eval x = .slice (some ad) m c) (hn : news.length = m * size) (hc : ∀ j u, news[j]? = some u → w.cell? (ad.add j) = some u) (h1c : ∀ u ∈ news, u.oneCell' = true)
    (hroom : n + m ≤ cap) (hspare : ∀ j, j < news.length → (w.cell? ⟨b, off + n * size + j, none⟩).isSome = true ∧ w.frozen? ⟨b, off + n * size + j, none⟩ = false)
    (h : wpList P ops Q rest (a.put o.dst (.slice (some ⟨b, off, none⟩) (n + m) cap)) (w.setCells b (off + n * size) news)) : wpList P ops Q (o :: rest) a w :=
  wpList_plain hgd fun _ hK => by
    subst h4
    have hrun := run_append_room_cells (P := P) w t o.type e i h1 h2 b off n cap ad m c news hn hc h1c hroom (fun j hj => (hspare j hj).1) (fun j hj => (hspare j hj).2)
    unfold Oper.wp
    simp [execOp, hop, resolve, invoke, builtin, hs, hx, hrun, Result.andThen]
    exact hK _ _ h

set_option maxRecDepth 100000 in
set_option maxHeartbeats 4000000 in
theorem timerSet_any (A : Option Addr) (n c lo hi : Nat) (l : List TimerD) (q d : Int) (w : World) (h : Sl w lo hi 2 A n c (l.flatMap TimerD.ints)) :
    Calls Try.prog 36 #[.slice A n c, .int .i64 q, .int .i64 d] w (SlBRes w 2 (timerSet l q d).1.length ((timerSet l q d).1.flatMap TimerD.ints, (timerSet l q d).2)) := by
  have hn : n ≤ 9223372036854775807 := Nat.le_trans h.cap h.big
  have HL := Lib.hid (h.count TimerD.ints_len (by omega) : l.length = n)
  replace h := h.fit (by omega)
  have hhi : min hi w.heap.size ≤ w.heap.size := Nat.min_le_right _ _
  generalize min hi w.heap.size = hi at h hhi
  cases hok : timersOk l with
  | false =>
    have e : timerSet l q d = ([], false) := by simp [timerSet, hok]
    rw [e]
    clear e
    have CO : ∀ W, Sl W lo hi 2 A n c (l.flatMap TimerD.ints) → Calls Try.prog 33 #[.slice A n c] W fun x w' => x = .returned (.bool false) ∧ Below W.heap.size W w' := fun W s => by
      have h7 := timersOk_any A n c lo hi l W s
      rw [hok] at h7
      exact h7
    have HO := Lib.hid CO
    clear CO
    go_enter Try.func36, Try.ntmps36
    go_wp2_with fail
    (with_reducible refine (HO.out _ (h.below (B := w.heap.size) (by (repeat' (first | with_reducible exact Below.refl _ _ | with_reducible assumption | with_reducible refine Below.drew ?_ | with_reducible refine Below.alloc ?_ ?_ _ | with_reducible refine Below.setCell ?_ ?_ _ | with_reducible refine Below.trans ?_ (Below.mono (by assumption) ?_) | ((try simp only [World.heap_size_alloc, World.heap_size_drew, World.heap_size_setCell]); omega)))) hhi)).mono ?_); rintro _ w1 ⟨rfl, b1⟩
    have y1 := b1.size
    (try simp only [World.heap_size_alloc, World.heap_size_drew] at y1)
    have hw1 : Below w.heap.size w w1 := by (repeat' (first | with_reducible exact Below.refl _ _ | with_reducible assumption | with_reducible refine Below.drew ?_ | with_reducible refine Below.alloc ?_ ?_ _ | with_reducible refine Below.setCell ?_ ?_ _ | with_reducible refine Below.trans ?_ (Below.mono (by assumption) ?_) | ((try simp only [World.heap_size_alloc, World.heap_size_drew, World.heap_size_setCell]); omega)))
    go_wp2_with fail
    go_ret2
    exact SlBRes.none (by (repeat' (first | with_reducible exact Below.refl _ _ | with_reducible assumption | with_reducible refine Below.drew ?_ | with_reducible refine Below.alloc ?_ ?_ _ | with_reducible refine Below.setCell ?_ ?_ _ | with_reducible refine Below.trans ?_ (Below.mono (by assumption) ?_) | ((try simp only [World.heap_size_alloc, World.heap_size_drew, World.heap_size_setCell]); omega)))) _ _ _ (by omega)
  | true =>
    have hshort : n ≤ 16 := by rw [← HL.out]; exact timersOk_len hok
    have hsort := sort_ins (q := q) (d := d) hok
    obtain ⟨rl, hrl⟩ : ∃ rl, rl = without l q := ⟨_, rfl⟩
    have hrn : rl.length ≤ 16 := by
      rw [hrl]
      exact Nat.le_trans (List.length_filter_le _ _) (timersOk_len hok)
    obtain ⟨ol, hol⟩ : ∃ ol, ol = insT rl (⟨q, d⟩ : TimerD) := ⟨_, rfl⟩
    have e : timerSet l q d = if timersOk ol then (ol, true) else (l, false) := by rw [hol, hrl]; simp [timerSet, hok]
    have hsl : ol.length = rl.length + 1 := by rw [hol]; exact insT_len _ _
    rw [← hrl] at hsort
    rw [← hol] at hsort
    rw [e]
    clear e hol
    obtain ⟨m, hm⟩ : ∃ m, ol.length = m := ⟨_, rfl⟩
    have hm1 : rl.length + 1 = m := by omega
    have hm16 : m ≤ 17 := by omega
    have hm0 : 0 < m := by omega
    have HSRT : Hid (∀ g z c3 W, Ints W g z ((rl ++ [(⟨q, d⟩ : TimerD)]).flatMap TimerD.ints) → g < W.heap.size → Calls Try.prog 68 #[.slice (some ⟨g, z, none⟩) m c3, .func (.func 64) #[] #[]] W fun e w' => e = .returned (.tuple #[]) ∧ Ints w' g z (ol.flatMap TimerD.ints) ∧ Upd g (g + 1) W w') := fun g z c3 W hI hg => by
      have h7 := sortTimers_any g z c3 (rl ++ [(⟨q, d⟩ : TimerD)]) W hI hg (by rw [List.length_append]; simp; omega)
      rw [hsort, List.length_append, List.length_singleton, hm1] at h7
      exact h7
    clear hsort
    have HM := Lib.hid hm
    clear hm hsl
    obtain ⟨bo, hbo⟩ : ∃ bo, timersOk ol = bo := ⟨_, rfl⟩
    rw [hbo]
    have HFIN : Hid (∀ A n c lo hi W, Sl W lo hi 2 A n c (ol.flatMap TimerD.ints) → Calls Try.prog 33 #[.slice A n c] W fun x w' => x = .returned (.bool bo) ∧ Below W.heap.size W w') := fun A n c lo hi W s => by
      have h7 := timersOk_any A n c lo hi ol W s
      rw [hbo] at h7
      exact h7
    have HBO : Hid (bo = true → m ≤ 16) := fun hb => by
      have := timersOk_len (hbo.trans hb)
      have := HM.out
      omega
    clear hbo
    obtain ⟨r, hr⟩ : ∃ r : List TimerD × Bool, r = (if bo = true then (ol, true) else (l, false)) := ⟨_, rfl⟩
    rw [← hr]
    have HR := Lib.hid hr
    clear hr
    by_cases hk : 0 ≤ idxD (fun t => t.id == q) l
    · obtain ⟨k, hk2⟩ := Int.eq_ofNat_of_zero_le hk
      have hwo := without_at hok hk2
      have hkn : k < n := by
        obtain ⟨x, hx, _⟩ := idxD_at hk2
        have := (List.getElem?_eq_some_iff.1 hx).1
        rw [HL.out] at this
        exact this
      rw [← hrl] at hwo
      have hrln : rl.length = n - 1 := by rw [hwo, List.length_append, List.length_take, List.length_drop, HL.out]; omega
      have HRL : Hid (rl.flatMap TimerD.ints = (l.flatMap TimerD.ints).take (k * 2) ++ (l.flatMap TimerD.ints).drop ((k + 1) * 2)) := Lib.hid (by rw [hwo, List.flatMap_append, flat_take TimerD.ints_len, flat_drop TimerD.ints_len])
      have hnm : n = m := by omega
      have HP9 : Hid (∀ A n c lo hi W, Sl W lo hi 2 A n c (l.flatMap TimerD.ints) → Calls Try.prog 62 #[.slice A n c, .int .i64 q, .func (.func 63) #[] #[]] W fun x w' => x = .returned (.int .i64 (k : Nat)) ∧ Below W.heap.size W w') := fun A n c lo hi W s => by
        have h7 := placeBy_any A n c lo hi l q W s
        rw [hk2] at h7
        exact h7
      have HRN := Lib.hid hrln
      have HNM := Lib.hid hnm
      clear hnm hm1 hk hwo hk2 hrl hrln
      have CO : ∀ W, Sl W lo hi 2 A n c (l.flatMap TimerD.ints) → Calls Try.prog 33 #[.slice A n c] W fun x w' => x = .returned (.bool true) ∧ Below W.heap.size W w' := fun W s => by
        have h7 := timersOk_any A n c lo hi l W s
        rw [hok] at h7
        exact h7
      have HO := Lib.hid CO
      clear CO
      go_enter Try.func36, Try.ntmps36
      go_wp2_with fail
      (with_reducible refine (HO.out _ (h.below (B := w.heap.size) (by (repeat' (first | with_reducible exact Below.refl _ _ | with_reducible assumption | with_reducible refine Below.drew ?_ | with_reducible refine Below.alloc ?_ ?_ _ | with_reducible refine Below.setCell ?_ ?_ _ | with_reducible refine Below.trans ?_ (Below.mono (by assumption) ?_) | ((try simp only [World.heap_size_alloc, World.heap_size_drew, World.heap_size_setCell]); omega)))) hhi)).mono ?_); rintro _ w1 ⟨rfl, b1⟩
      have y1 := b1.size
      (try simp only [World.heap_size_alloc, World.heap_size_drew] at y1)
      have hw1 : Below w.heap.size w w1 := by (repeat' (first | with_reducible exact Below.refl _ _ | with_reducible assumption | with_reducible refine Below.drew ?_ | with_reducible refine Below.alloc ?_ ?_ _ | with_reducible refine Below.setCell ?_ ?_ _ | with_reducible refine Below.trans ?_ (Below.mono (by assumption) ?_) | ((try simp only [World.heap_size_alloc, World.heap_size_drew, World.heap_size_setCell]); omega)))
      have hs2 : Sl (w1.alloc (.cells #[] 60)) lo hi 2 A n c (l.flatMap TimerD.ints) := h.below (B := w.heap.size) (by (repeat' (first | with_reducible exact Below.refl _ _ | with_reducible assumption | with_reducible refine Below.drew ?_ | with_reducible refine Below.alloc ?_ ?_ _ | with_reducible refine Below.setCell ?_ ?_ _ | with_reducible refine Below.trans ?_ (Below.mono (by assumption) ?_) | ((try simp only [World.heap_size_alloc, World.heap_size_drew, World.heap_size_setCell]); omega)))) hhi
      have ho2 : Own (w1.alloc (.cells #[] 60)) w.heap.size 60 2 (.slice (some ⟨w1.heap.size, 0, none⟩) 0 0) 0 [] := Own.new w1 60 2 [] rfl (by omega) (by omega)
      have HS2 := Lib.hid hs2
      have HO2 := Lib.hid ho2
      clear hs2 ho2
      go_wp2_with (at_builtin; go_loud (refine wpList_append_sl _ rfl (.tmp 13) (.tmp 14) 40 rfl w.heap.size 60 Try.underlying40 infoTimer rfl (by omega) _ _ _ rfl HO2.out _ n c _ _ (l.flatMap TimerD.ints) rfl HS2.out (by omega) (by omega) (by (try simp only [World.heap_size_alloc, World.heap_size_drew, World.heap_size_setCell]); omega) ?_); intro v2 w2 o2 g2 a2)
      have hb2 : Below w.heap.size w w2 := (hw1.alloc (by (try simp only [World.heap_size_alloc, World.heap_size_drew, World.heap_size_setCell]); omega) _).trans (grown_below g2 (by (try simp only [World.heap_size_alloc, World.heap_size_drew, World.heap_size_setCell]); omega) (fun g hg => (Own.lt HO2.out g hg).1))
      have y2 := g2.size
      (try simp only [World.heap_size_alloc, World.heap_size_drew] at y2)
      obtain ⟨A2, c2, rfl, s2⟩ := o2.sl
      rw [Nat.zero_add, List.nil_append] at s2
      simp only [Nat.zero_add]
      have S2 := Lib.hid s2
      have hlz := s2.len
      clear o2 g2 a2
      obtain ⟨g5, z5, rfl, hg5a, hg3, hI2⟩ := s2.lie (by omega)
      clear s2
      go_wp2_with fail
      (with_reducible refine (HP9.out _ _ _ _ _ _ S2.out).mono ?_); rintro _ w3 ⟨rfl, b3⟩
      have y3 := b3.size
      have hI3 := hI2.below b3 (by omega)
      have HI3 := Lib.hid hI3
      have hb3 : Below w.heap.size w w3 := hb2.trans (b3.mono (by omega))
      clear hI2 hI3 b3
      go_wp2_with fail
      refine (delTimer_any _ _ _ _ k _ _ HI3.out hlz hkn S2.out.cap S2.out.big).mono ?_; rintro _ w4 ⟨rfl, hI4, hu4⟩
      have y4 := hu4.size
      have hb4 : Below w.heap.size w w4 := hb3.trans (hu4.below hg5a (by omega))
      rw [← HRL.out] at hI4
      obtain ⟨i0, hi0, hz0, hz1, hz2⟩ := info_parts infoTimer
      have hfl : (rl.flatMap TimerD.ints).length = (n - 1) * 2 := by rw [flat_len TimerD.ints_len, HRN.out]
      obtain ⟨wa, hwa⟩ : ∃ wa, wa = (w4.alloc (.cells #[.int .i64 q, .int .i64 d] 60)) := ⟨_, rfl⟩
      have hya : w4.heap.size < wa.heap.size := by rw [hwa]; simp
      have hba : Below w4.heap.size w4 wa := by rw [hwa]; exact (Below.refl _ _).alloc (Nat.le_refl _) _
      have hIa : Ints wa g5 z5 (rl.flatMap TimerD.ints ++ [0, 0]) := hI4.below hba (by omega)
      obtain ⟨w5, hw5⟩ : ∃ w5, w5 = wa.setCells g5 (z5 + (n - 1) * 2) ([q, d].map (Value.int .i64)) := ⟨_, rfl⟩
      have hI5 : Ints w5 g5 z5 ((rl ++ [(⟨q, d⟩ : TimerD)]).flatMap TimerD.ints) := by
        have h5 := hIa.sets ((n - 1) * 2) [q, d] (by rw [List.length_append, hfl]; simp)
        rw [← hw5, List.take_append_of_le_length (by rw [hfl]; exact Nat.le_refl _), List.take_of_length_le (by rw [hfl]; exact Nat.le_refl _), List.drop_of_length_le (by rw [List.length_append, hfl]; simp), List.append_nil] at h5
        rw [List.flatMap_append]
        exact h5
      have hu5 : Upd g5 (g5 + 1) wa w5 := by rw [hw5]; exact setCells_upd (Nat.le_refl _) (Nat.lt_succ_self _) _ _ _
      have y5 := hu5.size
      have hb5 : Below w.heap.size w w5 := (hb4.trans (hba.mono (by omega))).trans (hu5.below hg5a (by omega))
      have hg5b : g5 < w5.heap.size := by omega
      have hsrc : Hid (∀ j u, ([q, d].map (Value.int .i64))[j]? = some u → wa.cell? ((⟨w4.heap.size, 0, none⟩ : Addr).add j) = some u) := fun j u hu => by
        rw [hwa, Addr.add_mid, Nat.zero_add, World.cell?_alloc_new, List.getElem?_toArray]
        exact hu
      have hone : Hid (∀ u ∈ ([q, d].map (Value.int .i64)), u.oneCell' = true) := ints_oneCell .i64 [q, d]
      have hth : Hid (∀ j, j < ([q, d].map (Value.int .i64)).length → (wa.cell? ⟨g5, z5 + (n - 1) * 2 + j, none⟩).isSome = true ∧ wa.frozen? ⟨g5, z5 + (n - 1) * 2 + j, none⟩ = false) := fun j hj => hIa.there (i := (n - 1) * 2) (n := 2) (by rw [List.length_append, hfl]; simp) j (by simpa using hj)
      have HN1 : Hid (n - 1 + 1 = m) := Lib.hid (by have := HNM.out; omega)
      have HI5 := Lib.hid hI5
      have HWA := Lib.hid hwa
      have HW5 := Lib.hid hw5
      have hc5 : m ≤ c2 := by have := S2.out.cap; have := HNM.out; omega
      have hc5b := S2.out.big
      have HS1 := Lib.hid hz1
      have hcr : n - 1 + 1 ≤ c2 := by have := S2.out.cap; omega
      clear hI4 hu4 hfl hI5 hw5 hwa hIa hu5 hba hz0 hz1 hz2 hlz
      go_wp2_with (at_builtin; go_loud (rw [← HWA.out]; refine wpList_append_rm rfl (.tmp 26) (.tmp 30) 40 rfl 60 i0 2 Try.underlying40 hi0 HS1.out g5 z5 (n - 1) c2 rfl ⟨w4.heap.size, 0, none⟩ 1 1 ([q, d].map (Value.int .i64)) rfl rfl hsrc.out hone.out hcr hth.out ?_); rw [← HW5.out, HN1.out])
      go_wp2_with fail
      (with_reducible refine (HSRT.out _ _ _ _ HI5.out hg5b).mono ?_); rintro _ w6 ⟨rfl, hI6, hu6⟩
      have y6 := hu6.size
      have hb6 : Below w.heap.size w w6 := hb5.trans (hu6.below hg5a (by omega))
      have s6 : Sl w6 g5 (g5 + 1) 2 (some ⟨g5, z5, none⟩) m c2 (ol.flatMap TimerD.ints) := ⟨by rw [flat_len TimerD.ints_len, HM.out], hc5, hc5b, fun _ => ⟨g5, z5, rfl, Nat.le_refl _, by omega, hI6⟩⟩
      have S6 := Lib.hid s6
      have HB6 := Lib.hid hb6
      clear s6 hI6 hu6 hb6 hb5
      go_wp2_with fail
      (with_reducible refine (HFIN.out _ _ _ _ _ _ S6.out).mono ?_); rintro _ w7 ⟨rfl, b7⟩
      have y7 := b7.size
      have hb7 : Below w.heap.size w w7 := HB6.out.trans (b7.mono (by omega))
      have HB7 := Lib.hid hb7
      have S7 := Lib.hid (S6.out.below b7 (by omega))
      clear b7 hb7
      cases bo with
      | true =>
        have H9 : Hid (r = (ol, true)) := Lib.hid (HR.out.trans (if_pos rfl))
        clear HR
        go_wp2_with fail
        go_ret2
        rw [H9.out]
        dsimp only
        rw [HM.out]
        exact ⟨_, c2, rfl, S7.out.mono hg5a (by omega), HB7.out⟩
      | false =>
        have H9 : Hid (r = (l, false)) := Lib.hid (HR.out.trans (if_neg (by simp)))
        have hw7 := HB7.out
        clear HR
        have hs8 : Sl (w7.alloc (.cells #[] 60)) lo hi 2 A n c (l.flatMap TimerD.ints) := h.below (B := w.heap.size) (by (repeat' (first | with_reducible exact Below.refl _ _ | with_reducible assumption | with_reducible refine Below.drew ?_ | with_reducible refine Below.alloc ?_ ?_ _ | with_reducible refine Below.setCell ?_ ?_ _ | with_reducible refine Below.trans ?_ (Below.mono (by assumption) ?_) | ((try simp only [World.heap_size_alloc, World.heap_size_drew, World.heap_size_setCell]); omega)))) hhi
        have ho2 : Own (w7.alloc (.cells #[] 60)) w.heap.size 60 2 (.slice (some ⟨w7.heap.size, 0, none⟩) 0 0) 0 [] := Own.new w7 60 2 [] rfl (by omega) (by omega)
        have HS8 := Lib.hid hs8
        have HO2 := Lib.hid ho2
        clear hs8 ho2
        go_wp2_with (at_builtin; go_loud (refine wpList_append_sl _ rfl (.tmp 37) (.tmp 38) 40 rfl w.heap.size 60 Try.underlying40 infoTimer rfl (by omega) _ _ _ rfl HO2.out _ n c _ _ (l.flatMap TimerD.ints) rfl HS8.out (by omega) (by omega) (by (try simp only [World.heap_size_alloc, World.heap_size_drew, World.heap_size_setCell]); omega) ?_); intro v2 w8 o2 g2 a2)
        have hb8 : Below w.heap.size w w8 := (hw7.alloc (by (try simp only [World.heap_size_alloc, World.heap_size_drew, World.heap_size_setCell]); omega) _).trans (grown_below g2 (by (try simp only [World.heap_size_alloc, World.heap_size_drew, World.heap_size_setCell]); omega) (fun g hg => (Own.lt HO2.out g hg).1))
        have y2 := g2.size
        (try simp only [World.heap_size_alloc, World.heap_size_drew] at y2)
        obtain ⟨A8, c8, rfl, s8⟩ := o2.sl
        rw [Nat.zero_add, List.nil_append] at s8
        simp only [Nat.zero_add]
        have S8 := Lib.hid s8
        go_wp2_with fail
        go_ret2
        rw [H9.out]
        dsimp only
        rw [HL.out]
        exact ⟨A8, c8, rfl, S8.out, hb8⟩
    · have hwo := without_none hk
      rw [← hrl] at hwo
      have hrl2 : rl.length = n := by rw [hwo]; exact HL.out
      have hnm : n + 1 = m := by omega
      obtain ⟨iv, hiv⟩ : ∃ iv, idxD (fun t => t.id == q) l = iv := ⟨_, rfl⟩
      have hivn : iv < 0 := by omega
      have HP9 : Hid (∀ A n c lo hi W, Sl W lo hi 2 A n c (l.flatMap TimerD.ints) → Calls Try.prog 62 #[.slice A n c, .int .i64 q, .func (.func 63) #[] #[]] W fun x w' => x = .returned (.int .i64 iv) ∧ Below W.heap.size W w') := fun A n c lo hi W s => by
        have h7 := placeBy_any A n c lo hi l q W s
        rw [hiv] at h7
        exact h7
      have HWO := Lib.hid hwo
      have HNM := Lib.hid hnm
      clear hnm hm1 hk hwo hiv hrl hrl2
      have CO : ∀ W, Sl W lo hi 2 A n c (l.flatMap TimerD.ints) → Calls Try.prog 33 #[.slice A n c] W fun x w' => x = .returned (.bool true) ∧ Below W.heap.size W w' := fun W s => by
        have h7 := timersOk_any A n c lo hi l W s
        rw [hok] at h7
        exact h7
      have HO := Lib.hid CO
      clear CO
      go_enter Try.func36, Try.ntmps36
      go_wp2_with fail
      (with_reducible refine (HO.out _ (h.below (B := w.heap.size) (by (repeat' (first | with_reducible exact Below.refl _ _ | with_reducible assumption | with_reducible refine Below.drew ?_ | with_reducible refine Below.alloc ?_ ?_ _ | with_reducible refine Below.setCell ?_ ?_ _ | with_reducible refine Below.trans ?_ (Below.mono (by assumption) ?_) | ((try simp only [World.heap_size_alloc, World.heap_size_drew, World.heap_size_setCell]); omega)))) hhi)).mono ?_); rintro _ w1 ⟨rfl, b1⟩
      have y1 := b1.size
      (try simp only [World.heap_size_alloc, World.heap_size_drew] at y1)
      have hw1 : Below w.heap.size w w1 := by (repeat' (first | with_reducible exact Below.refl _ _ | with_reducible assumption | with_reducible refine Below.drew ?_ | with_reducible refine Below.alloc ?_ ?_ _ | with_reducible refine Below.setCell ?_ ?_ _ | with_reducible refine Below.trans ?_ (Below.mono (by assumption) ?_) | ((try simp only [World.heap_size_alloc, World.heap_size_drew, World.heap_size_setCell]); omega)))
      have hs2 : Sl (w1.alloc (.cells #[] 60)) lo hi 2 A n c (l.flatMap TimerD.ints) := h.below (B := w.heap.size) (by (repeat' (first | with_reducible exact Below.refl _ _ | with_reducible assumption | with_reducible refine Below.drew ?_ | with_reducible refine Below.alloc ?_ ?_ _ | with_reducible refine Below.setCell ?_ ?_ _ | with_reducible refine Below.trans ?_ (Below.mono (by assumption) ?_) | ((try simp only [World.heap_size_alloc, World.heap_size_drew, World.heap_size_setCell]); omega)))) hhi
      have ho2 : Own (w1.alloc (.cells #[] 60)) w.heap.size 60 2 (.slice (some ⟨w1.heap.size, 0, none⟩) 0 0) 0 [] := Own.new w1 60 2 [] rfl (by omega) (by omega)
      have HS2 := Lib.hid hs2
      have HO2 := Lib.hid ho2
      clear hs2 ho2
      go_wp2_with (at_builtin; go_loud (refine wpList_append_sl _ rfl (.tmp 13) (.tmp 14) 40 rfl w.heap.size 60 Try.underlying40 infoTimer rfl (by omega) _ _ _ rfl HO2.out _ n c _ _ (l.flatMap TimerD.ints) rfl HS2.out (by omega) (by omega) (by (try simp only [World.heap_size_alloc, World.heap_size_drew, World.heap_size_setCell]); omega) ?_); intro v2 w2 o2 g2 a2)
      have hb2 : Below w.heap.size w w2 := (hw1.alloc (by (try simp only [World.heap_size_alloc, World.heap_size_drew, World.heap_size_setCell]); omega) _).trans (grown_below g2 (by (try simp only [World.heap_size_alloc, World.heap_size_drew, World.heap_size_setCell]); omega) (fun g hg => (Own.lt HO2.out g hg).1))
      have y2 := g2.size
      (try simp only [World.heap_size_alloc, World.heap_size_drew] at y2)
      obtain ⟨A2, c2, rfl, s2⟩ := o2.sl
      rw [Nat.zero_add, List.nil_append] at s2
      simp only [Nat.zero_add]
      have S2 := Lib.hid s2
      rw [Nat.zero_add, List.nil_append] at o2
      have O2 := Lib.hid o2
      clear s2 o2 g2 a2
      go_wp2_with fail
      (with_reducible refine (HP9.out _ _ _ _ _ _ S2.out).mono ?_); rintro _ w3 ⟨rfl, b3⟩
      have y3 := b3.size
      have hb3 : Below w.heap.size w w3 := hb2.trans (b3.mono (by omega))
      have O3 := Lib.hid (O2.out.kept b3)
      clear b3
      obtain ⟨wa, hwa⟩ : ∃ wa, wa = (w3.alloc (.cells #[.int .i64 q, .int .i64 d] 60)) := ⟨_, rfl⟩
      have hya : w3.heap.size < wa.heap.size := by rw [hwa]; simp
      have hba : Below w3.heap.size w3 wa := by rw [hwa]; exact (Below.refl _ _).alloc (Nat.le_refl _) _
      have hbwa : Below w.heap.size w wa := hb3.trans (hba.mono (by omega))
      have hsx : Sl wa w3.heap.size wa.heap.size 2 (some ⟨w3.heap.size, 0, none⟩) 1 1 [q, d] := ⟨rfl, by omega, by omega, fun _ => ⟨_, 0, rfl, Nat.le_refl _, hya, by rw [hwa]; exact ints_new w3 60 [q, d]⟩⟩
      have HSX := Lib.hid hsx
      have OA := Lib.hid (O3.out.kept hba)
      have HWA := Lib.hid hwa
      clear hsx hba hwa
      go_wp2_with (at_builtin; go_loud (rw [← HWA.out]; refine wpList_append_sl _ rfl (.tmp 26) (.tmp 30) 40 rfl w.heap.size 60 Try.underlying40 infoTimer rfl (by omega) _ _ _ rfl OA.out _ 1 1 _ _ [q, d] rfl HSX.out (by omega) (by omega) (by omega) ?_); intro v5 w5 o5 g5 a5; have hb5 : Below w.heap.size w w5 := hbwa.trans (grown_below g5 (by omega) (fun g hg => (Own.lt OA.out g hg).1)); have y5 := g5.size; obtain ⟨A5, c5, rfl, s5⟩ := o5.sl; rw [HNM.out] at s5 ⊢; clear o5 g5 a5)
      have hc5 := s5.cap
      have hc5b := s5.big
      obtain ⟨g5, z5, rfl, hg5a, hg5b, hI5⟩ := s5.lie (by omega)
      have HI5 : Hid (Ints w5 g5 z5 ((rl ++ [(⟨q, d⟩ : TimerD)]).flatMap TimerD.ints)) := Lib.hid (by rw [HWO.out, List.flatMap_append]; exact hI5)
      clear s5 hI5
      go_wp2_with fail
      (with_reducible refine (HSRT.out _ _ _ _ HI5.out hg5b).mono ?_); rintro _ w6 ⟨rfl, hI6, hu6⟩
      have y6 := hu6.size
      have hb6 : Below w.heap.size w w6 := hb5.trans (hu6.below hg5a (by omega))
      have s6 : Sl w6 g5 (g5 + 1) 2 (some ⟨g5, z5, none⟩) m c5 (ol.flatMap TimerD.ints) := ⟨by rw [flat_len TimerD.ints_len, HM.out], hc5, hc5b, fun _ => ⟨g5, z5, rfl, Nat.le_refl _, by omega, hI6⟩⟩
      have S6 := Lib.hid s6
      have HB6 := Lib.hid hb6
      clear s6 hI6 hu6 hb6 hb5
      go_wp2_with fail
      (with_reducible refine (HFIN.out _ _ _ _ _ _ S6.out).mono ?_); rintro _ w7 ⟨rfl, b7⟩
      have y7 := b7.size
      have hb7 : Below w.heap.size w w7 := HB6.out.trans (b7.mono (by omega))
      have HB7 := Lib.hid hb7
      have S7 := Lib.hid (S6.out.below b7 (by omega))
      clear b7 hb7
      cases bo with
      | true =>
        have H9 : Hid (r = (ol, true)) := Lib.hid (HR.out.trans (if_pos rfl))
        clear HR
        go_wp2_with fail
        go_ret2
        rw [H9.out]
        dsimp only
        rw [HM.out]
        exact ⟨_, c5, rfl, S7.out.mono hg5a (by omega), HB7.out⟩
      | false =>
        have H9 : Hid (r = (l, false)) := Lib.hid (HR.out.trans (if_neg (by simp)))
        have hw7 := HB7.out
        clear HR
        have hs8 : Sl (w7.alloc (.cells #[] 60)) lo hi 2 A n c (l.flatMap TimerD.ints) := h.below (B := w.heap.size) (by (repeat' (first | with_reducible exact Below.refl _ _ | with_reducible assumption | with_reducible refine Below.drew ?_ | with_reducible refine Below.alloc ?_ ?_ _ | with_reducible refine Below.setCell ?_ ?_ _ | with_reducible refine Below.trans ?_ (Below.mono (by assumption) ?_) | ((try simp only [World.heap_size_alloc, World.heap_size_drew, World.heap_size_setCell]); omega)))) hhi
        have ho2 : Own (w7.alloc (.cells #[] 60)) w.heap.size 60 2 (.slice (some ⟨w7.heap.size, 0, none⟩) 0 0) 0 [] := Own.new w7 60 2 [] rfl (by omega) (by omega)
        have HS8 := Lib.hid hs8
        have HO2 := Lib.hid ho2
        clear hs8 ho2
        go_wp2_with (at_builtin; go_loud (refine wpList_append_sl _ rfl (.tmp 37) (.tmp 38) 40 rfl w.heap.size 60 Try.underlying40 infoTimer rfl (by omega) _ _ _ rfl HO2.out _ n c _ _ (l.flatMap TimerD.ints) rfl HS8.out (by omega) (by omega) (by (try simp only [World.heap_size_alloc, World.heap_size_drew, World.heap_size_setCell]); omega) ?_); intro v2 w8 o2 g2 a2)
        have hb8 : Below w.heap.size w w8 := (hw7.alloc (by (try simp only [World.heap_size_alloc, World.heap_size_drew, World.heap_size_setCell]); omega) _).trans (grown_below g2 (by (try simp only [World.heap_size_alloc, World.heap_size_drew, World.heap_size_setCell]); omega) (fun g hg => (Own.lt HO2.out g hg).1))
        have y2 := g2.size
        (try simp only [World.heap_size_alloc, World.heap_size_drew] at y2)
        obtain ⟨A8, c8, rfl, s8⟩ := o2.sl
        rw [Nat.zero_add, List.nil_append] at s8
        simp only [Nat.zero_add]
        have S8 := Lib.hid s8
        go_wp2_with fail
        go_ret2
        rw [H9.out]
        dsimp only
        rw [HL.out]
        exact ⟨A8, c8, rfl, S8.out, hb8⟩

end Go.Proofs.Ytkianeknbfahgaa
