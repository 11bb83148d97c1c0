/- The law FnHeadsTurn returns true for every input. No conditions. -/
import Derived.Test.YtgnilmdaegnaaaaTw7
import Derived.Deep.RegionHeld3
import Derived.Deep.RegionLaw
import Derived.Deep.DeepCutAuto
set_option linter.unusedSimpArgs false
set_option linter.unusedVariables false
namespace Go.Proofs.Ytgnilmdaegnaaaa
open Go.ChangeShapes Go.WideShapes Go.ChangeAt Go.RowKit
theorem rowMark_at {l : List MarkD} {zs : List Int} (h : seenOk l = true) {j : Nat} (h1 : zs.getD (3 + 2 * j) 0 = (markAt l (2 + (j : Int))).seq) (h2 : zs.getD (4 + 2 * j) 0 = (markAt l (2 + (j : Int))).index) : rowMark zs j = (atClient l (2 + (j : Int))).toList := by
  unfold rowMark
  rw [h1, h2]
  unfold markAt
  cases e : atClient l (2 + (j : Int)) with
  | none => simp [zeroMark]
  | some m =>
    obtain ⟨hm, hc⟩ := atClient_mem e
    obtain ⟨-, hs, -⟩ := seenOk_markOk h hm
    have hne : ¬ (m.seq = 0) := by omega
    obtain ⟨mc, ms, mi⟩ := m
    simp only at hc hne
    subst hc
    simp [hne]
theorem rowHead_headRow {u b t : Int} {l : List MarkD} (h : headOk u b t l = true) : rowHead (headRow u b t l) = (u, b, t, l, true) := by
  have hs := headOk_seen h
  obtain ⟨hm, hp, -⟩ := seenOk_iff.1 hs
  have e : headRow u b t l = [u, b, t] ++ markRows l 4 ++ [u, u] := if_pos h
  have hl : l = [(2 : Int), 3, 4, 5].filterMap (atClient l) := (gather_keys [2, 3, 4, 5] (by decide) l hp (fun m hm9 => by
    have := (seenOk_markOk hs hm9).1
    simp only [List.mem_cons, List.not_mem_nil, or_false]
    omega)).symm
  have e0 := rowMark_at (zs := headRow u b t l) hs (j := 0) (by rw [e]; simp [markRows]) (by rw [e]; simp [markRows])
  have e1 := rowMark_at (zs := headRow u b t l) hs (j := 1) (by rw [e]; simp [markRows]) (by rw [e]; simp [markRows])
  have e2 := rowMark_at (zs := headRow u b t l) hs (j := 2) (by rw [e]; simp [markRows]) (by rw [e]; simp [markRows])
  have e3 := rowMark_at (zs := headRow u b t l) hs (j := 3) (by rw [e]; simp [markRows]) (by rw [e]; simp [markRows])
  have hrm : rowMarks (headRow u b t l) 4 = l := by
    simp only [rowMarks, e0, e1, e2, e3]
    conv => rhs; rw [hl]
    simp only [List.filterMap_cons, List.filterMap_nil]
    show [] ++ (atClient l 2).toList ++ (atClient l 3).toList ++ (atClient l 4).toList ++ (atClient l 5).toList = _
    cases atClient l 2 <;> cases atClient l 3 <;> cases atClient l 4 <;> cases atClient l 5 <;> rfl
  unfold rowHead
  rw [hrm]
  have g0 : (headRow u b t l).getD 0 0 = u := by rw [e]; rfl
  have g1 : (headRow u b t l).getD 1 0 = b := by rw [e]; rfl
  have g2 : (headRow u b t l).getD 2 0 = t := by rw [e]; rfl
  have g11 : (headRow u b t l).getD 11 0 = u := by rw [e]; simp [markRows]
  have g12 : (headRow u b t l).getD 12 0 = u := by rw [e]; simp [markRows]
  rw [g0, g1, g2, g11, g12]
  rw [if_pos ⟨(headRow_ok h).1, rfl, rfl, h⟩]
theorem unsOk_sum (zs : List Int) : unsOk (zs ++ [sumM zs]) = true := by
  simp [unsOk]
theorem unsM_sum (zs : List Int) : unsM (zs ++ [sumM zs]) = zs := by
  rw [unsM, if_pos (unsOk_sum zs)]
  simp
theorem rightM_same (zs : List Int) : rightM (zs ++ [sumM zs]) (zs ++ [sumM zs]) = [zs] := by
  simp only [rightM, unsOk_sum, unsM_sum, if_true, sameInts, decide_true]
theorem rightM_nil : rightM [] [] = [] := by decide
theorem mem_rightM {a b r : List Int} (h : r ∈ rightM a b) : (unsOk a = true ∧ r = unsM a) ∨ (unsOk b = true ∧ r = unsM b) := by
  unfold rightM at h
  cases ha : unsOk a <;> cases hb : unsOk b <;> simp only [ha, hb, if_true, if_false, Bool.false_eq_true] at h
  · simp at h
  · simp at h; exact .inr ⟨rfl, h⟩
  · simp at h; exact .inl ⟨rfl, h⟩
  · split at h
    · simp at h; exact .inl ⟨rfl, h⟩
    · simp at h
      rcases h with h | h
      · exact .inl ⟨rfl, h⟩
      · exact .inr ⟨rfl, h⟩
theorem rowHead_zrow : rowHead zrow = (0, 0, 0, [], true) := rowHead_headRow headOk_zero
def Goodq (q : Int) (LH : HdS) (r : List Int) : Prop := rowHead r = LH ∨ (rowHead r).2.2.2.2 = false ∨ (q = 0 ∧ rowHead r = (0, 0, 0, [], true))
def oldRow (q : Int) : List Int := if q = 0 then zrow ++ [sumM zrow] else []
theorem rowHead_short {zs : List Int} (h : zs.length < 13) : (rowHead zs).2.2.2.2 = false := by
  rw [rowHead, if_neg (fun h9 => by have := h9.1; omega)]
theorem cand {u b t : Int} {l : List MarkD} (hL : headOk u b t l = true) (hu : u ≠ 0) (q f : Int) : unsOk (if f = 2 then tornM (headRow u b t l ++ [sumM (headRow u b t l)]) (oldRow q) else if f = 1 then headRow u b t l ++ [sumM (headRow u b t l)] else oldRow q) = true → Goodq q (u, b, t, l, true) (unsM (if f = 2 then tornM (headRow u b t l ++ [sumM (headRow u b t l)]) (oldRow q) else if f = 1 then headRow u b t l ++ [sumM (headRow u b t l)] else oldRow q)) := by
  obtain ⟨h13, -, hz0, -, -⟩ := headRow_ok hL
  split
  · intro _
    refine .inr (.inl ?_)
    unfold oldRow
    split
    · obtain ⟨z13, -, z0, z11, z12⟩ := headRow_ok headOk_zero
      have h := (torn_none (r0 := zrow) (N := 13) (a := 0) (b := u) (i := -1) (x := 0) (.inr rfl) z13 h13 (Ne.symm hu) hz0 z11 z12).2
      have hr : rotM (zrow ++ [sumM zrow]) (-1) 0 = zrow ++ [sumM zrow] := by
        unfold rotM
        rw [if_neg]
        simp [rotOk, btw]
      rw [hr] at h
      exact h
    · apply rowHead_short
      unfold unsM
      split
      · simp only [tornM, List.length_take, List.length_append, List.length_singleton, List.length_drop, List.length_nil, h13]
        omega
      · simp
  · split
    · intro _
      rw [unsM_sum]
      exact .inl (rowHead_headRow hL)
    · intro h
      unfold oldRow at h ⊢
      split
      · rename_i hq
        rw [unsM_sum]
        exact .inr (.inr ⟨hq, rowHead_zrow⟩)
      · rename_i hq
        rw [if_neg hq] at h
        exact absurd h (by decide)
theorem fold1 {EH LH : HdS} : ∀ (R : List (List Int)) (S : HdS), (∀ r ∈ R, Goodq 1 LH r) → (S = EH ∨ S = LH) → (R.foldl (hstep 1) S = EH ∨ R.foldl (hstep 1) S = LH)
  | [], _, _, hS => hS
  | r :: R, S, h, hS => by
    refine fold1 R _ (fun x hx => h x (List.mem_cons_of_mem _ hx)) ?_
    have hr := h r List.mem_cons_self
    unfold hstep
    split
    · rename_i hc
      rcases hr with hr | hr | ⟨hr, -⟩
      · exact .inr hr
      · rw [hr] at hc
        exact absurd hc.1 (by simp)
      · exact absurd hr (by decide)
    · exact hS
theorem fold0 {LH : HdS} : ∀ (R : List (List Int)) (S : HdS), (∀ r ∈ R, Goodq 0 LH r) → (S = hd0 ∨ S = (0, 0, 0, [], true) ∨ S = LH) → (R.foldl (hstep 0) S = hd0 ∨ R.foldl (hstep 0) S = (0, 0, 0, [], true) ∨ R.foldl (hstep 0) S = LH)
  | [], _, _, hS => hS
  | r :: R, S, h, hS => by
    refine fold0 R _ (fun x hx => h x (List.mem_cons_of_mem _ hx)) ?_
    have hr := h r List.mem_cons_self
    unfold hstep
    split
    · rename_i hc
      rcases hr with hr | hr | ⟨-, hr⟩
      · exact .inr (.inr hr)
      · rw [hr] at hc
        exact absurd hc.1 (by simp)
      · exact .inr (.inl hr)
    · exact hS
theorem hstep_take1 {p : Int} {S H : HdS} {row : List Int} (h : rowHead row = H) (h1 : H.2.2.2.2 = true) (h2 : H.1 % 2 = p) (h3 : S.2.2.2.2 = false ∨ S.1 < H.1) : hstep p S row = H := by
  rw [hstep, h, if_pos ⟨h1, h2, h3⟩]
theorem hstep_stay {p : Int} {S H : HdS} {row : List Int} (h : rowHead row = H) (h3 : S.2.2.2.2 = true) (h4 : ¬ S.1 < H.1) : hstep p S row = S := by
  rw [hstep, h, if_neg]
  rintro ⟨-, -, h9 | h9⟩
  · rw [h3] at h9
    cases h9
  · exact h4 h9
theorem newK_eq : newK = (List.replicate 22 []).set 0 (zrow ++ [sumM zrow]) := rfl
theorem zrow_ok : rowOk (zrow ++ [sumM zrow]) = true := rowOk_sum (headRow_ok headOk_zero).2.1 (by rw [show zrow.length = 13 from (headRow_ok headOk_zero).1]; omega)
theorem fallM_one (k : List (List Int)) (x : WriteD) (f : Int) : fallM k [x] [f] = fallStep k x f := by simp [fallM, fallN]
theorem fallM_lost (k : List (List Int)) (x : WriteD) : fallM k [x] [] = k := by simp [fallM, fallN, fallStep]
theorem fallM_none (k : List (List Int)) (fs : List Int) : fallM k [] fs = k := by simp [fallM, fallN]
theorem diskOk_set {k : List (List Int)} {r : List Int} (h : diskOk k [] = true) (hr : rowOk r = true) (j : Nat) : diskOk (k.set j r) [] = true := by
  obtain ⟨h1, h2, -, h4, -⟩ := diskOk_sizes h
  refine diskOk_of (by rw [List.length_set]; exact h1) (by rw [List.length_set]; exact h2) (by simp) (fun i x hx => ?_) (fun i x hx => by simp at hx)
  by_cases hij : j = i
  · subst hij
    by_cases hj : j < k.length
    · rw [List.getElem?_set_self hj] at hx
      injection hx with hx
      rw [← hx]
      exact hr
    · rw [List.getElem?_eq_none (by rw [List.length_set]; omega)] at hx
      cases hx
  · rw [List.getElem?_set_ne hij] at hx
    exact h4 i x hx
theorem diskOk_fall {k : List (List Int)} {x : WriteD} (h : diskOk k [] = true) (hr : rowOk x.row = true) (f : Int) : diskOk (fallM k [x] [f]) [] = true := by
  rw [fallM_one, fallStep]
  split
  · refine diskOk_set h (rowOk_torn hr ?_) _
    rw [List.getD_eq_getElem?_getD]
    cases e : k[x.at_.toNat]? with
    | none => decide
    | some r => exact (diskOk_sizes h).2.2.2.1 _ r e
  · split
    · exact diskOk_set h hr _
    · exact h
theorem diskOk_newK : diskOk newK [] = true := diskOk_set (by decide) zrow_ok 0
theorem twoOk_same {k k2 : List (List Int)} (h : diskOk k [] = true) (h2 : diskOk k2 [] = true) (hl : k.length = k2.length) : twoOk k [] k2 [] = true := by
  simp [twoOk, h, h2, hl]
theorem fallM_len (k : List (List Int)) (x : WriteD) (f : Int) : (fallM k [x] [f]).length = k.length := by
  rw [fallM_one, fallStep]
  (repeat' split) <;> simp
theorem newK_len : newK.length = 22 := by rw [newK_eq]; simp
/-- The rows of a sector behind a fall. -/
theorem fall_at {k : List (List Int)} {q : Int} {r old : List Int} (hq : k[q.toNat]? = some old) (f : Int) : (fallM k [⟨q, r⟩] [f])[q.toNat]? = some (if f = 2 then tornM r old else if f = 1 then r else old) := by
  have hl := (List.getElem?_eq_some_iff.1 hq).1
  rw [fallM_one, fallStep]
  split
  · rw [List.getElem?_set_self hl, List.getD_eq_getElem?_getD, hq]
    rfl
  · split
    · rw [List.getElem?_set_self hl]
    · exact hq
theorem fall_other {k : List (List Int)} {q : Int} {r : List Int} {j : Nat} (hj : q.toNat ≠ j) (f : Int) : (fallM k [⟨q, r⟩] [f])[j]? = k[j]? := by
  rw [fallM_one, fallStep]
  split
  · rw [List.getElem?_set_ne hj]
  · split
    · rw [List.getElem?_set_ne hj]
    · rfl
section
variable {u be te bl tl : Int} {se sl : List MarkD}
def sumRow (r : List Int) : List Int := r ++ [sumM r]
theorem turn_found (hE : headOk u be te se = true) (hL : headOk (u + 1) bl tl sl = true) (hu : 0 ≤ u) (fa fb : Int) :
    ∃ a0 b0 a1 b1, (fallM (newK.set (u % 2).toNat (headRow u be te se ++ [sumM (headRow u be te se)])) [⟨(u + 1) % 2, headRow (u + 1) bl tl sl ++ [sumM (headRow (u + 1) bl tl sl)]⟩] [fa])[0]? = some a0 ∧ (fallM (newK.set (u % 2).toNat (headRow u be te se ++ [sumM (headRow u be te se)])) [⟨(u + 1) % 2, headRow (u + 1) bl tl sl ++ [sumM (headRow (u + 1) bl tl sl)]⟩] [fb])[0]? = some b0 ∧ (fallM (newK.set (u % 2).toNat (headRow u be te se ++ [sumM (headRow u be te se)])) [⟨(u + 1) % 2, headRow (u + 1) bl tl sl ++ [sumM (headRow (u + 1) bl tl sl)]⟩] [fa])[1]? = some a1 ∧ (fallM (newK.set (u % 2).toNat (headRow u be te se ++ [sumM (headRow u be te se)])) [⟨(u + 1) % 2, headRow (u + 1) bl tl sl ++ [sumM (headRow (u + 1) bl tl sl)]⟩] [fb])[1]? = some b1 ∧ (headInM a0 b0 a1 b1 = (u, be, te, se, true) ∨ headInM a0 b0 a1 b1 = (u + 1, bl, tl, sl, true)) := by
  have hEr := rowHead_headRow hE
  have hLr := rowHead_headRow hL
  have hc := fun q f => cand hL (show u + 1 ≠ 0 by omega) q f
  have hz : (newK)[0]? = some (oldRow 0) := by rw [newK_eq]; rfl
  have ho : (newK)[1]? = some (oldRow 1) := by rw [newK_eq]; rfl
  have hl22 := newK_len
  generalize headRow u be te se = E at *
  generalize headRow (u + 1) bl tl sl = L at *
  rcases Int.emod_two_eq u with h0 | h1
  · have h1 : (u + 1) % 2 = 1 := by omega
    rw [h0, h1]
    have hk1 : (newK.set (0 : Int).toNat (E ++ [sumM E]))[(1 : Int).toNat]? = some (oldRow 1) := by
      rw [List.getElem?_set_ne (by decide)]
      exact ho
    have hk0 : (newK.set (0 : Int).toNat (E ++ [sumM E]))[0]? = some (E ++ [sumM E]) := List.getElem?_set_self (by rw [hl22]; decide)
    refine ⟨_, _, _, _, (fall_other (by decide) fa).trans hk0, (fall_other (by decide) fb).trans hk0, fall_at hk1 fa, fall_at hk1 fb, ?_⟩
    unfold headInM
    rw [rightM_same]
    have e1 : [E].foldl (hstep 0) hd0 = (u, be, te, se, true) := hstep_take1 hEr rfl h0 (.inl rfl)
    rw [e1]
    refine fold1 _ _ (fun r hr => ?_) (.inl rfl)
    rcases mem_rightM hr with ⟨h8, rfl⟩ | ⟨h8, rfl⟩
    · exact hc 1 fa h8
    · exact hc 1 fb h8
  · have h0 : (u + 1) % 2 = 0 := by omega
    rw [h0, h1]
    have hk1 : (newK.set (1 : Int).toNat (E ++ [sumM E]))[(0 : Int).toNat]? = some (oldRow 0) := by
      rw [List.getElem?_set_ne (by decide)]
      exact hz
    have hk0 : (newK.set (1 : Int).toNat (E ++ [sumM E]))[1]? = some (E ++ [sumM E]) := List.getElem?_set_self (by rw [hl22]; decide)
    refine ⟨_, _, _, _, fall_at hk1 fa, fall_at hk1 fb, (fall_other (by decide) fa).trans hk0, (fall_other (by decide) fb).trans hk0, ?_⟩
    unfold headInM
    rw [rightM_same]
    have hS := fold0 (LH := (u + 1, bl, tl, sl, true)) (rightM (if fa = 2 then tornM (L ++ [sumM L]) (oldRow 0) else if fa = 1 then L ++ [sumM L] else oldRow 0) (if fb = 2 then tornM (L ++ [sumM L]) (oldRow 0) else if fb = 1 then L ++ [sumM L] else oldRow 0)) hd0 (fun r hr => by
      rcases mem_rightM hr with ⟨h8, rfl⟩ | ⟨h8, rfl⟩
      · exact hc 0 fa h8
      · exact hc 0 fb h8) (.inl rfl)
    rcases hS with hS | hS | hS
    · rw [hS]
      exact .inl (hstep_take1 hEr rfl h1 (.inl rfl))
    · rw [hS]
      exact .inl (hstep_take1 hEr rfl h1 (.inr (by simp only; omega)))
    · rw [hS]
      exact .inr (hstep_stay hEr rfl (by simp only; omega))
theorem turn_lost (hE : headOk u be te se = true) (hu : 0 ≤ u) :
    ∃ a0 a1, (newK.set (u % 2).toNat (headRow u be te se ++ [sumM (headRow u be te se)]))[0]? = some a0 ∧ (newK.set (u % 2).toNat (headRow u be te se ++ [sumM (headRow u be te se)]))[1]? = some a1 ∧ headInM a0 a0 a1 a1 = (u, be, te, se, true) := by
  have hEr := rowHead_headRow hE
  have hz : (newK)[0]? = some (zrow ++ [sumM zrow]) := by rw [newK_eq]; rfl
  have ho : (newK)[1]? = some [] := by rw [newK_eq]; rfl
  have hl22 := newK_len
  generalize headRow u be te se = E at *
  rcases Int.emod_two_eq u with h0 | h1
  · rw [h0]
    refine ⟨_, _, List.getElem?_set_self (by rw [hl22]; decide), (List.getElem?_set_ne (by decide)).trans ho, ?_⟩
    unfold headInM
    rw [rightM_same, rightM_nil]
    exact hstep_take1 hEr rfl h0 (.inl rfl)
  · rw [h1]
    refine ⟨_, _, (List.getElem?_set_ne (by decide)).trans hz, List.getElem?_set_self (by rw [hl22]; decide), ?_⟩
    unfold headInM
    rw [rightM_same, rightM_same]
    have e1 : [zrow].foldl (hstep 0) hd0 = (0, 0, 0, [], true) := by
      show hstep 0 hd0 zrow = _
      exact hstep_take1 (p := 0) (S := hd0) rowHead_zrow rfl (by decide) (.inl rfl)
    rw [e1]
    exact hstep_take1 hEr rfl h1 (.inr (by simp only; omega))
theorem turn_done (hE : headOk u be te se = true) (hL : headOk (u + 1) bl tl sl = true) (hu : 0 ≤ u) :
    ∃ a0 a1, ((newK.set (u % 2).toNat (headRow u be te se ++ [sumM (headRow u be te se)])).set ((u + 1) % 2).toNat (headRow (u + 1) bl tl sl ++ [sumM (headRow (u + 1) bl tl sl)]))[0]? = some a0 ∧ ((newK.set (u % 2).toNat (headRow u be te se ++ [sumM (headRow u be te se)])).set ((u + 1) % 2).toNat (headRow (u + 1) bl tl sl ++ [sumM (headRow (u + 1) bl tl sl)]))[1]? = some a1 ∧ headInM a0 a0 a1 a1 = (u + 1, bl, tl, sl, true) := by
  have hEr := rowHead_headRow hE
  have hLr := rowHead_headRow hL
  have hl22 := newK_len
  generalize headRow u be te se = E at *
  generalize headRow (u + 1) bl tl sl = L at *
  rcases Int.emod_two_eq u with h0 | h1
  · have h1 : (u + 1) % 2 = 1 := by omega
    rw [h0, h1]
    refine ⟨_, _, (List.getElem?_set_ne (by decide)).trans (List.getElem?_set_self (by rw [hl22]; decide)), List.getElem?_set_self (by rw [List.length_set, hl22]; decide), ?_⟩
    unfold headInM
    rw [rightM_same, rightM_same]
    have e1 : [E].foldl (hstep 0) hd0 = (u, be, te, se, true) := hstep_take1 hEr rfl h0 (.inl rfl)
    rw [e1]
    exact hstep_take1 hLr rfl h1 (.inr (by simp only; omega))
  · have h0 : (u + 1) % 2 = 0 := by omega
    rw [h0, h1]
    refine ⟨_, _, List.getElem?_set_self (by rw [List.length_set, hl22]; decide), (List.getElem?_set_ne (by decide)).trans (List.getElem?_set_self (by rw [hl22]; decide)), ?_⟩
    unfold headInM
    rw [rightM_same, rightM_same]
    have e1 : [L].foldl (hstep 0) hd0 = (u + 1, bl, tl, sl, true) := hstep_take1 hLr rfl h0 (.inl rfl)
    rw [e1]
    exact hstep_stay hEr rfl (by simp only; omega)
end
theorem turn_data {u be te bl tl : Int} {se sl : List MarkD} (hE : headOk u be te se = true) (hL : headOk (u + 1) bl tl sl = true) (hu : 0 ≤ u) :
    ∃ (K1 K2 : List (List Int)) (F : Int → List (List Int)),
      twoOk newK [⟨u % 2, headRow u be te se ++ [sumM (headRow u be te se)]⟩] newK [⟨u % 2, headRow u be te se ++ [sumM (headRow u be te se)]⟩] = true ∧ syncM newK [⟨u % 2, headRow u be te se ++ [sumM (headRow u be te se)]⟩] = K1 ∧ twoOk K1 [] K1 [] = true ∧ K1.length = 22 ∧
      twoOk K1 [⟨(u + 1) % 2, headRow (u + 1) bl tl sl ++ [sumM (headRow (u + 1) bl tl sl)]⟩] K1 [⟨(u + 1) % 2, headRow (u + 1) bl tl sl ++ [sumM (headRow (u + 1) bl tl sl)]⟩] = true ∧ syncM K1 [⟨(u + 1) % 2, headRow (u + 1) bl tl sl ++ [sumM (headRow (u + 1) bl tl sl)]⟩] = K2 ∧ twoOk K2 [] K2 [] = true ∧
      (∀ f, fallM K1 [⟨(u + 1) % 2, headRow (u + 1) bl tl sl ++ [sumM (headRow (u + 1) bl tl sl)]⟩] [f] = F f) ∧ fallM K1 [⟨(u + 1) % 2, headRow (u + 1) bl tl sl ++ [sumM (headRow (u + 1) bl tl sl)]⟩] [] = K1 ∧ (∀ fs, fallM K2 [] fs = K2) ∧ (∀ fa fb, twoOk (F fa) [] (F fb) [] = true) ∧
      (∀ fa fb, ∃ a0 b0 a1 b1, (F fa)[0]? = some a0 ∧ (F fb)[0]? = some b0 ∧ (F fa)[1]? = some a1 ∧ (F fb)[1]? = some b1 ∧ (headInM a0 b0 a1 b1 = (u, be, te, se, true) ∨ headInM a0 b0 a1 b1 = (u + 1, bl, tl, sl, true))) ∧
      (∃ a0 a1, K1[0]? = some a0 ∧ K1[1]? = some a1 ∧ headInM a0 a0 a1 a1 = (u, be, te, se, true)) ∧
      (∃ a0 a1, K2[0]? = some a0 ∧ K2[1]? = some a1 ∧ headInM a0 a0 a1 a1 = (u + 1, bl, tl, sl, true)) := by
  have tf := turn_found hE hL hu
  have tlo := turn_lost hE hu
  have td := turn_done hE hL hu
  have oE : rowOk (headRow u be te se ++ [sumM (headRow u be te se)]) = true := rowOk_sum (headRow_ok hE).2.1 (by rw [(headRow_ok hE).1]; omega)
  have oL : rowOk (headRow (u + 1) bl tl sl ++ [sumM (headRow (u + 1) bl tl sl)]) = true := rowOk_sum (headRow_ok hL).2.1 (by rw [(headRow_ok hL).1]; omega)
  generalize headRow u be te se ++ [sumM (headRow u be te se)] = E1 at *
  generalize headRow (u + 1) bl tl sl ++ [sumM (headRow (u + 1) bl tl sl)] = L1 at *
  have q0 : btw (u % 2) 0 (((22 : Nat) : Int) - 1) = true := btw_iff.2 ⟨by omega, by omega⟩
  have q1 : btw ((u + 1) % 2) 0 (((22 : Nat) : Int) - 1) = true := btw_iff.2 ⟨by omega, by omega⟩
  have dK := diskOk_newK
  have dK1 : diskOk (newK.set (u % 2).toNat E1) [] = true := diskOk_set dK oE _
  have dK2 : diskOk ((newK.set (u % 2).toNat E1).set ((u + 1) % 2).toNat L1) [] = true := diskOk_set dK1 oL _
  have l1 : (newK.set (u % 2).toNat E1).length = 22 := by rw [List.length_set]; exact newK_len
  refine ⟨newK.set (u % 2).toNat E1, (newK.set (u % 2).toNat E1).set ((u + 1) % 2).toNat L1, fun f => fallM (newK.set (u % 2).toNat E1) [⟨(u + 1) % 2, L1⟩] [f], ?_, rfl, twoOk_same dK1 dK1 rfl, l1, ?_, rfl, twoOk_same dK2 dK2 rfl, fun f => rfl, fallM_lost _ _, fun fs => fallM_none _ _, fun fa fb => twoOk_same (diskOk_fall dK1 oL fa) (diskOk_fall dK1 oL fb) (by rw [fallM_len, fallM_len]), tf, tlo, td⟩
  · exact twoOk_snoc (v0 := []) (v2 := []) (twoOk_same dK dK rfl) newK_len newK_len rfl rfl oE q0 (by simp) (by simp)
  · exact twoOk_snoc (v0 := []) (v2 := []) (twoOk_same dK1 dK1 rfl) l1 l1 rfl rfl oL q1 (by simp) (by simp)
/-- A head in a box, its marks beside it. -/
structure HdAt (v : World) (lo hi b : Nat) (u be te : Int) (A : Option Addr) (c : Nat) (se : List MarkD) : Prop where
  box : Box4 v b (.int .i64 u) (.int .i64 be) (.int .i64 te) (.slice A se.length c)
  sl : Sl v lo hi 3 A se.length c (se.flatMap MarkD.ints)
  h1 : lo ≤ b
  h2 : b < hi
  h3 : hi ≤ v.heap.size
/-- Two disks in a box, their rows beside it. -/
structure TtAt (v : World) (lo hi b n1 : Nat) (k : List (List Int)) (vs : List WriteD) (A0 : Option Addr) (c0 : Nat) (A1 : Option Addr) (c1 : Nat) (A2 : Option Addr) (c2 : Nat) (A3 : Option Addr) (c3 : Nat) : Prop where
  box : Box4 v b (.slice A0 22 c0) (.slice A1 n1 c1) (.slice A2 22 c2) (.slice A3 n1 c3)
  s0 : SlR v lo hi A0 22 c0 k
  s1 : SlW v lo hi A1 n1 c1 vs
  s2 : SlR v lo hi A2 22 c2 k
  s3 : SlW v lo hi A3 n1 c3 vs
  h1 : lo ≤ b
  h2 : b < hi
  h3 : hi ≤ v.heap.size
section
variable {v v' : World} {lo hi b n1 : Nat} {u be te : Int} {A A0 A1 A2 A3 : Option Addr} {c c0 c1 c2 c3 : Nat} {se : List MarkD} {k : List (List Int)} {vs : List WriteD}
theorem HdAt.below {B : Nat} (h : HdAt v lo hi b u be te A c se) (hb : Below B v v') (hB : hi ≤ B) : HdAt v' lo hi b u be te A c se := by
  have h2 := h.h2
  exact ⟨h.box.below hb (by omega), h.sl.below hb hB, h.h1, h2, Nat.le_trans h.h3 hb.size⟩
theorem HdAt.upd {p q : Nat} (h : HdAt v lo hi b u be te A c se) (hu : Upd p q v v') (ho : q ≤ lo ∨ hi ≤ p) : HdAt v' lo hi b u be te A c se := by
  have h1 := h.h1
  have h2 := h.h2
  exact ⟨h.box.upd hu (by omega), h.sl.upd hu (by omega), h1, h2, Nat.le_trans h.h3 hu.size⟩
theorem TtAt.below {B : Nat} (h : TtAt v lo hi b n1 k vs A0 c0 A1 c1 A2 c2 A3 c3) (hb : Below B v v') (hB : hi ≤ B) : TtAt v' lo hi b n1 k vs A0 c0 A1 c1 A2 c2 A3 c3 := by
  have h2 := h.h2
  exact ⟨h.box.below hb (by omega), h.s0.below hb hB, h.s1.below hb hB, h.s2.below hb hB, h.s3.below hb hB, h.h1, h2, Nat.le_trans h.h3 hb.size⟩
theorem TtAt.upd {p q : Nat} (h : TtAt v lo hi b n1 k vs A0 c0 A1 c1 A2 c2 A3 c3) (hu : Upd p q v v') (ho : q ≤ lo ∨ hi ≤ p) : TtAt v' lo hi b n1 k vs A0 c0 A1 c1 A2 c2 A3 c3 := by
  have h1 := h.h1
  have h2 := h.h2
  exact ⟨h.box.upd hu (by omega), h.s0.upd hu (by omega), h.s1.upd hu (by omega), h.s2.upd hu (by omega), h.s3.upd hu (by omega), h1, h2, Nat.le_trans h.h3 hu.size⟩
end
theorem Upd.setFar {lo hi : Nat} {a w : World} {p : Addr} (h : Upd lo hi a w) (hp : a.heap.size ≤ p.block) (x : Value) : Upd lo hi a (w.setCell p x) :=
  h.after ((Below.refl _ _).setCell hp x) (by rw [World.heap_size_setCell]; exact Nat.le_refl _)
section
variable {w : World} {lo hi b : Nat} {u be te : Int} {A : Option Addr} {c : Nat} {se : List MarkD}
theorem HdAt.new (L E : Nat) (s : Sl w lo hi 3 A se.length c (se.flatMap MarkD.ints)) (hh : hi ≤ w.heap.size) (hL : L ≤ lo) (hw : L ≤ w.heap.size) : HdAt (w.alloc (.cells #[.int .i64 u, .int .i64 be, .int .i64 te, .slice A se.length c] E)) L (w.heap.size + 1) w.heap.size u be te A c se :=
  ⟨Box4.new w _ _ _ _ E, (s.below ((Below.refl _ _).alloc (Nat.le_refl _) _) hh).mono hL (by omega), hw, Nat.lt_succ_self _, by rw [World.heap_size_alloc]; exact Nat.le_refl _⟩
theorem HdAt.put {z0 z1 z2 z3 : Value} (L : Nat) (k : Box4 w b z0 z1 z2 z3) (s : Sl w lo hi 3 A se.length c (se.flatMap MarkD.ints)) (hb : b + 1 ≤ lo) (hh : hi ≤ w.heap.size) (hL : L ≤ b) : HdAt ((((w.setCell ⟨b, 0, none⟩ (.int .i64 u)).setCell ⟨b, 1, none⟩ (.int .i64 be)).setCell ⟨b, 2, none⟩ (.int .i64 te)).setCell ⟨b, 3, none⟩ (.slice A se.length c)) L w.heap.size b u be te A c se :=
  ⟨k.set _ _ _ _, (s.upd up4 (.inr hb)).mono (by omega) hh, hL, k.lt, by rw [size4]; exact Nat.le_refl _⟩
end
section
variable {w : World} {lo hi b n1 : Nat} {k : List (List Int)} {vs : List WriteD} {A0 A1 A2 A3 : Option Addr} {c0 c1 c2 c3 : Nat}
theorem TtAt.new (L E : Nat) (s0 : SlR w lo hi A0 22 c0 k) (s1 : SlW w lo hi A1 n1 c1 vs) (s2 : SlR w lo hi A2 22 c2 k) (s3 : SlW w lo hi A3 n1 c3 vs) (hh : hi ≤ w.heap.size) (hL : L ≤ lo) (hw : L ≤ w.heap.size) : TtAt (w.alloc (.cells #[.slice A0 22 c0, .slice A1 n1 c1, .slice A2 22 c2, .slice A3 n1 c3] E)) L (w.heap.size + 1) w.heap.size n1 k vs A0 c0 A1 c1 A2 c2 A3 c3 :=
  have hb : Below w.heap.size w (w.alloc (.cells #[.slice A0 22 c0, .slice A1 n1 c1, .slice A2 22 c2, .slice A3 n1 c3] E)) := (Below.refl _ _).alloc (Nat.le_refl _) _
  ⟨Box4.new w _ _ _ _ E, (s0.below hb hh).mono hL (by omega), (s1.below hb hh).mono hL (by omega), (s2.below hb hh).mono hL (by omega), (s3.below hb hh).mono hL (by omega), hw, Nat.lt_succ_self _, by rw [World.heap_size_alloc]; exact Nat.le_refl _⟩
theorem TtAt.put {z0 z1 z2 z3 : Value} (L : Nat) (q : Box4 w b z0 z1 z2 z3) (s0 : SlR w lo hi A0 22 c0 k) (s1 : SlW w lo hi A1 n1 c1 vs) (s2 : SlR w lo hi A2 22 c2 k) (s3 : SlW w lo hi A3 n1 c3 vs) (hb : b + 1 ≤ lo) (hh : hi ≤ w.heap.size) (hL : L ≤ b) : TtAt ((((w.setCell ⟨b, 0, none⟩ (.slice A0 22 c0)).setCell ⟨b, 1, none⟩ (.slice A1 n1 c1)).setCell ⟨b, 2, none⟩ (.slice A2 22 c2)).setCell ⟨b, 3, none⟩ (.slice A3 n1 c3)) L w.heap.size b n1 k vs A0 c0 A1 c1 A2 c2 A3 c3 :=
  ⟨q.set _ _ _ _, (s0.upd up4 (.inr hb)).mono (by omega) hh, (s1.upd up4 (.inr hb)).mono (by omega) hh, (s2.upd up4 (.inr hb)).mono (by omega) hh, (s3.upd up4 (.inr hb)).mono (by omega) hh, hL, q.lt, by rw [size4]; exact Nat.le_refl _⟩
end
namespace HeadsTurn
set_option maxRecDepth 100000 in
set_option maxHeartbeats 32000000 in
theorem law_any (A : Option Addr) (n c : Nat) (w : World) (h : ArgB w A n c) : Calls Try.prog 12 #[.slice A n c] w fun e w' => e = .returned (.bool true) ∧ Below w.heap.size w w' := by
  rcases Nat.lt_or_ge 4096 n with hn0 | hn0
  · have hbg : decide (4096 < n) = true := by simpa using hn0
    clear h
    go_enter Try.func12, Try.ntmps12
    go_wp2_with fail
    (with_reducible refine (big_any _ _ _ _).mono ?_); rintro _ _ ⟨rfl, rfl⟩
    rw [hbg]
    go_wp2_with fail
    go_ret
    exact ⟨rfl, Below.refl _ _⟩
  have hc := h.code hn0
  have hbg : decide (4096 < n) = false := by simp; omega
  clear h
  go_enter Try.func12, Try.ntmps12
  go_wp2_with fail
  (with_reducible refine (big_any _ _ _ _).mono ?_); rintro _ _ ⟨rfl, rfl⟩
  rw [hbg]
  go_wp2_with fail
  (with_reducible refine (roll_any _ _ _ _ 917 _ hc (Nat.le_refl _) (by omega) (by omega)).mono ?_); rintro _ w1 ⟨rfl, z1, d1, b1'⟩
  have d1' : DiceAt (w1.alloc (.cells #[] 32)) w.heap.size w.heap.size A n c := d1.below (B := w1.heap.size) (by (repeat' (first | with_reducible exact Below.refl _ _ | with_reducible assumption | with_reducible refine Below.drew ?_ | with_reducible refine Below.alloc ?_ ?_ _ | with_reducible refine Below.setCell ?_ ?_ _ | with_reducible refine Below.trans ?_ (Below.mono (by assumption) ?_) | ((try simp only [World.heap_size_alloc, World.heap_size_drew, World.heap_size_setCell]); omega)))) z1
  have CW : Hid (∀ W, DiceAt W w.heap.size w.heap.size A n c → Calls Try.prog 48 #[.pointer (some ⟨w.heap.size, 0, none⟩), .slice (some ⟨w1.heap.size, 0, none⟩) 0 0, .int .i64 12] W (W9Res W w.heap.size w.heap.size A n c (stA []) 12)) := Lib.hid (fun W hW => w9List_any A n c _ _ _ 0 0 0 0 [] 12 W hW (Sl.nil _ _ _ _ _ _ (by omega)) (fun e he => absurd he (by simp)) (by omega))
  go_wp2_with fail
  (with_reducible refine (CW.out _ d1').mono ?_); rintro _ w3 ⟨ds, B, q, hds, hdr, rfl, s3, d3, u3⟩
  have y3 := u3.size
  simp only [World.heap_size_alloc] at y3 s3
  have e0 : stA [] = st0 := rfl
  rw [e0] at s3
  have hll := genE_len ds st0
  have hhd : Hid (∀ (num b : Nat), 1 ≤ b → b ≤ 12 → num ≤ b → headOk (num : Int) (b : Int) (w9Time (genE st0 ds) b) (w9Seen (genE st0 ds) b) = true ∧ seenOk (w9Seen (genE st0 ds) b) = true) := Lib.hid (fun num b h1 h2 h3 => w9_ok hdr (by omega) h1 (by omega) h3)
  generalize genE st0 ds = l at s3 hll hhd
  have hb3 : Below w.heap.size w w3 := by
    have h1 : Below w.heap.size w (w1.alloc (.cells #[] 32)) := by (repeat' (first | with_reducible exact Below.refl _ _ | with_reducible assumption | with_reducible refine Below.drew ?_ | with_reducible refine Below.alloc ?_ ?_ _ | with_reducible refine Below.setCell ?_ ?_ _ | with_reducible refine Below.trans ?_ (Below.mono (by assumption) ?_) | ((try simp only [World.heap_size_alloc, World.heap_size_drew, World.heap_size_setCell]); omega)))
    exact h1.trans (u3.below (Nat.le_refl _) (by (try simp only [World.heap_size_alloc, World.heap_size_drew, World.heap_size_setCell]); omega))
  clear hll hdr hds d1 d1' u3 e0 CW b1' hc
  have S3 := Lib.hid s3
  have HB3 := Lib.hid hb3
  clear s3 hb3
  go_wp2_with fail
  (with_reducible refine (below_any _ _ _ _ _ 4 _ (by omega) (by omega) d3).mono ?_); rintro _ w4 ⟨x, rfl, x0, x1, d4, u4⟩
  obtain ⟨nm, rfl⟩ := Int.eq_ofNat_of_zero_le x0
  have hnm : nm < 4 := by omega
  have y4 := u4.size
  have S4 := Lib.hid (S3.out.upd u4 (.inr (by omega)))
  have HB4 := Lib.hid (HB3.out.trans (u4.below (Nat.le_refl _) (by omega)))
  clear d3 u4 x0 x1 S3 HB3
  obtain ⟨b1, hb1⟩ : ∃ x, x = nm + 1 := ⟨_, rfl⟩
  have kb1 : IntKind.i64.wrap ((nm : Int) + 1) = (b1 : Int) := by
    rw [show (nm : Int) + 1 = (b1 : Int) by omega]
    exact IntWalk.i64_in _ (by omega)
  have HN1 := Lib.hid hb1
  have hb14 : b1 ≤ 4 := by omega
  clear hb1
  go_wp2_with fail
  (with_reducible refine (below_any _ _ _ _ _ 4 _ (by omega) (by omega) d4).mono ?_); rintro _ w5 ⟨x, rfl, x0, x1, d5, u5⟩
  obtain ⟨a0, rfl⟩ := Int.eq_ofNat_of_zero_le x0
  have ha0 : a0 < 4 := by omega
  have y5 := u5.size
  have S5 := Lib.hid (S4.out.upd u5 (.inr (by omega)))
  have HB5 := Lib.hid (HB4.out.trans (u5.below (Nat.le_refl _) (by omega)))
  clear d4 u5 x0 x1 S4 HB4
  obtain ⟨ba, hba⟩ : ∃ x, x = b1 + a0 := ⟨_, rfl⟩
  have kba : IntKind.i64.wrap ((b1 : Int) + (a0 : Int)) = (ba : Int) := by
    rw [show (b1 : Int) + (a0 : Int) = (ba : Int) by omega]
    exact IntWalk.i64_in _ (by omega)
  have hba1 : 1 ≤ ba := by have := HN1.out; omega
  have hba2 : ba ≤ 7 := by omega
  have hba3 : nm ≤ ba := by have := HN1.out; omega
  have hba4 : b1 ≤ ba := by omega
  have HKE := Lib.hid (hhd.out nm ba hba1 (by omega) hba3).1
  have CH6 : Hid _ := Lib.hid (w9Head_any _ _ _ _ _ l nm ba w5 S5.out (by (try simp only [World.heap_size_alloc, World.heap_size_drew, World.heap_size_setCell]); omega) hba1 (by omega) (by omega) (by omega))
  generalize w9Time l ba = te at *
  generalize w9Seen l ba = se at *
  clear hba ha0
  go_wp2_with fail
  (with_reducible refine (CH6.out).mono ?_); rintro _ w6 ⟨A6, c6, rfl, s6, b6⟩
  have y6 := b6.size
  have EL0 := Lib.hid (HdAt.new (u := (nm : Int)) (be := (ba : Int)) (te := te) w5.heap.size 49 s6 (Nat.le_refl _) (Nat.le_refl _) y6)
  have hal : Below w6.heap.size w6 (w6.alloc (.cells #[.int .i64 (nm : Int), .int .i64 (ba : Int), .int .i64 te, .slice A6 se.length c6] 49)) := (Below.refl _ _).alloc (Nat.le_refl _) _
  have hsl : (w6.alloc (.cells #[.int .i64 (nm : Int), .int .i64 (ba : Int), .int .i64 te, .slice A6 se.length c6] 49)).heap.size = w6.heap.size + 1 := World.heap_size_alloc _ _
  have D0 := Lib.hid (d5.below (b6.trans (hal.mono y6)) (by omega))
  have SL0 := Lib.hid (S5.out.below (b6.trans (hal.mono y6)) (by omega))
  have HB0 := Lib.hid (HB5.out.trans ((b6.trans (hal.mono y6)).mono (by omega)))
  clear d5 S5 HB5 s6 b6 hal CH6
  go_upto_region 7 with fail
  generalize hW6 : w6.alloc (.cells #[.int .i64 (nm : Int), .int .i64 (ba : Int), .int .i64 te, .slice A6 se.length c6] 49) = wr at *
  have hsl1 := Nat.le_of_eq hsl
  have hsl2 := Nat.le_of_eq hsl.symm
  clear hW6 hsl
  obtain ⟨g6, hg6⟩ : ∃ x, x = w6.heap.size := ⟨_, rfl⟩
  rw [← hg6] at EL0 hsl1 hsl2
  generalize w6.heap.size = w6z at *
  subst hg6
  have E0 := EL0.out.box.c1
  obtain ⟨be1, hbe1⟩ : ∃ x, x = ba + 1 := ⟨_, rfl⟩
  have kbe : IntKind.i64.wrap ((ba : Int) + 1) = (be1 : Int) := by
    rw [show (ba : Int) + 1 = (be1 : Int) by omega]
    exact IntWalk.i64_in _ (by omega)
  have hbe8 : be1 ≤ 8 := by omega
  have hbe9 : b1 ≤ be1 := by omega
  have hbe0 : 1 ≤ be1 := by omega
  have hGw : w.heap.size < w5.heap.size := by omega
  have h5g : w5.heap.size ≤ g6 := by omega
  have hgr : g6 < wr.heap.size := by omega
  have hwG : w.heap.size < wr.heap.size := by omega
  have hw3r : w3.heap.size ≤ wr.heap.size := by omega
  clear hbe1
  go_cut [7] (fun s7 wx => ∃ (b7 bl c7 hi7 : Nat) (tl : Int) (sl : List MarkD) (A7 : Option Addr), s7 = .pointer (some ⟨b7, 0, none⟩) ∧ HdAt wx wr.heap.size hi7 b7 (b1 : Int) (bl : Int) tl A7 c7 sl ∧ headOk (b1 : Int) (bl : Int) tl sl = true ∧ DiceAt wx w.heap.size w.heap.size A n c ∧ Upd w.heap.size (w.heap.size + 1) wr wx)
  case first =>
    have HSK : Hid (∀ W, Upd w.heap.size (w.heap.size + 1) wr W → (W.cell? ⟨g6, 1, none⟩ = some (.int .i64 (ba : Int)) ∧ Upd w.heap.size (w.heap.size + 1) wr W)) := Lib.hid (fun W hW => ⟨(World.cell?_of_block (w := wr) (a := ⟨g6, 1, none⟩) (hW.block g6 (by omega) (.inr (by omega)))).trans E0, hW⟩)
    go_region_held3 (fun w' => w'.cell? ⟨g6, 1, none⟩ = some (.int .i64 (ba : Int)) ∧ Upd w.heap.size (w.heap.size + 1) wr w')
      (first | (refine HSK.out _ ?_; (repeat' (first | with_reducible exact Upd.refl _ _ _ | with_reducible assumption | with_reducible refine Upd.drew ?_ | with_reducible refine Upd.alloc ?_ _ | with_reducible refine Upd.setFar ?_ ?_ _ | ((try simp only [World.heap_size_alloc, World.heap_size_drew, World.heap_size_setCell]); omega)))) | (go_split_ands; refine HSK.out _ ?_; (repeat' (first | with_reducible exact Upd.refl _ _ _ | with_reducible assumption | with_reducible refine Upd.drew ?_ | with_reducible refine Upd.alloc ?_ _ | with_reducible refine Upd.setFar ?_ ?_ _ | ((try simp only [World.heap_size_alloc, World.heap_size_drew, World.heap_size_setCell]); omega)))))
      (first | (go_at_call 49; (with_reducible refine (below_any _ _ _ _ _ 4 _ (by omega) (by omega) (D0.out.below (B := wr.heap.size) (by (repeat' (first | with_reducible exact Below.refl _ _ | with_reducible refine Below.drew ?_ | with_reducible refine Below.alloc ?_ ?_ _ | ((try simp only [World.heap_size_alloc, World.heap_size_drew, World.heap_size_setCell]); omega)))) hwG)).mono ?_); rintro _ w1 ⟨y, rfl, y0, y1, d1, u1⟩; have v1 : Upd w.heap.size (w.heap.size + 1) wr w1 := Upd.trans (Upd.of_below (by (repeat' (first | with_reducible exact Below.refl _ _ | with_reducible refine Below.drew ?_ | with_reducible refine Below.alloc ?_ ?_ _ | ((try simp only [World.heap_size_alloc, World.heap_size_drew, World.heap_size_setCell]); omega))))) u1; have z1 := v1.size; obtain ⟨a1, rfl⟩ := Int.eq_ofNat_of_zero_le y0; have ha1 : a1 < 4 := (by omega); obtain ⟨bl, hbl⟩ : ∃ x, x = be1 + a1 := ⟨_, rfl⟩; have kbl : IntKind.i64.wrap ((be1 : Int) + (a1 : Int)) = (bl : Int) := (by rw [show (be1 : Int) + (a1 : Int) = (bl : Int) by omega]; exact IntWalk.i64_in _ (by omega)); have hbl1 : 1 ≤ bl := (by omega); have hbl2 : bl ≤ 12 := (by omega); have hbl3 : b1 ≤ bl := (by omega); have HKL := Lib.hid (hhd.out b1 bl hbl1 hbl2 hbl3).1; have SL1 := Lib.hid (SL0.out.upd v1 (.inr (by omega))); have CH7 : Hid (∀ W, Below w1.heap.size w1 W → Calls Try.prog 50 #[.slice B 12 q, .int .i64 (b1 : Int), .int .i64 (bl : Int)] W (fun e w' => ∃ A c, e = .returned (.agg #[.int .i64 (b1 : Int), .int .i64 (bl : Int), .int .i64 (w9Time l bl), .slice A (w9Seen l bl).length c]) ∧ Sl w' W.heap.size w'.heap.size 3 A (w9Seen l bl).length c ((w9Seen l bl).flatMap MarkD.ints) ∧ Below W.heap.size W w')) := Lib.hid (fun W hW => w9Head_any _ _ _ _ _ l b1 bl W (SL1.out.below hW (by omega)) (by have := hW.size; omega) hbl1 (by omega) (by omega) (by omega)); generalize w9Time l bl = tl at *; generalize w9Seen l bl = sl at *; have D1 := Lib.hid d1; (try have k1 := (Box4.new wr.drew (.int .i64 0) (.int .i64 0) (.int .i64 0) (.slice none 0 0) 49).upd u1 (.inr (by (try simp only [World.heap_size_alloc, World.heap_size_drew, World.heap_size_setCell]); omega))); (try have k1 := (Box4.new wr (.int .i64 0) (.int .i64 0) (.int .i64 0) (.slice none 0 0) 49).upd u1 (.inr (by (try simp only [World.heap_size_alloc, World.heap_size_drew, World.heap_size_setCell]); omega))); (try simp only [World.heap_size_drew] at k1); (try have kl1 := k1.lt); (try obtain ⟨j10, j11, j12, j13, j14, j15, j16, j17⟩ := id k1); clear d1 u1 hbl y0 y1) | (go_at_call 50; (with_reducible refine (CH7.out _ (by (repeat' (first | with_reducible exact Below.refl _ _ | with_reducible refine Below.drew ?_ | with_reducible refine Below.alloc ?_ ?_ _ | ((try simp only [World.heap_size_alloc, World.heap_size_drew, World.heap_size_setCell]); omega))))).mono ?_); rintro _ w2 ⟨A7, c7, rfl, s7, b7⟩; have c2 : Below w1.heap.size w1 w2 := Below.trans (by (repeat' (first | with_reducible exact Below.refl _ _ | with_reducible refine Below.drew ?_ | with_reducible refine Below.alloc ?_ ?_ _ | ((try simp only [World.heap_size_alloc, World.heap_size_drew, World.heap_size_setCell]); omega)))) (b7.mono (by (try simp only [World.heap_size_alloc, World.heap_size_drew, World.heap_size_setCell]); omega)); have z2 := c2.size; have v2 : Upd w.heap.size (w.heap.size + 1) wr w2 := v1.trans (Upd.of_below c2); have D2 := Lib.hid (D1.out.below c2 (by omega)); (try have k2 := k1.below c2 k1.lt); (try have k2 := (Box4.new w1 (.int .i64 0) (.int .i64 0) (.int .i64 0) (.slice none 0 0) 49).below b7 (by (try simp only [World.heap_size_alloc, World.heap_size_drew, World.heap_size_setCell]); omega)); (try simp only [World.heap_size_drew] at k2); (try have kl2 := k2.lt); (try obtain ⟨j20, j21, j22, j23, j24, j25, j26, j27⟩ := id k2); have S7 := Lib.hid s7; clear s7 b7))
    all_goals
      go_wp2_with fail
      go_meet
      first
        | exact ⟨_, bl, c7, _, tl, sl, A7, rfl, HdAt.new wr.heap.size _ S7.out (Nat.le_refl _) (by (try simp only [World.heap_size_alloc, World.heap_size_drew, World.heap_size_setCell]); omega) (by omega), HKL.out, D2.out.below ((Below.refl _ _).alloc (Nat.le_refl _) _) (by omega), v2.alloc _⟩
        | exact ⟨_, bl, c7, _, tl, sl, A7, rfl, HdAt.put wr.heap.size k2 S7.out (by (try simp only [World.heap_size_alloc, World.heap_size_drew, World.heap_size_setCell]); omega) (Nat.le_refl _) (by omega), HKL.out, D2.out.below (below4 (B := wr.heap.size) (by omega)) (by omega), v2.after (below4 (by omega)) (by rw [size4]; exact Nat.le_refl _)⟩
  case rest =>
    obtain ⟨wq, rfl⟩ : ∃ x, x = wc := ⟨wc, rfl⟩
    obtain ⟨g7, bl, c7, hi7, tl, sl, A7, rfl, hl7, hkl, hd7, hu7⟩ := hcut
    have y7 := hu7.size
    have EL1 := Lib.hid (EL0.out.upd hu7 (.inl (by omega)))
    have LA1 := Lib.hid hl7
    have D1 := Lib.hid hd7
    have HB1 := Lib.hid (HB0.out.trans (hu7.below (Nat.le_refl _) (by omega)))
    have hL1 := hl7.h1
    have hL2 := hl7.h2
    have hL3 := hl7.h3
    have hb1I : (nm : Int) + 1 = (b1 : Int) := by have := HN1.out; omega
    have hEn : 0 ≤ (nm : Int) := by omega
    have TD := turn_data HKE.out (show headOk ((nm : Int) + 1) (bl : Int) tl sl = true by rw [hb1I]; exact hkl) hEn
    rw [hb1I] at TD
    have HKL := Lib.hid hkl
    have hne1 : ¬ (b1 : Int) = (nm : Int) := by omega
    have hne2 : ¬ (nm : Int) = (b1 : Int) := by omega
    have hEn1 : (nm : Int) ≤ 1000000000 := by omega
    have hLn : 0 ≤ (b1 : Int) := by omega
    have hLn1 : (b1 : Int) ≤ 1000000000 := by omega
    have CK1 : Hid (∀ (W : World) (A0 : Option Addr) (c0 : Nat) (A1 : Option Addr) (c1 : Nat) (A2 : Option Addr) (c2 : Nat) (A3 : Option Addr) (c3 lo hi los his : Nat), SlR W lo hi A0 22 c0 newK → SlW W lo hi A1 0 c1 [] → SlR W lo hi A2 22 c2 newK → SlW W lo hi A3 0 c3 [] → hi ≤ W.heap.size → Sl W los his 3 A6 se.length c6 (se.flatMap MarkD.ints) → his ≤ W.heap.size → Calls Try.prog 59 #[.agg #[.slice A0 22 c0, .slice A1 0 c1, .slice A2 22 c2, .slice A3 0 c3], .agg #[.int .i64 (nm : Int), .int .i64 (ba : Int), .int .i64 te, .slice A6 se.length c6]] W (TwBRes W 22 newK 1 [⟨(nm : Int) % 2, headRow (nm : Int) (ba : Int) te se ++ [sumM (headRow (nm : Int) (ba : Int) te se)]⟩] 22 newK 1 [⟨(nm : Int) % 2, headRow (nm : Int) (ba : Int) te se ++ [sumM (headRow (nm : Int) (ba : Int) te se)]⟩] true)) := Lib.hid (fun W A0 c0 A1 c1 A2 c2 A3 c3 lo hi los his h0 h1 h2 h3 hhi hs hhs => keptHead_any A0 22 c0 newK A1 0 c1 [] A2 22 c2 newK A3 0 c3 [] lo hi W h0 h1 h2 h3 hhi _ _ _ _ _ _ los his se hs hhs HKE.out hEn hEn1 (twoOk_same diskOk_newK diskOk_newK rfl) rfl (by omega) (by omega))
    have CK2 : Hid (∀ (K1 : List (List Int)) (W : World) (A0 : Option Addr) (c0 : Nat) (A1 : Option Addr) (c1 : Nat) (A2 : Option Addr) (c2 : Nat) (A3 : Option Addr) (c3 lo hi los his : Nat), twoOk K1 [] K1 [] = true → SlR W lo hi A0 22 c0 K1 → SlW W lo hi A1 0 c1 [] → SlR W lo hi A2 22 c2 K1 → SlW W lo hi A3 0 c3 [] → hi ≤ W.heap.size → Sl W los his 3 A7 sl.length c7 (sl.flatMap MarkD.ints) → his ≤ W.heap.size → Calls Try.prog 59 #[.agg #[.slice A0 22 c0, .slice A1 0 c1, .slice A2 22 c2, .slice A3 0 c3], .agg #[.int .i64 (b1 : Int), .int .i64 (bl : Int), .int .i64 tl, .slice A7 sl.length c7]] W (TwBRes W 22 K1 1 [⟨(b1 : Int) % 2, headRow (b1 : Int) (bl : Int) tl sl ++ [sumM (headRow (b1 : Int) (bl : Int) tl sl)]⟩] 22 K1 1 [⟨(b1 : Int) % 2, headRow (b1 : Int) (bl : Int) tl sl ++ [sumM (headRow (b1 : Int) (bl : Int) tl sl)]⟩] true)) := Lib.hid (fun K1 W A0 c0 A1 c1 A2 c2 A3 c3 lo hi los his hd h0 h1 h2 h3 hhi hs hhs => keptHead_any A0 22 c0 K1 A1 0 c1 [] A2 22 c2 K1 A3 0 c3 [] lo hi W h0 h1 h2 h3 hhi _ _ _ _ _ _ los his sl hs hhs HKL.out hLn hLn1 hd rfl (by omega) (by omega))
    generalize headRow (nm : Int) (ba : Int) te se ++ [sumM (headRow (nm : Int) (ba : Int) te se)] = E1 at *
    generalize headRow (b1 : Int) (bl : Int) tl sl ++ [sumM (headRow (b1 : Int) (bl : Int) tl sl)] = L1 at *
    obtain ⟨K1, K2, F, t1, t2, t3, t3l, t4, t5, t6, t7, t8, t9, t10, t11, t12, t13⟩ := TD
    have CK2' : Hid (∀ (W : World) (A0 : Option Addr) (c0 : Nat) (A1 : Option Addr) (c1 : Nat) (A2 : Option Addr) (c2 : Nat) (A3 : Option Addr) (c3 lo hi los his : Nat), SlR W lo hi A0 22 c0 K1 → SlW W lo hi A1 0 c1 [] → SlR W lo hi A2 22 c2 K1 → SlW W lo hi A3 0 c3 [] → hi ≤ W.heap.size → Sl W los his 3 A7 sl.length c7 (sl.flatMap MarkD.ints) → his ≤ W.heap.size → Calls Try.prog 59 #[.agg #[.slice A0 22 c0, .slice A1 0 c1, .slice A2 22 c2, .slice A3 0 c3], .agg #[.int .i64 (b1 : Int), .int .i64 (bl : Int), .int .i64 tl, .slice A7 sl.length c7]] W (TwBRes W 22 K1 1 [⟨(b1 : Int) % 2, L1⟩] 22 K1 1 [⟨(b1 : Int) % 2, L1⟩] true)) := Lib.hid (fun W A0 c0 A1 c1 A2 c2 A3 c3 lo hi los his => CK2.out K1 W A0 c0 A1 c1 A2 c2 A3 c3 lo hi los his t3)
    have SIG : True := trivial
    have CS1 : Hid (∀ (W : World) (A0 : Option Addr) (c0 : Nat) (A1 : Option Addr) (c1 : Nat) (A2 : Option Addr) (c2 : Nat) (A3 : Option Addr) (c3 lo hi : Nat), SlR W lo hi A0 22 c0 newK → SlW W lo hi A1 1 c1 [⟨(nm : Int) % 2, E1⟩] → SlR W lo hi A2 22 c2 newK → SlW W lo hi A3 1 c3 [⟨(nm : Int) % 2, E1⟩] → hi ≤ W.heap.size → Calls Try.prog 60 #[.agg #[.slice A0 22 c0, .slice A1 1 c1, .slice A2 22 c2, .slice A3 1 c3]] W (TwRes W 22 K1 0 [] 22 K1 0 [])) := Lib.hid (fun W A0 c0 A1 c1 A2 c2 A3 c3 lo hi h0 h1 h2 h3 hhi => by
      have h7 := bothSynced_any A0 22 c0 newK A1 1 c1 _ A2 22 c2 newK A3 1 c3 _ lo hi W h0 h1 h2 h3 hhi t1
      rw [t2] at h7
      exact h7)
    have CS2 : Hid (∀ (W : World) (A0 : Option Addr) (c0 : Nat) (A1 : Option Addr) (c1 : Nat) (A2 : Option Addr) (c2 : Nat) (A3 : Option Addr) (c3 lo hi : Nat), SlR W lo hi A0 22 c0 K1 → SlW W lo hi A1 1 c1 [⟨(b1 : Int) % 2, L1⟩] → SlR W lo hi A2 22 c2 K1 → SlW W lo hi A3 1 c3 [⟨(b1 : Int) % 2, L1⟩] → hi ≤ W.heap.size → Calls Try.prog 60 #[.agg #[.slice A0 22 c0, .slice A1 1 c1, .slice A2 22 c2, .slice A3 1 c3]] W (TwRes W 22 K2 0 [] 22 K2 0 [])) := Lib.hid (fun W A0 c0 A1 c1 A2 c2 A3 c3 lo hi h0 h1 h2 h3 hhi => by
      have h7 := bothSynced_any A0 22 c0 K1 A1 1 c1 _ A2 22 c2 K1 A3 1 c3 _ lo hi W h0 h1 h2 h3 hhi t4
      rw [t5] at h7
      exact h7)
    have CF2 : Hid (∀ (W : World) (A0 : Option Addr) (c0 : Nat) (A1 : Option Addr) (c1 : Nat) (A2 : Option Addr) (c2 : Nat) (A3 : Option Addr) (c3 lo hi : Nat) (Af : Option Addr) (cf lof hif : Nat) (fa fb : Int), SlR W lo hi A0 22 c0 K1 → SlW W lo hi A1 1 c1 [⟨(b1 : Int) % 2, L1⟩] → SlR W lo hi A2 22 c2 K1 → SlW W lo hi A3 1 c3 [⟨(b1 : Int) % 2, L1⟩] → hi ≤ W.heap.size → Sl W lof hif 1 Af 2 cf [fa, fb] → hif ≤ W.heap.size → Calls Try.prog 62 #[.agg #[.slice A0 22 c0, .slice A1 1 c1, .slice A2 22 c2, .slice A3 1 c3], .slice Af 2 cf] W (TwRes W 22 (F fa) 0 [] 22 (F fb) 0 [])) := Lib.hid (fun W A0 c0 A1 c1 A2 c2 A3 c3 lo hi Af cf lof hif fa fb h0 h1 h2 h3 hhi hf hhf => by
      have h7 := bothFallen2_any A0 22 c0 K1 A1 1 c1 _ A2 22 c2 K1 A3 1 c3 _ lo hi W h0 h1 h2 h3 hhi Af cf lof hif fa fb hf hhf t4
      rw [t7, t7] at h7
      exact h7)
    have CF0 : Hid (∀ (W : World) (A0 : Option Addr) (c0 : Nat) (A1 : Option Addr) (c1 : Nat) (A2 : Option Addr) (c2 : Nat) (A3 : Option Addr) (c3 lo hi : Nat) (Af : Option Addr), SlR W lo hi A0 22 c0 K1 → SlW W lo hi A1 1 c1 [⟨(b1 : Int) % 2, L1⟩] → SlR W lo hi A2 22 c2 K1 → SlW W lo hi A3 1 c3 [⟨(b1 : Int) % 2, L1⟩] → hi ≤ W.heap.size → Calls Try.prog 62 #[.agg #[.slice A0 22 c0, .slice A1 1 c1, .slice A2 22 c2, .slice A3 1 c3], .slice Af 0 0] W (TwRes W 22 K1 0 [] 22 K1 0 [])) := Lib.hid (fun W A0 c0 A1 c1 A2 c2 A3 c3 lo hi Af h0 h1 h2 h3 hhi => by
      have h7 := bothFallen0_any A0 22 c0 K1 A1 1 c1 _ A2 22 c2 K1 A3 1 c3 _ lo hi W h0 h1 h2 h3 hhi Af 0 (by omega) t4
      rw [t8] at h7
      exact h7)
    have CF3 : Hid (∀ (W : World) (A0 : Option Addr) (c0 : Nat) (A1 : Option Addr) (c1 : Nat) (A2 : Option Addr) (c2 : Nat) (A3 : Option Addr) (c3 lo hi : Nat) (Af : Option Addr) (cf lof hif : Nat) (fa fb : Int), SlR W lo hi A0 22 c0 K2 → SlW W lo hi A1 0 c1 [] → SlR W lo hi A2 22 c2 K2 → SlW W lo hi A3 0 c3 [] → hi ≤ W.heap.size → Sl W lof hif 1 Af 2 cf [fa, fb] → hif ≤ W.heap.size → Calls Try.prog 62 #[.agg #[.slice A0 22 c0, .slice A1 0 c1, .slice A2 22 c2, .slice A3 0 c3], .slice Af 2 cf] W (TwRes W 22 K2 0 [] 22 K2 0 [])) := Lib.hid (fun W A0 c0 A1 c1 A2 c2 A3 c3 lo hi Af cf lof hif fa fb h0 h1 h2 h3 hhi hf hhf => by
      have h7 := bothFallen2_any A0 22 c0 K2 A1 0 c1 [] A2 22 c2 K2 A3 0 c3 [] lo hi W h0 h1 h2 h3 hhi Af cf lof hif fa fb hf hhf t6
      rw [t9, t9] at h7
      exact h7)
    have CHF : Hid (∀ (W : World) (A0 : Option Addr) (c0 : Nat) (A1 : Option Addr) (c1 : Nat) (A2 : Option Addr) (c2 : Nat) (A3 : Option Addr) (c3 lo hi : Nat) (fa fb : Int), SlR W lo hi A0 22 c0 (F fa) → SlW W lo hi A1 0 c1 [] → SlR W lo hi A2 22 c2 (F fb) → SlW W lo hi A3 0 c3 [] → hi ≤ W.heap.size → Calls Try.prog 61 #[.agg #[.slice A0 22 c0, .slice A1 0 c1, .slice A2 22 c2, .slice A3 0 c3]] W (fun e w' => ∃ (mu mb mt : Int) (ml : List MarkD) (Am : Option Addr) (cm : Nat), ((mu = (nm : Int) ∧ mb = (ba : Int) ∧ ml = se) ∨ (mu = (b1 : Int) ∧ mb = (bl : Int) ∧ ml = sl)) ∧ e = .returned (.tuple #[.agg #[.int .i64 mu, .int .i64 mb, .int .i64 mt, .slice Am ml.length cm], .bool true]) ∧ Sl w' W.heap.size w'.heap.size 3 Am ml.length cm (ml.flatMap MarkD.ints) ∧ Below W.heap.size W w')) := Lib.hid (fun W A0 c0 A1 c1 A2 c2 A3 c3 lo hi fa fb h0 h1 h2 h3 hhi => by
      obtain ⟨a0, b0, a1, b1', r0, r1, r2, r3, hM⟩ := t11 fa fb
      refine (headIn_any A0 22 c0 (F fa) A1 c1 A2 22 c2 (F fb) A3 c3 lo hi W h0 h2 hhi h1.big h3.big (t10 fa fb) rfl a0 b0 a1 b1' r0 r1 r2 r3).mono ?_
      rintro e w' ⟨Am, cm, he, hs, hb⟩
      rcases hM with hM | hM
      · rw [hM] at he hs
        exact ⟨_, _, _, _, Am, cm, .inl ⟨rfl, rfl, rfl⟩, he, hs, hb⟩
      · rw [hM] at he hs
        exact ⟨_, _, _, _, Am, cm, .inr ⟨rfl, rfl, rfl⟩, he, hs, hb⟩)
    have CH1 : Hid (∀ (W : World) (A0 : Option Addr) (c0 : Nat) (A1 : Option Addr) (c1 : Nat) (A2 : Option Addr) (c2 : Nat) (A3 : Option Addr) (c3 lo hi : Nat), SlR W lo hi A0 22 c0 K1 → SlW W lo hi A1 0 c1 [] → SlR W lo hi A2 22 c2 K1 → SlW W lo hi A3 0 c3 [] → hi ≤ W.heap.size → Calls Try.prog 61 #[.agg #[.slice A0 22 c0, .slice A1 0 c1, .slice A2 22 c2, .slice A3 0 c3]] W (HeadBRes W (nm : Int) (ba : Int) te se.length (se.flatMap MarkD.ints) true)) := Lib.hid (fun W A0 c0 A1 c1 A2 c2 A3 c3 lo hi h0 h1 h2 h3 hhi => by
      obtain ⟨a0, a1, r0, r1, hM⟩ := t12
      have h7 := headIn_any A0 22 c0 K1 A1 c1 A2 22 c2 K1 A3 c3 lo hi W h0 h2 hhi h1.big h3.big t3 rfl a0 a0 a1 a1 r0 r0 r1 r1
      rw [hM] at h7
      exact h7)
    have CH2 : Hid (∀ (W : World) (A0 : Option Addr) (c0 : Nat) (A1 : Option Addr) (c1 : Nat) (A2 : Option Addr) (c2 : Nat) (A3 : Option Addr) (c3 lo hi : Nat), SlR W lo hi A0 22 c0 K2 → SlW W lo hi A1 0 c1 [] → SlR W lo hi A2 22 c2 K2 → SlW W lo hi A3 0 c3 [] → hi ≤ W.heap.size → Calls Try.prog 61 #[.agg #[.slice A0 22 c0, .slice A1 0 c1, .slice A2 22 c2, .slice A3 0 c3]] W (HeadBRes W (b1 : Int) (bl : Int) tl sl.length (sl.flatMap MarkD.ints) true)) := Lib.hid (fun W A0 c0 A1 c1 A2 c2 A3 c3 lo hi h0 h1 h2 h3 hhi => by
      obtain ⟨a0, a1, r0, r1, hM⟩ := t13
      have h7 := headIn_any A0 22 c0 K2 A1 c1 A2 22 c2 K2 A3 c3 lo hi W h0 h2 hhi h1.big h3.big t6 rfl a0 a0 a1 a1 r0 r0 r1 r1
      rw [hM] at h7
      exact h7)
    clear t1 t2 t3 t3l t4 t5 t6 t7 t8 t9 t10 t11 t12 t13 hl7 hkl hd7 hu7 EL0 D0 SL0 HB0 hhd E0 hb1I CK2 kb1 kba kbe SIG HN1
    have h6w : g6 < wr.heap.size := hgr
    have h5w : w.heap.size < w5.heap.size := hGw
    generalize hwrz : wr.heap.size = wrz at *
    clear hwrz
    go_upto_region 8 with fail
    obtain ⟨wr, rfl⟩ : ∃ x, x = wq := ⟨wq, rfl⟩
    obtain ⟨e0, e1, e2, e3, -, -, -, -⟩ := EL1.out.box
    have hg6w : g6 < wr.heap.size := by omega
    go_cut [8, 9] (fun s8 s9 wx => ∃ (b8 : Nat) (X0 : Option Addr) (d0 : Nat) (X1 : Option Addr) (d1 : Nat) (X2 : Option Addr) (d2 : Nat) (X3 : Option Addr) (d3 hi8 : Nat), s8 = .pointer (some ⟨b8, 0, none⟩) ∧ s9 = .bool true ∧ TtAt wx wr.heap.size hi8 b8 1 newK [⟨(nm : Int) % 2, E1⟩] X0 d0 X1 d1 X2 d2 X3 d3 ∧ Below wr.heap.size wr wx)
    case first =>
      have HSK : Hid (∀ W, Below wr.heap.size wr W → (W.cell? ⟨g6, 0, none⟩ = some (.int .i64 (nm : Int)) ∧ W.cell? ⟨g6, 1, none⟩ = some (.int .i64 (ba : Int)) ∧ W.cell? ⟨g6, 2, none⟩ = some (.int .i64 te) ∧ W.cell? ⟨g6, 3, none⟩ = some (.slice A6 se.length c6) ∧ Below wr.heap.size wr W)) := Lib.hid (fun W hW => ⟨(hW.cell (p := ⟨g6, 0, none⟩) (show g6 < wr.heap.size by omega)).trans e0, (hW.cell (p := ⟨g6, 1, none⟩) (show g6 < wr.heap.size by omega)).trans e1, (hW.cell (p := ⟨g6, 2, none⟩) (show g6 < wr.heap.size by omega)).trans e2, (hW.cell (p := ⟨g6, 3, none⟩) (show g6 < wr.heap.size by omega)).trans e3, hW⟩)
      go_region_held3 (fun w' => w'.cell? ⟨g6, 0, none⟩ = some (.int .i64 (nm : Int)) ∧ w'.cell? ⟨g6, 1, none⟩ = some (.int .i64 (ba : Int)) ∧ w'.cell? ⟨g6, 2, none⟩ = some (.int .i64 te) ∧ w'.cell? ⟨g6, 3, none⟩ = some (.slice A6 se.length c6) ∧ Below wr.heap.size wr w')
        (first | (refine HSK.out _ ?_; (repeat' (first | with_reducible exact Below.refl _ _ | with_reducible assumption | with_reducible refine Below.drew ?_ | with_reducible refine Below.alloc ?_ ?_ _ | with_reducible refine Below.setCell ?_ ?_ _ | ((try simp only [World.heap_size_alloc, World.heap_size_drew, World.heap_size_setCell]); omega)))) | (go_split_ands; refine HSK.out _ ?_; (repeat' (first | with_reducible exact Below.refl _ _ | with_reducible assumption | with_reducible refine Below.drew ?_ | with_reducible refine Below.alloc ?_ ?_ _ | with_reducible refine Below.setCell ?_ ?_ _ | ((try simp only [World.heap_size_alloc, World.heap_size_drew, World.heap_size_setCell]); omega)))))
        (first | (go_at_call 43; (with_reducible refine (newKept_any _).mono ?_); rintro _ w1 ⟨A0, c0, A1, c1, A2, c2, A3, c3, rfl, s0, s1, s2, s3, b1x⟩; have v1 : Below wr.heap.size wr w1 := Below.trans (by (repeat' (first | with_reducible exact Below.refl _ _ | with_reducible refine Below.drew ?_ | with_reducible refine Below.alloc ?_ ?_ _ | ((try simp only [World.heap_size_alloc, World.heap_size_drew, World.heap_size_setCell]); omega)))) (b1x.mono (by (try simp only [World.heap_size_alloc, World.heap_size_drew, World.heap_size_setCell]); omega)); have z1 := v1.size; have Z0 := Lib.hid (s0.mono (lo' := wr.heap.size) (by (try simp only [World.heap_size_alloc, World.heap_size_drew, World.heap_size_setCell]); omega) (Nat.le_refl _)); have Z1 := Lib.hid (s1.mono (lo' := wr.heap.size) (by (try simp only [World.heap_size_alloc, World.heap_size_drew, World.heap_size_setCell]); omega) (Nat.le_refl _)); have Z2 := Lib.hid (s2.mono (lo' := wr.heap.size) (by (try simp only [World.heap_size_alloc, World.heap_size_drew, World.heap_size_setCell]); omega) (Nat.le_refl _)); have Z3 := Lib.hid (s3.mono (lo' := wr.heap.size) (by (try simp only [World.heap_size_alloc, World.heap_size_drew, World.heap_size_setCell]); omega) (Nat.le_refl _)); have E8 := Lib.hid (EL1.out.below v1 EL1.out.h3); (try have k1 := (Box4.new wr.drew (.slice none 0 0) (.slice none 0 0) (.slice none 0 0) (.slice none 0 0) 69).below b1x (by (try simp only [World.heap_size_alloc, World.heap_size_drew, World.heap_size_setCell]); omega)); (try have k1 := (Box4.new wr (.slice none 0 0) (.slice none 0 0) (.slice none 0 0) (.slice none 0 0) 69).below b1x (by (try simp only [World.heap_size_alloc, World.heap_size_drew, World.heap_size_setCell]); omega)); (try simp only [World.heap_size_drew] at k1); (try have kl1 := k1.lt); (try obtain ⟨j10, j11, j12, j13, j14, j15, j16, j17⟩ := id k1); clear s0 s1 s2 s3 b1x) | (go_at_call 59; (with_reducible refine (CK1.out _ _ _ _ _ _ _ _ _ _ _ _ _ (Z0.out.below (B := w1.heap.size) (by (repeat' (first | with_reducible exact Below.refl _ _ | with_reducible refine Below.drew ?_ | with_reducible refine Below.alloc ?_ ?_ _ | ((try simp only [World.heap_size_alloc, World.heap_size_drew, World.heap_size_setCell]); omega)))) (Nat.le_refl _)) (Z1.out.below (B := w1.heap.size) (by (repeat' (first | with_reducible exact Below.refl _ _ | with_reducible refine Below.drew ?_ | with_reducible refine Below.alloc ?_ ?_ _ | ((try simp only [World.heap_size_alloc, World.heap_size_drew, World.heap_size_setCell]); omega)))) (Nat.le_refl _)) (Z2.out.below (B := w1.heap.size) (by (repeat' (first | with_reducible exact Below.refl _ _ | with_reducible refine Below.drew ?_ | with_reducible refine Below.alloc ?_ ?_ _ | ((try simp only [World.heap_size_alloc, World.heap_size_drew, World.heap_size_setCell]); omega)))) (Nat.le_refl _)) (Z3.out.below (B := w1.heap.size) (by (repeat' (first | with_reducible exact Below.refl _ _ | with_reducible refine Below.drew ?_ | with_reducible refine Below.alloc ?_ ?_ _ | ((try simp only [World.heap_size_alloc, World.heap_size_drew, World.heap_size_setCell]); omega)))) (Nat.le_refl _)) (by (try simp only [World.heap_size_alloc, World.heap_size_drew, World.heap_size_setCell]); omega) (E8.out.sl.below (B := w1.heap.size) (by (repeat' (first | with_reducible exact Below.refl _ _ | with_reducible refine Below.drew ?_ | with_reducible refine Below.alloc ?_ ?_ _ | ((try simp only [World.heap_size_alloc, World.heap_size_drew, World.heap_size_setCell]); omega)))) E8.out.h3) (Nat.le_trans E8.out.h3 (by (try simp only [World.heap_size_alloc, World.heap_size_drew, World.heap_size_setCell]); omega))).mono ?_); rintro _ w2 ⟨X0, d0, X1, d1, X2, d2, X3, d3, rfl, t0, t1, t2, t3, b2⟩; have c2 : Below w1.heap.size w1 w2 := Below.trans (by (repeat' (first | with_reducible exact Below.refl _ _ | with_reducible refine Below.drew ?_ | with_reducible refine Below.alloc ?_ ?_ _ | ((try simp only [World.heap_size_alloc, World.heap_size_drew, World.heap_size_setCell]); omega)))) (b2.mono (by (try simp only [World.heap_size_alloc, World.heap_size_drew, World.heap_size_setCell]); omega)); have z2 := c2.size; have v2 : Below wr.heap.size wr w2 := v1.trans (c2.mono z1); (try have k2 := k1.below c2 k1.lt); (try have k2 := (Box4.new w1 (.slice none 0 0) (.slice none 0 0) (.slice none 0 0) (.slice none 0 0) 69).below b2 (by (try simp only [World.heap_size_alloc, World.heap_size_drew, World.heap_size_setCell]); omega)); (try simp only [World.heap_size_drew] at k2); (try have kl2 := k2.lt); (try obtain ⟨j20, j21, j22, j23, j24, j25, j26, j27⟩ := id k2); have Y0 := Lib.hid t0; have Y1 := Lib.hid t1; have Y2 := Lib.hid t2; have Y3 := Lib.hid t3; clear t0 t1 t2 t3 b2))
      all_goals
        go_wp2_with fail
        go_meet
        first
          | exact ⟨_, X0, d0, X1, d1, X2, d2, X3, d3, _, rfl, rfl, TtAt.new wr.heap.size _ Y0.out Y1.out Y2.out Y3.out (Nat.le_refl _) (by (try simp only [World.heap_size_alloc, World.heap_size_drew, World.heap_size_setCell]); omega) (by omega), v2.alloc (by omega) _⟩
          | exact ⟨_, X0, d0, X1, d1, X2, d2, X3, d3, _, rfl, rfl, TtAt.put wr.heap.size k2 Y0.out Y1.out Y2.out Y3.out (by (try simp only [World.heap_size_alloc, World.heap_size_drew, World.heap_size_setCell]); omega) (Nat.le_refl _) (by omega), v2.trans (below4 (by omega))⟩
    case rest =>
      obtain ⟨wp, rfl⟩ : ∃ x, x = wc := ⟨wc, rfl⟩
      obtain ⟨g8, X0, d0, X1, d1, X2, d2, X3, d3, hi8, rfl, rfl, tt8, hu8⟩ := hcut
      have hq8 := hu8.size
      have hT1 := tt8.h1
      have hT2 := tt8.h2
      have hT3 := tt8.h3
      have EL2 := Lib.hid (EL1.out.below hu8 (by omega))
      have LA2 := Lib.hid (LA1.out.below hu8 (by omega))
      have D2 := Lib.hid (D1.out.below hu8 (by omega))
      have HB2 := Lib.hid (HB1.out.trans (hu8.mono (by omega)))
      have TT2 := Lib.hid tt8
      clear tt8 hu8 EL1 LA1 D1 HB1 e0 e1 e2 e3 CK1
      generalize hwrz : wr.heap.size = wqz at *
      clear hwrz
      obtain ⟨wr, rfl⟩ : ∃ x, x = wp := ⟨wp, rfl⟩
      go_upto_region 9 with fail
      have HKS : Hid (∀ W, Below wr.heap.size wr W → (Box4 W g8 (.slice X0 22 d0) (.slice X1 1 d1) (.slice X2 22 d2) (.slice X3 1 d3) ∧ HdAt W wrz hi7 g7 (b1 : Int) (bl : Int) tl A7 c7 sl)) := Lib.hid (fun W hW => ⟨TT2.out.box.below hW (by omega), LA2.out.below hW (by omega)⟩)
      obtain ⟨⟨p0, p1, p2, p3, pf0, pf1, pf2, pf3⟩, ⟨x0, x1, x2, x3, -, -, -, -⟩, -, -, -, -⟩ := HKS.out _ (Below.refl _ _)
      go_cut [10] (fun s10 wx => ∃ (Y0 : Option Addr) (f0 : Nat) (Y1 : Option Addr) (f1 : Nat) (Y2 : Option Addr) (f2 : Nat) (Y3 : Option Addr) (f3 hi9 : Nat), s10 = .bool true ∧ TtAt wx wqz hi9 g8 1 K1 [⟨(b1 : Int) % 2, L1⟩] Y0 f0 Y1 f1 Y2 f2 Y3 f3 ∧ Upd g8 (g8 + 1) wr wx)
      case first =>
        go_region_law (first | (go_simp; go_at_call 60; (with_reducible refine (CS1.out _ _ _ _ _ _ _ _ _ _ _ (TT2.out.s0.below (B := wr.heap.size) (by (repeat' (first | with_reducible exact Below.refl _ _ | with_reducible refine Below.drew ?_ | with_reducible refine Below.alloc ?_ ?_ _ | ((try simp only [World.heap_size_alloc, World.heap_size_drew, World.heap_size_setCell]); omega)))) (by omega)) (TT2.out.s1.below (B := wr.heap.size) (by (repeat' (first | with_reducible exact Below.refl _ _ | with_reducible refine Below.drew ?_ | with_reducible refine Below.alloc ?_ ?_ _ | ((try simp only [World.heap_size_alloc, World.heap_size_drew, World.heap_size_setCell]); omega)))) (by omega)) (TT2.out.s2.below (B := wr.heap.size) (by (repeat' (first | with_reducible exact Below.refl _ _ | with_reducible refine Below.drew ?_ | with_reducible refine Below.alloc ?_ ?_ _ | ((try simp only [World.heap_size_alloc, World.heap_size_drew, World.heap_size_setCell]); omega)))) (by omega)) (TT2.out.s3.below (B := wr.heap.size) (by (repeat' (first | with_reducible exact Below.refl _ _ | with_reducible refine Below.drew ?_ | with_reducible refine Below.alloc ?_ ?_ _ | ((try simp only [World.heap_size_alloc, World.heap_size_drew, World.heap_size_setCell]); omega)))) (by omega)) (Nat.le_trans hT3 (by (try simp only [World.heap_size_alloc, World.heap_size_drew, World.heap_size_setCell]); omega))).mono ?_); rintro _ w1 ⟨A0, c0, A1, c1, A2, c2, A3, c3, rfl, s0, s1, s2, s3, b1x⟩; have v1 : Below wr.heap.size wr w1 := Below.trans (by (repeat' (first | with_reducible exact Below.refl _ _ | with_reducible refine Below.drew ?_ | with_reducible refine Below.alloc ?_ ?_ _ | ((try simp only [World.heap_size_alloc, World.heap_size_drew, World.heap_size_setCell]); omega)))) (b1x.mono (by (try simp only [World.heap_size_alloc, World.heap_size_drew, World.heap_size_setCell]); omega)); have z1 := v1.size; have Z0 := Lib.hid (s0.mono (lo' := wr.heap.size) (by (try simp only [World.heap_size_alloc, World.heap_size_drew, World.heap_size_setCell]); omega) (Nat.le_refl _)); have Z1 := Lib.hid (s1.mono (lo' := wr.heap.size) (by (try simp only [World.heap_size_alloc, World.heap_size_drew, World.heap_size_setCell]); omega) (Nat.le_refl _)); have Z2 := Lib.hid (s2.mono (lo' := wr.heap.size) (by (try simp only [World.heap_size_alloc, World.heap_size_drew, World.heap_size_setCell]); omega) (Nat.le_refl _)); have Z3 := Lib.hid (s3.mono (lo' := wr.heap.size) (by (try simp only [World.heap_size_alloc, World.heap_size_drew, World.heap_size_setCell]); omega) (Nat.le_refl _)); clear p0 p1 p2 p3 pf0 pf1 pf2 pf3 x0 x1 x2 x3; obtain ⟨⟨p0, p1, p2, p3, pf0, pf1, pf2, pf3⟩, ⟨x0, x1, x2, x3, -, -, -, -⟩, -, -, -, -⟩ := HKS.out _ v1; clear s0 s1 s2 s3 b1x) | (go_simp; go_at_call 59; (with_reducible refine (CK2'.out _ _ _ _ _ _ _ _ _ _ _ _ _ (Z0.out.below (B := w1.heap.size) (by (repeat' (first | with_reducible exact Below.refl _ _ | with_reducible refine Below.drew ?_ | with_reducible refine Below.alloc ?_ ?_ _ | ((try simp only [World.heap_size_alloc, World.heap_size_drew, World.heap_size_setCell]); omega)))) (Nat.le_refl _)) (Z1.out.below (B := w1.heap.size) (by (repeat' (first | with_reducible exact Below.refl _ _ | with_reducible refine Below.drew ?_ | with_reducible refine Below.alloc ?_ ?_ _ | ((try simp only [World.heap_size_alloc, World.heap_size_drew, World.heap_size_setCell]); omega)))) (Nat.le_refl _)) (Z2.out.below (B := w1.heap.size) (by (repeat' (first | with_reducible exact Below.refl _ _ | with_reducible refine Below.drew ?_ | with_reducible refine Below.alloc ?_ ?_ _ | ((try simp only [World.heap_size_alloc, World.heap_size_drew, World.heap_size_setCell]); omega)))) (Nat.le_refl _)) (Z3.out.below (B := w1.heap.size) (by (repeat' (first | with_reducible exact Below.refl _ _ | with_reducible refine Below.drew ?_ | with_reducible refine Below.alloc ?_ ?_ _ | ((try simp only [World.heap_size_alloc, World.heap_size_drew, World.heap_size_setCell]); omega)))) (Nat.le_refl _)) (by (try simp only [World.heap_size_alloc, World.heap_size_drew, World.heap_size_setCell]); omega) ((LA2.out.below v1 (by omega)).sl.below (B := w1.heap.size) (by (repeat' (first | with_reducible exact Below.refl _ _ | with_reducible refine Below.drew ?_ | with_reducible refine Below.alloc ?_ ?_ _ | ((try simp only [World.heap_size_alloc, World.heap_size_drew, World.heap_size_setCell]); omega)))) (by omega)) (by (try simp only [World.heap_size_alloc, World.heap_size_drew, World.heap_size_setCell]); omega)).mono ?_); rintro _ w2 ⟨Y0, f0, Y1, f1, Y2, f2, Y3, f3, rfl, t0, t1, t2, t3, b2⟩; have c2 : Below w1.heap.size w1 w2 := Below.trans (by (repeat' (first | with_reducible exact Below.refl _ _ | with_reducible refine Below.drew ?_ | with_reducible refine Below.alloc ?_ ?_ _ | ((try simp only [World.heap_size_alloc, World.heap_size_drew, World.heap_size_setCell]); omega)))) (b2.mono (by (try simp only [World.heap_size_alloc, World.heap_size_drew, World.heap_size_setCell]); omega)); have z2 := c2.size; have v2 : Below wr.heap.size wr w2 := v1.trans (c2.mono z1); have Q0 := Lib.hid (t0.mono (lo' := w1.heap.size) (by (try simp only [World.heap_size_alloc, World.heap_size_drew, World.heap_size_setCell]); omega) (Nat.le_refl _)); have Q1 := Lib.hid (t1.mono (lo' := w1.heap.size) (by (try simp only [World.heap_size_alloc, World.heap_size_drew, World.heap_size_setCell]); omega) (Nat.le_refl _)); have Q2 := Lib.hid (t2.mono (lo' := w1.heap.size) (by (try simp only [World.heap_size_alloc, World.heap_size_drew, World.heap_size_setCell]); omega) (Nat.le_refl _)); have Q3 := Lib.hid (t3.mono (lo' := w1.heap.size) (by (try simp only [World.heap_size_alloc, World.heap_size_drew, World.heap_size_setCell]); omega) (Nat.le_refl _)); clear p0 p1 p2 p3 pf0 pf1 pf2 pf3 x0 x1 x2 x3; have KB := (HKS.out _ v2).1; obtain ⟨p0, p1, p2, p3, pf0, pf1, pf2, pf3⟩ := id KB; clear t0 t1 t2 t3 b2))
        all_goals
          go_wp2_with fail
          go_meet
          exact ⟨Y0, f0, Y1, f1, Y2, f2, Y3, f3, _, rfl, TtAt.put wqz KB Q0.out Q1.out Q2.out Q3.out (by (try simp only [World.heap_size_alloc, World.heap_size_drew, World.heap_size_setCell]); omega) (Nat.le_refl _) (by omega), (Upd.of_below v2).trans up4⟩
      case rest =>
        obtain ⟨wo, rfl⟩ : ∃ x, x = wc := ⟨wc, rfl⟩
        obtain ⟨X0, d0, X1, d1, X2, d2, X3, d3, hi9, rfl, tt9, hu9⟩ := hcut
        have hq9 := hu9.size
        have hT4 := tt9.h2
        have hT5 := tt9.h3
        have EL3 := Lib.hid (EL2.out.upd hu9 (.inr (by omega)))
        have LA3 := Lib.hid (LA2.out.upd hu9 (.inr (by omega)))
        have D3 := Lib.hid (D2.out.upd hu9 (.inl (by omega)))
        have HB3 := Lib.hid (HB2.out.trans (hu9.below (by omega) (by omega)))
        have TT3 := Lib.hid tt9
        clear tt9 hu9 EL2 LA2 D2 HB2 TT2 HKS p0 p1 p2 p3 pf0 pf1 pf2 pf3 x0 x1 x2 x3 CS1 CK2'
        generalize hwrz : wr.heap.size = woz at *
        clear hwrz
        obtain ⟨wr, rfl⟩ : ∃ x, x = wo := ⟨wo, rfl⟩
        go_upto_region 12 with fail
        obtain ⟨e0, e1, e2, e3, -, -, -, -⟩ := TT3.out.box
        have hg8w : g8 < wr.heap.size := by omega
        go_cut [11, 12] (fun s11 s12 wx => ∃ (b11 hi11 : Nat) (mu mb mt : Int) (ml : List MarkD) (Am : Option Addr) (cm : Nat), s11 = .pointer (some ⟨b11, 0, none⟩) ∧ s12 = .bool true ∧ HdAt wx wr.heap.size hi11 b11 mu mb mt Am cm ml ∧ Hid ((mu = (nm : Int) ∧ mb = (ba : Int) ∧ ml = se) ∨ (mu = (b1 : Int) ∧ mb = (bl : Int) ∧ ml = sl)) ∧ DiceAt wx w.heap.size w.heap.size A n c ∧ Upd w.heap.size (w.heap.size + 1) wr wx)
        case first =>
          have HSK : Hid (∀ W, Upd w.heap.size (w.heap.size + 1) wr W → (W.cell? ⟨g8, 0, none⟩ = some (.slice X0 22 d0) ∧ W.cell? ⟨g8, 1, none⟩ = some (.slice X1 1 d1) ∧ W.cell? ⟨g8, 2, none⟩ = some (.slice X2 22 d2) ∧ W.cell? ⟨g8, 3, none⟩ = some (.slice X3 1 d3) ∧ Upd w.heap.size (w.heap.size + 1) wr W)) := Lib.hid (fun W hW => ⟨(World.cell?_of_block (w := wr) (a := ⟨g8, 0, none⟩) (hW.block g8 (by omega) (.inr (by omega)))).trans e0, (World.cell?_of_block (w := wr) (a := ⟨g8, 1, none⟩) (hW.block g8 (by omega) (.inr (by omega)))).trans e1, (World.cell?_of_block (w := wr) (a := ⟨g8, 2, none⟩) (hW.block g8 (by omega) (.inr (by omega)))).trans e2, (World.cell?_of_block (w := wr) (a := ⟨g8, 3, none⟩) (hW.block g8 (by omega) (.inr (by omega)))).trans e3, hW⟩)
          go_region_held3 (fun w' => w'.cell? ⟨g8, 0, none⟩ = some (.slice X0 22 d0) ∧ w'.cell? ⟨g8, 1, none⟩ = some (.slice X1 1 d1) ∧ w'.cell? ⟨g8, 2, none⟩ = some (.slice X2 22 d2) ∧ w'.cell? ⟨g8, 3, none⟩ = some (.slice X3 1 d3) ∧ Upd w.heap.size (w.heap.size + 1) wr w')
            (first | (refine HSK.out _ ?_; (repeat' (first | with_reducible exact Upd.refl _ _ _ | with_reducible assumption | with_reducible refine Upd.drew ?_ | with_reducible refine Upd.alloc ?_ _ | with_reducible refine Upd.setFar ?_ ?_ _ | ((try simp only [World.heap_size_alloc, World.heap_size_drew, World.heap_size_setCell]); omega)))) | (go_split_ands; refine HSK.out _ ?_; (repeat' (first | with_reducible exact Upd.refl _ _ _ | with_reducible assumption | with_reducible refine Upd.drew ?_ | with_reducible refine Upd.alloc ?_ _ | with_reducible refine Upd.setFar ?_ ?_ _ | ((try simp only [World.heap_size_alloc, World.heap_size_drew, World.heap_size_setCell]); omega)))))
            (first | (go_at_call 63; (with_reducible refine (w9Fates_any _ _ _ _ _ _ (D3.out.below (B := wr.heap.size) (by (repeat' (first | with_reducible exact Below.refl _ _ | with_reducible refine Below.drew ?_ | with_reducible refine Below.alloc ?_ ?_ _ | ((try simp only [World.heap_size_alloc, World.heap_size_drew, World.heap_size_setCell]); omega)))) (by omega))).mono ?_); rintro _ w1 ⟨Bf, qf, fa, fb, rfl, hfa, hfb, sf, d1x, u1⟩; have v1 : Upd w.heap.size (w.heap.size + 1) wr w1 := Upd.trans (Upd.of_below (by (repeat' (first | with_reducible exact Below.refl _ _ | with_reducible refine Below.drew ?_ | with_reducible refine Below.alloc ?_ ?_ _ | ((try simp only [World.heap_size_alloc, World.heap_size_drew, World.heap_size_setCell]); omega))))) u1; have z1 := v1.size; have D4 := Lib.hid d1x; have SF := Lib.hid (sf.mono (lo' := wr.heap.size) (by (try simp only [World.heap_size_alloc, World.heap_size_drew, World.heap_size_setCell]); omega) (Nat.le_refl _)); have T4 := Lib.hid (TT3.out.upd v1 (.inl (by omega))); (try have k1 := (Box4.new wr.drew (.int .i64 0) (.int .i64 0) (.int .i64 0) (.slice none 0 0) 49).upd u1 (.inr (by (try simp only [World.heap_size_alloc, World.heap_size_drew, World.heap_size_setCell]); omega))); (try have k1 := (Box4.new wr (.int .i64 0) (.int .i64 0) (.int .i64 0) (.slice none 0 0) 49).upd u1 (.inr (by (try simp only [World.heap_size_alloc, World.heap_size_drew, World.heap_size_setCell]); omega))); (try simp only [World.heap_size_drew] at k1); (try have kl1 := k1.lt); (try obtain ⟨j10, j11, j12, j13, j14, j15, j16, j17⟩ := id k1); clear d1x u1 sf) | (go_at_call 62; (with_reducible refine (CF2.out _ _ _ _ _ _ _ _ _ _ _ _ _ _ _ fa fb (T4.out.s0.below (B := w1.heap.size) (by (repeat' (first | with_reducible exact Below.refl _ _ | with_reducible refine Below.drew ?_ | with_reducible refine Below.alloc ?_ ?_ _ | ((try simp only [World.heap_size_alloc, World.heap_size_drew, World.heap_size_setCell]); omega)))) (by omega)) (T4.out.s1.below (B := w1.heap.size) (by (repeat' (first | with_reducible exact Below.refl _ _ | with_reducible refine Below.drew ?_ | with_reducible refine Below.alloc ?_ ?_ _ | ((try simp only [World.heap_size_alloc, World.heap_size_drew, World.heap_size_setCell]); omega)))) (by omega)) (T4.out.s2.below (B := w1.heap.size) (by (repeat' (first | with_reducible exact Below.refl _ _ | with_reducible refine Below.drew ?_ | with_reducible refine Below.alloc ?_ ?_ _ | ((try simp only [World.heap_size_alloc, World.heap_size_drew, World.heap_size_setCell]); omega)))) (by omega)) (T4.out.s3.below (B := w1.heap.size) (by (repeat' (first | with_reducible exact Below.refl _ _ | with_reducible refine Below.drew ?_ | with_reducible refine Below.alloc ?_ ?_ _ | ((try simp only [World.heap_size_alloc, World.heap_size_drew, World.heap_size_setCell]); omega)))) (by omega)) (by (try simp only [World.heap_size_alloc, World.heap_size_drew, World.heap_size_setCell]); omega) (SF.out.below (B := w1.heap.size) (by (repeat' (first | with_reducible exact Below.refl _ _ | with_reducible refine Below.drew ?_ | with_reducible refine Below.alloc ?_ ?_ _ | ((try simp only [World.heap_size_alloc, World.heap_size_drew, World.heap_size_setCell]); omega)))) (Nat.le_refl _)) (by (try simp only [World.heap_size_alloc, World.heap_size_drew, World.heap_size_setCell]); omega)).mono ?_); rintro _ w2 ⟨A0, c0, A1, c1, A2, c2x, A3, c3, rfl, s0, s1, s2, s3, b2⟩; have c2 : Below w1.heap.size w1 w2 := Below.trans (by (repeat' (first | with_reducible exact Below.refl _ _ | with_reducible refine Below.drew ?_ | with_reducible refine Below.alloc ?_ ?_ _ | ((try simp only [World.heap_size_alloc, World.heap_size_drew, World.heap_size_setCell]); omega)))) (b2.mono (by (try simp only [World.heap_size_alloc, World.heap_size_drew, World.heap_size_setCell]); omega)); have z2 := c2.size; have v2 : Upd w.heap.size (w.heap.size + 1) wr w2 := v1.trans (Upd.of_below c2); have D5 := Lib.hid (D4.out.below c2 (by omega)); have Z0 := Lib.hid (s0.mono (lo' := wr.heap.size) (by (try simp only [World.heap_size_alloc, World.heap_size_drew, World.heap_size_setCell]); omega) (Nat.le_refl _)); have Z1 := Lib.hid (s1.mono (lo' := wr.heap.size) (by (try simp only [World.heap_size_alloc, World.heap_size_drew, World.heap_size_setCell]); omega) (Nat.le_refl _)); have Z2 := Lib.hid (s2.mono (lo' := wr.heap.size) (by (try simp only [World.heap_size_alloc, World.heap_size_drew, World.heap_size_setCell]); omega) (Nat.le_refl _)); have Z3 := Lib.hid (s3.mono (lo' := wr.heap.size) (by (try simp only [World.heap_size_alloc, World.heap_size_drew, World.heap_size_setCell]); omega) (Nat.le_refl _)); (try have k2 := k1.below c2 k1.lt); (try have k2 := (Box4.new w1 (.int .i64 0) (.int .i64 0) (.int .i64 0) (.slice none 0 0) 49).below b2 (by (try simp only [World.heap_size_alloc, World.heap_size_drew, World.heap_size_setCell]); omega)); (try simp only [World.heap_size_drew] at k2); (try have kl2 := k2.lt); (try obtain ⟨j20, j21, j22, j23, j24, j25, j26, j27⟩ := id k2); clear s0 s1 s2 s3 b2) | (go_at_call 61; (with_reducible refine (CHF.out _ _ _ _ _ _ _ _ _ _ _ fa fb (Z0.out.below (B := w2.heap.size) (by (repeat' (first | with_reducible exact Below.refl _ _ | with_reducible refine Below.drew ?_ | with_reducible refine Below.alloc ?_ ?_ _ | ((try simp only [World.heap_size_alloc, World.heap_size_drew, World.heap_size_setCell]); omega)))) (Nat.le_refl _)) (Z1.out.below (B := w2.heap.size) (by (repeat' (first | with_reducible exact Below.refl _ _ | with_reducible refine Below.drew ?_ | with_reducible refine Below.alloc ?_ ?_ _ | ((try simp only [World.heap_size_alloc, World.heap_size_drew, World.heap_size_setCell]); omega)))) (Nat.le_refl _)) (Z2.out.below (B := w2.heap.size) (by (repeat' (first | with_reducible exact Below.refl _ _ | with_reducible refine Below.drew ?_ | with_reducible refine Below.alloc ?_ ?_ _ | ((try simp only [World.heap_size_alloc, World.heap_size_drew, World.heap_size_setCell]); omega)))) (Nat.le_refl _)) (Z3.out.below (B := w2.heap.size) (by (repeat' (first | with_reducible exact Below.refl _ _ | with_reducible refine Below.drew ?_ | with_reducible refine Below.alloc ?_ ?_ _ | ((try simp only [World.heap_size_alloc, World.heap_size_drew, World.heap_size_setCell]); omega)))) (Nat.le_refl _)) (by (try simp only [World.heap_size_alloc, World.heap_size_drew, World.heap_size_setCell]); omega)).mono ?_); rintro _ w3x ⟨mu, mb, mt, ml, Am, cm, hM, rfl, sm, b3⟩; have c3y : Below w2.heap.size w2 w3x := Below.trans (by (repeat' (first | with_reducible exact Below.refl _ _ | with_reducible refine Below.drew ?_ | with_reducible refine Below.alloc ?_ ?_ _ | ((try simp only [World.heap_size_alloc, World.heap_size_drew, World.heap_size_setCell]); omega)))) (b3.mono (by (try simp only [World.heap_size_alloc, World.heap_size_drew, World.heap_size_setCell]); omega)); have z3 := c3y.size; have v3 : Upd w.heap.size (w.heap.size + 1) wr w3x := v2.trans (Upd.of_below c3y); have D6 := Lib.hid (D5.out.below c3y (by omega)); have HMM := Lib.hid hM; (try have k3 := k2.below c3y k2.lt); (try have k3 := (Box4.new w2 (.int .i64 0) (.int .i64 0) (.int .i64 0) (.slice none 0 0) 49).below b3 (by (try simp only [World.heap_size_alloc, World.heap_size_drew, World.heap_size_setCell]); omega)); (try simp only [World.heap_size_drew] at k3); (try have kl3 := k3.lt); (try obtain ⟨j30, j31, j32, j33, j34, j35, j36, j37⟩ := id k3); have SM := Lib.hid sm; clear sm b3 hM))
          all_goals
            go_wp2_with fail
            go_meet
            first
              | exact ⟨_, _, mu, mb, mt, ml, Am, cm, rfl, rfl, HdAt.new wr.heap.size _ SM.out (Nat.le_refl _) (by (try simp only [World.heap_size_alloc, World.heap_size_drew, World.heap_size_setCell]); omega) (by omega), HMM, D6.out.below ((Below.refl _ _).alloc (Nat.le_refl _) _) (by omega), v3.alloc _⟩
              | exact ⟨_, _, mu, mb, mt, ml, Am, cm, rfl, rfl, HdAt.put wr.heap.size k3 SM.out (by (try simp only [World.heap_size_alloc, World.heap_size_drew, World.heap_size_setCell]); omega) (Nat.le_refl _) (by omega), HMM, D6.out.below (below4 (B := wr.heap.size) (by omega)) (by omega), v3.after (below4 (by omega)) (by rw [size4]; exact Nat.le_refl _)⟩
        case rest =>
          obtain ⟨ws, rfl⟩ : ∃ x, x = wc := ⟨wc, rfl⟩
          obtain ⟨g11, hi11, mu, mb, mt, ml, Am, cm, rfl, rfl, hm, HMM, hdm, hum⟩ := hcut
          have hqm := hum.size
          have hM1 := hm.h1
          have hM2 := hm.h2
          have hM3 := hm.h3
          have EL4 := Lib.hid (EL3.out.upd hum (.inl (by omega)))
          have LA4 := Lib.hid (LA3.out.upd hum (.inl (by omega)))
          have TT4 := Lib.hid (TT3.out.upd hum (.inl (by omega)))
          have D4 := Lib.hid hdm
          have HB4 := Lib.hid (HB3.out.trans (hum.below (Nat.le_refl _) (by omega)))
          have MA := Lib.hid hm
          clear hum hdm hm EL3 LA3 TT3 D3 HB3 e0 e1 e2 e3 CF2 CHF
          generalize hwrz : wr.heap.size = wsz at *
          clear hwrz
          obtain ⟨e0, e1, e2, e3, -, -, -, -⟩ := EL4.out.box
          obtain ⟨l0, l1, l2, l3, -, -, -, -⟩ := LA4.out.box
          obtain ⟨m0, m1, m2, m3, -, -, -, -⟩ := MA.out.box
          obtain ⟨p0, p1, p2, p3, -, -, -, -⟩ := TT4.out.box
          rcases HMM.out with ⟨rfl, rfl, rfl⟩ | ⟨rfl, rfl, rfl⟩
          · have CSS := Lib.hid (sameSeen_any _ _ _ _ _ _ _ _ _ _ ml ml ws MA.out.sl EL4.out.sl)
            rw [show sameSeen ml ml = true from decide_eq_true rfl] at CSS
            go_wp2_with fail
            (with_reducible refine (CSS.out).mono ?_); rintro _ wt ⟨rfl, bt⟩
            have zt := bt.size
            have TT5 := Lib.hid (TT4.out.below bt (by omega))
            have EL5 := Lib.hid (EL4.out.below bt (by omega))
            have LA5 := Lib.hid (LA4.out.below bt (by omega))
            have D5 := Lib.hid (D4.out.below bt (by omega))
            have HB5 := Lib.hid (HB4.out.trans (bt.mono (by omega)))
            have MA5 := Lib.hid (MA.out.below bt (by omega))
            clear bt e0 e1 e2 e3 l0 l1 l2 l3 m0 m1 m2 m3 p0 p1 p2 p3 TT4 EL4 LA4 D4 HB4 MA HMM
            obtain ⟨e0, e1, e2, e3, -, -, -, -⟩ := EL5.out.box
            obtain ⟨l0, l1, l2, l3, -, -, -, -⟩ := LA5.out.box
            obtain ⟨m0, m1, m2, m3, -, -, -, -⟩ := MA5.out.box
            go_upto_region 15 with fail
            clear e0 e1 e2 e3 l0 l1 l2 l3 m0 m1 m2 m3 MA5
            have hal : Below wt.heap.size wt (wt.alloc (.cells #[] 2)) := (Below.refl _ _).alloc (Nat.le_refl _) _
            obtain ⟨p0, p1, p2, p3, -, -, -, -⟩ := TT5.out.box
            have hpal := TT5.out.box.below hal (by omega)
            obtain ⟨r0, r1, r2, r3, -, -, -, -⟩ := hpal
            go_wp2_with fail
            (with_reducible refine (CF0.out _ _ _ _ _ _ _ _ _ _ _ _ (TT5.out.s0.below hal (by omega)) (TT5.out.s1.below hal (by omega)) (TT5.out.s2.below hal (by omega)) (TT5.out.s3.below hal (by omega)) (Nat.le_trans TT5.out.h3 hal.size)).mono ?_); rintro _ wu ⟨A0, c0, A1, c1, A2, c2, A3, c3, rfl, s0, s1, s2, s3, bu⟩
            have zu := bu.size
            have hBu := hal.trans (bu.mono hal.size)
            have CHL := Lib.hid (CH1.out wu A0 c0 A1 c1 A2 c2 A3 c3 _ _ s0 s1 s2 s3 (Nat.le_refl _))
            have VU := Lib.hid hBu
            clear s0 s1 s2 s3 bu hal p0 p1 p2 p3 r0 r1 r2 r3 hBu
            go_wp2_with fail
            (with_reducible refine (CHL.out).mono ?_); rintro _ wv ⟨Al, cl, rfl, sv, bv⟩
            have zv := bv.size
            have BX13 := Lib.hid (HdAt.new (u := (nm : Int)) (be := (ba : Int)) (te := te) wu.heap.size 49 sv (Nat.le_refl _) (Nat.le_refl _) zv)
            have hal : Below wv.heap.size wv (wv.alloc (.cells #[.int .i64 (nm : Int), .int .i64 (ba : Int), .int .i64 te, .slice Al ml.length cl] 49)) := (Below.refl _ _).alloc (Nat.le_refl _) _
            have hsz : (wv.alloc (.cells #[.int .i64 (nm : Int), .int .i64 (ba : Int), .int .i64 te, .slice Al ml.length cl] 49)).heap.size = wv.heap.size + 1 := World.heap_size_alloc _ _
            have zwt : wt.heap.size ≤ wu.heap.size := VU.out.size
            have VW : Hid (Below wt.heap.size wt (wv.alloc (.cells #[.int .i64 (nm : Int), .int .i64 (ba : Int), .int .i64 te, .slice Al ml.length cl] 49))) := Lib.hid ((VU.out.trans (bv.mono zwt)).trans (hal.mono (by omega)))
            clear sv bv hal CHL
            go_upto_region 16 with fail
            generalize wv.alloc (.cells #[.int .i64 (nm : Int), .int .i64 (ba : Int), .int .i64 te, .slice Al ml.length cl] 49) = wx at *
            have hsz1 := Nat.le_of_eq hsz
            have hsz2 := Nat.le_of_eq hsz.symm
            clear hsz
            have TT6 := Lib.hid (TT5.out.below VW.out (by omega))
            have EL6 := Lib.hid (EL5.out.below VW.out (by omega))
            have LA6 := Lib.hid (LA5.out.below VW.out (by omega))
            have D6 := Lib.hid (D5.out.below VW.out (by omega))
            have HB6 := Lib.hid (HB5.out.trans (VW.out.mono (by omega)))
            clear TT5 EL5 LA5 D5 HB5 VW VU
            obtain ⟨p0, p1, p2, p3, -, -, -, -⟩ := TT6.out.box
            have CSY := Lib.hid (CS2.out wx _ _ _ _ _ _ _ _ _ _ TT6.out.s0 TT6.out.s1 TT6.out.s2 TT6.out.s3 TT6.out.h3)
            go_wp2_with fail
            (with_reducible refine (CSY.out).mono ?_); rintro _ wy ⟨A0, c0, A1, c1, A2, c2, A3, c3, rfl, s0, s1, s2, s3, by_⟩
            have zy := by_.size
            have EL7 := Lib.hid (EL6.out.below by_ (by omega))
            have LA7 := Lib.hid (LA6.out.below by_ (by omega))
            have BX7 := Lib.hid (BX13.out.below by_ (by omega))
            have d7 := D6.out.below by_ (by omega)
            have HB7 := Lib.hid (HB6.out.trans (by_.mono (by omega)))
            have Z0 := Lib.hid s0
            have Z1 := Lib.hid s1
            have Z2 := Lib.hid s2
            have Z3 := Lib.hid s3
            clear s0 s1 s2 s3 by_ p0 p1 p2 p3 EL6 LA6 BX13 D6 HB6 CSY
            go_wp2_with fail
            (with_reducible refine (w9Fates_any _ _ _ _ _ _ d7).mono ?_); rintro _ wz ⟨Bf, qf, fa, fb, rfl, hfa, hfb, sf, d8, u8⟩
            have zz := u8.size
            have CFA := Lib.hid (CF3.out wz _ _ _ _ _ _ _ _ _ _ _ _ _ _ fa fb (Z0.out.upd u8 (.inr (by omega))) (Z1.out.upd u8 (.inr (by omega))) (Z2.out.upd u8 (.inr (by omega))) (Z3.out.upd u8 (.inr (by omega))) (by omega) sf (Nat.le_refl _))
            have EL8 := Lib.hid (EL7.out.upd u8 (.inl (by omega)))
            have LA8 := Lib.hid (LA7.out.upd u8 (.inl (by omega)))
            have BX8 := Lib.hid (BX7.out.upd u8 (.inl (by omega)))
            have HB8 := Lib.hid (HB7.out.trans (u8.below (Nat.le_refl _) (by omega)))
            clear sf d8 u8 d7 EL7 LA7 BX7 HB7 Z0 Z1 Z2 Z3
            go_wp2_with fail
            (with_reducible refine (CFA.out).mono ?_); rintro _ v1 ⟨A0, c0, A1, c1, A2, c2, A3, c3, rfl, s0, s1, s2, s3, bq⟩
            have zq := bq.size
            have CHL := Lib.hid (CH2.out v1 A0 c0 A1 c1 A2 c2 A3 c3 _ _ s0 s1 s2 s3 (Nat.le_refl _))
            have EL9 := Lib.hid (EL8.out.below bq (by omega))
            have LA9 := Lib.hid (LA8.out.below bq (by omega))
            have BX9 := Lib.hid (BX8.out.below bq (by omega))
            have HB9 := Lib.hid (HB8.out.trans (bq.mono (by omega)))
            clear s0 s1 s2 s3 bq EL8 LA8 BX8 HB8 CFA
            go_wp2_with fail
            (with_reducible refine (CHL.out).mono ?_); rintro _ v2 ⟨Ak, ck, rfl, sk, bk⟩
            have zk := bk.size
            have BX15 := HdAt.new (u := (b1 : Int)) (be := (bl : Int)) (te := tl) v1.heap.size 49 sk (Nat.le_refl _) (Nat.le_refl _) zk
            have hal : Below v2.heap.size v2 (v2.alloc (.cells #[.int .i64 (b1 : Int), .int .i64 (bl : Int), .int .i64 tl, .slice Ak sl.length ck] 49)) := (Below.refl _ _).alloc (Nat.le_refl _) _
            have hbk := bk.trans (hal.mono zk)
            have ELx := EL9.out.below hbk (by omega)
            have LAx := LA9.out.below hbk (by omega)
            have BXx := BX9.out.below hbk (by omega)
            have HBx := Lib.hid (HB9.out.trans (hbk.mono (by omega)))
            obtain ⟨e0, e1, e2, e3, -, -, -, -⟩ := ELx.box
            obtain ⟨l0, l1, l2, l3, -, -, -, -⟩ := LAx.box
            obtain ⟨m0, m1, m2, m3, -, -, -, -⟩ := BXx.box
            obtain ⟨n0, n1, n2, n3, -, -, -, -⟩ := BX15.box
            have CSX := Lib.hid (sameSeen_any _ _ _ _ _ _ _ _ _ _ sl sl _ BX15.sl LAx.sl)
            rw [show sameSeen sl sl = true from decide_eq_true rfl] at CSX
            clear sk bk hal hbk ELx LAx BXx BX15 EL9 LA9 BX9 HB9 CHL
            go_wp2_with fail
            (with_reducible refine (CSX.out).mono ?_); rintro _ v4 ⟨rfl, b4⟩
            have HBf := Lib.hid (HBx.out.trans (b4.mono (by have := HBx.out.size; omega)))
            clear b4
            go_wp2_with fail
            go_ret
            exact ⟨rfl, HBf.out⟩
          · have bt : Below ws.heap.size ws ws := Below.refl _ _
            obtain ⟨wt, hwt⟩ : ∃ x, x = ws := ⟨ws, rfl⟩
            subst hwt
            have zt := bt.size
            have TT5 := Lib.hid (TT4.out.below bt (by omega))
            have EL5 := Lib.hid (EL4.out.below bt (by omega))
            have LA5 := Lib.hid (LA4.out.below bt (by omega))
            have D5 := Lib.hid (D4.out.below bt (by omega))
            have HB5 := Lib.hid (HB4.out.trans (bt.mono (by omega)))
            have MA5 := Lib.hid (MA.out.below bt (by omega))
            clear bt e0 e1 e2 e3 l0 l1 l2 l3 m0 m1 m2 m3 p0 p1 p2 p3 TT4 EL4 LA4 D4 HB4 MA HMM
            obtain ⟨e0, e1, e2, e3, -, -, -, -⟩ := EL5.out.box
            obtain ⟨l0, l1, l2, l3, -, -, -, -⟩ := LA5.out.box
            obtain ⟨m0, m1, m2, m3, -, -, -, -⟩ := MA5.out.box
            go_upto_region 15 with fail
            clear e0 e1 e2 e3 l0 l1 l2 l3 m0 m1 m2 m3 MA5
            have hal : Below wt.heap.size wt (wt.alloc (.cells #[] 2)) := (Below.refl _ _).alloc (Nat.le_refl _) _
            obtain ⟨p0, p1, p2, p3, -, -, -, -⟩ := TT5.out.box
            have hpal := TT5.out.box.below hal (by omega)
            obtain ⟨r0, r1, r2, r3, -, -, -, -⟩ := hpal
            go_wp2_with fail
            (with_reducible refine (CF0.out _ _ _ _ _ _ _ _ _ _ _ _ (TT5.out.s0.below hal (by omega)) (TT5.out.s1.below hal (by omega)) (TT5.out.s2.below hal (by omega)) (TT5.out.s3.below hal (by omega)) (Nat.le_trans TT5.out.h3 hal.size)).mono ?_); rintro _ wu ⟨A0, c0, A1, c1, A2, c2, A3, c3, rfl, s0, s1, s2, s3, bu⟩
            have zu := bu.size
            have hBu := hal.trans (bu.mono hal.size)
            have CHL := Lib.hid (CH1.out wu A0 c0 A1 c1 A2 c2 A3 c3 _ _ s0 s1 s2 s3 (Nat.le_refl _))
            have VU := Lib.hid hBu
            clear s0 s1 s2 s3 bu hal p0 p1 p2 p3 r0 r1 r2 r3 hBu
            go_wp2_with fail
            (with_reducible refine (CHL.out).mono ?_); rintro _ wv ⟨Al, cl, rfl, sv, bv⟩
            have zv := bv.size
            have BX13 := Lib.hid (HdAt.new (u := (nm : Int)) (be := (ba : Int)) (te := te) wu.heap.size 49 sv (Nat.le_refl _) (Nat.le_refl _) zv)
            have hal : Below wv.heap.size wv (wv.alloc (.cells #[.int .i64 (nm : Int), .int .i64 (ba : Int), .int .i64 te, .slice Al se.length cl] 49)) := (Below.refl _ _).alloc (Nat.le_refl _) _
            have hsz : (wv.alloc (.cells #[.int .i64 (nm : Int), .int .i64 (ba : Int), .int .i64 te, .slice Al se.length cl] 49)).heap.size = wv.heap.size + 1 := World.heap_size_alloc _ _
            have zwt : wt.heap.size ≤ wu.heap.size := VU.out.size
            have VW : Hid (Below wt.heap.size wt (wv.alloc (.cells #[.int .i64 (nm : Int), .int .i64 (ba : Int), .int .i64 te, .slice Al se.length cl] 49))) := Lib.hid ((VU.out.trans (bv.mono zwt)).trans (hal.mono (by omega)))
            clear sv bv hal CHL
            go_upto_region 16 with fail
            generalize wv.alloc (.cells #[.int .i64 (nm : Int), .int .i64 (ba : Int), .int .i64 te, .slice Al se.length cl] 49) = wx at *
            have hsz1 := Nat.le_of_eq hsz
            have hsz2 := Nat.le_of_eq hsz.symm
            clear hsz
            have TT6 := Lib.hid (TT5.out.below VW.out (by omega))
            have EL6 := Lib.hid (EL5.out.below VW.out (by omega))
            have LA6 := Lib.hid (LA5.out.below VW.out (by omega))
            have D6 := Lib.hid (D5.out.below VW.out (by omega))
            have HB6 := Lib.hid (HB5.out.trans (VW.out.mono (by omega)))
            clear TT5 EL5 LA5 D5 HB5 VW VU
            obtain ⟨p0, p1, p2, p3, -, -, -, -⟩ := TT6.out.box
            have CSY := Lib.hid (CS2.out wx _ _ _ _ _ _ _ _ _ _ TT6.out.s0 TT6.out.s1 TT6.out.s2 TT6.out.s3 TT6.out.h3)
            go_wp2_with fail
            (with_reducible refine (CSY.out).mono ?_); rintro _ wy ⟨A0, c0, A1, c1, A2, c2, A3, c3, rfl, s0, s1, s2, s3, by_⟩
            have zy := by_.size
            have EL7 := Lib.hid (EL6.out.below by_ (by omega))
            have LA7 := Lib.hid (LA6.out.below by_ (by omega))
            have BX7 := Lib.hid (BX13.out.below by_ (by omega))
            have d7 := D6.out.below by_ (by omega)
            have HB7 := Lib.hid (HB6.out.trans (by_.mono (by omega)))
            have Z0 := Lib.hid s0
            have Z1 := Lib.hid s1
            have Z2 := Lib.hid s2
            have Z3 := Lib.hid s3
            clear s0 s1 s2 s3 by_ p0 p1 p2 p3 EL6 LA6 BX13 D6 HB6 CSY
            go_wp2_with fail
            (with_reducible refine (w9Fates_any _ _ _ _ _ _ d7).mono ?_); rintro _ wz ⟨Bf, qf, fa, fb, rfl, hfa, hfb, sf, d8, u8⟩
            have zz := u8.size
            have CFA := Lib.hid (CF3.out wz _ _ _ _ _ _ _ _ _ _ _ _ _ _ fa fb (Z0.out.upd u8 (.inr (by omega))) (Z1.out.upd u8 (.inr (by omega))) (Z2.out.upd u8 (.inr (by omega))) (Z3.out.upd u8 (.inr (by omega))) (by omega) sf (Nat.le_refl _))
            have EL8 := Lib.hid (EL7.out.upd u8 (.inl (by omega)))
            have LA8 := Lib.hid (LA7.out.upd u8 (.inl (by omega)))
            have BX8 := Lib.hid (BX7.out.upd u8 (.inl (by omega)))
            have HB8 := Lib.hid (HB7.out.trans (u8.below (Nat.le_refl _) (by omega)))
            clear sf d8 u8 d7 EL7 LA7 BX7 HB7 Z0 Z1 Z2 Z3
            go_wp2_with fail
            (with_reducible refine (CFA.out).mono ?_); rintro _ v1 ⟨A0, c0, A1, c1, A2, c2, A3, c3, rfl, s0, s1, s2, s3, bq⟩
            have zq := bq.size
            have CHL := Lib.hid (CH2.out v1 A0 c0 A1 c1 A2 c2 A3 c3 _ _ s0 s1 s2 s3 (Nat.le_refl _))
            have EL9 := Lib.hid (EL8.out.below bq (by omega))
            have LA9 := Lib.hid (LA8.out.below bq (by omega))
            have BX9 := Lib.hid (BX8.out.below bq (by omega))
            have HB9 := Lib.hid (HB8.out.trans (bq.mono (by omega)))
            clear s0 s1 s2 s3 bq EL8 LA8 BX8 HB8 CFA
            go_wp2_with fail
            (with_reducible refine (CHL.out).mono ?_); rintro _ v2 ⟨Ak, ck, rfl, sk, bk⟩
            have zk := bk.size
            have BX15 := HdAt.new (u := (b1 : Int)) (be := (bl : Int)) (te := tl) v1.heap.size 49 sk (Nat.le_refl _) (Nat.le_refl _) zk
            have hal : Below v2.heap.size v2 (v2.alloc (.cells #[.int .i64 (b1 : Int), .int .i64 (bl : Int), .int .i64 tl, .slice Ak ml.length ck] 49)) := (Below.refl _ _).alloc (Nat.le_refl _) _
            have hbk := bk.trans (hal.mono zk)
            have ELx := EL9.out.below hbk (by omega)
            have LAx := LA9.out.below hbk (by omega)
            have BXx := BX9.out.below hbk (by omega)
            have HBx := Lib.hid (HB9.out.trans (hbk.mono (by omega)))
            obtain ⟨e0, e1, e2, e3, -, -, -, -⟩ := ELx.box
            obtain ⟨l0, l1, l2, l3, -, -, -, -⟩ := LAx.box
            obtain ⟨m0, m1, m2, m3, -, -, -, -⟩ := BXx.box
            obtain ⟨n0, n1, n2, n3, -, -, -, -⟩ := BX15.box
            have CSX := Lib.hid (sameSeen_any _ _ _ _ _ _ _ _ _ _ ml ml _ BX15.sl LAx.sl)
            rw [show sameSeen ml ml = true from decide_eq_true rfl] at CSX
            clear sk bk hal hbk ELx LAx BXx BX15 EL9 LA9 BX9 HB9 CHL
            go_wp2_with fail
            (with_reducible refine (CSX.out).mono ?_); rintro _ v4 ⟨rfl, b4⟩
            have HBf := Lib.hid (HBx.out.trans (b4.mono (by have := HBx.out.size; omega)))
            clear b4
            go_wp2_with fail
            go_ret
            exact ⟨rfl, HBf.out⟩
theorem own : ownKnob Try.prog.godebug = none := by kernel_rfl
theorem laidOut : laidOutB Try.prog = true := by kernel_rfl
set_option maxRecDepth 100000 in
theorem lifted (os : Os) (started : os.Started) (H : Type) (enc : TypeId × Value → H) :
    ReturnsInHanded {} Try.checked os 12 .any (Rows.fnHeadsTurnSpec.pre6 enc Try.prog Try.f12 Rows.fnHeadsTurnRow.domain false) (Rows.fnHeadsTurnSpec.post enc Try.prog Try.f12 false true false false) := by
  refine returnsInHanded_of_change (C := Try.checked) own started (by kernel_rfl) Try.func12
    (ChangeSpec.witness6 (enc := enc) (C := Try.checked) false ⟨#[], #[.slice none 0 0], []⟩ 8 (by kernel_rfl) (by kernel_rfl) (by kernel_rfl) (by kernel_rfl)) ?_
  intro W base args ds gs before hval0 hW hcnd _
  have hval : ∀ (j : Nat) t v, Try.f12.params[j]? = some t → args[j]? = some v → Value.okWide Try.prog W .any base t v := hval0
  have hW' := hW
  obtain ⟨p, q, hA0, hV, rfl, hfz, hnd⟩ := hW
  have hA : DataW.TrodAll enc Try.prog W 0 (fun _ => true) true Try.f12.params.toList args.toList ds p := hA0
  rw [Try.params12] at hA hval
  obtain ⟨v0, d0, rfl, rfl, h0⟩ := trodAll_one hA
  obtain ⟨rfl, rfl⟩ := trodVars_none hV
  obtain ⟨A0, n0, c0, rfl, hz0⟩ := open_bytes Try.underlying76 Try.underlying5 (by kernel_rfl) (hval 0 76 v0 rfl rfl) h0
  clear hA0 hval0
  refine (law_any A0 n0 c0 W hz0).mono fun e W' ⟨he, hb⟩ => ?_
  subst he
  exact ⟨_, rfl, law_post laidOut (by kernel_rfl) rfl Try.underlying4 rfl hW' hb rfl rfl rfl⟩
theorem holds : Rows.FnHeadsTurnSaid :=
  OpenClaim.holds_of_wide 12 Try.f12 rfl rfl rfl rfl rfl rfl rfl ⟨rfl, rfl, rfl, rfl, rfl⟩ rfl rfl rfl rfl rfl (by kernel_rfl) Try.func12 (by kernel_rfl)
    (of_decide_eq_true (by kernel_rfl)) (by unfold Func.isWrapper; first | (rw [if_pos (by decide +kernel)]; kernel_rfl) | (rw [if_neg (by decide +kernel)]; exact ⟨rfl, rfl⟩))
    (fun os started H enc _ => lifted os started H enc)
#print axioms holds
end HeadsTurn
end Go.Proofs.Ytgnilmdaegnaaaa
