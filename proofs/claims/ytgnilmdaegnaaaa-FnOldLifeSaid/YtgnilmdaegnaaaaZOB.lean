/- Entries on fallen disks, in plain words: which entries BookIn reads. No conditions. -/
import Derived.Test.YtgnilmdaegnaaaaZOA
import Derived.Test.YtgnilmdaegnaaaaZGen0
import Derived.Deep.WholeRow
import Derived.Deep.RegionHeld3
import Derived.Deep.RegionLaw
import Derived.Deep.DeepCutAuto
import Derived.Test.YtgnilmdaegnaaaaZHRow
import Derived.Test.YtgnilmdaegnaaaaZSlot3
import Derived.Test.YtgnilmdaegnaaaaZTw4
import Derived.Test.YtgnilmdaegnaaaaZTw7
import Derived.Test.YtgnilmdaegnaaaaZCut
import Derived.Test.YtgnilmdaegnaaaaZApp
import Derived.Lib.QuietBelow
import Derived.BigQuiet
import Derived.Test.YtgnilmdaegnaaaaZTw2
import Derived.Test.YtgnilmdaegnaaaaZW9b
set_option linter.unusedSimpArgs false
set_option linter.unusedVariables false
namespace Go.Proofs.Ytgnilmdaegnaaaa
def slotN (x : Int) : Nat := (2 + x % 20).toNat
def slotN' (e : EntryD) : Nat := slotN e.index
structure EsOk (Es : List EntryD) : Prop where
  ok : ∀ e ∈ Es, entryOk e = true
  idx : ∀ (j : Nat) e, Es[j]? = some e → e.index = (j : Int) + 1
theorem EsOk.uniq {Es : List EntryD} (h : EsOk Es) {a b : EntryD} (ha : a ∈ Es) (hb : b ∈ Es) (hi : a.index = b.index) : a = b := by
  obtain ⟨i, hi1, rfl⟩ := List.getElem_of_mem ha
  obtain ⟨j, hj1, rfl⟩ := List.getElem_of_mem hb
  have h1 := h.idx i _ (List.getElem?_eq_getElem hi1)
  have h2 := h.idx j _ (List.getElem?_eq_getElem hj1)
  obtain rfl : i = j := by omega
  rfl
theorem EsOk.take {Es : List EntryD} (h : EsOk Es) (n : Nat) : EsOk (Es.take n) :=
  ⟨fun e he => h.ok e (List.mem_of_mem_take he), fun j e he => h.idx j e (by
    have h1 := (List.getElem?_eq_some_iff.1 he).1
    rw [List.length_take] at h1
    rw [List.getElem?_take_of_lt (by omega)] at he
    exact he)⟩
/-- What may stand in a sector: a short row, or the halves of two entries' rows. -/
def EntRow (Es : List EntryD) (r : List Int) : Prop := r.length ≤ 6 ∨ ∃ a b, a ∈ Es ∧ b ∈ Es ∧ r = (sumRow (slotRow a)).take 6 ++ (sumRow (slotRow b)).drop 6
theorem slotRow_eq {a : EntryD} (h : entryOk a = true) : sumRow (slotRow a) = [a.index, a.time, a.client, a.seq, a.op.kind, a.op.a, a.op.b, a.op.c, a.op.d, a.index, a.index, sumM (slotRow a)] := by
  rw [sumRow]
  conv => lhs; arg 1; rw [slotRow, if_pos h]
  rfl
theorem rowSlot_slotRow {a : EntryD} (h : entryOk a = true) : rowSlot (slotRow a) = (a, true) := by
  rw [slotRow, if_pos h]
  show rowSlot [a.index, a.time, a.client, a.seq, a.op.kind, a.op.a, a.op.b, a.op.c, a.op.d, a.index, a.index] = _
  rw [rowSlot_good rfl rfl]
  exact rowEntry_ok h
theorem EntRow.read {Es : List EntryD} {r : List Int} (h : EsOk Es) (hr : EntRow Es r) (hu : unsOk r = true) (hs : (rowSlot (unsM r)).2 = true) : (rowSlot (unsM r)).1 ∈ Es := by
  have e0 : unsM r = r.take (r.length - 1) := by rw [unsM, if_pos hu]
  rcases hr with hr | ⟨a, b, ha, hb, rfl⟩
  · rw [rowSlot_none (by rw [e0, List.length_take]; omega)] at hs
    cases hs
  · rw [slotRow_eq (h.ok a ha), slotRow_eq (h.ok b hb)] at e0 hs ⊢
    simp only [List.take_succ_cons, List.take_zero, List.drop_succ_cons, List.drop_zero, List.cons_append, List.nil_append, List.length_cons, List.length_nil, Nat.zero_add, Nat.reduceAdd, Nat.reduceSub] at e0 hs ⊢
    rw [e0] at hs ⊢
    by_cases hab : b.index = a.index
    · obtain rfl := h.uniq hb ha hab
      rw [rowSlot_good rfl rfl, rowEntry_ok (h.ok b hb)]
      exact hb
    · rw [rowSlot_bad (fun h9 => hab h9.1)] at hs
      cases hs
theorem EntRow.row {Es : List EntryD} {e : EntryD} (he : e ∈ Es) : EntRow Es (sumRow (slotRow e)) := .inr ⟨e, e, he, he, (List.take_append_drop 6 _).symm⟩
theorem EntRow.torn {Es : List EntryD} {e : EntryD} {old : List Int} (h : EsOk Es) (he : e ∈ Es) (ho : EntRow Es old) : EntRow Es (tornM (sumRow (slotRow e)) old) := by
  have hl : (sumRow (slotRow e)).length = 12 := by rw [slotRow_eq (h.ok e he)]; rfl
  rw [tornM, hl]
  rcases ho with ho | ⟨a, b, ha, hb, rfl⟩
  · left
    rw [List.drop_eq_nil_of_le (show old.length ≤ 12 / 2 by omega), List.append_nil, List.length_take]
    omega
  · refine .inr ⟨e, b, he, hb, ?_⟩
    have h6 : ((sumRow (slotRow a)).take 6).length = 6 := by
      rw [slotRow_eq (h.ok a ha)]
      rfl
    rw [show 12 / 2 = 6 from rfl, List.drop_append_of_le_length (by omega), List.drop_eq_nil_of_le (by omega), List.nil_append]
/-- A disk that holds the empty log's head and entries of a list. -/
structure Disk2 (Es : List EntryD) (k : List (List Int)) : Prop where
  ok : diskOk k [] = true
  len : k.length = 22
  ents : ∀ (q : Nat) r, 2 ≤ q → k[q]? = some r → EntRow Es r
  head : k[0]? = some (sumRow zrow)
  one : ∃ r, k[1]? = some r ∧ r.length < 13
section
variable {Es Fs : List EntryD} {k : List (List Int)}
theorem EntRow.mono {r : List Int} (h : EntRow Es r) (hs : ∀ e ∈ Es, e ∈ Fs) : EntRow Fs r := by
  rcases h with h | ⟨a, b, ha, hb, h⟩
  · exact .inl h
  · exact .inr ⟨a, b, hs a ha, hs b hb, h⟩
theorem Disk2.mono (h : Disk2 Es k) (hs : ∀ e ∈ Es, e ∈ Fs) : Disk2 Fs k := ⟨h.ok, h.len, fun q r hq hr => (h.ents q r hq hr).mono hs, h.head, h.one⟩
theorem wrE_at {e : EntryD} (h : entryOk e = true) : (wrE e).at_.toNat = slotN' e ∧ 2 ≤ slotN' e := by
  have hix : btw e.index 1 2000 = true := by
    simp only [entryOk, Bool.and_eq_true] at h
    exact h.1.1.1.1
  obtain ⟨h1, h2⟩ := btw_iff.1 hix
  have e1 : (wrE e).at_ = 2 + e.index % 20 := if_pos hix
  rw [e1]
  unfold slotN' slotN
  omega
theorem Disk2.set (h : Disk2 Es k) {e : EntryD} (hok : EsOk Es) (he : e ∈ Es) {r : List Int} (hr : EntRow Es r) (hro : rowOk r = true) : Disk2 Es (k.set (wrE e).at_.toNat r) := by
  obtain ⟨e1, e2⟩ := wrE_at (hok.ok e he)
  rw [e1]
  refine ⟨diskOk_set0 h.ok hro _, by rw [List.length_set]; exact h.len, fun q x hq hx => ?_, by rw [List.getElem?_set_ne (by omega)]; exact h.head, by rw [List.getElem?_set_ne (by omega)]; exact h.one⟩
  rw [List.getElem?_set] at hx
  split at hx
  · split at hx
    · injection hx with hx
      rw [← hx]
      exact hr
    · cases hx
  · exact h.ents q x hq hx
theorem Disk2.row (h : Disk2 Es k) (hok : EsOk Es) (q : Nat) (hq : 2 ≤ q) : EntRow Es (k.getD q []) ∧ rowOk (k.getD q []) = true := by
  rw [List.getD_eq_getElem?_getD]
  cases e : k[q]? with
  | none => exact ⟨.inl (by simp), by decide⟩
  | some r => exact ⟨h.ents q r hq e, (diskOk_sizes h.ok).2.2.2.1 _ r e⟩
theorem rowE_ok {e : EntryD} (h : entryOk e = true) : rowOk (sumRow (slotRow e)) = true := by
  obtain ⟨h11, hro, -⟩ := slotRow_ok h
  exact rowOk_sum hro (by rw [h11]; omega)
theorem Disk2.fallStep (h : Disk2 Es k) (hok : EsOk Es) {e : EntryD} (he : e ∈ Es) (f : Int) : Disk2 Es (fallStep k (wrE e) f) := by
  have h2 := (wrE_at (hok.ok e he))
  obtain ⟨r1, r2⟩ := h.row hok (wrE e).at_.toNat (by rw [h2.1]; exact h2.2)
  unfold Go.Proofs.Ytgnilmdaegnaaaa.fallStep
  split
  · exact h.set hok he (EntRow.torn hok he r1) (rowOk_torn (rowE_ok (hok.ok e he)) r2)
  · split
    · exact h.set hok he (EntRow.row he) (rowE_ok (hok.ok e he))
    · exact h
theorem Disk2.fallN {v : List WriteD} (h : Disk2 Es k) (hok : EsOk Es) (hv : ∀ x ∈ v, ∃ e ∈ Es, x = wrE e) (fs : List Int) : ∀ q, q ≤ v.length → Disk2 Es (fallN k v fs q)
  | 0, _ => h
  | q + 1, hq => by
    have ih := Disk2.fallN h hok hv fs q (by omega)
    obtain ⟨e, he, hx⟩ := hv _ (List.getElem_mem (show q < v.length by omega))
    have e1 : v.getD q default = wrE e := by rw [List.getD_eq_getElem?_getD, List.getElem?_eq_getElem (by omega), ← hx]; rfl
    rw [Go.Proofs.Ytgnilmdaegnaaaa.fallN, e1]
    exact ih.fallStep hok he _
theorem Disk2.fallM {v : List WriteD} (h : Disk2 Es k) (hok : EsOk Es) (hv : ∀ x ∈ v, ∃ e ∈ Es, x = wrE e) (fs : List Int) : Disk2 Es (fallM k v fs) := h.fallN hok hv fs _ (Nat.le_refl _)
theorem Disk2.sync (hok : EsOk Es) : ∀ (v : List WriteD) {k : List (List Int)}, Disk2 Es k → (∀ x ∈ v, ∃ e ∈ Es, x = wrE e) → Disk2 Es (syncM k v)
  | [], _, h, _ => h
  | x :: v, k, h, hv => by
    obtain ⟨e, he, rfl⟩ := hv x List.mem_cons_self
    exact Disk2.sync hok v (h.set hok he (EntRow.row he) (rowE_ok (hok.ok e he))) (fun y hy => hv y (List.mem_cons_of_mem _ hy))
theorem fallStep_at {x : WriteD} {f : Int} {j : Nat} (h : x.at_.toNat ≠ j) : (Go.Proofs.Ytgnilmdaegnaaaa.fallStep k x f)[j]? = k[j]? := by
  unfold Go.Proofs.Ytgnilmdaegnaaaa.fallStep
  split
  · exact List.getElem?_set_ne h
  · split
    · exact List.getElem?_set_ne h
    · rfl
theorem fallN_at {v : List WriteD} {fs : List Int} {j : Nat} (hv : ∀ x ∈ v, x.at_.toNat ≠ j) : ∀ q, q ≤ v.length → (Go.Proofs.Ytgnilmdaegnaaaa.fallN k v fs q)[j]? = k[j]?
  | 0, _ => rfl
  | q + 1, hq => by
    have e1 : v.getD q default = v[q]'(by omega) := by rw [List.getD_eq_getElem?_getD, List.getElem?_eq_getElem (by omega)]; rfl
    rw [Go.Proofs.Ytgnilmdaegnaaaa.fallN, e1, fallStep_at (hv _ (List.getElem_mem _))]
    exact fallN_at hv q (by omega)
theorem fallM_at {v : List WriteD} {fs : List Int} {j : Nat} (hv : ∀ x ∈ v, x.at_.toNat ≠ j) : (Go.Proofs.Ytgnilmdaegnaaaa.fallM k v fs)[j]? = k[j]? := fallN_at hv _ (Nat.le_refl _)
end
theorem newK_disk (Es : List EntryD) : Disk2 Es newK := by
  refine ⟨diskOk_newK, newK_len, fun q r hq hr => ?_, rfl, [], rfl, by decide⟩
  rw [newK_eq, List.getElem?_set_ne (by omega), List.getElem?_replicate] at hr
  split at hr
  · injection hr with hr
    rw [← hr]
    exact .inl (by decide)
  · cases hr
theorem rightM_mem {a b r : List Int} (h : r ∈ rightM a b) : (r = unsM a ∧ unsOk a = true) ∨ (r = unsM b ∧ unsOk b = true) := by
  unfold rightM at h
  split at h
  · split at h
    · split at h
      · simp at h; exact .inl ⟨h, by assumption⟩
      · simp at h
        rcases h with h | h
        · exact .inl ⟨h, by assumption⟩
        · exact .inr ⟨h, by assumption⟩
    · simp at h; exact .inl ⟨h, by assumption⟩
  · split at h
    · simp at h; exact .inr ⟨h, by assumption⟩
    · simp at h
theorem head_disks {Es : List EntryD} {k0 k2 : List (List Int)} (h : Disk2 Es k0) (h2 : Disk2 Es k2) : ∃ a1 b1, k0[1]? = some a1 ∧ k2[1]? = some b1 ∧ headInM (sumRow zrow) (sumRow zrow) a1 b1 = (0, 0, 0, [], true) := by
  obtain ⟨a1, ha, hla⟩ := h.one
  obtain ⟨b1, hb, hlb⟩ := h2.one
  refine ⟨a1, b1, ha, hb, ?_⟩
  have e0 : (rightM (sumRow zrow) (sumRow zrow)).foldl (hstep 0) hd0 = (0, 0, 0, [], true) := by
    rw [sumRow, rightM_same]
    show hstep 0 hd0 zrow = _
    exact hstep_take1 rowHead_zrow rfl rfl (.inl rfl)
  rw [headInM, e0]
  have key : ∀ (R : List (List Int)), (∀ r ∈ R, (rowHead r).2.2.2.2 = false) → R.foldl (hstep 1) (0, 0, 0, [], true) = (0, 0, 0, [], true) := by
    intro R
    induction R with
    | nil => intro _; rfl
    | cons r R ih =>
      intro hR
      rw [List.foldl_cons]
      have : hstep 1 (0, 0, 0, [], true) r = (0, 0, 0, [], true) := by
        rw [hstep, if_neg]
        rintro ⟨h1, -⟩
        rw [hR r List.mem_cons_self] at h1
        cases h1
      rw [this]
      exact ih (fun x hx => hR x (List.mem_cons_of_mem _ hx))
  refine key _ (fun r hr => ?_)
  have hsh : ∀ z : List Int, z.length < 13 → (unsM z).length < 13 := by
    intro z hz
    unfold unsM
    split
    · rw [List.length_take]; omega
    · simp
  rcases rightM_mem hr with ⟨rfl, -⟩ | ⟨rfl, -⟩
  · exact rowHead_short (hsh _ hla)
  · exact rowHead_short (hsh _ hlb)
/-- The marks behind a number of entries. -/
def snE (Es : List EntryD) (i : Nat) : List MarkD := (Es.take i).foldl (fun s e => (marked s e).1) []
theorem snE_succ {Es : List EntryD} {i : Nat} {e : EntryD} (h : Es[i]? = some e) : snE Es (i + 1) = (marked (snE Es i) e).1 := by
  rw [snE, List.take_add_one, h]
  simp [snE]
theorem snE_take {Es : List EntryD} {n i : Nat} (h : i ≤ n) : snE (Es.take n) i = snE Es i := by
  rw [snE, snE, List.take_take, Nat.min_eq_left h]
/-- What BookIn reads at one place. -/
def stepR (Es : List EntryD) (k0 k2 : List (List Int)) (i : Nat) : EntryD × Bool := firstM (readM ((0 : Int) + (i : Int) + 1) 0 0 (Es.take i) (snE Es i)) (rightM (k0.getD (slotN ((0 : Int) + (i : Int) + 1)) []) (k2.getD (slotN ((0 : Int) + (i : Int) + 1)) []))
theorem firstM_some {R : List Int → EntryD × Bool} : ∀ {l : List (List Int)}, (firstM R l).2 = true → ∃ r ∈ l, firstM R l = R r
  | [], h => by cases h
  | r :: l, h => by
    rw [firstM] at h ⊢
    split
    · exact ⟨r, List.mem_cons_self, rfl⟩
    · rename_i hc
      rw [if_neg hc] at h
      obtain ⟨x, hx, hx2⟩ := firstM_some h
      exact ⟨x, List.mem_cons_of_mem _ hx, hx2⟩
theorem slotN_two (x : Int) : 2 ≤ slotN x := by unfold slotN; omega
theorem stepR_entry {Es : List EntryD} {k0 k2 : List (List Int)} (hok : EsOk Es) (h0 : Disk2 Es k0) (h2 : Disk2 Es k2) {i : Nat} (h : (stepR Es k0 k2 i).2 = true) :
    ∃ e, Es[i]? = some e ∧ stepR Es k0 k2 i = (e, true) ∧ fitsM 0 0 (Es.take i) e = true ∧ (marked (snE Es i) e).2 = true := by
  unfold stepR at h ⊢
  obtain ⟨r, hr, hx⟩ := firstM_some h
  rw [hx] at h ⊢
  unfold readM at h ⊢
  split at h
  · rename_i hc
    rw [if_pos hc]
    obtain ⟨c1, c2, c3⟩ := hc
    have hm : (rowSlot r).1 ∈ Es := by
      rcases rightM_mem hr with ⟨rfl, hu⟩ | ⟨rfl, hu⟩
      · exact EntRow.read hok (h0.row hok _ (slotN_two _)).1 hu c1
      · exact EntRow.read hok (h2.row hok _ (slotN_two _)).1 hu c1
    obtain ⟨j, hj, hje⟩ := List.getElem_of_mem hm
    have hj2 : Es[j]? = some (rowSlot r).1 := by rw [List.getElem?_eq_getElem hj, hje]
    have := hok.idx j _ hj2
    obtain rfl : j = i := by omega
    exact ⟨_, hj2, by rw [h], c3, h⟩
  · cases h
theorem stepR_row {Es : List EntryD} {k0 k2 : List (List Int)} (hok : EsOk Es) {i : Nat} {e : EntryD} (he : Es[i]? = some e) (h0 : k0[slotN ((i : Int) + 1)]? = some (sumRow (slotRow e))) (h2 : k2[slotN ((i : Int) + 1)]? = some (sumRow (slotRow e))) (hf : fitsM 0 0 (Es.take i) e = true) (hm : (marked (snE Es i) e).2 = true) : stepR Es k0 k2 i = (e, true) := by
  unfold stepR
  rw [Int.zero_add, List.getD_eq_getElem?_getD, List.getD_eq_getElem?_getD, h0, h2]
  show firstM _ (rightM (sumRow (slotRow e)) (sumRow (slotRow e))) = _
  rw [sumRow, rightM_same]
  have e1 : readM ((i : Int) + 1) 0 0 (Es.take i) (snE Es i) (slotRow e) = (e, true) := by
    rw [readM, rowSlot_slotRow (hok.ok e (List.mem_of_getElem? he)), if_pos ⟨rfl, hok.idx i e he, hf⟩, hm]
  rw [firstM, e1]
  rfl
theorem run_to (P : Nat → Bool) : ∀ (N : Nat), P N = false → ∃ n, n ≤ N ∧ (∀ i, i < n → P i = true) ∧ P n = false := by
  intro N
  induction N using Nat.strongRecOn with
  | _ N ih =>
    intro hN
    by_cases h : ∃ i, i < N ∧ P i = false
    · obtain ⟨i, hi, hp⟩ := h
      obtain ⟨n, h1, h2, h3⟩ := ih i hi hp
      exact ⟨n, by omega, h2, h3⟩
    · refine ⟨N, Nat.le_refl _, fun i hi => ?_, hN⟩
      cases hp : P i with
      | true => rfl
      | false => exact absurd ⟨i, hi, hp⟩ h
/-- What one recovery reads. -/
structure ReadK (Es : List EntryD) (k0 k2 : List (List Int)) (n : Nat) : Prop where
  le : n ≤ Es.length
  row : ∀ i, i ≤ n → k0[slotN ((0 : Int) + (i : Int) + 1)]? = some (k0.getD (slotN ((0 : Int) + (i : Int) + 1)) []) ∧ k2[slotN ((0 : Int) + (i : Int) + 1)]? = some (k2.getD (slotN ((0 : Int) + (i : Int) + 1)) [])
  step : ∀ (i : Nat) e, (Es.take n)[i]? = some e → firstM (readM ((0 : Int) + (i : Int) + 1) 0 0 ((Es.take n).take i) (snE Es i)) (rightM (k0.getD (slotN ((0 : Int) + (i : Int) + 1)) []) (k2.getD (slotN ((0 : Int) + (i : Int) + 1)) [])) = (e, true) ∧ (marked (snE Es i) e).1 = snE Es (i + 1)
  stop : (firstM (readM ((0 : Int) + (n : Int) + 1) 0 0 (Es.take n) (snE Es n)) (rightM (k0.getD (slotN ((0 : Int) + (n : Int) + 1)) []) (k2.getD (slotN ((0 : Int) + (n : Int) + 1)) []))).2 = false
  good : ∀ (i : Nat) e, i < n → Es[i]? = some e → fitsM 0 0 (Es.take i) e = true ∧ (marked (snE Es i) e).2 = true
theorem slotN_lt (x : Int) : slotN x < 22 := by unfold slotN; omega
theorem readK_exists {Es : List EntryD} {k0 k2 : List (List Int)} (hok : EsOk Es) (h0 : Disk2 Es k0) (h2 : Disk2 Es k2) : ∃ n, ReadK Es k0 k2 n ∧ (stepR Es k0 k2 n).2 = false := by
  obtain ⟨n, h3, h4, h5⟩ := run_to (fun i => (stepR Es k0 k2 i).2) Es.length (by
    cases hp : (stepR Es k0 k2 Es.length).2 with
    | false => rfl
    | true =>
      obtain ⟨e, he, -⟩ := stepR_entry hok h0 h2 hp
      rw [List.getElem?_eq_none (Nat.le_refl _)] at he
      cases he)
  refine ⟨n, ⟨h3, fun i _ => ?_, fun i e he => ?_, h5, fun i e hi he => ?_⟩, h5⟩
  · rw [List.getD_eq_getElem?_getD, List.getD_eq_getElem?_getD]
    have e1 := slotN_lt ((0 : Int) + (i : Int) + 1)
    rw [List.getElem?_eq_getElem (by rw [h0.len]; exact e1), List.getElem?_eq_getElem (by rw [h2.len]; exact e1)]
    exact ⟨rfl, rfl⟩
  · have hi := (List.getElem?_eq_some_iff.1 he).1
    rw [List.length_take] at hi
    rw [List.getElem?_take_of_lt (by omega)] at he
    obtain ⟨e', he', h6, -, -⟩ := stepR_entry hok h0 h2 (h4 i (by omega))
    rw [he] at he'
    injection he' with he'
    subst he'
    rw [List.take_take, Nat.min_eq_left (by omega)]
    exact ⟨h6, (snE_succ he).symm⟩
  · obtain ⟨e', he', -, h7, h8⟩ := stepR_entry hok h0 h2 (h4 i hi)
    rw [he] at he'
    injection he' with he'
    subst he'
    exact ⟨h7, h8⟩
/-- The rows that a recovery writes. -/
def recRows (F : List EntryD) : List (List Int) := F.foldl (fun R e => R.set (slotN e.index) (slotRow e)) ((List.replicate 22 []).set 0 zrow)
def recK (F : List EntryD) : List (List Int) := (recRows F).map sumRow
theorem recRows_len (F : List EntryD) : (recRows F).length = 22 := by
  have key : ∀ (F : List EntryD) (R : List (List Int)), (F.foldl (fun R e => R.set (slotN e.index) (slotRow e)) R).length = R.length := by
    intro F
    induction F with
    | nil => intro R; rfl
    | cons e F ih => intro R; rw [List.foldl_cons, ih, List.length_set]
  rw [recRows, key]
  rfl
theorem recRows_app (F : List EntryD) (e : EntryD) : recRows (F ++ [e]) = (recRows F).set (slotN e.index) (slotRow e) := by simp [recRows]
theorem recRows_at {F : List EntryD} (hok : EsOk F) (hl : F.length ≤ 19) : ∀ n, n ≤ F.length → (∀ q, (recRows (F.take n))[q]? = if q = 0 then some zrow else if q < 22 then (match (F.take n).find? (fun e => slotN e.index == q) with | some e => some (slotRow e) | none => some []) else none)
  | 0, _, q => by
    rw [List.take_zero]
    show ((List.replicate 22 []).set 0 zrow)[q]? = _
    by_cases hq : q = 0
    · subst hq; rfl
    · rw [if_neg hq, List.getElem?_set_ne (by omega), List.getElem?_replicate]
      rfl
  | n + 1, hn, q => by
    obtain ⟨e, he⟩ : ∃ e, F[n]? = some e := ⟨_, List.getElem?_eq_getElem (by omega)⟩
    have ih := recRows_at hok hl n (by omega)
    rw [List.take_add_one, he]
    simp only [Option.toList_some]
    rw [recRows_app, List.getElem?_set]
    have hi := hok.idx n e he
    have hs2 := slotN_two e.index
    have hs3 := slotN_lt e.index
    rw [recRows_len]
    by_cases hq : slotN e.index = q
    · rw [if_pos hq, if_pos hs3, if_neg (by omega), if_pos (by omega), List.find?_append]
      have : (F.take n).find? (fun e => slotN e.index == q) = none := by
        rw [List.find?_eq_none]
        intro x hx
        obtain ⟨j, hj, rfl⟩ := List.getElem_of_mem hx
        rw [List.length_take] at hj
        have h1 := hok.idx j _ (List.getElem?_eq_getElem (show j < F.length by omega))
        rw [List.getElem_take, h1, ← hq, hi]
        simp only [slotN, beq_iff_eq]
        omega
      rw [this]
      simp [hq]
    · rw [if_neg hq, ih q, List.find?_append]
      have : [e].find? (fun e => slotN e.index == q) = none := by simp [hq]
      rw [this, Option.or_none]
theorem recK_at {F : List EntryD} (hok : EsOk F) (hl : F.length ≤ 19) (q : Nat) : (recK F)[q]? = if q = 0 then some (sumRow zrow) else if q < 22 then (match F.find? (fun e => slotN e.index == q) with | some e => some (sumRow (slotRow e)) | none => some (sumRow [])) else none := by
  have h := recRows_at hok hl F.length (Nat.le_refl _) q
  rw [List.take_length] at h
  rw [recK, List.getElem?_map, h]
  split
  · rfl
  · split
    · split <;> rfl
    · rfl
theorem recK_disk {F : List EntryD} (hok : EsOk F) (hl : F.length ≤ 19) : Disk2 F (recK F) := by
  have hlen : (recK F).length = 22 := by rw [recK, List.length_map, recRows_len]
  have hq := recK_at hok hl
  refine ⟨diskOk_of (by omega) (by omega) (by simp) (fun j r hr => ?_) (fun j r hr => by simp at hr), hlen, fun q r h2 hr => ?_, by rw [hq]; rfl, ?_⟩
  · rw [hq] at hr
    split at hr
    · injection hr with hr; rw [← hr]; exact zrow_ok
    · split at hr
      · split at hr
        · rename_i e he
          injection hr with hr
          rw [← hr]
          exact rowE_ok (hok.ok _ (List.mem_of_find?_eq_some he))
        · injection hr with hr
          rw [← hr]
          decide
      · cases hr
  · rw [hq, if_neg (by omega)] at hr
    split at hr
    · split at hr
      · rename_i e he
        injection hr with hr
        rw [← hr]
        exact EntRow.row (List.mem_of_find?_eq_some he)
      · injection hr with hr
        rw [← hr]
        exact .inl (by decide)
    · cases hr
  · refine ⟨sumRow [], ?_, by decide⟩
    rw [hq, if_neg (by omega), if_pos (by omega)]
    have : F.find? (fun e => slotN e.index == 1) = none := by
      rw [List.find?_eq_none]
      intro x hx
      have := slotN_two x.index
      simp
      omega
    rw [this]
theorem recK_entry {F : List EntryD} (hok : EsOk F) (hl : F.length ≤ 19) {i : Nat} {e : EntryD} (he : F[i]? = some e) : (recK F)[slotN ((i : Int) + 1)]? = some (sumRow (slotRow e)) := by
  have hi := hok.idx i e he
  have h2 := slotN_two ((i : Int) + 1)
  have h3 := slotN_lt ((i : Int) + 1)
  rw [recK_at hok hl, if_neg (by omega), if_pos h3]
  have hm := List.mem_of_getElem? he
  cases hf : F.find? (fun e => slotN e.index == slotN ((i : Int) + 1)) with
  | none =>
    rw [List.find?_eq_none] at hf
    exact absurd (hf e hm) (by rw [hi]; simp)
  | some x =>
    have hx := List.mem_of_find?_eq_some hf
    have hp := List.find?_some hf
    obtain ⟨j, hj, hje⟩ := List.getElem_of_mem hx
    have h5 := hok.idx j x (by rw [List.getElem?_eq_getElem hj, hje])
    have h6 := (List.getElem?_eq_some_iff.1 he).1
    have : j = i := by
      simp only [slotN, beq_iff_eq, h5] at hp
      omega
    subst this
    rw [List.getElem?_eq_getElem hj, hje] at he
    injection he with he
    rw [he]
/-- The second life reads all that the first one recovered. -/
theorem second_reads {F M : List EntryD} (hok : EsOk (F ++ M)) (hl : (F ++ M).length ≤ 19) (hg : ∀ (i : Nat) e, F[i]? = some e → fitsM 0 0 (F.take i) e = true ∧ (marked (snE F i) e).2 = true) {v : List WriteD} (hv : ∀ x ∈ v, ∃ e ∈ M, x = wrE e) {fa fb : List Int} {n : Nat} (hn : (stepR (F ++ M) (fallM (recK F) v fa) (fallM (recK F) v fb) n).2 = false) : F.length ≤ n := by
  have hokF : EsOk F := by have := hok.take F.length; rwa [List.take_left] at this
  have hlF : F.length ≤ 19 := by rw [List.length_append] at hl; omega
  rcases Nat.lt_or_ge n F.length with h | h
  · exfalso
    obtain ⟨e, he⟩ : ∃ e, F[n]? = some e := ⟨_, List.getElem?_eq_getElem h⟩
    have he2 : (F ++ M)[n]? = some e := by rw [List.getElem?_append_left h]; exact he
    have hat : ∀ fs, (fallM (recK F) v fs)[slotN ((n : Int) + 1)]? = some (sumRow (slotRow e)) := fun fs => by
      rw [fallM_at (fun x hx => ?_)]
      · exact recK_entry hokF hlF he
      · obtain ⟨m, hm, rfl⟩ := hv x hx
        rw [(wrE_at (hok.ok m (List.mem_append_right _ hm))).1]
        obtain ⟨j, hj, rfl⟩ := List.getElem_of_mem hm
        have h5 := hok.idx (F.length + j) _ (by rw [List.getElem?_append_right (by omega), Nat.add_sub_cancel_left]; exact List.getElem?_eq_getElem hj)
        rw [List.length_append] at hl
        simp only [slotN', slotN, h5]
        omega
    have e1 : (F ++ M).take n = F.take n := List.take_append_of_le_length (by omega)
    have e2 : snE (F ++ M) n = snE F n := by rw [snE, e1, snE]
    obtain ⟨g1, g2⟩ := hg n e he
    rw [stepR_row hok he2 (hat fa) (hat fb) (by rw [e1]; exact g1) (by rw [e2]; exact g2)] at hn
    cases hn
  · exact h
theorem stA_okB : ∀ (l : List EntryD) {S I T : Int}, 0 ≤ S → 0 ≤ I → 0 ≤ T → (∀ e ∈ l, 0 ≤ e.client ∧ e.client ≤ 5 ∧ 0 ≤ e.seq ∧ e.seq ≤ S ∧ 0 ≤ e.index ∧ e.index ≤ I ∧ 0 ≤ e.time ∧ e.time ≤ T) → StOk (stA l) S I T := by
  intro l S I T hS hI hT hl
  have key : ∀ (l : List EntryD) (s : StE), StOk s S I T → (∀ e ∈ l, 0 ≤ e.client ∧ e.client ≤ 5 ∧ 0 ≤ e.seq ∧ e.seq ≤ S ∧ 0 ≤ e.index ∧ e.index ≤ I ∧ 0 ≤ e.time ∧ e.time ≤ T) → StOk (l.foldl aheadE s) S I T := by
    intro l
    induction l with
    | nil => intro s hs _; exact hs
    | cons x l ih =>
      intro s hs hl
      refine ih _ ?_ (fun e he => hl e (List.mem_cons_of_mem _ he))
      obtain ⟨h1, h2, h3, h4, h5, h6, h7, h8⟩ := hl x List.mem_cons_self
      refine ⟨by simp [aheadE, hs.len], fun j y hy => ?_, h5, h6, h7, h8⟩
      simp only [aheadE] at hy
      rw [List.getElem?_set] at hy
      split at hy
      · split at hy
        · injection hy with hy; omega
        · cases hy
      · exact hs.seq j y hy
  exact key l st0 (st0_zero.mono hS hI hT) hl
theorem stA_index {l : List EntryD} (hi : ∀ (j : Nat) e, l[j]? = some e → e.index = (j : Int) + 1) : ∀ n, n ≤ l.length → (stA (l.take n)).index = (n : Int)
  | 0, _ => by rw [List.take_zero]; rfl
  | n + 1, hn => by
    obtain ⟨e, he⟩ : ∃ e, l[n]? = some e := ⟨_, List.getElem?_eq_getElem (by omega)⟩
    rw [List.take_add_one, he]
    simp only [Option.toList_some]
    rw [stA_append]
    show e.index = _
    rw [hi n e he]
    omega
theorem gen0_es {ds : List DrawE} (hd : ∀ d ∈ ds, drawOk d) (hl : ds.length ≤ 900) : EsOk (genE st0 ds) :=
  ⟨fun e he => by
    obtain ⟨j, hj, rfl⟩ := List.getElem_of_mem he
    exact gen0_entryOk hd hl (List.getElem?_eq_getElem hj), fun j e he => (gen0_at hd he).1⟩
theorem more_es {ds dm : List DrawE} (hd : ∀ d ∈ ds, drawOk d) (hl : ds.length ≤ 8) (hm : ∀ d ∈ dm, drawOk d) (hlm : dm.length ≤ 8) {n : Nat} (hn : n ≤ ds.length) : EsOk ((genE st0 ds).take n ++ genE (stA ((genE st0 ds).take n)) dm) := by
  have hok := gen0_es hd (by omega)
  have hlen := genE_len ds st0
  have hF := hok.take n
  have hFl : ((genE st0 ds).take n).length = n := by rw [List.length_take]; omega
  have hst : StOk (stA ((genE st0 ds).take n)) 16 8 40 := stA_okB _ (by omega) (by omega) (by omega) (fun e he => by
    have he2 := List.mem_of_mem_take he
    obtain ⟨j, hj, rfl⟩ := List.getElem_of_mem he2
    have h1 := gen0_at hd (List.getElem?_eq_getElem hj)
    omega)
  have hix : (stA ((genE st0 ds).take n)).index = (n : Int) := stA_index hok.idx n (by omega)
  have hmo := genE_all dm _ 16 8 40 hst hm
  have hml := genE_len dm (stA ((genE st0 ds).take n))
  have h0 := hst.t0
  have h1 := hst.t1
  generalize stA ((genE st0 ds).take n) = s at *
  refine ⟨fun e he => ?_, fun j e he => ?_⟩
  · rcases List.mem_append.1 he with he | he
    · exact hF.ok e he
    · obtain ⟨j, hj, rfl⟩ := List.getElem_of_mem he
      obtain ⟨a1, a2, a3, a4, a5, a6, a7, a8⟩ := hmo j _ (List.getElem?_eq_getElem hj)
      simp only [entryOk, Bool.and_eq_true, btw_iff]
      exact ⟨⟨⟨⟨by omega, by omega⟩, by omega⟩, by omega⟩, a8⟩
  · rcases Nat.lt_or_ge j n with h | h
    · rw [List.getElem?_append_left (by omega)] at he
      exact hF.idx j e he
    · rw [List.getElem?_append_right (by omega), hFl] at he
      obtain ⟨a1, -⟩ := hmo _ _ he
      omega
theorem more_ahead {ds : List DrawE} (hd : ∀ d ∈ ds, drawOk d) (hl : ds.length ≤ 8) (n : Nat) : ∀ e ∈ (genE st0 ds).take n, aheadOk e := fun e he => by
  have hlen := genE_len ds st0
  have he2 := List.mem_of_mem_take he
  obtain ⟨j, hj, rfl⟩ := List.getElem_of_mem he2
  have h1 := gen0_at hd (List.getElem?_eq_getElem hj)
  unfold aheadOk
  omega
end Go.Proofs.Ytgnilmdaegnaaaa
set_option linter.unusedSimpArgs false
set_option linter.unusedVariables false
namespace Go.Proofs.Ytgnilmdaegnaaaa
open Go.RowKit
/-- A box of twenty-two slices that hold rows. -/
structure Rows22 (w : World) (R lo hi : Nat) (rows : List (List Int)) : Prop where
  len : rows.length = 22
  cells : ∀ (j : Nat) (r : List Int), rows[j]? = some r → ∃ (A : Option Addr) (c : Nat), w.cell? ⟨R, j, none⟩ = some (.slice A r.length c) ∧ w.frozen? ⟨R, j, none⟩ = false ∧ Sl w lo hi 1 A r.length c r
  sep : R < lo
  hi : hi ≤ w.heap.size
  lt : R < w.heap.size
  row : ∃ (cs : Array Value) (t : TypeId) (fr : Nat × Nat), w.heap[R]? = some (.cells cs t fr) ∧ cs.size = 22
section
variable {w w' : World} {R lo hi : Nat} {rows : List (List Int)}
theorem Rows22.below {B : Nat} (h : Rows22 w R lo hi rows) (hb : Below B w w') (hB : hi ≤ B) (hR : R < B) : Rows22 w' R lo hi rows :=
  ⟨h.len, fun j r hr => by
    obtain ⟨A, c, h1, h2, h3⟩ := h.cells j r hr
    exact ⟨A, c, (hb.cell (p := ⟨R, j, none⟩) hR).trans h1, (hb.frozen (p := ⟨R, j, none⟩) hR).trans h2, h3.below hb hB⟩, h.sep, Nat.le_trans h.hi hb.size, Nat.lt_of_lt_of_le h.lt hb.size, by
    obtain ⟨cs, t, fr, h1, h2⟩ := h.row
    exact ⟨cs, t, fr, (hb.block R hR).trans h1, h2⟩⟩
theorem Rows22.set (h : Rows22 w R lo hi rows) {hi' : Nat} {A : Option Addr} {n c : Nat} {r : List Int} (s : Sl w lo hi' 1 A n c r) (hn : n = r.length) (hh : hi ≤ hi') (hh2 : hi' ≤ w.heap.size) {j : Nat} (hj : j < 22) : Rows22 (w.setCell ⟨R, j, none⟩ (.slice A n c)) R lo hi' (rows.set j r) := by
  subst hn
  have hu : Upd R (R + 1) w (w.setCell ⟨R, j, none⟩ (.slice A r.length c)) := (Upd.refl R (R + 1) w).setCell (p := ⟨R, j, none⟩) (Nat.le_refl _) (Nat.lt_succ_self _) _
  refine ⟨by rw [List.length_set]; exact h.len, fun q x hx => ?_, h.sep, by rw [World.heap_size_setCell]; exact hh2, by rw [World.heap_size_setCell]; exact h.lt, by
    obtain ⟨cs, t, fr, h1, h2⟩ := h.row
    rw [setCell_eq_setRow w R j cs t fr _ h1]
    exact ⟨_, t, fr, setRow_heap w R cs _ t fr h1, by rw [Array.size_setIfInBounds]; exact h2⟩⟩
  by_cases hq : q = j
  · subst hq
    rw [List.getElem?_set_self (by rw [h.len]; exact hj)] at hx
    injection hx with hx
    subst hx
    obtain ⟨A', c', h1, h2, h3⟩ := h.cells q _ (List.getElem?_eq_getElem (by rw [h.len]; exact hj))
    exact ⟨A, c, World.cell?_setCell_same _ _ _ h1, by rw [World.frozen?_setCell]; exact h2, s.upd hu (.inr h.sep)⟩
  · rw [List.getElem?_set_ne (fun e => hq e.symm)] at hx
    obtain ⟨A', c', h1, h2, h3⟩ := h.cells q x hx
    exact ⟨A', c', (World.cell?_setCell_other _ _ _ _ (by simp [hq])).trans h1, by rw [World.frozen?_setCell]; exact h2, (h3.upd hu (.inr h.sep)).mono (Nat.le_refl _) hh⟩
theorem Rows22.get (h : Rows22 w R lo hi rows) : ∃ (cs : Array Value) (t : TypeId) (fr : Nat × Nat), w.heap[R]? = some (.cells cs t fr) ∧ cs.size = 22 ∧ ∀ (j : Nat) (r : List Int), rows[j]? = some r → ∃ (A : Option Addr) (c : Nat), cs[j]? = some (.slice A r.length c) ∧ Sl w lo hi 1 A r.length c r := by
  obtain ⟨cs, t, fr, h1, h2⟩ := h.row
  refine ⟨cs, t, fr, h1, h2, fun j r hr => ?_⟩
  obtain ⟨A, c, h3, h4, h5⟩ := h.cells j r hr
  refine ⟨A, c, ?_, h5⟩
  rw [← h3]
  simp [World.cell?, h1]
end
theorem Rows22.new (w : World) (E : Nat) : Rows22 (w.alloc (.cells #[.slice none 0 0, .slice none 0 0, .slice none 0 0, .slice none 0 0, .slice none 0 0, .slice none 0 0, .slice none 0 0, .slice none 0 0, .slice none 0 0, .slice none 0 0, .slice none 0 0, .slice none 0 0, .slice none 0 0, .slice none 0 0, .slice none 0 0, .slice none 0 0, .slice none 0 0, .slice none 0 0, .slice none 0 0, .slice none 0 0, .slice none 0 0, .slice none 0 0] E)) w.heap.size (w.heap.size + 1) (w.heap.size + 1) (List.replicate 22 []) := by
  refine ⟨by simp, fun j r hr => ?_, Nat.lt_succ_self _, by simp, by simp, ⟨_, E, (0, 0), heap_alloc_last w _, rfl⟩⟩
  rw [List.getElem?_replicate] at hr
  split at hr
  · rename_i hj
    injection hr with hr
    subst hr
    refine ⟨none, 0, ?_, ?_, Sl.nil _ _ _ _ _ _ (by omega)⟩
    · have h22 : j = 0 ∨ j = 1 ∨ j = 2 ∨ j = 3 ∨ j = 4 ∨ j = 5 ∨ j = 6 ∨ j = 7 ∨ j = 8 ∨ j = 9 ∨ j = 10 ∨ j = 11 ∨ j = 12 ∨ j = 13 ∨ j = 14 ∨ j = 15 ∨ j = 16 ∨ j = 17 ∨ j = 18 ∨ j = 19 ∨ j = 20 ∨ j = 21 := by omega
      rcases h22 with rfl | rfl | rfl | rfl | rfl | rfl | rfl | rfl | rfl | rfl | rfl | rfl | rfl | rfl | rfl | rfl | rfl | rfl | rfl | rfl | rfl | rfl <;> simp
    · have h22 : j = 0 ∨ j = 1 ∨ j = 2 ∨ j = 3 ∨ j = 4 ∨ j = 5 ∨ j = 6 ∨ j = 7 ∨ j = 8 ∨ j = 9 ∨ j = 10 ∨ j = 11 ∨ j = 12 ∨ j = 13 ∨ j = 14 ∨ j = 15 ∨ j = 16 ∨ j = 17 ∨ j = 18 ∨ j = 19 ∨ j = 20 ∨ j = 21 := by omega
      rcases h22 with rfl | rfl | rfl | rfl | rfl | rfl | rfl | rfl | rfl | rfl | rfl | rfl | rfl | rfl | rfl | rfl | rfl | rfl | rfl | rfl | rfl | rfl <;> simp
  · cases hr
/-- A disk whose first j sectors are mended. -/
def mixK (rows k : List (List Int)) (j : Nat) : List (List Int) := (rows.map sumRow).take j ++ k.drop j
section
variable {rows k : List (List Int)}
theorem mixK_zero : mixK rows k 0 = k := by simp [mixK]
theorem mixK_end (h : rows.length = 22) (hk : k.length = 22) : mixK rows k 22 = rows.map sumRow := by
  rw [mixK, List.drop_eq_nil_of_le (by omega), List.append_nil, List.take_of_length_le (by simp; omega)]
theorem mixK_len (h : rows.length = 22) (hk : k.length = 22) {j : Nat} (hj : j ≤ 22) : (mixK rows k j).length = 22 := by
  simp [mixK, h, hk]
  omega
theorem mixK_set (h : rows.length = 22) (hk : k.length = 22) {j : Nat} {r : List Int} (hr : rows[j]? = some r) : (mixK rows k j).set j (sumRow r) = mixK rows k (j + 1) := by
  have hj := (List.getElem?_eq_some_iff.1 hr).1
  apply List.ext_getElem?
  intro q
  rw [List.getElem?_set, mixK_len h hk (by omega)]
  simp only [mixK]
  have e1 : ((rows.map sumRow).take j).length = j := by simp; omega
  have e2 : ((rows.map sumRow).take (j + 1)).length = j + 1 := by simp; omega
  rcases Nat.lt_trichotomy q j with hq | hq | hq
  · rw [if_neg (by omega), List.getElem?_append_left (by omega), List.getElem?_append_left (by omega), List.getElem?_take_of_lt hq, List.getElem?_take_of_lt (by omega)]
  · subst hq
    rw [if_pos rfl, if_pos (by omega), List.getElem?_append_left (by omega), List.getElem?_take_of_lt (by omega), List.getElem?_map, hr]
    rfl
  · rw [if_neg (by omega), List.getElem?_append_right (by omega), List.getElem?_append_right (by omega), e1, e2, List.getElem?_drop, List.getElem?_drop]
    congr 1
    omega
theorem mixK_ok (h : rows.length = 22) (hk : k.length = 22) (hd : diskOk k [] = true) (hr : ∀ r ∈ rows, rowOk (sumRow r) = true) : ∀ j, j ≤ 22 → diskOk (mixK rows k j) [] = true
  | 0, _ => by rw [mixK_zero]; exact hd
  | j + 1, hj => by
    have e : rows[j]? = some (rows[j]'(by omega)) := List.getElem?_eq_getElem _
    rw [← mixK_set h hk e]
    exact diskOk_set0 (mixK_ok h hk hd hr j (by omega)) (hr _ (List.getElem_mem _)) _
end
theorem recRows_mem {F : List EntryD} (hok : ∀ e ∈ F, entryOk e = true) : ∀ r ∈ recRows F, r = zrow ∨ r = [] ∨ ∃ e ∈ F, r = slotRow e := by
  have key : ∀ (F : List EntryD) (R : List (List Int)) (P : List Int → Prop), (∀ r ∈ R, P r) → (∀ e ∈ F, P (slotRow e)) → ∀ r ∈ F.foldl (fun R e => R.set (slotN e.index) (slotRow e)) R, P r := by
    intro F
    induction F with
    | nil => intro R P h _; exact h
    | cons e F ih =>
      intro R P h h2
      rw [List.foldl_cons]
      refine ih _ P (fun r hr => ?_) (fun x hx => h2 x (List.mem_cons_of_mem _ hx))
      rcases List.mem_or_eq_of_mem_set hr with hr | rfl
      · exact h r hr
      · exact h2 e List.mem_cons_self
  refine key F _ (fun r => r = zrow ∨ r = [] ∨ ∃ e ∈ F, r = slotRow e) (fun r hr => ?_) (fun e he => .inr (.inr ⟨e, he, rfl⟩))
  rcases List.mem_or_eq_of_mem_set hr with hr | rfl
  · exact .inr (.inl (List.eq_of_mem_replicate hr))
  · exact .inl rfl
theorem recRows_ok {F : List EntryD} (hok : ∀ e ∈ F, entryOk e = true) : ∀ r ∈ recRows F, rowOk r = true ∧ r.length < 48 ∧ rowOk (sumRow r) = true := by
  intro r hr
  rcases recRows_mem hok r hr with rfl | rfl | ⟨e, he, rfl⟩
  · exact ⟨by decide, by decide, zrow_ok⟩
  · exact ⟨by decide, by decide, by decide⟩
  · obtain ⟨h11, hro, -⟩ := slotRow_ok (hok e he)
    exact ⟨hro, by rw [h11]; omega, rowE_ok (hok e he)⟩
theorem run_index22 {cs : Array Value} {j : Nat} {v : Value} (hj : j < 22) (h : cs[j]? = some v) (W : World) : (Instr.index 146 (.agg cs) (.int .i64 (j : Int))).run Try.prog W = .ok v W := by
  have hu : Try.prog.underlying 146 = some (.array 22 28) := by kernel_rfl
  have h8 : Try.prog.underlying 28 = some (.slice 2) := by kernel_rfl
  have h9 : (Try.prog.info? 28).map (·.size) = some 1 := by kernel_rfl
  cases hq : Try.prog.info? 28 with
  | none => rw [hq] at h9; cases h9
  | some i9 =>
    have hs : i9.size = 1 := by rw [hq] at h9; simpa using h9
    have hj2 : (j : Int) < 22 := by omega
    simp [Instr.index, asIntOf, run_underlying hu, part, isAgg, run_underlying h8, sizeOf, typeInfo, hq, hs, h, hj2]
    intro h22
    omega
end Go.Proofs.Ytgnilmdaegnaaaa
set_option linter.unusedSimpArgs false
set_option linter.unusedVariables false
namespace Go.Proofs.Ytgnilmdaegnaaaa
open Go.RowKit
open Go.ChangeShapes Go.WideShapes Go.ChangeAt
structure Box3 (w : World) (b : Nat) (v0 v1 v2 : Value) : Prop where
  c0 : w.cell? ⟨b, 0, none⟩ = some v0
  c1 : w.cell? ⟨b, 1, none⟩ = some v1
  c2 : w.cell? ⟨b, 2, none⟩ = some v2
  f0 : w.frozen? ⟨b, 0, none⟩ = false
  f1 : w.frozen? ⟨b, 1, none⟩ = false
  f2 : w.frozen? ⟨b, 2, none⟩ = false
section
variable {w w' : World} {b : Nat} {v0 v1 v2 : Value}
theorem Box3.lt (h : Box3 w b v0 v1 v2) : b < w.heap.size := World.block_lt_of_cell? w _ h.c0
theorem Box3.new (w : World) (v0 v1 v2 : Value) (E : Nat) : Box3 (w.alloc (.cells #[v0, v1, v2] E)) w.heap.size v0 v1 v2 := ⟨by simp, by simp, by simp, by simp, by simp, by simp⟩
theorem Box3.same (h : Box3 w b v0 v1 v2) (hb : w'.heap[b]? = w.heap[b]?) : Box3 w' b v0 v1 v2 :=
  ⟨(World.cell?_of_block (w := w) (a := ⟨b, 0, none⟩) hb).trans h.c0, (World.cell?_of_block (w := w) (a := ⟨b, 1, none⟩) hb).trans h.c1, (World.cell?_of_block (w := w) (a := ⟨b, 2, none⟩) hb).trans h.c2, (World.frozen?_of_block (w := w) (a := ⟨b, 0, none⟩) hb).trans h.f0, (World.frozen?_of_block (w := w) (a := ⟨b, 1, none⟩) hb).trans h.f1, (World.frozen?_of_block (w := w) (a := ⟨b, 2, none⟩) hb).trans h.f2⟩
theorem Box3.below {B : Nat} (h : Box3 w b v0 v1 v2) (hb : Below B w w') (hB : b < B) : Box3 w' b v0 v1 v2 := h.same (hb.block b hB)
theorem Box3.upd {lo hi : Nat} (h : Box3 w b v0 v1 v2) (hu : Upd lo hi w w') (ho : b < lo ∨ hi ≤ b) : Box3 w' b v0 v1 v2 := h.same (hu.block b h.lt ho)
theorem Box3.set2 (h : Box3 w b v0 v1 v2) (v : Value) : Box3 (w.setCell ⟨b, 2, none⟩ v) b v0 v1 v :=
  ⟨(World.cell?_setCell_other _ _ _ _ (by simp)).trans h.c0, (World.cell?_setCell_other _ _ _ _ (by simp)).trans h.c1, World.cell?_setCell_same _ _ _ h.c2, by rw [World.frozen?_setCell]; exact h.f0, by rw [World.frozen?_setCell]; exact h.f1, by rw [World.frozen?_setCell]; exact h.f2⟩
end
/-- A box of one cell. -/
def Box1 (w : World) (g : Nat) (v : Value) : Prop := w.cell? ⟨g, 0, none⟩ = some v ∧ w.frozen? ⟨g, 0, none⟩ = false
theorem Box1.new (w : World) (v : Value) (E : Nat) : Box1 (w.alloc (.cells #[v] E)) w.heap.size v := ⟨by simp, by simp⟩
theorem Box1.below {w w' : World} {g B : Nat} {v : Value} (h : Box1 w g v) (hb : Below B w w') (hB : g < B) : Box1 w' g v := ⟨(hb.cell (p := ⟨g, 0, none⟩) hB).trans h.1, (hb.frozen (p := ⟨g, 0, none⟩) hB).trans h.2⟩
theorem lay1 (w : World) (v0 v1 v2 v : Value) (E F : Nat) : Box3 ((w.alloc (.cells #[v0, v1, v2] E)).alloc (.cells #[v] F)).drew w.heap.size v0 v1 v2 ∧ Box1 ((w.alloc (.cells #[v0, v1, v2] E)).alloc (.cells #[v] F)).drew (w.heap.size + 1) v ∧ Below w.heap.size w ((w.alloc (.cells #[v0, v1, v2] E)).alloc (.cells #[v] F)).drew ∧ w.heap.size + 1 < ((w.alloc (.cells #[v0, v1, v2] E)).alloc (.cells #[v] F)).drew.heap.size := by
  have e1 : (w.alloc (.cells #[v0, v1, v2] E)).heap.size = w.heap.size + 1 := World.heap_size_alloc _ _
  have z := Box1.new (w.alloc (.cells #[v0, v1, v2] E)) v F
  rw [e1] at z
  refine ⟨(Box3.new w v0 v1 v2 E).below (((Below.refl _ _).alloc (Nat.le_refl _) _).drew) (by omega), z.below (B := w.heap.size + 2) ((Below.refl _ _).drew) (by omega), (((Below.refl _ _).alloc (Nat.le_refl _) _).alloc (by omega) _).drew, ?_⟩
  simp only [World.heap_size_drew, World.heap_size_alloc]
  omega
theorem lay2 (w : World) (v0 v1 v2 v : Value) (E F : Nat) : Box3 ((w.alloc (.cells #[v] F)).alloc (.cells #[v0, v1, v2] E)).drew (w.heap.size + 1) v0 v1 v2 ∧ Box1 ((w.alloc (.cells #[v] F)).alloc (.cells #[v0, v1, v2] E)).drew w.heap.size v ∧ Below w.heap.size w ((w.alloc (.cells #[v] F)).alloc (.cells #[v0, v1, v2] E)).drew ∧ w.heap.size + 1 < ((w.alloc (.cells #[v] F)).alloc (.cells #[v0, v1, v2] E)).drew.heap.size := by
  have e1 : (w.alloc (.cells #[v] F)).heap.size = w.heap.size + 1 := World.heap_size_alloc _ _
  have z := Box3.new (w.alloc (.cells #[v] F)) v0 v1 v2 E
  rw [e1] at z
  refine ⟨z.below (B := w.heap.size + 2) ((Below.refl _ _).drew) (by omega), (Box1.new w v F).below (((Below.refl _ _).alloc (Nat.le_refl _) _).drew) (by omega), (((Below.refl _ _).alloc (Nat.le_refl _) _).alloc (by omega) _).drew, ?_⟩
  simp only [World.heap_size_drew, World.heap_size_alloc]
  omega
theorem Box1.same {w w' : World} {g : Nat} {v : Value} (h : Box1 w g v) (hb : w'.heap[g]? = w.heap[g]?) : Box1 w' g v := ⟨(World.cell?_of_block (w := w) (a := ⟨g, 0, none⟩) hb).trans h.1, (World.frozen?_of_block (w := w) (a := ⟨g, 0, none⟩) hb).trans h.2⟩
theorem Box1.set {w : World} {g : Nat} {v : Value} (h : Box1 w g v) (x : Value) : Box1 (w.setCell ⟨g, 0, none⟩ x) g x := ⟨World.cell?_setCell_same _ _ _ h.1, by rw [World.frozen?_setCell]; exact h.2⟩
theorem Box9.same {v v' : World} {g : Nat} {e : EntryD} (h : Box9 v g e) (hb : v'.heap[g]? = v.heap[g]?) : Box9 v' g e := by
  obtain ⟨⟨h0, h1, h2, h3, h4, h5, h6, h7, h8⟩, k0, k1, k2, k3, k4, k5, k6, k7, k8⟩ := h
  exact ⟨⟨(World.cell?_of_block (w := v) (a := ⟨g, 0, none⟩) hb).trans h0, (World.cell?_of_block (w := v) (a := ⟨g, 1, none⟩) hb).trans h1, (World.cell?_of_block (w := v) (a := ⟨g, 2, none⟩) hb).trans h2, (World.cell?_of_block (w := v) (a := ⟨g, 3, none⟩) hb).trans h3, (World.cell?_of_block (w := v) (a := ⟨g, 4, none⟩) hb).trans h4, (World.cell?_of_block (w := v) (a := ⟨g, 5, none⟩) hb).trans h5, (World.cell?_of_block (w := v) (a := ⟨g, 6, none⟩) hb).trans h6, (World.cell?_of_block (w := v) (a := ⟨g, 7, none⟩) hb).trans h7, (World.cell?_of_block (w := v) (a := ⟨g, 8, none⟩) hb).trans h8⟩, (World.frozen?_of_block (w := v) (a := ⟨g, 0, none⟩) hb).trans k0, (World.frozen?_of_block (w := v) (a := ⟨g, 1, none⟩) hb).trans k1, (World.frozen?_of_block (w := v) (a := ⟨g, 2, none⟩) hb).trans k2, (World.frozen?_of_block (w := v) (a := ⟨g, 3, none⟩) hb).trans k3, (World.frozen?_of_block (w := v) (a := ⟨g, 4, none⟩) hb).trans k4, (World.frozen?_of_block (w := v) (a := ⟨g, 5, none⟩) hb).trans k5, (World.frozen?_of_block (w := v) (a := ⟨g, 6, none⟩) hb).trans k6, (World.frozen?_of_block (w := v) (a := ⟨g, 7, none⟩) hb).trans k7, (World.frozen?_of_block (w := v) (a := ⟨g, 8, none⟩) hb).trans k8⟩
def biLeft (w : World) (g N : Nat) : Nat := match w.cell? ⟨g, 2, none⟩ with
  | some (.slice _ n _) => N - n
  | _ => 0
theorem biLeft_at {w : World} {g N n c : Nat} {A : Option Addr} (h : w.cell? ⟨g, 2, none⟩ = some (.slice A n c)) : biLeft w g N = N - n := by simp [biLeft, h]
theorem Box1.upd {w w' : World} {g lo hi : Nat} {v : Value} (h : Box1 w g v) (hu : Upd lo hi w w') (ho : g < lo ∨ hi ≤ g) : Box1 w' g v :=
  have hb := hu.block g (World.block_lt_of_cell? w _ h.1) ho
  ⟨(World.cell?_of_block (w := w) (a := ⟨g, 0, none⟩) hb).trans h.1, (World.frozen?_of_block (w := w) (a := ⟨g, 0, none⟩) hb).trans h.2⟩
section
variable {w w' : World} {g : Nat} {e0 : EntryD}
theorem Box9.lt (h : Box9 w g e0) : g < w.heap.size := World.block_lt_of_cell? w _ h.1.1
theorem size9 {x0 x1 x2 x3 x4 x5 x6 x7 x8 : Value} : ((((((((((w.setCell ⟨g, 0, none⟩ x0).setCell ⟨g, 1, none⟩ x1).setCell ⟨g, 2, none⟩ x2).setCell ⟨g, 3, none⟩ x3).setCell ⟨g, 4, none⟩ x4).setCell ⟨g, 5, none⟩ x5).setCell ⟨g, 6, none⟩ x6).setCell ⟨g, 7, none⟩ x7).setCell ⟨g, 8, none⟩ x8)).heap.size = w.heap.size := by simp only [World.heap_size_setCell]
theorem Box9.put (h : Box9 w g e0) (e : EntryD) : Box9 ((((((((((w.setCell ⟨g, 0, none⟩ (.int .i64 e.index)).setCell ⟨g, 1, none⟩ (.int .i64 e.time)).setCell ⟨g, 2, none⟩ (.int .i64 e.client)).setCell ⟨g, 3, none⟩ (.int .i64 e.seq)).setCell ⟨g, 4, none⟩ (.int .i64 e.op.kind)).setCell ⟨g, 5, none⟩ (.int .i64 e.op.a)).setCell ⟨g, 6, none⟩ (.int .i64 e.op.b)).setCell ⟨g, 7, none⟩ (.int .i64 e.op.c)).setCell ⟨g, 8, none⟩ (.int .i64 e.op.d))) g e := by
  obtain ⟨⟨h0, h1, h2, h3, h4, h5, h6, h7, h8⟩, ⟨k0, k1, k2, k3, k4, k5, k6, k7, k8⟩⟩ := h
  exact ⟨⟨((World.cell?_setCell_other _ _ _ _ (by simp)).trans ((World.cell?_setCell_other _ _ _ _ (by simp)).trans ((World.cell?_setCell_other _ _ _ _ (by simp)).trans ((World.cell?_setCell_other _ _ _ _ (by simp)).trans ((World.cell?_setCell_other _ _ _ _ (by simp)).trans ((World.cell?_setCell_other _ _ _ _ (by simp)).trans ((World.cell?_setCell_other _ _ _ _ (by simp)).trans ((World.cell?_setCell_other _ _ _ _ (by simp)).trans (World.cell?_setCell_same _ _ _ h0))))))))), ((World.cell?_setCell_other _ _ _ _ (by simp)).trans ((World.cell?_setCell_other _ _ _ _ (by simp)).trans ((World.cell?_setCell_other _ _ _ _ (by simp)).trans ((World.cell?_setCell_other _ _ _ _ (by simp)).trans ((World.cell?_setCell_other _ _ _ _ (by simp)).trans ((World.cell?_setCell_other _ _ _ _ (by simp)).trans ((World.cell?_setCell_other _ _ _ _ (by simp)).trans (World.cell?_setCell_same _ _ _ ((World.cell?_setCell_other _ _ _ _ (by simp)).trans h1))))))))), ((World.cell?_setCell_other _ _ _ _ (by simp)).trans ((World.cell?_setCell_other _ _ _ _ (by simp)).trans ((World.cell?_setCell_other _ _ _ _ (by simp)).trans ((World.cell?_setCell_other _ _ _ _ (by simp)).trans ((World.cell?_setCell_other _ _ _ _ (by simp)).trans ((World.cell?_setCell_other _ _ _ _ (by simp)).trans (World.cell?_setCell_same _ _ _ ((World.cell?_setCell_other _ _ _ _ (by simp)).trans ((World.cell?_setCell_other _ _ _ _ (by simp)).trans h2))))))))), ((World.cell?_setCell_other _ _ _ _ (by simp)).trans ((World.cell?_setCell_other _ _ _ _ (by simp)).trans ((World.cell?_setCell_other _ _ _ _ (by simp)).trans ((World.cell?_setCell_other _ _ _ _ (by simp)).trans ((World.cell?_setCell_other _ _ _ _ (by simp)).trans (World.cell?_setCell_same _ _ _ ((World.cell?_setCell_other _ _ _ _ (by simp)).trans ((World.cell?_setCell_other _ _ _ _ (by simp)).trans ((World.cell?_setCell_other _ _ _ _ (by simp)).trans h3))))))))), ((World.cell?_setCell_other _ _ _ _ (by simp)).trans ((World.cell?_setCell_other _ _ _ _ (by simp)).trans ((World.cell?_setCell_other _ _ _ _ (by simp)).trans ((World.cell?_setCell_other _ _ _ _ (by simp)).trans (World.cell?_setCell_same _ _ _ ((World.cell?_setCell_other _ _ _ _ (by simp)).trans ((World.cell?_setCell_other _ _ _ _ (by simp)).trans ((World.cell?_setCell_other _ _ _ _ (by simp)).trans ((World.cell?_setCell_other _ _ _ _ (by simp)).trans h4))))))))), ((World.cell?_setCell_other _ _ _ _ (by simp)).trans ((World.cell?_setCell_other _ _ _ _ (by simp)).trans ((World.cell?_setCell_other _ _ _ _ (by simp)).trans (World.cell?_setCell_same _ _ _ ((World.cell?_setCell_other _ _ _ _ (by simp)).trans ((World.cell?_setCell_other _ _ _ _ (by simp)).trans ((World.cell?_setCell_other _ _ _ _ (by simp)).trans ((World.cell?_setCell_other _ _ _ _ (by simp)).trans ((World.cell?_setCell_other _ _ _ _ (by simp)).trans h5))))))))), ((World.cell?_setCell_other _ _ _ _ (by simp)).trans ((World.cell?_setCell_other _ _ _ _ (by simp)).trans (World.cell?_setCell_same _ _ _ ((World.cell?_setCell_other _ _ _ _ (by simp)).trans ((World.cell?_setCell_other _ _ _ _ (by simp)).trans ((World.cell?_setCell_other _ _ _ _ (by simp)).trans ((World.cell?_setCell_other _ _ _ _ (by simp)).trans ((World.cell?_setCell_other _ _ _ _ (by simp)).trans ((World.cell?_setCell_other _ _ _ _ (by simp)).trans h6))))))))), ((World.cell?_setCell_other _ _ _ _ (by simp)).trans (World.cell?_setCell_same _ _ _ ((World.cell?_setCell_other _ _ _ _ (by simp)).trans ((World.cell?_setCell_other _ _ _ _ (by simp)).trans ((World.cell?_setCell_other _ _ _ _ (by simp)).trans ((World.cell?_setCell_other _ _ _ _ (by simp)).trans ((World.cell?_setCell_other _ _ _ _ (by simp)).trans ((World.cell?_setCell_other _ _ _ _ (by simp)).trans ((World.cell?_setCell_other _ _ _ _ (by simp)).trans h7))))))))), (World.cell?_setCell_same _ _ _ ((World.cell?_setCell_other _ _ _ _ (by simp)).trans ((World.cell?_setCell_other _ _ _ _ (by simp)).trans ((World.cell?_setCell_other _ _ _ _ (by simp)).trans ((World.cell?_setCell_other _ _ _ _ (by simp)).trans ((World.cell?_setCell_other _ _ _ _ (by simp)).trans ((World.cell?_setCell_other _ _ _ _ (by simp)).trans ((World.cell?_setCell_other _ _ _ _ (by simp)).trans ((World.cell?_setCell_other _ _ _ _ (by simp)).trans h8)))))))))⟩, (by simp only [World.frozen?_setCell]; exact k0), (by simp only [World.frozen?_setCell]; exact k1), (by simp only [World.frozen?_setCell]; exact k2), (by simp only [World.frozen?_setCell]; exact k3), (by simp only [World.frozen?_setCell]; exact k4), (by simp only [World.frozen?_setCell]; exact k5), (by simp only [World.frozen?_setCell]; exact k6), (by simp only [World.frozen?_setCell]; exact k7), (by simp only [World.frozen?_setCell]; exact k8)⟩
end
set_option maxRecDepth 100000 in
set_option maxHeartbeats 8000000 in
theorem bookIn_any (A0 : Option Addr) (c0 : Nat) (k0 : List (List Int)) (A1 : Option Addr) (c1 : Nat) (A2 : Option Addr) (c2 : Nat) (k2 : List (List Int)) (A3 : Option Addr) (c3 : Nat) (lo hi : Nat) (w : World) (h0 : SlR w lo hi A0 22 c0 k0) (h2 : SlR w lo hi A2 22 c2 k2) (hhi : hi ≤ w.heap.size) (hc1 : c1 ≤ 9223372036854775807) (hc3 : c3 ≤ 9223372036854775807) (hd : twoOk k0 [] k2 [] = true)
    (u b t : Int) (S : Option Addr) (sn sc los his : Nat) (seen : List MarkD) (hs : Sl w los his 3 S sn sc (seen.flatMap MarkD.ints)) (hhs : his ≤ w.heap.size) (hhd : headOk u b t seen = true)
    (F : List EntryD) (snf : Nat → List MarkD) (ka kb : Nat → List Int) (hF0 : snf 0 = seen) (hFl : F.length ≤ 19)
    (hrow : ∀ i, i ≤ F.length → k0[slotN (b + (i : Int) + 1)]? = some (ka i) ∧ k2[slotN (b + (i : Int) + 1)]? = some (kb i))
    (hstep : ∀ (i : Nat) e, F[i]? = some e → firstM (readM (b + (i : Int) + 1) b t (F.take i) (snf i)) (rightM (ka i) (kb i)) = (e, true) ∧ (marked (snf i) e).1 = snf (i + 1))
    (hend : (firstM (readM (b + (F.length : Int) + 1) b t F (snf F.length)) (rightM (ka F.length) (kb F.length))).2 = false) :
    Calls Try.prog 121 #[.agg #[.slice A0 22 c0, .slice A1 0 c1, .slice A2 22 c2, .slice A3 0 c3], .agg #[.int .i64 u, .int .i64 b, .int .i64 t, .slice S sn sc]] w (fun e w' => ∃ (A : Option Addr) (c : Nat), e = .returned (.agg #[.int .i64 b, .int .i64 t, .slice A F.length c]) ∧ Sl w' w.heap.size w'.heap.size 9 A F.length c (F.flatMap EntryD.ints) ∧ Below w.heap.size w w') := by
  have CKO : Hid (∀ W, Below w.heap.size w W → Calls Try.prog 40 #[.agg #[.slice A0 22 c0, .slice A1 0 c1, .slice A2 22 c2, .slice A3 0 c3]] W fun e w' => e = .returned (.bool true) ∧ Below W.heap.size W w') := Lib.hid (fun W hW => by
    have h7 := keptOk_any A0 22 c0 k0 A1 0 c1 [] A2 22 c2 k2 A3 0 c3 [] lo hi W (h0.below hW hhi) (SlW.nil _ _ _ _ _ hc1) (h2.below hW hhi) (SlW.nil _ _ _ _ _ hc3) (Nat.le_trans hhi hW.size)
    rw [hd, h0.len, decide_eq_true rfl] at h7
    exact h7)
  have CHO : Hid (∀ W, Below w.heap.size w W → Calls Try.prog 29 #[.agg #[.int .i64 u, .int .i64 b, .int .i64 t, .slice S sn sc]] W fun e w' => e = .returned (.bool true) ∧ Below W.heap.size W w') := Lib.hid (fun W hW => by
    have h7 := headOk_any u b t S sn sc los his seen W (hs.below hW hhs)
    rw [hhd] at h7
    exact h7)
  have T1 : Hid (∀ W, Below (w.heap.size + 3) (((w.alloc (.cells #[.slice A0 22 c0, .slice A1 0 c1, .slice A2 22 c2, .slice A3 0 c3] 69)).alloc (.cells #[.int .i64 u, .int .i64 b, .int .i64 t, .slice S sn sc] 49)).alloc (.cells #[.int .i64 0, .int .i64 0, .slice none 0 0] 102)) W → (Box4 W w.heap.size (.slice A0 22 c0) (.slice A1 0 c1) (.slice A2 22 c2) (.slice A3 0 c3) ∧ Box4 W (w.heap.size + 1) (.int .i64 u) (.int .i64 b) (.int .i64 t) (.slice S sn sc) ∧ Box3 W (w.heap.size + 2) (.int .i64 0) (.int .i64 0) (.slice none 0 0))) := Lib.hid (fun W hW => by
    have e1 : (w.alloc (.cells #[.slice A0 22 c0, .slice A1 0 c1, .slice A2 22 c2, .slice A3 0 c3] 69)).heap.size = w.heap.size + 1 := World.heap_size_alloc _ _
    have e2 : ((w.alloc (.cells #[.slice A0 22 c0, .slice A1 0 c1, .slice A2 22 c2, .slice A3 0 c3] 69)).alloc (.cells #[.int .i64 u, .int .i64 b, .int .i64 t, .slice S sn sc] 49)).heap.size = w.heap.size + 2 := by simp only [World.heap_size_alloc]
    have z0 := ((Box4.new w (.slice A0 22 c0) (.slice A1 0 c1) (.slice A2 22 c2) (.slice A3 0 c3) 69).below ((Below.refl _ _).alloc (Nat.le_refl _) (.cells #[.int .i64 u, .int .i64 b, .int .i64 t, .slice S sn sc] 49)) (by omega)).below ((Below.refl _ _).alloc (Nat.le_refl _) (.cells #[.int .i64 0, .int .i64 0, .slice none 0 0] 102)) (by omega)
    have z1 := (Box4.new (w.alloc (.cells #[.slice A0 22 c0, .slice A1 0 c1, .slice A2 22 c2, .slice A3 0 c3] 69)) (.int .i64 u) (.int .i64 b) (.int .i64 t) (.slice S sn sc) 49).below ((Below.refl _ _).alloc (Nat.le_refl _) (.cells #[.int .i64 0, .int .i64 0, .slice none 0 0] 102)) (by omega)
    have z2 := Box3.new ((w.alloc (.cells #[.slice A0 22 c0, .slice A1 0 c1, .slice A2 22 c2, .slice A3 0 c3] 69)).alloc (.cells #[.int .i64 u, .int .i64 b, .int .i64 t, .slice S sn sc] 49)) (.int .i64 0) (.int .i64 0) (.slice none 0 0) 102
    rw [e1] at z1
    rw [e2] at z2
    exact ⟨z0.below hW (by omega), z1.below hW (by omega), z2.below hW (by omega)⟩)
  have hs9 : (((w.alloc (.cells #[.slice A0 22 c0, .slice A1 0 c1, .slice A2 22 c2, .slice A3 0 c3] 69)).alloc (.cells #[.int .i64 u, .int .i64 b, .int .i64 t, .slice S sn sc] 49)).alloc (.cells #[.int .i64 0, .int .i64 0, .slice none 0 0] 102)).heap.size = w.heap.size + 3 := by simp only [World.heap_size_alloc]
  have hb9 : Below w.heap.size w (((w.alloc (.cells #[.slice A0 22 c0, .slice A1 0 c1, .slice A2 22 c2, .slice A3 0 c3] 69)).alloc (.cells #[.int .i64 u, .int .i64 b, .int .i64 t, .slice S sn sc] 49)).alloc (.cells #[.int .i64 0, .int .i64 0, .slice none 0 0] 102)) := by (repeat' (first | with_reducible exact Below.refl _ _ | with_reducible assumption | with_reducible refine Below.drew ?_ | with_reducible refine Below.alloc ?_ ?_ _ | with_reducible refine Below.setCell ?_ ?_ _ | with_reducible refine Below.trans ?_ (Below.mono (by assumption) ?_) | ((try simp only [World.heap_size_alloc, World.heap_size_drew, World.heap_size_setCell]); omega)))
  have hb02 : 0 ≤ b ∧ b ≤ 2000 := by
    simp only [headOk, Bool.and_eq_true] at hhd
    exact btw_iff.1 hhd.1
  obtain ⟨hb0, hb2⟩ := hb02
  have H0 := Lib.hid h0
  have H2 := Lib.hid h2
  have HS := Lib.hid hs
  have HD := Lib.hid hd
  have HROW := Lib.hid hrow
  have HSTEP := Lib.hid hstep
  have HEND := Lib.hid hend
  clear h0 h2 hs hd hrow hstep hend
  go_enter Try.func121, Try.ntmps121
  go_wp2_with fail
  generalize hW0 : (((w.alloc (.cells #[.slice A0 22 c0, .slice A1 0 c1, .slice A2 22 c2, .slice A3 0 c3] 69)).alloc (.cells #[.int .i64 u, .int .i64 b, .int .i64 t, .slice S sn sc] 49)).alloc (.cells #[.int .i64 0, .int .i64 0, .slice none 0 0] 102)) = W0 at *
  have hs9a := Nat.le_of_eq hs9
  have hs9b := Nat.le_of_eq hs9.symm
  clear hW0 hs9
  have HB9 := Lib.hid hb9
  obtain ⟨⟨t0, t1, t2, t3, -, -, -, -⟩, -, -, -, -, -, -, -⟩ := T1.out _ (Below.refl _ _)
  (with_reducible refine (CKO.out _ hb9).mono ?_); rintro _ w1 ⟨rfl, b1⟩
  have y1 := b1.size
  have P1 := Lib.hid (b1.mono (by omega) : Below (w.heap.size + 3) W0 w1)
  obtain ⟨-, ⟨q0, q1, q2, q3, -, -, -, -⟩, -⟩ := T1.out _ P1.out
  clear t0 t1 t2 t3 b1 hb9
  go_wp2_with fail
  (with_reducible refine (CHO.out _ (HB9.out.trans (P1.out.mono (by omega)))).mono ?_); rintro _ w2 ⟨rfl, b2⟩
  have y2 := b2.size
  have P2 := Lib.hid (P1.out.trans (b2.mono (by omega)))
  clear q0 q1 q2 q3 b2
  obtain ⟨-, ⟨q0, q1, q2, q3, -, -, -, -⟩, -⟩ := T1.out _ P2.out
  go_upto_region 3 with fail
  go_cut [5, 6] (fun s5 s6 wx => ∃ g5 g6 : Nat, s5 = .pointer (some ⟨g5, 0, none⟩) ∧ s6 = .pointer (some ⟨g6, 0, none⟩) ∧ g5 ≠ g6 ∧ w2.heap.size ≤ g5 ∧ w2.heap.size ≤ g6 ∧ g6 < wx.heap.size ∧ g5 < wx.heap.size ∧ Box3 wx g5 (.int .i64 b) (.int .i64 t) (.slice none 0 0) ∧ Box1 wx g6 (.slice S sn sc) ∧ Below w2.heap.size w2 wx)
  case first =>
    have hw1x : w.heap.size + 1 < w2.heap.size := by omega
    have HSK : Hid (∀ W, Below w2.heap.size w2 W → (W.cell? ⟨w.heap.size + 1, 1, none⟩ = some (.int .i64 b) ∧ W.cell? ⟨w.heap.size + 1, 2, none⟩ = some (.int .i64 t) ∧ W.cell? ⟨w.heap.size + 1, 3, none⟩ = some (.slice S sn sc) ∧ Below w2.heap.size w2 W)) := Lib.hid (fun W hW => ⟨(hW.cell (p := ⟨w.heap.size + 1, 1, none⟩) hw1x).trans q1, (hW.cell (p := ⟨w.heap.size + 1, 2, none⟩) hw1x).trans q2, (hW.cell (p := ⟨w.heap.size + 1, 3, none⟩) hw1x).trans q3, hW⟩)
    go_region_held3 (fun w' => w'.cell? ⟨w.heap.size + 1, 1, none⟩ = some (.int .i64 b) ∧ w'.cell? ⟨w.heap.size + 1, 2, none⟩ = some (.int .i64 t) ∧ w'.cell? ⟨w.heap.size + 1, 3, none⟩ = some (.slice S sn sc) ∧ Below w2.heap.size w2 w')
      (first | (refine HSK.out _ ?_; (repeat' (first | with_reducible exact Below.refl _ _ | with_reducible assumption | with_reducible refine Below.drew ?_ | with_reducible refine Below.alloc ?_ ?_ _ | with_reducible refine Below.setCell ?_ ?_ _ | ((try simp only [World.heap_size_alloc, World.heap_size_drew, World.heap_size_setCell]); omega)))) | (go_split_ands; refine HSK.out _ ?_; (repeat' (first | with_reducible exact Below.refl _ _ | with_reducible assumption | with_reducible refine Below.drew ?_ | with_reducible refine Below.alloc ?_ ?_ _ | with_reducible refine Below.setCell ?_ ?_ _ | ((try simp only [World.heap_size_alloc, World.heap_size_drew, World.heap_size_setCell]); omega)))))
      (fail)
    all_goals
      go_wp2_with fail
      go_meet
      first
        | (obtain ⟨z1, z2, z3, z4⟩ := lay1 w2 (.int .i64 b) (.int .i64 t) (.slice none 0 0) (.slice S sn sc) 102 47; exact ⟨_, _, rfl, rfl, by omega, Nat.le_refl _, by omega, by first | exact z4 | omega, by first | exact z3.size | omega, z1, z2, z3⟩)
        | (obtain ⟨z1, z2, z3, z4⟩ := lay2 w2 (.int .i64 b) (.int .i64 t) (.slice none 0 0) (.slice S sn sc) 102 47; exact ⟨_, _, rfl, rfl, by omega, by omega, Nat.le_refl _, by first | exact z4 | omega, by first | exact z4 | omega, z1, z2, z3⟩)
  case rest =>
    obtain ⟨w3, rfl⟩ : ∃ x, x = wc := ⟨wc, rfl⟩
    obtain ⟨g5, g6, rfl, rfl, hg56, hg5, hg6, hg6w, hg5w, bk, bs, b3⟩ := hcut
    have y3 := b3.size
    have hw2 : w.heap.size + 3 ≤ w2.heap.size := by omega
    have P3 := Lib.hid (P2.out.trans (b3.mono (by omega)))
    have BK := Lib.hid bk
    have BS := Lib.hid bs
    have S3 := Lib.hid (HS.out.below (HB9.out.trans (P3.out.mono (by omega))) hhs)
    clear q0 q1 q2 q3 bk bs b3
    go_wp2_with fail
    go_loopw [7, 8, 9] (fun _ _ _ wr => ∃ (i : Nat) (v : Value) (Si : Option Addr) (sni sci losi hisi : Nat), i ≤ F.length ∧ Hid (Box3 wr g5 (.int .i64 b) (.int .i64 t) v) ∧ Hid (Box1 wr g6 (.slice Si sni sci)) ∧ Hid (Own wr w3.heap.size 32 9 v i ((F.take i).flatMap EntryD.ints)) ∧ Hid (Sl wr losi hisi 3 Si sni sci ((snf i).flatMap MarkD.ints)) ∧ hisi ≤ wr.heap.size ∧ Hid (hisi ≤ w.heap.size ∨ w3.heap.size ≤ losi) ∧ Hid (∀ g, v.ownBlock = some g → g < losi ∨ hisi ≤ g) ∧ Hid (Below (w.heap.size + 3) W0 wr) ∧ w3.heap.size ≤ wr.heap.size) (fun _ _ _ wr => biLeft wr g5 F.length)
    case atStart => exact ⟨0, _, S, sn, sc, los, his, Nat.zero_le _, BK, BS, Lib.hid (Own.nil _ _ _ _), Lib.hid (by rw [hF0]; exact S3.out), by omega, Lib.hid (.inl hhs), Lib.hid (fun g hg => absurd hg (by simp [Value.ownBlock])), P3, Nat.le_refl _⟩
    case round =>
      obtain ⟨i, v, Si, sni, sci, losi, hisi, hi9, BKr, BSr, O, SLr, hhis, HAP, HOB, PB, hyr⟩ := hrel
      obtain ⟨A, c, rfl, sA⟩ := O.out.sl
      obtain ⟨kb0, kb1, kb2, kf0, kf1, kf2⟩ := id BKr.out
      obtain ⟨ks, ksf⟩ := id BSr.out
      have HBL := Lib.hid (biLeft_at (N := F.length) kb2)
      go_wp2_with fail
      (with_reducible refine (lastOf_any b t A i c wr hb0 hb2 (by omega)).mono ?_); rintro _ w4 ⟨rfl, b4⟩
      have y4 := b4.size
      obtain ⟨ix, hix⟩ : ∃ x, x = b + (i : Int) + 1 := ⟨_, rfl⟩
      go_upto_region 5 with fail
      have hsz5 : (w4.alloc (.cells #[.int .i64 (b + (i : Int) + 1)] 2)).heap.size = w4.heap.size + 1 := by simp only [World.heap_size_alloc]
      have hal5 : Below w4.heap.size w4 (w4.alloc (.cells #[.int .i64 (b + (i : Int) + 1)] 2)) := by (repeat' (first | with_reducible exact Below.refl _ _ | with_reducible assumption | with_reducible refine Below.drew ?_ | with_reducible refine Below.alloc ?_ ?_ _ | with_reducible refine Below.setCell ?_ ?_ _ | ((try simp only [World.heap_size_alloc, World.heap_size_drew, World.heap_size_setCell]); omega)))
      have hix5 : Box1 (w4.alloc (.cells #[.int .i64 (b + (i : Int) + 1)] 2)) w4.heap.size (.int .i64 (b + (i : Int) + 1)) := (Box1.new w4 (.int .i64 (b + (i : Int) + 1)) 2)
      generalize hW5 : (w4.alloc (.cells #[.int .i64 (b + (i : Int) + 1)] 2)) = W5 at *
      have hsz5a := Nat.le_of_eq hsz5
      have hsz5b := Nat.le_of_eq hsz5.symm
      clear hW5 hsz5
      have BR := Lib.hid (b4.trans (hal5.mono y4) : Below wr.heap.size wr W5)
      have PB5 := Lib.hid (PB.out.trans (BR.out.mono (by omega)))
      have hgix : w4.heap.size < W5.heap.size := by omega
      have hyr5 : w3.heap.size ≤ W5.heap.size := by omega
      have BK5 := Lib.hid (BKr.out.below BR.out (by omega))
      have BS5 := Lib.hid (BSr.out.below BR.out (by omega))
      have SL5 := Lib.hid (SLr.out.below BR.out hhis)
      have SA5 := Lib.hid (sA.below BR.out (Nat.le_refl _))
      have O5 := Lib.hid (O.out.kept BR.out)
      have HOL := Lib.hid O.out.lt
      clear kb0 kb1 kb2 kf0 kf1 kf2 ks ksf sA b4 hal5 BKr BSr SLr O PB
      obtain ⟨g7, hg7⟩ : ∃ x, x = w4.heap.size := ⟨_, rfl⟩
      rw [← hg7] at hix5 hgix
      rw [← hix] at hix5
      generalize w4.heap.size = w4z at *
      subst hg7
      have eix : ((slotN ix : Nat) : Int) = 2 + ix % 20 := by unfold slotN; omega
      obtain ⟨FR, hFR⟩ : ∃ x, x = firstM (readM ix b t (F.take i) (snf i)) (rightM (ka i) (kb i)) := ⟨_, rfl⟩
      have CFI : Hid (∀ W, Below W5.heap.size W5 W → Calls Try.prog 157 #[.agg #[.slice A0 22 c0, .slice A1 0 c1, .slice A2 22 c2, .slice A3 0 c3], .int .i64 (2 + ix % 20), .func (.func 158) #[] #[.pointer (some ⟨g7, 0, none⟩), .pointer (some ⟨g5, 0, none⟩), .pointer (some ⟨g6, 0, none⟩)]] W (EntryBRes W FR)) := Lib.hid (fun W hW => by
        obtain ⟨r1, r2⟩ := HROW.out i hi9
        rw [← hix] at r1 r2
        have h7 := firstIn_any A0 22 c0 k0 A1 c1 A2 22 c2 k2 A3 c3 lo hi W (H0.out.below (HB9.out.trans ((PB5.out.trans (hW.mono (by omega))).mono (by omega))) hhi) (H2.out.below (HB9.out.trans ((PB5.out.trans (hW.mono (by omega))).mono (by omega))) hhi) (Nat.le_trans hhi (HB9.out.trans ((PB5.out.trans (hW.mono (by omega))).mono (by omega))).size) hc1 hc3 HD.out (slotN ix) (ka i) (kb i) r1 r2 (readM ix b t (F.take i) (snf i)) #[.pointer (some ⟨g7, 0, none⟩), .pointer (some ⟨g5, 0, none⟩), .pointer (some ⟨g6, 0, none⟩)] (Lib.hid (fun W' A' n' c' lo' hi' zs hb' s' hh' => by
          have hW' : Below W5.heap.size W5 W' := hW.trans (hb'.mono hW.size)
          have kB := BK5.out.below hW' (by omega)
          exact bookInFn_any A' n' c' lo' hi' zs g7 g5 g6 ix b t A i c _ _ (F.take i) Si sni sci losi hisi (snf i) W' s' hh' (hix5.below hW' hgix).1 kB.c0 kB.c1 kB.c2 (BS5.out.below hW' (by omega)).1 (SA5.out.below hW' BR.out.size) (Nat.le_trans BR.out.size hW'.size) (SL5.out.below hW' (by have := BR.out.size; omega)) (by have := BR.out.size; have := hW'.size; omega) hb0 hb2 (by omega)))
        rw [eix, ← hFR] at h7
        exact h7)
      have CSL : Hid (∀ W, Calls Try.prog 71 #[.int .i64 ix] W fun e w' => e = .returned (.int .i64 (2 + ix % 20)) ∧ Below W.heap.size W w') := Lib.hid (fun W => (slotOf1_any ix W (by omega) (by omega)).mono (by rintro _ _ ⟨rfl, rfl⟩; exact ⟨rfl, Below.refl _ _⟩))
      have hmf : ∀ (fn : Fn) (first cap : Array Value) (w : World), (Instr.makeFunc fn first cap).run Try.prog w = .ok (.func fn first cap) w := fun _ _ _ _ => rfl
      have HX5 := Lib.hid hix5
      have HFR := Lib.hid hFR
      have HIX := Lib.hid hix
      clear hFR hix5 eix hix
      obtain ⟨E, ok⟩ := FR
      obtain ⟨⟨t0, t1, t2, t3, -, -, -, -⟩, -, -⟩ := T1.out _ PB5.out
      have hwg5 : w.heap.size < W5.heap.size := by omega
      have x0 := HX5.out.1
      go_cut [8, 9] (fun s8 s9 wx => ∃ g8 : Nat, s8 = .pointer (some ⟨g8, 0, none⟩) ∧ s9 = .bool ok ∧ Box9 wx g8 E ∧ W5.heap.size ≤ g8 ∧ g8 < wx.heap.size ∧ Below W5.heap.size W5 wx)
      case first =>
        have HSK : Hid (∀ W, Below W5.heap.size W5 W → (W.cell? ⟨w.heap.size, 0, none⟩ = some (.slice A0 22 c0) ∧ W.cell? ⟨w.heap.size, 1, none⟩ = some (.slice A1 0 c1) ∧ W.cell? ⟨w.heap.size, 2, none⟩ = some (.slice A2 22 c2) ∧ W.cell? ⟨w.heap.size, 3, none⟩ = some (.slice A3 0 c3) ∧ W.cell? ⟨g7, 0, none⟩ = some (.int .i64 ix) ∧ Below W5.heap.size W5 W)) := Lib.hid (fun W hW => ⟨(hW.cell (p := ⟨w.heap.size, 0, none⟩) hwg5).trans t0, (hW.cell (p := ⟨w.heap.size, 1, none⟩) hwg5).trans t1, (hW.cell (p := ⟨w.heap.size, 2, none⟩) hwg5).trans t2, (hW.cell (p := ⟨w.heap.size, 3, none⟩) hwg5).trans t3, (hW.cell (p := ⟨g7, 0, none⟩) hgix).trans x0, hW⟩)
        go_region_held3 (fun w' => w'.cell? ⟨w.heap.size, 0, none⟩ = some (.slice A0 22 c0) ∧ w'.cell? ⟨w.heap.size, 1, none⟩ = some (.slice A1 0 c1) ∧ w'.cell? ⟨w.heap.size, 2, none⟩ = some (.slice A2 22 c2) ∧ w'.cell? ⟨w.heap.size, 3, none⟩ = some (.slice A3 0 c3) ∧ w'.cell? ⟨g7, 0, none⟩ = some (.int .i64 ix) ∧ Below W5.heap.size W5 w')
          (first | (refine HSK.out _ ?_; (repeat' (first | with_reducible exact Below.refl _ _ | with_reducible assumption | with_reducible refine Below.drew ?_ | with_reducible refine Below.alloc ?_ ?_ _ | with_reducible refine Below.setCell ?_ ?_ _ | ((try simp only [World.heap_size_alloc, World.heap_size_drew, World.heap_size_setCell]); omega)))) | (go_split_ands; refine HSK.out _ ?_; (repeat' (first | with_reducible exact Below.refl _ _ | with_reducible assumption | with_reducible refine Below.drew ?_ | with_reducible refine Below.alloc ?_ ?_ _ | with_reducible refine Below.setCell ?_ ?_ _ | ((try simp only [World.heap_size_alloc, World.heap_size_drew, World.heap_size_setCell]); omega)))))
          (first | (go_at_call 71; (with_reducible refine (CSL.out _).mono ?_); rintro _ wa ⟨rfl, ba⟩; have va : Below W5.heap.size W5 wa := Below.trans (by (repeat' (first | with_reducible exact Below.refl _ _ | with_reducible assumption | with_reducible refine Below.drew ?_ | with_reducible refine Below.alloc ?_ ?_ _ | with_reducible refine Below.setCell ?_ ?_ _ | ((try simp only [World.heap_size_alloc, World.heap_size_drew, World.heap_size_setCell]); omega)))) (ba.mono (by (try simp only [World.heap_size_alloc, World.heap_size_drew, World.heap_size_setCell]); omega)); have za := va.size; (try have k5 : Box9 wa _ entryNone := (Box9.new W5.drew entryNone 32).below ba (by (try simp only [World.heap_size_alloc, World.heap_size_drew, World.heap_size_setCell]); omega)); (try have k5 : Box9 wa _ entryNone := (Box9.new W5 entryNone 32).below ba (by (try simp only [World.heap_size_alloc, World.heap_size_drew, World.heap_size_setCell]); omega)); (try simp only [World.heap_size_drew] at k5); (try have kl5 := k5.lt); (try obtain ⟨⟨ja0, ja1, ja2, ja3, ja4, ja5, ja6, ja7, ja8⟩, ⟨la0, la1, la2, la3, la4, la5, la6, la7, la8⟩⟩ := id k5); clear ba) | (go_at_call 157; (with_reducible refine (CFI.out _ (by (repeat' (first | with_reducible exact Below.refl _ _ | with_reducible assumption | with_reducible refine Below.drew ?_ | with_reducible refine Below.alloc ?_ ?_ _ | with_reducible refine Below.setCell ?_ ?_ _ | ((try simp only [World.heap_size_alloc, World.heap_size_drew, World.heap_size_setCell]); omega))))).mono ?_); rintro _ w6 ⟨rfl, b6⟩; have c6 : Below wa.heap.size wa w6 := Below.trans (by (repeat' (first | with_reducible exact Below.refl _ _ | with_reducible assumption | with_reducible refine Below.drew ?_ | with_reducible refine Below.alloc ?_ ?_ _ | with_reducible refine Below.setCell ?_ ?_ _ | ((try simp only [World.heap_size_alloc, World.heap_size_drew, World.heap_size_setCell]); omega)))) (b6.mono (by (try simp only [World.heap_size_alloc, World.heap_size_drew, World.heap_size_setCell]); omega)); have v6 : Below W5.heap.size W5 w6 := va.trans (c6.mono za); have z6 := c6.size; (try have k6 : Box9 w6 _ entryNone := k5.below c6 kl5); (try have k6 : Box9 w6 _ entryNone := (Box9.new wa.drew entryNone 32).below b6 (by (try simp only [World.heap_size_alloc, World.heap_size_drew, World.heap_size_setCell]); omega)); (try have k6 : Box9 w6 _ entryNone := (Box9.new wa entryNone 32).below b6 (by (try simp only [World.heap_size_alloc, World.heap_size_drew, World.heap_size_setCell]); omega)); (try simp only [World.heap_size_drew] at k6); (try have kl6 := k6.lt); (try obtain ⟨⟨jb0, jb1, jb2, jb3, jb4, jb5, jb6, jb7, jb8⟩, ⟨lb0, lb1, lb2, lb3, lb4, lb5, lb6, lb7, lb8⟩⟩ := id k6); clear b6))
        all_goals
          go_wp2_with fail
          go_meet
          first
            | (with_reducible refine ⟨_, rfl, rfl, Box9.new w6 E 32, ?_, ?_, ?_⟩; (· omega); (· rw [World.heap_size_alloc]; exact Nat.lt_succ_self _); (· exact v6.alloc (by omega) _))
            | (with_reducible refine ⟨_, rfl, rfl, k6.put E, ?_, ?_, ?_⟩; (· omega); (· rw [size9]; exact kl6); (· exact v6.trans (below9 (by omega))))
      case rest =>
        obtain ⟨w5, rfl⟩ : ∃ x, x = wc := ⟨wc, rfl⟩
        obtain ⟨g8, rfl, rfl, k8, hg8a, hg8b, b5⟩ := hcut
        have y5 := b5.size
        clear t0 t1 t2 t3 x0 CFI CSL HX5
        have PBB := Lib.hid (PB5.out.trans (b5.mono (by omega)))
        have BK6 := Lib.hid (BK5.out.below b5 (by omega))
        have BS6 := Lib.hid (BS5.out.below b5 (by omega))
        have SL6 := Lib.hid (SL5.out.below b5 (by have := BR.out.size; omega))
        have O6 := Lib.hid (O5.out.kept b5)
        have SA6 := Lib.hid (SA5.out.below b5 BR.out.size)
        have K8 := Lib.hid k8
        clear b5 k8 BK5 BS5 SL5 O5 SA5 PB5
        by_cases hlt : i < F.length
        · obtain ⟨e, he⟩ : ∃ e, F[i]? = some e := ⟨_, List.getElem?_eq_getElem hlt⟩
          obtain ⟨hs1, hs2⟩ := HSTEP.out i e he
          have hf := HFR.out
          rw [HIX.out, hs1] at hf
          have hE : e = E := (congrArg Prod.fst hf).symm
          have hok : ok = true := congrArg Prod.snd hf
          subst hE
          subst hok
          have HE := Lib.hid he
          have HS2 := Lib.hid hs2
          clear hf he hs1 hs2 HFR
          have WAL : Below w5.heap.size w5 (w5.alloc (.cells #[.int .i64 e.index, .int .i64 e.time, .int .i64 e.client, .int .i64 e.seq, .int .i64 e.op.kind, .int .i64 e.op.a, .int .i64 e.op.b, .int .i64 e.op.c, .int .i64 e.op.d] 32)) := (Below.refl _ _).alloc (Nat.le_refl _) _
          have HO3 := Lib.hid (O6.out.kept WAL)
          have HS1 : Hid (Sl (w5.alloc (.cells #[.int .i64 e.index, .int .i64 e.time, .int .i64 e.client, .int .i64 e.seq, .int .i64 e.op.kind, .int .i64 e.op.a, .int .i64 e.op.b, .int .i64 e.op.c, .int .i64 e.op.d] 32)) w5.heap.size (w5.heap.size + 1) 9 (some ⟨w5.heap.size, 0, none⟩) 1 1 e.ints) := Lib.hid (src_new w5 32 9 e.ints rfl)
          have BKA := Lib.hid (BK6.out.below WAL (by omega))
          have BSA := Lib.hid (BS6.out.below WAL (by omega))
          have K8A := Lib.hid (K8.out.below WAL hg8b)
          have SLA := Lib.hid (SL6.out.below WAL (by have := BR.out.size; omega))
          have PBA := Lib.hid (PBB.out.trans (WAL.mono (by omega)))
          have hszA : (w5.alloc (.cells #[.int .i64 e.index, .int .i64 e.time, .int .i64 e.client, .int .i64 e.seq, .int .i64 e.op.kind, .int .i64 e.op.a, .int .i64 e.op.b, .int .i64 e.op.c, .int .i64 e.op.d] 32)).heap.size = w5.heap.size + 1 := World.heap_size_alloc _ _
          have hbr := BR.out.size
          obtain ⟨kb0, kb1, kb2, kf0, kf1, kf2⟩ := id BK6.out
          obtain ⟨⟨ce0, ce1, ce2, ce3, ce4, ce5, ce6, ce7, ce8⟩, -⟩ := id K8.out
          have hl6 : hisi ≤ w5.heap.size := by omega
          clear BK6 BS6 K8 SL6 PBB O6 WAL BR SA6
          go_upto_region 9 with (at_builtin; (refine wpList_append_sl _ rfl (.tmp 41) (.tmp 43) 81 rfl w3.heap.size 32 Try.underlying81 infoEntryC rfl (by omega) _ _ _ rfl HO3.out _ 1 1 _ _ e.ints rfl HS1.out (by omega) (by omega) (by omega) ?_); intro v7 w7 o7 q7 a7; obtain ⟨A7, c7, rfl, -⟩ := o7.sl; have BK7 := Lib.hid (BKA.out.same (q7.block g5 (by omega) (fun e => by have := (HOL.out g5 e.symm).1; omega))); have BS7 := Lib.hid (BSA.out.same (q7.block g6 (by omega) (fun e => by have := (HOL.out g6 e.symm).1; omega))); have K87 := Lib.hid (K8A.out.same (q7.block g8 (by omega) (fun e => by have := (HOL.out g8 e.symm).2; omega))); have SL7 := Lib.hid (SLA.out.grown q7 (by omega) (fun h0 a ha e => by obtain ⟨g, off, hA, hg1, hg2, -⟩ := SLA.out.lie h0; rw [ha] at hA; injection hA with hA; subst hA; have := HOB.out g e.symm; omega)); have PB7 := Lib.hid (PBA.out.trans (grown_below (base := w.heap.size + 3) q7 (by omega) (fun g hg => by have := (HOL.out g hg).1; omega))); have y7 := q7.size; have O7 := Lib.hid o7; clear o7 q7 a7 kb0 kb1 kb2 kf0 kf1 kf2; obtain ⟨kb0, kb1, kb2, kf0, kf1, kf2⟩ := id BK7.out)
          rw [hszA] at y7
          have up8 : Upd g5 (g5 + 1) w7 (w7.setCell ⟨g5, 2, none⟩ (.slice A7 (i + 1) c7)) := (Upd.refl _ _ _).setCell (p := ⟨g5, 2, none⟩) (Nat.le_refl _) (Nat.lt_succ_self _) _
          have hsz8 : (w7.setCell ⟨g5, 2, none⟩ (.slice A7 (i + 1) c7)).heap.size = w7.heap.size := World.heap_size_setCell _ _ _
          have BK8 := Lib.hid (BK7.out.set2 (.slice A7 (i + 1) c7))
          have O8 := Lib.hid (Own.setC O7.out (B := g5) (fun g hg => by have := (Own.lt O7.out g hg).1; omega) 2 (.slice A7 (i + 1) c7))
          have PB8 := Lib.hid (PB7.out.setCell (p := ⟨g5, 2, none⟩) (by show w.heap.size + 3 ≤ g5; omega) (.slice A7 (i + 1) c7))
          generalize hW8 : w7.setCell ⟨g5, 2, none⟩ (.slice A7 (i + 1) c7) = W8 at *
          have hsz8a := Nat.le_of_eq hsz8
          have hsz8b := Nat.le_of_eq hsz8.symm
          clear hW8 hsz8
          have BS8 := Lib.hid (BS7.out.upd up8 (by omega))
          have K88 := Lib.hid (K87.out.upd up8 (by omega))
          have SL8 := Lib.hid (SL7.out.upd up8 (by have := HAP.out; omega))
          have CM : Hid _ := Lib.hid (marked_any Si sni sci losi hisi (snf i) e W8 SL8.out)
          rw [HS2.out] at CM
          clear up8 kb0 kb1 kb2 kf0 kf1 kf2 ce0 ce1 ce2 ce3 ce4 ce5 ce6 ce7 ce8 BK7 BS7 K87 SL7 PB7 O7 BKA BSA K8A SLA PBA HO3 HS1
          obtain ⟨ks, ksf⟩ := id BS8.out
          obtain ⟨⟨ce0, ce1, ce2, ce3, ce4, ce5, ce6, ce7, ce8⟩, -⟩ := id K88.out
          go_wp2_with fail
          (with_reducible refine (CM.out).mono ?_); rintro _ w9 ⟨A9, c9, rfl, s9, b9⟩
          have y9 := b9.size
          have BS9 := Lib.hid (BS8.out.below b9 (by omega))
          have BK9 := Lib.hid (BK8.out.below b9 (by omega))
          have O9 := Lib.hid (O8.out.kept b9)
          have PB9 := Lib.hid (PB8.out.trans (b9.mono (by omega)))
          have S9 := Lib.hid s9
          clear s9 b9 ks ksf ce0 ce1 ce2 ce3 ce4 ce5 ce6 ce7 ce8 CM K88 SL8 BS8
          obtain ⟨ks, ksf⟩ := id BS9.out
          go_wp2_with fail
          have up9 : Upd g6 (g6 + 1) w9 (w9.setCell ⟨g6, 0, none⟩ (.slice A9 (snf (i + 1)).length c9)) := (Upd.refl _ _ _).setCell (p := ⟨g6, 0, none⟩) (Nat.le_refl _) (Nat.lt_succ_self _) _
          have hsz9 : (w9.setCell ⟨g6, 0, none⟩ (.slice A9 (snf (i + 1)).length c9)).heap.size = w9.heap.size := World.heap_size_setCell _ _ _
          have htk : (F.take (i + 1)).flatMap EntryD.ints = (F.take i).flatMap EntryD.ints ++ e.ints := by
            rw [List.take_add_one, HE.out]
            simp
          have BKn := Lib.hid (BK9.out.upd up9 (by omega))
          go_roundw
          case rel =>
            refine ⟨i + 1, _, A9, _, c9, _, _, hlt, BKn, Lib.hid (BS9.out.set _), Lib.hid ?_, Lib.hid (S9.out.upd up9 (.inr (by omega))), by omega, Lib.hid (.inr (by omega)), Lib.hid (fun g hg => .inl (Own.lt O8.out g hg).2), Lib.hid (PB9.out.setCell (p := ⟨g6, 0, none⟩) (by show w.heap.size + 3 ≤ g6; omega) _), by omega⟩
            rw [htk]
            exact Own.setC O9.out (B := g6) (fun g hg => by have := (Own.lt O8.out g hg).1; omega) 0 _
          case measure =>
            rw [HBL.out, biLeft_at BKn.out.c2]
            omega
        · obtain rfl : i = F.length := by omega
          have hf := HFR.out
          rw [HIX.out, List.take_length] at hf
          have hok : ok = false := (congrArg Prod.snd hf).trans HEND.out
          subst hok
          clear hf HFR
          obtain ⟨kb0, kb1, kb2, kf0, kf1, kf2⟩ := id BK6.out
          have k4 := T1.out _ PBB.out
          have K4 : Box3 w5 (w.heap.size + 1 + 1) (.int .i64 0) (.int .i64 0) (.slice none 0 0) := k4.2.2
          obtain ⟨z0, z1, z2, zf0, zf1, zf2⟩ := K4
          clear k4
          have hbr := BR.out.size
          have HBA := Lib.hid (HB9.out.trans (PBB.out.mono (by omega)))
          go_wp2_with fail
          refine bodyPost_ret (v := .agg #[.int .i64 b, .int .i64 t, .slice A F.length c]) (by simp [results, Try.results121, go_sem, z0, z1, z2, zf0, zf1, zf2]) rfl ⟨A, c, rfl, ?_, ?_⟩
          · have s9 := SA6.out
            rw [List.take_length] at s9
            refine Sl.mono (Sl.upd (lo' := w.heap.size + 1 + 1) (hi' := w.heap.size + 1 + 1 + 1) s9 ?_ (.inr (by omega))) (by omega) (by (try simp only [World.heap_size_alloc, World.heap_size_drew, World.heap_size_setCell]); omega)
            (repeat' (first | with_reducible exact Upd.refl _ _ _ | with_reducible assumption | with_reducible refine Upd.drew ?_ | with_reducible refine Upd.alloc ?_ _ | with_reducible refine Upd.setCell ?_ ?_ ?_ _ | (simp only []; omega) | omega))
          · have c9 := HBA.out
            (repeat' (first | with_reducible exact Below.refl _ _ | with_reducible assumption | with_reducible refine Below.drew ?_ | with_reducible refine Below.alloc ?_ ?_ _ | with_reducible refine Below.setCell ?_ ?_ _ | with_reducible refine Below.trans ?_ (Below.mono (by assumption) ?_) | ((try simp only [World.heap_size_alloc, World.heap_size_drew, World.heap_size_setCell]); omega)))
end Go.Proofs.Ytgnilmdaegnaaaa
set_option linter.unusedSimpArgs false
set_option linter.unusedVariables false
namespace Go.Proofs.Ytgnilmdaegnaaaa
open Go.RowKit
open Go.ChangeShapes Go.WideShapes Go.ChangeAt
def RecRes (w : World) (F : List EntryD) (e : Ending) (w' : World) : Prop :=
  ∃ (X0 : Option Addr) (d0 : Nat) (X1 : Option Addr) (d1 : Nat) (X2 : Option Addr) (d2 : Nat) (X3 : Option Addr) (d3 : Nat) (S : Option Addr) (sc : Nat) (B : Option Addr) (q : Nat), e = .returned (.tuple #[.agg #[.slice X0 22 d0, .slice X1 0 d1, .slice X2 22 d2, .slice X3 0 d3], .agg #[.int .i64 0, .int .i64 0, .int .i64 0, .slice S 0 sc], .agg #[.int .i64 0, .int .i64 0, .slice B F.length q], .bool true]) ∧ SlR w' w.heap.size w'.heap.size X0 22 d0 (recK F) ∧ SlR w' w.heap.size w'.heap.size X2 22 d2 (recK F) ∧ d1 ≤ 9223372036854775807 ∧ d3 ≤ 9223372036854775807 ∧ Sl w' w.heap.size w'.heap.size 9 B F.length q (F.flatMap EntryD.ints) ∧ Below w.heap.size w w'
set_option maxRecDepth 100000 in
set_option maxHeartbeats 32000000 in
theorem recovered_any (A0 : Option Addr) (c0 : Nat) (k0 : List (List Int)) (A1 : Option Addr) (c1 : Nat) (A2 : Option Addr) (c2 : Nat) (k2 : List (List Int)) (A3 : Option Addr) (c3 : Nat) (lo hi : Nat) (w : World) (h0 : SlR w lo hi A0 22 c0 k0) (h2 : SlR w lo hi A2 22 c2 k2) (hhi : hi ≤ w.heap.size) (hc1 : c1 ≤ 9223372036854775807) (hc3 : c3 ≤ 9223372036854775807) (hd : twoOk k0 [] k2 [] = true)
    (a0 b0 a1 b1 : List Int) (ha0 : k0[0]? = some a0) (hb0 : k2[0]? = some b0) (ha1 : k0[1]? = some a1) (hb1 : k2[1]? = some b1) (hM : headInM a0 b0 a1 b1 = (0, 0, 0, [], true))
    (F : List EntryD) (snf : Nat → List MarkD) (ka kb : Nat → List Int) (hF0 : snf 0 = []) (hFl : F.length ≤ 19) (hFok : ∀ e ∈ F, entryOk e = true)
    (hrow : ∀ i, i ≤ F.length → k0[slotN ((0 : Int) + (i : Int) + 1)]? = some (ka i) ∧ k2[slotN ((0 : Int) + (i : Int) + 1)]? = some (kb i))
    (hstep : ∀ (i : Nat) e, F[i]? = some e → firstM (readM ((0 : Int) + (i : Int) + 1) 0 0 (F.take i) (snf i)) (rightM (ka i) (kb i)) = (e, true) ∧ (marked (snf i) e).1 = snf (i + 1))
    (hend : (firstM (readM ((0 : Int) + (F.length : Int) + 1) 0 0 F (snf F.length)) (rightM (ka F.length) (kb F.length))).2 = false) :
    Calls Try.prog 66 #[.agg #[.slice A0 22 c0, .slice A1 0 c1, .slice A2 22 c2, .slice A3 0 c3]] w (RecRes w F) := by
  obtain ⟨hda, hdb, hkk⟩ : diskOk k0 [] = true ∧ diskOk k2 [] = true ∧ k0.length = k2.length := by
    have h := hd
    simp only [twoOk, Bool.and_eq_true, decide_eq_true_eq] at h
    exact h
  have L0 := h0.len
  have L2 := h2.len
  have CKO : Hid (∀ W, Below w.heap.size w W → Calls Try.prog 40 #[.agg #[.slice A0 22 c0, .slice A1 0 c1, .slice A2 22 c2, .slice A3 0 c3]] W fun e w' => e = .returned (.bool true) ∧ Below W.heap.size W w') := Lib.hid (fun W hW => by
    have h7 := keptOk_any A0 22 c0 k0 A1 0 c1 [] A2 22 c2 k2 A3 0 c3 [] lo hi W (h0.below hW hhi) (SlW.nil _ _ _ _ _ hc1) (h2.below hW hhi) (SlW.nil _ _ _ _ _ hc3) (Nat.le_trans hhi hW.size)
    rw [hd, h0.len, decide_eq_true rfl] at h7
    exact h7)
  have CBS : Hid (∀ W, Below w.heap.size w W → Calls Try.prog 60 #[.agg #[.slice A0 22 c0, .slice A1 0 c1, .slice A2 22 c2, .slice A3 0 c3]] W (TwRes W 22 k0 0 [] 22 k2 0 [])) := Lib.hid (fun W hW => bothSynced_any A0 22 c0 k0 A1 0 c1 [] A2 22 c2 k2 A3 0 c3 [] lo hi W (h0.below hW hhi) (SlW.nil _ _ _ _ _ hc1) (h2.below hW hhi) (SlW.nil _ _ _ _ _ hc3) (Nat.le_trans hhi hW.size) hd)
  have CHI : Hid (∀ (W : World) (X0 : Option Addr) (d0 : Nat) (X1 : Option Addr) (d1 : Nat) (X2 : Option Addr) (d2 : Nat) (X3 : Option Addr) (d3 lo hi : Nat), SlR W lo hi X0 22 d0 k0 → SlR W lo hi X2 22 d2 k2 → hi ≤ W.heap.size → d1 ≤ 9223372036854775807 → d3 ≤ 9223372036854775807 → Calls Try.prog 61 #[.agg #[.slice X0 22 d0, .slice X1 0 d1, .slice X2 22 d2, .slice X3 0 d3]] W (HeadBRes W 0 0 0 0 [] true)) := Lib.hid (fun W X0 d0 X1 d1 X2 d2 X3 d3 lo hi h0 h2 hhi hc1 hc3 => by
    have h7 := headIn_any X0 22 d0 k0 X1 d1 X2 22 d2 k2 X3 d3 lo hi W h0 h2 hhi hc1 hc3 hd rfl a0 b0 a1 b1 ha0 hb0 ha1 hb1
    rw [hM] at h7
    exact h7)
  have CBI : Hid (∀ (W : World) (X0 : Option Addr) (d0 : Nat) (X1 : Option Addr) (d1 : Nat) (X2 : Option Addr) (d2 : Nat) (X3 : Option Addr) (d3 lo hi : Nat) (Sh : Option Addr) (sc : Nat), SlR W lo hi X0 22 d0 k0 → SlR W lo hi X2 22 d2 k2 → hi ≤ W.heap.size → d1 ≤ 9223372036854775807 → d3 ≤ 9223372036854775807 → sc ≤ 9223372036854775807 → Calls Try.prog 121 #[.agg #[.slice X0 22 d0, .slice X1 0 d1, .slice X2 22 d2, .slice X3 0 d3], .agg #[.int .i64 0, .int .i64 0, .int .i64 0, .slice Sh 0 sc]] W (fun e w' => ∃ (B : Option Addr) (q : Nat), e = .returned (.agg #[.int .i64 0, .int .i64 0, .slice B F.length q]) ∧ Sl w' W.heap.size w'.heap.size 9 B F.length q (F.flatMap EntryD.ints) ∧ Below W.heap.size W w')) := Lib.hid (fun W X0 d0 X1 d1 X2 d2 X3 d3 lo hi Sh sc h0 h2 hhi hc1 hc3 hsc => bookIn_any X0 d0 k0 X1 d1 X2 d2 k2 X3 d3 lo hi W h0 h2 hhi hc1 hc3 hd 0 0 0 Sh 0 sc 0 0 [] (Sl.nil _ _ _ _ _ _ hsc) (Nat.zero_le _) (by first | decide | rfl) F snf ka kb hF0 hFl hrow hstep hend)
  have hrl := recRows_len F
  have hrok := recRows_ok hFok
  have hrt : ∀ (j : Nat) e, F[j]? = some e → recRows (F.take (j + 1)) = (recRows (F.take j)).set (slotN e.index) (slotRow e) := fun j e he => by
    rw [List.take_add_one, he]
    simp only [Option.toList_some]
    exact recRows_app _ _
  have hr0 : recRows (F.take 0) = (List.replicate 22 []).set 0 zrow := by rw [List.take_zero]; rfl
  have hrn : recRows (F.take F.length) = recRows F := by rw [List.take_length]
  have CMA : Hid (∀ (W : World) (j : Nat) (r : List Int) (X0 : Option Addr) (d0 : Nat) (X1 : Option Addr) (d1 : Nat) (X2 : Option Addr) (d2 : Nat) (X3 : Option Addr) (d3 lo hi : Nat) (Ar : Option Addr) (nr cr lor hir : Nat), (recRows F)[j]? = some r → nr = r.length → SlR W lo hi X0 22 d0 (mixK (recRows F) k0 j) → SlR W lo hi X2 22 d2 (mixK (recRows F) k2 j) → hi ≤ W.heap.size → d1 ≤ 9223372036854775807 → d3 ≤ 9223372036854775807 → Sl W lor hir 1 Ar nr cr r → hir ≤ W.heap.size → Calls Try.prog 102 #[.agg #[.slice X0 22 d0, .slice X1 0 d1, .slice X2 22 d2, .slice X3 0 d3], .int .i64 (j : Int), .slice Ar nr cr] W (TwRes W 22 (mixK (recRows F) k0 (j + 1)) 0 [] 22 (mixK (recRows F) k2 (j + 1)) 0 [])) := Lib.hid (fun W j r X0 d0 X1 d1 X2 d2 X3 d3 lo hi Ar nr cr lor hir hj hnr h0 h2 hhi hc1 hc3 hr hhr => by
    have hj2 := (List.getElem?_eq_some_iff.1 hj).1
    obtain ⟨r1, r2, r3⟩ := hrok r (List.mem_of_getElem? hj)
    have h7 := mendedAt_any X0 22 d0 (mixK (recRows F) k0 j) X1 0 d1 [] X2 22 d2 (mixK (recRows F) k2 j) X3 0 d3 [] lo hi W h0 (SlW.nil _ _ _ _ _ hc1) h2 (SlW.nil _ _ _ _ _ hc3) hhi (j : Int) Ar nr cr lor hir r hr hhr r1 (by omega) (btw_iff.2 ⟨by omega, by omega⟩) (by omega) (by omega) (by
      simp only [twoOk, Bool.and_eq_true, decide_eq_true_eq]
      exact ⟨mixK_ok hrl L0 hda (fun r hr => (hrok r hr).2.2) j (by omega), mixK_ok hrl L2 hdb (fun r hr => (hrok r hr).2.2) j (by omega), by rw [mixK_len hrl L0 (by omega), mixK_len hrl L2 (by omega)]⟩)
    rw [show syncM (mixK (recRows F) k0 j) ([] ++ [⟨(j : Int), r ++ [sumM r]⟩]) = mixK (recRows F) k0 (j + 1) from mixK_set hrl L0 hj, show syncM (mixK (recRows F) k2 j) ([] ++ [⟨(j : Int), r ++ [sumM r]⟩]) = mixK (recRows F) k2 (j + 1) from mixK_set hrl L2 hj] at h7
    exact h7)
  have CHR : Hid (∀ (W : World) (Sh : Option Addr) (sc : Nat), sc ≤ 9223372036854775807 → Calls Try.prog 36 #[.agg #[.int .i64 0, .int .i64 0, .int .i64 0, .slice Sh 0 sc]] W (SlRes W 1 zrow.length zrow)) := Lib.hid (fun W Sh sc hsc => headRow_any 0 0 0 Sh 0 sc 0 0 [] W (Sl.nil _ _ _ _ _ _ hsc))
  have CSR : Hid (∀ (W : World) (e : EntryD), Calls Try.prog 18 #[.agg #[.int .i64 e.index, .int .i64 e.time, .int .i64 e.client, .int .i64 e.seq, .int .i64 e.op.kind, .int .i64 e.op.a, .int .i64 e.op.b, .int .i64 e.op.c, .int .i64 e.op.d]] W (SlRes W 1 (slotRow e).length (slotRow e))) := Lib.hid (fun W e => slotRow_any e.index e.time e.client e.seq e.op.kind e.op.a e.op.b e.op.c e.op.d W)
  have CSL : Hid (∀ (W : World) (x : Int), 0 ≤ x → x ≤ 1000000 → Calls Try.prog 71 #[.int .i64 x] W fun e w' => e = .returned (.int .i64 ((slotN x : Nat) : Int)) ∧ Below W.heap.size W w') := Lib.hid (fun W x h0 h1 => (slotOf1_any x W h0 h1).mono (by
    rintro _ _ ⟨rfl, rfl⟩
    refine ⟨?_, Below.refl _ _⟩
    rw [show ((slotN x : Nat) : Int) = 2 + x % 20 by unfold slotN; omega]))
  have T1 : Hid (∀ W, Below (w.heap.size + 4) ((((w.alloc (.cells #[.slice A0 22 c0, .slice A1 0 c1, .slice A2 22 c2, .slice A3 0 c3] 69)).alloc (.cells #[.slice none 0 0, .slice none 0 0, .slice none 0 0, .slice none 0 0] 69)).alloc (.cells #[.int .i64 0, .int .i64 0, .int .i64 0, .slice none 0 0] 49)).alloc (.cells #[.int .i64 0, .int .i64 0, .slice none 0 0] 102)) W → (Box4 W w.heap.size (.slice A0 22 c0) (.slice A1 0 c1) (.slice A2 22 c2) (.slice A3 0 c3) ∧ Box4 W (w.heap.size + 1) (.slice none 0 0) (.slice none 0 0) (.slice none 0 0) (.slice none 0 0) ∧ Box4 W (w.heap.size + 1 + 1) (.int .i64 0) (.int .i64 0) (.int .i64 0) (.slice none 0 0) ∧ Box3 W (w.heap.size + 1 + 1 + 1) (.int .i64 0) (.int .i64 0) (.slice none 0 0))) := Lib.hid (fun W hW => by
    have e1 : (w.alloc (.cells #[.slice A0 22 c0, .slice A1 0 c1, .slice A2 22 c2, .slice A3 0 c3] 69)).heap.size = w.heap.size + 1 := World.heap_size_alloc _ _
    have e2 : ((w.alloc (.cells #[.slice A0 22 c0, .slice A1 0 c1, .slice A2 22 c2, .slice A3 0 c3] 69)).alloc (.cells #[.slice none 0 0, .slice none 0 0, .slice none 0 0, .slice none 0 0] 69)).heap.size = w.heap.size + 2 := by simp only [World.heap_size_alloc]
    have e3 : (((w.alloc (.cells #[.slice A0 22 c0, .slice A1 0 c1, .slice A2 22 c2, .slice A3 0 c3] 69)).alloc (.cells #[.slice none 0 0, .slice none 0 0, .slice none 0 0, .slice none 0 0] 69)).alloc (.cells #[.int .i64 0, .int .i64 0, .int .i64 0, .slice none 0 0] 49)).heap.size = w.heap.size + 3 := by simp only [World.heap_size_alloc]
    have q1 : Below (w.heap.size + 1) (w.alloc (.cells #[.slice A0 22 c0, .slice A1 0 c1, .slice A2 22 c2, .slice A3 0 c3] 69)) ((((w.alloc (.cells #[.slice A0 22 c0, .slice A1 0 c1, .slice A2 22 c2, .slice A3 0 c3] 69)).alloc (.cells #[.slice none 0 0, .slice none 0 0, .slice none 0 0, .slice none 0 0] 69)).alloc (.cells #[.int .i64 0, .int .i64 0, .int .i64 0, .slice none 0 0] 49)).alloc (.cells #[.int .i64 0, .int .i64 0, .slice none 0 0] 102)) := (((Below.refl _ _).alloc (by omega) _).alloc (by omega) _).alloc (by omega) _
    have q2 : Below (w.heap.size + 2) ((w.alloc (.cells #[.slice A0 22 c0, .slice A1 0 c1, .slice A2 22 c2, .slice A3 0 c3] 69)).alloc (.cells #[.slice none 0 0, .slice none 0 0, .slice none 0 0, .slice none 0 0] 69)) ((((w.alloc (.cells #[.slice A0 22 c0, .slice A1 0 c1, .slice A2 22 c2, .slice A3 0 c3] 69)).alloc (.cells #[.slice none 0 0, .slice none 0 0, .slice none 0 0, .slice none 0 0] 69)).alloc (.cells #[.int .i64 0, .int .i64 0, .int .i64 0, .slice none 0 0] 49)).alloc (.cells #[.int .i64 0, .int .i64 0, .slice none 0 0] 102)) := ((Below.refl _ _).alloc (by omega) _).alloc (by omega) _
    have q3 : Below (w.heap.size + 3) (((w.alloc (.cells #[.slice A0 22 c0, .slice A1 0 c1, .slice A2 22 c2, .slice A3 0 c3] 69)).alloc (.cells #[.slice none 0 0, .slice none 0 0, .slice none 0 0, .slice none 0 0] 69)).alloc (.cells #[.int .i64 0, .int .i64 0, .int .i64 0, .slice none 0 0] 49)) ((((w.alloc (.cells #[.slice A0 22 c0, .slice A1 0 c1, .slice A2 22 c2, .slice A3 0 c3] 69)).alloc (.cells #[.slice none 0 0, .slice none 0 0, .slice none 0 0, .slice none 0 0] 69)).alloc (.cells #[.int .i64 0, .int .i64 0, .int .i64 0, .slice none 0 0] 49)).alloc (.cells #[.int .i64 0, .int .i64 0, .slice none 0 0] 102)) := (Below.refl _ _).alloc (by omega) _
    have z1 := Box4.new (w.alloc (.cells #[.slice A0 22 c0, .slice A1 0 c1, .slice A2 22 c2, .slice A3 0 c3] 69)) (.slice none 0 0) (.slice none 0 0) (.slice none 0 0) (.slice none 0 0) 69
    have z2 := Box4.new ((w.alloc (.cells #[.slice A0 22 c0, .slice A1 0 c1, .slice A2 22 c2, .slice A3 0 c3] 69)).alloc (.cells #[.slice none 0 0, .slice none 0 0, .slice none 0 0, .slice none 0 0] 69)) (.int .i64 0) (.int .i64 0) (.int .i64 0) (.slice none 0 0) 49
    have z3 := Box3.new (((w.alloc (.cells #[.slice A0 22 c0, .slice A1 0 c1, .slice A2 22 c2, .slice A3 0 c3] 69)).alloc (.cells #[.slice none 0 0, .slice none 0 0, .slice none 0 0, .slice none 0 0] 69)).alloc (.cells #[.int .i64 0, .int .i64 0, .int .i64 0, .slice none 0 0] 49)) (.int .i64 0) (.int .i64 0) (.slice none 0 0) 102
    rw [e1] at z1
    rw [e2] at z2
    rw [e3] at z3
    exact ⟨((Box4.new w (.slice A0 22 c0) (.slice A1 0 c1) (.slice A2 22 c2) (.slice A3 0 c3) 69).below q1 (by omega)).below hW (by omega), (z1.below q2 (by omega)).below hW (by omega), (z2.below q3 (by omega)).below hW (by omega), z3.below hW (by omega)⟩)
  have hs9 : ((((w.alloc (.cells #[.slice A0 22 c0, .slice A1 0 c1, .slice A2 22 c2, .slice A3 0 c3] 69)).alloc (.cells #[.slice none 0 0, .slice none 0 0, .slice none 0 0, .slice none 0 0] 69)).alloc (.cells #[.int .i64 0, .int .i64 0, .int .i64 0, .slice none 0 0] 49)).alloc (.cells #[.int .i64 0, .int .i64 0, .slice none 0 0] 102)).heap.size = w.heap.size + 4 := by simp only [World.heap_size_alloc]
  have hb9 : Below w.heap.size w ((((w.alloc (.cells #[.slice A0 22 c0, .slice A1 0 c1, .slice A2 22 c2, .slice A3 0 c3] 69)).alloc (.cells #[.slice none 0 0, .slice none 0 0, .slice none 0 0, .slice none 0 0] 69)).alloc (.cells #[.int .i64 0, .int .i64 0, .int .i64 0, .slice none 0 0] 49)).alloc (.cells #[.int .i64 0, .int .i64 0, .slice none 0 0] 102)) := by (repeat' (first | with_reducible exact Below.refl _ _ | with_reducible assumption | with_reducible refine Below.drew ?_ | with_reducible refine Below.alloc ?_ ?_ _ | with_reducible refine Below.setCell ?_ ?_ _ | with_reducible refine Below.trans ?_ (Below.mono (by assumption) ?_) | ((try simp only [World.heap_size_alloc, World.heap_size_drew, World.heap_size_setCell]); omega)))
  have HFO := Lib.hid (fun (j : Nat) e (he : F[j]? = some e) => (by
    have h := hFok e (List.mem_of_getElem? he)
    simp only [entryOk, Bool.and_eq_true] at h
    have := btw_iff.1 h.1.1.1.1
    omega : 0 ≤ e.index ∧ e.index ≤ 1000000))
  have HRT := Lib.hid hrt
  have HRL := Lib.hid hrl
  have HR0 := Lib.hid hr0
  have HRN := Lib.hid hrn
  have HL0 := Lib.hid (show mixK (recRows F) k0 22 = recK F from mixK_end hrl L0)
  have HL2 := Lib.hid (show mixK (recRows F) k2 22 = recK F from mixK_end hrl L2)
  clear h0 h2 hd ha0 hb0 ha1 hb1 hM hFok hrow hstep hend hda hdb hkk L0 L2 hrl hrok hrt hr0 hrn hF0
  go_enter Try.func66, Try.ntmps66
  go_wp2_with fail
  generalize hW0 : ((((w.alloc (.cells #[.slice A0 22 c0, .slice A1 0 c1, .slice A2 22 c2, .slice A3 0 c3] 69)).alloc (.cells #[.slice none 0 0, .slice none 0 0, .slice none 0 0, .slice none 0 0] 69)).alloc (.cells #[.int .i64 0, .int .i64 0, .int .i64 0, .slice none 0 0] 49)).alloc (.cells #[.int .i64 0, .int .i64 0, .slice none 0 0] 102)) = W0 at *
  have hs9a := Nat.le_of_eq hs9
  have hs9b := Nat.le_of_eq hs9.symm
  clear hW0 hs9
  have HB9 := Lib.hid hb9
  obtain ⟨⟨t0, t1, t2, t3, -, -, -, -⟩, -, -, -⟩ := T1.out _ (Below.refl _ _)
  (with_reducible refine (CKO.out _ hb9).mono ?_); rintro _ w1 ⟨rfl, bb1⟩
  have y1 := bb1.size
  have P1 := Lib.hid (bb1.mono (by omega) : Below (w.heap.size + 4) W0 w1)
  clear t0 t1 t2 t3 bb1 hb9
  obtain ⟨⟨t0, t1, t2, t3, -, -, -, -⟩, -, -, -⟩ := T1.out _ P1.out
  go_wp2_with fail
  (with_reducible refine (CBS.out _ (HB9.out.trans (P1.out.mono (by omega)))).mono ?_); rintro _ w2 ⟨X0, d0, X1, d1, X2, d2, X3, d3, rfl, s0, s1, s2, s3, bb2⟩
  have y2 := bb2.size
  have hd1 := s1.big
  have hd3 := s3.big
  go_upto_region 4 with fail
  have hsz3 : (w2.alloc (.cells #[.slice X0 22 d0, .slice X1 0 d1, .slice X2 22 d2, .slice X3 0 d3] 69)).heap.size = w2.heap.size + 1 := World.heap_size_alloc _ _
  have hal3 : Below w2.heap.size w2 (w2.alloc (.cells #[.slice X0 22 d0, .slice X1 0 d1, .slice X2 22 d2, .slice X3 0 d3] 69)) := (Below.refl _ _).alloc (Nat.le_refl _) _
  have K6 := Lib.hid (Box4.new w2 (.slice X0 22 d0) (.slice X1 0 d1) (.slice X2 22 d2) (.slice X3 0 d3) 69)
  generalize hW3 : w2.alloc (.cells #[.slice X0 22 d0, .slice X1 0 d1, .slice X2 22 d2, .slice X3 0 d3] 69) = W3 at *
  have hsz3a := Nat.le_of_eq hsz3
  have hsz3b := Nat.le_of_eq hsz3.symm
  clear hW3 hsz3 t0 t1 t2 t3
  have P3 := Lib.hid (P1.out.trans ((bb2.trans (hal3.mono y2)).mono (by omega)) : Below (w.heap.size + 4) W0 W3)
  have S0 := Lib.hid (s0.below hal3 (Nat.le_refl _))
  have S2 := Lib.hid (s2.below hal3 (Nat.le_refl _))
  obtain ⟨g6, hg6⟩ : ∃ x, x = w2.heap.size := ⟨_, rfl⟩
  rw [← hg6] at K6 S0 S2
  generalize w2.heap.size = z2 at *
  subst hg6
  clear s0 s1 s2 s3 bb2 hal3 P1
  obtain ⟨u0, u1, u2, u3, -, -, -, -⟩ := id K6.out
  go_wp2_with fail
  (with_reducible refine (CHI.out _ _ _ _ _ _ _ _ _ _ _ S0.out S2.out (by omega) hd1 hd3).mono ?_); rintro _ w4 ⟨Sh, sc, rfl, sh, bb4⟩
  have y4 := bb4.size
  have hsc := sh.big
  go_upto_region 7 with fail
  have hsz4 : (w4.alloc (.cells #[.int .i64 0, .int .i64 0, .int .i64 0, .slice Sh 0 sc] 49)).heap.size = w4.heap.size + 1 := World.heap_size_alloc _ _
  have hal4 : Below w4.heap.size w4 (w4.alloc (.cells #[.int .i64 0, .int .i64 0, .int .i64 0, .slice Sh 0 sc] 49)) := (Below.refl _ _).alloc (Nat.le_refl _) _
  have K7 := Lib.hid (Box4.new w4 (.int .i64 0) (.int .i64 0) (.int .i64 0) (.slice Sh 0 sc) 49)
  generalize hW4 : w4.alloc (.cells #[.int .i64 0, .int .i64 0, .int .i64 0, .slice Sh 0 sc] 49) = W4 at *
  have hsz4a := Nat.le_of_eq hsz4
  have hsz4b := Nat.le_of_eq hsz4.symm
  clear hW4 hsz4 u0 u1 u2 u3
  have BB4 : Below W3.heap.size W3 W4 := bb4.trans (hal4.mono y4)
  have P4 := Lib.hid (P3.out.trans (BB4.mono (by omega)))
  have S0' := Lib.hid (S0.out.below BB4 (by omega))
  have S2' := Lib.hid (S2.out.below BB4 (by omega))
  have K6' := Lib.hid (K6.out.below BB4 (by omega))
  obtain ⟨g7, hg7⟩ : ∃ x, x = w4.heap.size := ⟨_, rfl⟩
  rw [← hg7] at K7
  generalize w4.heap.size = z4 at *
  subst hg7
  clear sh bb4 hal4 BB4 P3 S0 S2 K6
  obtain ⟨u0, u1, u2, u3, -, -, -, -⟩ := id K6'.out
  obtain ⟨v0, v1, v2, v3, -, -, -, -⟩ := id K7.out
  go_wp2_with fail
  (with_reducible refine (CBI.out _ _ _ _ _ _ _ _ _ _ _ _ _ S0'.out S2'.out (by omega) hd1 hd3 hsc).mono ?_); rintro _ w5 ⟨B, q, rfl, sb, bb5⟩
  have y5 := bb5.size
  go_upto_region 8 with fail
  have hsz5 : (w5.alloc (.cells #[.int .i64 0, .int .i64 0, .slice B F.length q] 102)).heap.size = w5.heap.size + 1 := World.heap_size_alloc _ _
  have hal5 : Below w5.heap.size w5 (w5.alloc (.cells #[.int .i64 0, .int .i64 0, .slice B F.length q] 102)) := (Below.refl _ _).alloc (Nat.le_refl _) _
  have K9 := Lib.hid (Box3.new w5 (.int .i64 0) (.int .i64 0) (.slice B F.length q) 102)
  generalize hW5 : w5.alloc (.cells #[.int .i64 0, .int .i64 0, .slice B F.length q] 102) = W5 at *
  have hsz5a := Nat.le_of_eq hsz5
  have hsz5b := Nat.le_of_eq hsz5.symm
  clear hW5 hsz5 u0 u1 u2 u3 v0 v1 v2 v3
  have BB5 : Below W4.heap.size W4 W5 := bb5.trans (hal5.mono y5)
  have hhb : w5.heap.size ≤ W5.heap.size := by omega
  have SB := Lib.hid (sb.below hal5 (Nat.le_refl _))
  obtain ⟨g9, hg9⟩ : ∃ x, x = w5.heap.size := ⟨_, rfl⟩
  rw [← hg9] at K9 SB
  generalize w5.heap.size = z5 at *
  subst hg9
  go_upto_region 9 with (refine wpList_store_row rfl 146 (.tmp 10) (.tmp 36) rfl W5.heap.size #[.slice none 0 0, .slice none 0 0, .slice none 0 0, .slice none 0 0, .slice none 0 0, .slice none 0 0, .slice none 0 0, .slice none 0 0, .slice none 0 0, .slice none 0 0, .slice none 0 0, .slice none 0 0, .slice none 0 0, .slice none 0 0, .slice none 0 0, .slice none 0 0, .slice none 0 0, .slice none 0 0, .slice none 0 0, .slice none 0 0, .slice none 0 0, .slice none 0 0] rfl rfl 146 #[.slice none 0 0, .slice none 0 0, .slice none 0 0, .slice none 0 0, .slice none 0 0, .slice none 0 0, .slice none 0 0, .slice none 0 0, .slice none 0 0, .slice none 0 0, .slice none 0 0, .slice none 0 0, .slice none 0 0, .slice none 0 0, .slice none 0 0, .slice none 0 0, .slice none 0 0, .slice none 0 0, .slice none 0 0, .slice none 0 0, .slice none 0 0, .slice none 0 0] (heap_alloc_last _ _) (by kernel_rfl) rfl (by kernel_rfl) ?_; rw [World.setRow_alloc_new]; dsimp only [Act.put])
  have hsz6 : (W5.alloc (.cells #[.slice none 0 0, .slice none 0 0, .slice none 0 0, .slice none 0 0, .slice none 0 0, .slice none 0 0, .slice none 0 0, .slice none 0 0, .slice none 0 0, .slice none 0 0, .slice none 0 0, .slice none 0 0, .slice none 0 0, .slice none 0 0, .slice none 0 0, .slice none 0 0, .slice none 0 0, .slice none 0 0, .slice none 0 0, .slice none 0 0, .slice none 0 0, .slice none 0 0] 146)).heap.size = W5.heap.size + 1 := World.heap_size_alloc _ _
  have hal6 : Below W5.heap.size W5 (W5.alloc (.cells #[.slice none 0 0, .slice none 0 0, .slice none 0 0, .slice none 0 0, .slice none 0 0, .slice none 0 0, .slice none 0 0, .slice none 0 0, .slice none 0 0, .slice none 0 0, .slice none 0 0, .slice none 0 0, .slice none 0 0, .slice none 0 0, .slice none 0 0, .slice none 0 0, .slice none 0 0, .slice none 0 0, .slice none 0 0, .slice none 0 0, .slice none 0 0, .slice none 0 0] 146)) := (Below.refl _ _).alloc (Nat.le_refl _) _
  have R6 := Lib.hid (Rows22.new W5 146)
  generalize hW6 : W5.alloc (.cells #[.slice none 0 0, .slice none 0 0, .slice none 0 0, .slice none 0 0, .slice none 0 0, .slice none 0 0, .slice none 0 0, .slice none 0 0, .slice none 0 0, .slice none 0 0, .slice none 0 0, .slice none 0 0, .slice none 0 0, .slice none 0 0, .slice none 0 0, .slice none 0 0, .slice none 0 0, .slice none 0 0, .slice none 0 0, .slice none 0 0, .slice none 0 0, .slice none 0 0] 146) = W6 at *
  have hsz6a := Nat.le_of_eq hsz6
  have hsz6b := Nat.le_of_eq hsz6.symm
  clear hW6 hsz6
  have BB6 : Below W4.heap.size W4 W6 := BB5.trans (hal6.mono (by omega))
  have P6 := Lib.hid (P4.out.trans (BB6.mono (by omega)))
  have S06 := Lib.hid (S0'.out.below BB6 (by omega))
  have S26 := Lib.hid (S2'.out.below BB6 (by omega))
  have K66 := Lib.hid (K6'.out.below BB6 (by omega))
  have K76 := Lib.hid (K7.out.below BB6 (by omega))
  have K96 := Lib.hid (K9.out.below hal6 (by omega))
  have SB6 := Lib.hid (SB.out.below hal6 (by omega))
  obtain ⟨g10, hg10⟩ : ∃ x, x = W5.heap.size := ⟨_, rfl⟩
  rw [← hg10] at R6
  generalize W5.heap.size = z55 at *
  subst hg10
  have hx1 : w.heap.size + 4 ≤ g6 := by omega
  have hx2 : g6 < g7 := by omega
  have hx3 : g7 < g9 := by omega
  have hx4 : g9 < g10 := by omega
  have hx5 : g10 + 1 ≤ W6.heap.size := by omega
  have hx6 : w1.heap.size ≤ g6 := by omega
  have hx7 : W4.heap.size ≤ g9 := by omega
  have hx8 : w.heap.size + 4 ≤ w1.heap.size := by omega
  have hx9 : w.heap.size + 4 ≤ W4.heap.size := by omega
  clear sb bb5 hal5 hal6 BB5 BB6 P4 S0' S2' K6' K7 K9 SB
  generalize w1.heap.size = z1 at *
  generalize W3.heap.size = z3 at *
  generalize hz45 : W4.heap.size = z45 at *
  clear hz45
  obtain ⟨v0, v1, v2, v3, -, -, -, -⟩ := id K76.out
  obtain ⟨_, _, r0, rf0, -⟩ := R6.out.cells 0 [] rfl
  go_cut [42] (fun s42 wx => s42 = .pointer (some ⟨g10, 0, none⟩) ∧ (∃ hi', Rows22 wx g10 (g10 + 1) hi' (recRows (F.take 0))) ∧ Upd g10 (g10 + 1) W6 wx)
  case first =>
    go_region_law (go_simp; go_at_call 36; (with_reducible refine (CHR.out _ _ _ hsc).mono ?_); rintro _ wa ⟨Ah, ch, rfl, sr, ba⟩; have va : Below W6.heap.size W6 wa := Below.trans (by (repeat' (first | with_reducible exact Below.refl _ _ | with_reducible assumption | with_reducible refine Below.drew ?_ | with_reducible refine Below.alloc ?_ ?_ _ | with_reducible refine Below.setCell ?_ ?_ _ | ((try simp only [World.heap_size_alloc, World.heap_size_drew, World.heap_size_setCell]); omega)))) (ba.mono (by (try simp only [World.heap_size_alloc, World.heap_size_drew, World.heap_size_setCell]); omega)); have za := va.size; have RA := Lib.hid (R6.out.below va hx5 (by omega)); have SR := Lib.hid (sr.mono (lo' := g10 + 1) (by (try simp only [World.heap_size_alloc, World.heap_size_drew, World.heap_size_setCell]); omega) (Nat.le_refl _)); clear v0 v1 v2 v3 r0 rf0; obtain ⟨v0, v1, v2, v3, -, -, -, -⟩ := K76.out.below va (by omega); obtain ⟨_, _, r0, rf0, -⟩ := RA.out.cells 0 [] rfl; clear sr ba)
    all_goals
      go_wp2_with fail
      go_meet
      exact ⟨rfl, ⟨_, by rw [HR0.out]; exact RA.out.set SR.out rfl (by omega) (Nat.le_refl _) (by omega)⟩, (Upd.of_below va).trans ((Upd.refl _ _ _).setCell (p := ⟨g10, 0, none⟩) (Nat.le_refl _) (Nat.lt_succ_self _) _)⟩
  case rest =>
    obtain ⟨W7, rfl⟩ : ∃ x, x = wc := ⟨wc, rfl⟩
    obtain ⟨rfl, ⟨hi7, r7⟩, hu7⟩ := hcut
    have y7 := hu7.size
    have R7 := Lib.hid r7
    have P7 := Lib.hid (P6.out.trans (hu7.below (by omega) (by omega)))
    have S07 := Lib.hid (S06.out.upd hu7 (.inl (by omega)))
    have S27 := Lib.hid (S26.out.upd hu7 (.inl (by omega)))
    have K67 := Lib.hid (K66.out.upd hu7 (by omega))
    have K77 := Lib.hid (K76.out.upd hu7 (by omega))
    have K97 := Lib.hid (K96.out.upd hu7 (.inl (by omega)))
    have SB7 := Lib.hid (SB6.out.upd hu7 (.inl (by omega)))
    have hg7 : g10 + 1 ≤ W7.heap.size := by omega
    clear r7 hu7 R6 P6 S06 S26 K66 K76 K96 SB6 v0 v1 v2 v3 r0 rf0
    obtain ⟨kb0, kb1, kb2, -, -, -⟩ := id K97.out
    go_wp2_with fail
    go_loopw [12, 46] (fun _ x wr => ∃ j : Nat, j ≤ F.length ∧ x = .int .i64 j ∧ Hid (∃ hi', Rows22 wr g10 (g10 + 1) hi' (recRows (F.take j))) ∧ Hid (Upd g10 (g10 + 1) W7 wr) ∧ W7.heap.size ≤ wr.heap.size) (fun _ x _ => F.length - (intOf x).toNat)
    case atStart => exact ⟨0, Nat.zero_le _, rfl, Lib.hid ⟨_, R7.out⟩, Lib.hid (Upd.refl _ _ _), Nat.le_refl _⟩
    case round =>
      obtain ⟨j, hj, rfl, HR, HU, hyr⟩ := hrel
      by_cases hlt : j < F.length
      · obtain ⟨g, off, e, rfl, -, hg, he, p0, p1, p2, p3, p4, p5, p6, p7, p8⟩ := (SB7.out.upd HU.out (.inl (by omega))).entry hlt
        have HE := Lib.hid he
        obtain ⟨hi0, hi1⟩ := HFO.out j e he
        clear he
        go_upto_region 13 with fail
        have hszA : (wr.alloc (.cells #[.int .i64 e.index, .int .i64 e.time, .int .i64 e.client, .int .i64 e.seq, .int .i64 e.op.kind, .int .i64 e.op.a, .int .i64 e.op.b, .int .i64 e.op.c, .int .i64 e.op.d] 32)).heap.size = wr.heap.size + 1 := World.heap_size_alloc _ _
        have halA : Below wr.heap.size wr (wr.alloc (.cells #[.int .i64 e.index, .int .i64 e.time, .int .i64 e.client, .int .i64 e.seq, .int .i64 e.op.kind, .int .i64 e.op.a, .int .i64 e.op.b, .int .i64 e.op.c, .int .i64 e.op.d] 32)) := (Below.refl _ _).alloc (Nat.le_refl _) _
        have K12 := Lib.hid (Box9.new wr e 32)
        generalize hWA : wr.alloc (.cells #[.int .i64 e.index, .int .i64 e.time, .int .i64 e.client, .int .i64 e.seq, .int .i64 e.op.kind, .int .i64 e.op.a, .int .i64 e.op.b, .int .i64 e.op.c, .int .i64 e.op.d] 32) = WA at *
        have hszAa := Nat.le_of_eq hszA
        have hszAb := Nat.le_of_eq hszA.symm
        clear hWA hszA p0 p1 p2 p3 p4 p5 p6 p7 p8
        obtain ⟨hiA, rA⟩ := HR.out
        have hiA1 := rA.hi
        have hrl := rA.len
        have RA := Lib.hid (rA.below halA rA.hi (by omega))
        have UA := Lib.hid (HU.out.trans (Upd.of_below halA))
        clear rA halA
        obtain ⟨g12, hg12⟩ : ∃ x, x = wr.heap.size := ⟨_, rfl⟩
        rw [← hg12] at K12
        generalize wr.heap.size = z12 at *
        subst hg12
        obtain ⟨q12, hq12⟩ : ∃ x, x = slotN e.index := ⟨_, rfl⟩
        have hq22 : q12 < 22 := by rw [hq12]; exact slotN_lt _
        have hq22i : (q12 : Int) < 22 := by omega
        have HRJ := Lib.hid (HRT.out j e HE.out)
        rw [← hq12] at HRJ
        have CS1 := Lib.hid (fun W => CSL.out W e.index hi0 hi1)
        rw [← hq12] at CS1
        have HQ : Hid _ := Lib.hid (List.getElem?_eq_getElem (l := recRows (F.take j)) (i := q12) (by rw [hrl]; exact hq22))
        obtain ⟨⟨ce0, ce1, ce2, ce3, ce4, ce5, ce6, ce7, ce8⟩, -⟩ := K12.out
        obtain ⟨_, _, r0, rf0, -⟩ := RA.out.cells q12 _ HQ.out
        have hgA : g12 < WA.heap.size := by omega
        have hgB : g10 < WA.heap.size := by omega
        have hgC : hiA ≤ WA.heap.size := by omega
        clear hq12
        go_region_law (first | (go_simp; go_at_call 71; (with_reducible refine (CS1.out _).mono ?_); rintro _ wb ⟨rfl, bb⟩; have vb : Below WA.heap.size WA wb := Below.trans (by (repeat' (first | with_reducible exact Below.refl _ _ | with_reducible assumption | with_reducible refine Below.drew ?_ | with_reducible refine Below.alloc ?_ ?_ _ | with_reducible refine Below.setCell ?_ ?_ _ | ((try simp only [World.heap_size_alloc, World.heap_size_drew, World.heap_size_setCell]); omega)))) (bb.mono (by (try simp only [World.heap_size_alloc, World.heap_size_drew, World.heap_size_setCell]); omega)); have zb := vb.size; clear ce0 ce1 ce2 ce3 ce4 ce5 ce6 ce7 ce8 r0 rf0; obtain ⟨⟨ce0, ce1, ce2, ce3, ce4, ce5, ce6, ce7, ce8⟩, -⟩ := K12.out.below vb hgA; obtain ⟨_, _, r0, rf0, -⟩ := (RA.out.below vb hgC hgB).cells q12 _ HQ.out; clear bb) | (go_simp; go_at_call 18; (with_reducible refine (CSR.out _ e).mono ?_); rintro _ wd ⟨Ar, cr, rfl, sr, bd⟩; have cd : Below wb.heap.size wb wd := Below.trans (by (repeat' (first | with_reducible exact Below.refl _ _ | with_reducible assumption | with_reducible refine Below.drew ?_ | with_reducible refine Below.alloc ?_ ?_ _ | with_reducible refine Below.setCell ?_ ?_ _ | ((try simp only [World.heap_size_alloc, World.heap_size_drew, World.heap_size_setCell]); omega)))) (bd.mono (by (try simp only [World.heap_size_alloc, World.heap_size_drew, World.heap_size_setCell]); omega)); have zd := cd.size; have vd := vb.trans (cd.mono zb); have RD := Lib.hid (RA.out.below vd hgC hgB); have SR := Lib.hid (sr.mono (lo' := g10 + 1) (by (try simp only [World.heap_size_alloc, World.heap_size_drew, World.heap_size_setCell]); omega) (Nat.le_refl _)); clear ce0 ce1 ce2 ce3 ce4 ce5 ce6 ce7 ce8 r0 rf0; obtain ⟨⟨ce0, ce1, ce2, ce3, ce4, ce5, ce6, ce7, ce8⟩, -⟩ := K12.out.below vd hgA; obtain ⟨_, _, r0, rf0, -⟩ := RD.out.cells q12 _ HQ.out; clear sr bd))
        all_goals
          go_wp2_with fail
          go_roundw
          case rel => exact ⟨j + 1, hlt, by go_num, Lib.hid ⟨_, by rw [HRJ.out]; exact RD.out.set SR.out rfl (by omega) (Nat.le_refl _) hq22⟩, Lib.hid (UA.out.trans ((Upd.of_below vd).trans ((Upd.refl _ _ _).setCell (p := ⟨g10, q12, none⟩) (Nat.le_refl _) (Nat.lt_succ_self _) _))), by rw [World.heap_size_setCell]; omega⟩
          case measure => simp [intOf]; omega
      · obtain rfl : j = F.length := by omega
        obtain ⟨hi9, r9⟩ := HR.out
        rw [HRN.out] at r9
        have hi91 := r9.hi
        have P9 := Lib.hid (P7.out.trans (HU.out.below (by omega) (by omega)))
        have S09 := Lib.hid (S07.out.upd HU.out (.inl (by omega)))
        have S29 := Lib.hid (S27.out.upd HU.out (.inl (by omega)))
        have K69 := Lib.hid (K67.out.upd HU.out (by omega))
        have K79 := Lib.hid (K77.out.upd HU.out (by omega))
        have K99 := Lib.hid (K97.out.upd HU.out (.inl (by omega)))
        have SB9 := Lib.hid (SB7.out.upd HU.out (.inl (by omega)))
        obtain ⟨cs, tt, fr, hrow, hcs, hcells⟩ := r9.get
        have HC := Lib.hid hcells
        have hcs22 : (Try.prog.info? 146).map (·.size) = some cs.size := by rw [hcs]; kernel_rfl
        have hu22 : Try.prog.underlying 146 = some (.array 22 28) := by kernel_rfl
        have hg6r : g6 < wr.heap.size := by omega
        clear hcells r9 HR R7 P7 S07 S27 K67 K77 K97 SB7 kb0 kb1 kb2 HU
        go_wp2_with (refine wpList_load_row rfl 146 (.tmp 10) rfl g10 rfl tt cs fr _ hrow hu22 rfl hcs22 ?_)
        clear hrow hu22 hcs22
        go_loopw [13, 14, 58] (fun _ _ x wr2 => ∃ (j : Nat) (Y0 : Option Addr) (f0 : Nat) (Y1 : Option Addr) (f1 : Nat) (Y2 : Option Addr) (f2 : Nat) (Y3 : Option Addr) (f3 lo' hi' : Nat), j ≤ 22 ∧ x = .int .i64 j ∧ Hid (Box4 wr2 g6 (.slice Y0 22 f0) (.slice Y1 0 f1) (.slice Y2 22 f2) (.slice Y3 0 f3)) ∧ Hid (SlR wr2 lo' hi' Y0 22 f0 (mixK (recRows F) k0 j)) ∧ Hid (SlR wr2 lo' hi' Y2 22 f2 (mixK (recRows F) k2 j)) ∧ hi' ≤ wr2.heap.size ∧ f1 ≤ 9223372036854775807 ∧ f3 ≤ 9223372036854775807 ∧ w.heap.size + 4 ≤ lo' ∧ Hid (g6 + 1 ≤ lo' ∨ hi' ≤ g6) ∧ Hid (Upd g6 (g6 + 1) wr wr2) ∧ wr.heap.size ≤ wr2.heap.size) (fun _ _ x _ => 22 - (intOf x).toNat)
        case atStart => exact ⟨0, X0, d0, X1, d1, X2, d2, X3, d3, z1, g6, Nat.zero_le _, rfl, K69, Lib.hid (by rw [mixK_zero]; exact S09.out), Lib.hid (by rw [mixK_zero]; exact S29.out), by omega, hd1, hd3, by omega, Lib.hid (.inr (Nat.le_refl _)), Lib.hid (Upd.refl _ _ _), Nat.le_refl _⟩
        case round =>
          obtain ⟨j, Y0, f0, Y1, f1, Y2, f2, Y3, f3, lo', hi', hj, rfl, KY, SY0, SY2, hhi', hf1, hf3, hlo', HOR, HU2, hyr2⟩ := hrel
          by_cases hlt : j < 22
          · obtain ⟨r, hr⟩ : ∃ r, (recRows F)[j]? = some r := ⟨_, List.getElem?_eq_getElem (by rw [HRL.out]; exact hlt)⟩
            obtain ⟨Ar, cr, hcj, sr⟩ := HC.out j r hr
            have hix := run_index22 hlt hcj
            have SRr := Lib.hid (sr.upd HU2.out (.inr (by omega)))
            have hjI : (j : Int) < 22 := by omega
            obtain ⟨n0, n1, n2, n3, -, -, -, -⟩ := id KY.out
            have HRr := Lib.hid hr
            clear hcj sr hr
            go_wp2_with fail
            (with_reducible refine (CMA.out _ j r _ _ _ _ _ _ _ _ _ _ _ _ _ _ _ HRr.out rfl SY0.out SY2.out hhi' hf1 hf3 SRr.out (by omega)).mono ?_); rintro _ w8 ⟨Z0, e0, Z1, e1, Z2, e2, Z3, e3, rfl, s0, s1, s2, s3, b8⟩
            have y8 := b8.size
            have he1 := s1.big
            have he3 := s3.big
            have KZ := Lib.hid (KY.out.below b8 (by omega))
            have UZ := Lib.hid (HU2.out.trans (Upd.of_below b8))
            have SZ0 := Lib.hid (s0.upd (up4 (w := w8) (b := g6) (x := .slice Z0 22 e0) (y := .slice Z1 0 e1) (z := .slice Z2 22 e2) (u := .slice Z3 0 e3)) (.inr (by omega)))
            have SZ2 := Lib.hid (s2.upd (up4 (w := w8) (b := g6) (x := .slice Z0 22 e0) (y := .slice Z1 0 e1) (z := .slice Z2 22 e2) (u := .slice Z3 0 e3)) (.inr (by omega)))
            clear s0 s1 s2 s3 b8 n0 n1 n2 n3 hix SRr HRr KY SY0 SY2
            obtain ⟨n0, n1, n2, n3, nf0, nf1, nf2, nf3⟩ := id KZ.out
            go_wp2_with fail
            go_roundw
            case rel => exact ⟨j + 1, Z0, e0, Z1, e1, Z2, e2, Z3, e3, _, _, hlt, by go_num, Lib.hid (KZ.out.set _ _ _ _), SZ0, SZ2, by rw [size4]; exact Nat.le_refl _, he1, he3, by omega, Lib.hid (.inl (by omega)), Lib.hid (UZ.out.trans up4), by rw [size4]; omega⟩
            case measure => simp [intOf]; omega
          · obtain rfl : j = 22 := by omega
            have sa := SY0.out
            rw [HL0.out] at sa
            have sb := SY2.out
            rw [HL2.out] at sb
            have SA := Lib.hid sa
            have SC := Lib.hid sb
            have P22 := Lib.hid (P9.out.trans (HU2.out.below (by omega) (by omega)))
            have SBB := Lib.hid (SB9.out.upd HU2.out (.inr (by omega)))
            obtain ⟨n0, n1, n2, n3, -, -, -, -⟩ := id KY.out
            obtain ⟨m0, m1, m2, m3, -, -, -, -⟩ := K79.out.upd HU2.out (by omega)
            obtain ⟨l0, l1, l2, -, -, -⟩ := K99.out.upd HU2.out (.inr (by omega))
            obtain ⟨-, ⟨t0, t1, t2, t3, tf0, tf1, tf2, tf3⟩, ⟨x0, x1, x2, x3, xf0, xf1, xf2, xf3⟩, ⟨y0, y1, y2, yf0, yf1, yf2⟩⟩ := T1.out _ P22.out
            have hbw := HB9.out.trans (P22.out.mono (by omega))
            have HBW := Lib.hid hbw
            have hbsz := hbw.size
            clear sa sb SY0 SY2 KY K79 K99 SB9 P9 HU2 S09 S29 K69 hbw
            go_upto_region 20 with fail
            go_region
            all_goals
              go_wp2_with fail
              refine bodyPost_ret (v := .tuple #[.agg #[.slice Y0 22 f0, .slice Y1 0 f1, .slice Y2 22 f2, .slice Y3 0 f3], .agg #[.int .i64 0, .int .i64 0, .int .i64 0, .slice Sh 0 sc], .agg #[.int .i64 0, .int .i64 0, .slice B F.length q], .bool true]) (by simp [results, Try.results66, go_sem, t0, t1, t2, t3, tf0, tf1, tf2, tf3, x0, x1, x2, x3, xf0, xf1, xf2, xf3, y0, y1, y2, yf0, yf1, yf2]) rfl ⟨Y0, f0, Y1, f1, Y2, f2, Y3, f3, Sh, sc, B, q, rfl, ?_, ?_, hf1, hf3, ?_, ?_⟩
              · refine SlR.mono (SlR.upd (lo' := w.heap.size + 1) (hi' := w.heap.size + 1 + 1 + 1 + 1) SA.out ?_ (.inr (by omega))) (by omega) (by (try simp only [World.heap_size_alloc, World.heap_size_drew, World.heap_size_setCell]); omega)
                (repeat' (first | with_reducible exact Upd.refl _ _ _ | with_reducible assumption | with_reducible refine Upd.drew ?_ | with_reducible refine Upd.alloc ?_ _ | with_reducible refine Upd.setCell ?_ ?_ ?_ _ | (simp only []; omega) | omega))
              · refine SlR.mono (SlR.upd (lo' := w.heap.size + 1) (hi' := w.heap.size + 1 + 1 + 1 + 1) SC.out ?_ (.inr (by omega))) (by omega) (by (try simp only [World.heap_size_alloc, World.heap_size_drew, World.heap_size_setCell]); omega)
                (repeat' (first | with_reducible exact Upd.refl _ _ _ | with_reducible assumption | with_reducible refine Upd.drew ?_ | with_reducible refine Upd.alloc ?_ _ | with_reducible refine Upd.setCell ?_ ?_ ?_ _ | (simp only []; omega) | omega))
              · refine Sl.mono (Sl.upd (lo' := w.heap.size + 1) (hi' := w.heap.size + 1 + 1 + 1 + 1) SBB.out ?_ (.inr (by omega))) (by omega) (by (try simp only [World.heap_size_alloc, World.heap_size_drew, World.heap_size_setCell]); omega)
                (repeat' (first | with_reducible exact Upd.refl _ _ _ | with_reducible assumption | with_reducible refine Upd.drew ?_ | with_reducible refine Upd.alloc ?_ _ | with_reducible refine Upd.setCell ?_ ?_ ?_ _ | (simp only []; omega) | omega))
              · have c9 := HBW.out
                (repeat' (first | with_reducible exact Below.refl _ _ | with_reducible assumption | with_reducible refine Below.drew ?_ | with_reducible refine Below.alloc ?_ ?_ _ | with_reducible refine Below.setCell ?_ ?_ _ | with_reducible refine Below.trans ?_ (Below.mono (by assumption) ?_) | ((try simp only [World.heap_size_alloc, World.heap_size_drew, World.heap_size_setCell]); omega)))
end Go.Proofs.Ytgnilmdaegnaaaa
set_option linter.unusedSimpArgs false
set_option linter.unusedVariables false
namespace Go.Proofs.Ytgnilmdaegnaaaa
open Go.RowKit
/-- What a life leaves behind. -/
theorem life {Es : List EntryD} (hok : EsOk Es) {k : List (List Int)} (hk : Disk2 Es k) {v : List WriteD} (hv : ∀ x ∈ v, ∃ e ∈ Es, x = wrE e) (fa fb : List Int) :
    ∃ n a1 b1, n ≤ Es.length ∧ ReadK Es (fallM k v fa) (fallM k v fb) n ∧ (stepR Es (fallM k v fa) (fallM k v fb) n).2 = false ∧ twoOk (fallM k v fa) [] (fallM k v fb) [] = true ∧ (fallM k v fa)[0]? = some (sumRow zrow) ∧ (fallM k v fb)[0]? = some (sumRow zrow) ∧ (fallM k v fa)[1]? = some a1 ∧ (fallM k v fb)[1]? = some b1 ∧ headInM (sumRow zrow) (sumRow zrow) a1 b1 = (0, 0, 0, [], true) := by
  have hA := hk.fallM hok hv fa
  have hB := hk.fallM hok hv fb
  obtain ⟨n, r, s⟩ := readK_exists hok hA hB
  obtain ⟨a1, b1, h1, h2, h3⟩ := head_disks hA hB
  refine ⟨n, a1, b1, r.le, r, s, ?_, hA.head, hB.head, h1, h2, h3⟩
  simp only [twoOk, Bool.and_eq_true, decide_eq_true_eq]
  exact ⟨hA.ok, hB.ok, by rw [hA.len, hB.len]⟩
theorem life_waits {Es : List EntryD} (hok : EsOk Es) {k : List (List Int)} (hk : Disk2 Es k) {v : List WriteD} (hv : ∀ x ∈ v, ∃ e ∈ Es, x = wrE e) (hl : v.length ≤ 60) : twoOk k v k v = true := by
  have h : diskOk k v = true := diskOk_app hk.ok hl (fun x hx => by
    obtain ⟨e, he, rfl⟩ := hv x hx
    rw [hk.len]
    exact wrE_ok (hok.ok e he))
  simp only [twoOk, Bool.and_eq_true, decide_eq_true_eq]
  exact ⟨h, h, trivial⟩
/-- The first life of a list. -/
theorem first_disks {l : List EntryD} (hok : EsOk l) (s : Nat) : Disk2 l (syncM newK ((l.map wrE).take s)) ∧ (∀ x ∈ (l.map wrE).drop s, ∃ e ∈ l, x = wrE e) := by
  have hm : ∀ x ∈ l.map wrE, ∃ e ∈ l, x = wrE e := fun x hx => by
    obtain ⟨e, he, rfl⟩ := List.mem_map.1 hx
    exact ⟨e, he, rfl⟩
  exact ⟨Disk2.sync hok _ (newK_disk l) (fun x hx => hm x (List.mem_of_mem_take hx)), fun x hx => hm x (List.mem_of_mem_drop hx)⟩
theorem recovered_life (A0 : Option Addr) (c0 : Nat) (k0 : List (List Int)) (A1 : Option Addr) (c1 : Nat) (A2 : Option Addr) (c2 : Nat) (k2 : List (List Int)) (A3 : Option Addr) (c3 : Nat) (lo hi : Nat) (w : World) (h0 : SlR w lo hi A0 22 c0 k0) (h2 : SlR w lo hi A2 22 c2 k2) (hhi : hi ≤ w.heap.size) (hc1 : c1 ≤ 9223372036854775807) (hc3 : c3 ≤ 9223372036854775807) (hd : twoOk k0 [] k2 [] = true)
    (a1 b1 : List Int) (ha0 : k0[0]? = some (sumRow zrow)) (hb0 : k2[0]? = some (sumRow zrow)) (ha1 : k0[1]? = some a1) (hb1 : k2[1]? = some b1) (hM : headInM (sumRow zrow) (sumRow zrow) a1 b1 = (0, 0, 0, [], true))
    {Es : List EntryD} (hok : EsOk Es) (hl : Es.length ≤ 19) {n : Nat} (hr : ReadK Es k0 k2 n) : Calls Try.prog 66 #[.agg #[.slice A0 22 c0, .slice A1 0 c1, .slice A2 22 c2, .slice A3 0 c3]] w (RecRes w (Es.take n)) := by
  have hle := hr.le
  have hln : (Es.take n).length = n := by rw [List.length_take]; omega
  exact recovered_any A0 c0 k0 A1 c1 A2 c2 k2 A3 c3 lo hi w h0 h2 hhi hc1 hc3 hd _ _ a1 b1 ha0 hb0 ha1 hb1 hM (Es.take n) (snE Es) (fun i => k0.getD (slotN ((0 : Int) + (i : Int) + 1)) []) (fun i => k2.getD (slotN ((0 : Int) + (i : Int) + 1)) []) rfl (by omega) (fun e he => hok.ok e (List.mem_of_mem_take he)) (fun i hi => hr.row i (by omega)) hr.step (by rw [hln]; exact hr.stop)
end Go.Proofs.Ytgnilmdaegnaaaa
set_option linter.unusedSimpArgs false
set_option linter.unusedVariables false
namespace Go.Proofs.Ytgnilmdaegnaaaa
open Go.RowKit
set_option maxRecDepth 100000 in
set_option maxHeartbeats 2000000 in
theorem w9Same_any (A B : Option Addr) (n c d lo hi lo' hi' : Nat) (l : List EntryD) (w : World) (h : Sl w lo hi 9 A n c (l.flatMap EntryD.ints)) (k : Sl w lo' hi' 9 B n d (l.flatMap EntryD.ints)) :
    Calls Try.prog 122 #[.slice A n c, .slice B n d] w fun e w' => e = .returned (.bool true) ∧ Below w.heap.size w w' := by
  have hn : n ≤ 9223372036854775807 := Nat.le_trans h.cap h.big
  have H := Lib.hid (h.fit (by omega))
  have K := Lib.hid (k.fit (by omega))
  clear h k
  go_enter Try.func122, Try.ntmps122
  go_wp2
  go_loopw [5] (fun i wr => ∃ m : Nat, m ≤ n ∧ i = .int .i64 m ∧ Below w.heap.size w wr) (fun i _ => n - (intOf i).toNat)
  case atStart => exact ⟨0, Nat.zero_le _, rfl, Below.refl _ _⟩
  case round =>
    obtain ⟨m, hm, rfl, hb⟩ := hrel
    by_cases hlt : m < n
    · obtain ⟨g, off, e, rfl, _, hg, he, p0, p1, p2, p3, p4, p5, p6, p7, p8⟩ := H.out.entry hlt
      obtain ⟨g', off', e', rfl, _, hg', he', q0, q1, q2, q3, q4, q5, q6, q7, q8⟩ := K.out.entry hlt
      obtain rfl : e = e' := by rw [he] at he'; injection he'
      have hg1 := Nat.lt_of_lt_of_le hg (Nat.min_le_right _ _)
      have hg2 := Nat.lt_of_lt_of_le hg' (Nat.min_le_right _ _)
      have r0 := (hb.cell (p := ⟨g, off + m * 9, none⟩) hg1).trans p0
      have fr0 := fun d os => cell_regrown r0 d os
      have s0 := (hb.cell (p := ⟨g', off' + m * 9, none⟩) hg2).trans q0
      have fs0 := fun d os => cell_regrown s0 d os
      have r1 := (hb.cell (p := ⟨g, off + m * 9 + 1, none⟩) hg1).trans p1
      have fr1 := fun d os => cell_regrown r1 d os
      have s1 := (hb.cell (p := ⟨g', off' + m * 9 + 1, none⟩) hg2).trans q1
      have fs1 := fun d os => cell_regrown s1 d os
      have r2 := (hb.cell (p := ⟨g, off + m * 9 + 2, none⟩) hg1).trans p2
      have fr2 := fun d os => cell_regrown r2 d os
      have s2 := (hb.cell (p := ⟨g', off' + m * 9 + 2, none⟩) hg2).trans q2
      have fs2 := fun d os => cell_regrown s2 d os
      have r3 := (hb.cell (p := ⟨g, off + m * 9 + 3, none⟩) hg1).trans p3
      have fr3 := fun d os => cell_regrown r3 d os
      have s3 := (hb.cell (p := ⟨g', off' + m * 9 + 3, none⟩) hg2).trans q3
      have fs3 := fun d os => cell_regrown s3 d os
      have r4 := (hb.cell (p := ⟨g, off + m * 9 + 4, none⟩) hg1).trans p4
      have fr4 := fun d os => cell_regrown r4 d os
      have s4 := (hb.cell (p := ⟨g', off' + m * 9 + 4, none⟩) hg2).trans q4
      have fs4 := fun d os => cell_regrown s4 d os
      have r5 := (hb.cell (p := ⟨g, off + m * 9 + 5, none⟩) hg1).trans p5
      have fr5 := fun d os => cell_regrown r5 d os
      have s5 := (hb.cell (p := ⟨g', off' + m * 9 + 5, none⟩) hg2).trans q5
      have fs5 := fun d os => cell_regrown s5 d os
      have r6 := (hb.cell (p := ⟨g, off + m * 9 + 6, none⟩) hg1).trans p6
      have fr6 := fun d os => cell_regrown r6 d os
      have s6 := (hb.cell (p := ⟨g', off' + m * 9 + 6, none⟩) hg2).trans q6
      have fs6 := fun d os => cell_regrown s6 d os
      have r7 := (hb.cell (p := ⟨g, off + m * 9 + 7, none⟩) hg1).trans p7
      have fr7 := fun d os => cell_regrown r7 d os
      have s7 := (hb.cell (p := ⟨g', off' + m * 9 + 7, none⟩) hg2).trans q7
      have fs7 := fun d os => cell_regrown s7 d os
      have r8 := (hb.cell (p := ⟨g, off + m * 9 + 8, none⟩) hg1).trans p8
      have fr8 := fun d os => cell_regrown r8 d os
      have s8 := (hb.cell (p := ⟨g', off' + m * 9 + 8, none⟩) hg2).trans q8
      have fs8 := fun d os => cell_regrown s8 d os
      clear he he' p0 p1 p2 p3 p4 p5 p6 p7 p8 q0 q1 q2 q3 q4 q5 q6 q7 q8
      go_wp2
      refine wp_region_quiet_below (by kernel_rfl) (by kernel_rfl) ?_; (repeat (first | go_big_quiet_step (fail) | quiet_step (fail))); refine wpQuiet_nil ?_; intro _ hw'; obtain ⟨⟨nq, osq⟩, hw''⟩ := hw'; subst hw''; have hq := below_regrown wr nq osq; generalize Sort.grow (redrawn wr nq) osq = w1 at *
      have hb1 : Below w.heap.size w w1 := hb.trans (hq.mono hb.size)
      go_wp2
      go_roundw
      case rel => exact ⟨m + 1, by omega, by go_num, hb1⟩
      case measure => simp [intOf]; omega
    · go_wp2
      go_ret
      exact ⟨rfl, hb⟩
set_option maxRecDepth 100000 in
set_option maxHeartbeats 2000000 in
theorem w9Begins_any (A B : Option Addr) (n c m d lo hi lo' hi' : Nat) (l : List EntryD) (w : World) (h : Sl w lo hi 9 A n c (l.flatMap EntryD.ints)) (hm : m ≤ n) (k : Sl w lo' hi' 9 B m d ((l.take m).flatMap EntryD.ints)) :
    Calls Try.prog 67 #[.slice A n c, .slice B m d] w fun e w' => e = .returned (.bool true) ∧ Below w.heap.size w w' := by
  have hc := h.cap
  have hb := h.big
  have hrun := run_front A n c m (by omega)
  have HC := Lib.hid (w9Same_any A B m c d lo hi lo' hi' (l.take m) w (h.cutFront EntryD.ints_len hm) k)
  have hmn : (m : Int) ≤ (n : Int) := by omega
  clear h k
  go_enter Try.func67, Try.ntmps67
  go_wp2_with fail
  (with_reducible refine (HC.out).mono ?_); rintro _ w1 ⟨rfl, b1⟩
  go_wp2_with fail
  go_ret
  exact ⟨rfl, b1⟩
set_option maxRecDepth 100000 in
set_option maxHeartbeats 2000000 in
theorem w9Both_any (A B : Option Addr) (n c m d lo hi lo' hi' : Nat) (l k : List EntryD) (w : World) (h : Sl w lo hi 9 A n c (l.flatMap EntryD.ints)) (hh : hi ≤ w.heap.size) (h2 : Sl w lo' hi' 9 B m d (k.flatMap EntryD.ints)) (hh2 : hi' ≤ w.heap.size) (hn : n ≤ 1000) (hm : m ≤ 1000) :
    Calls Try.prog 68 #[.slice A n c, .slice B m d] w (SlRes w 9 (n + m) ((l ++ k).flatMap EntryD.ints)) := by
  have hbw : Below w.heap.size w (w.alloc (.cells #[] 32)) := by (repeat' (first | with_reducible exact Below.refl _ _ | with_reducible assumption | with_reducible refine Below.drew ?_ | with_reducible refine Below.alloc ?_ ?_ _ | with_reducible refine Below.setCell ?_ ?_ _ | with_reducible refine Below.trans ?_ (Below.mono (by assumption) ?_) | ((try simp only [World.heap_size_alloc, World.heap_size_drew, World.heap_size_setCell]); omega)))
  have hsz : (w.alloc (.cells #[] 32)).heap.size = w.heap.size + 1 := World.heap_size_alloc _ _
  have HS0 := Lib.hid (h.below hbw hh)
  have HS1 := Lib.hid (h2.below hbw hh2)
  have HO : Hid (Own (w.alloc (.cells #[] 32)) w.heap.size 32 9 (.slice (some ⟨w.heap.size, 0, none⟩) 0 0) 0 []) := Lib.hid (Own.new w 32 9 [] (by simp) (Nat.le_refl _) (by omega))
  have HBW := Lib.hid hbw
  clear h h2 hbw
  go_enter Try.func68, Try.ntmps68
  generalize hW1 : w.alloc (.cells #[] 32) = W1 at *
  go_wp2_with (at_builtin; first | ((refine wpList_append_sl _ rfl (.tmp 5) (.tmp 6) 81 rfl w.heap.size 32 Try.underlying81 infoEntryC rfl (by omega) _ _ _ rfl HO.out _ n c _ _ _ rfl HS0.out (by omega) (by omega) (by omega) ?_); intro v1 w1 o1 g1 a1; have HO1 := Lib.hid o1; have B1 := Lib.hid (grown_below (base := w.heap.size) g1 (by omega) (fun g hg => (Own.lt HO.out g hg).1)); have HS2 := Lib.hid (HS1.out.below B1.out hh2); clear o1 g1 a1) | ((refine wpList_append_sl _ rfl (.tmp 7) (.tmp 8) 81 rfl w.heap.size 32 Try.underlying81 infoEntryC rfl (by omega) _ _ _ rfl HO1.out _ m d _ _ _ rfl HS2.out (by omega) (by omega) (by have := B1.out.size; omega) ?_); intro v2 w2 o2 g2 a2; have B2 := Lib.hid (grown_below (base := w.heap.size) g2 (by have := B1.out.size; omega) (fun g hg => (Own.lt HO1.out g hg).1)); have HO2 := Lib.hid o2; clear o2 g2 a2))
  go_wp2_with fail
  go_ret
  have h9 := HO2.out
  rw [Nat.zero_add, List.nil_append, ← List.flatMap_append] at h9
  obtain ⟨A2, c2, rfl, s9⟩ := h9.sl
  exact ⟨A2, c2, rfl, s9, HBW.out.trans (B1.out.trans B2.out)⟩
end Go.Proofs.Ytgnilmdaegnaaaa
set_option linter.unusedSimpArgs false
set_option linter.unusedVariables false
namespace Go.Proofs.Ytgnilmdaegnaaaa
open Go.RowKit
open Go.ChangeShapes Go.WideShapes Go.ChangeAt
def evs : List Int → List Int
  | [] => []
  | [a] => [a]
  | a :: _ :: l => a :: evs l
def ods : List Int → List Int
  | [] => []
  | [_] => []
  | _ :: b :: l => b :: ods l
theorem evs_snoc (x : Int) : ∀ l : List Int, evs (l ++ [x]) = if l.length % 2 = 0 then evs l ++ [x] else evs l
  | [] => rfl
  | [a] => rfl
  | a :: b :: l => by
    have h := evs_snoc x l
    simp only [List.cons_append, evs, h, List.length_cons]
    by_cases hl : l.length % 2 = 0
    · rw [if_pos hl, if_pos (by omega)]
    · rw [if_neg hl, if_neg (by omega)]
theorem ods_snoc (x : Int) : ∀ l : List Int, ods (l ++ [x]) = if l.length % 2 = 0 then ods l else ods l ++ [x]
  | [] => rfl
  | [a] => rfl
  | a :: b :: l => by
    have h := ods_snoc x l
    simp only [List.cons_append, ods, h, List.length_cons]
    by_cases hl : l.length % 2 = 0
    · rw [if_pos hl, if_pos (by omega)]
    · rw [if_neg hl, if_neg (by omega)]
theorem Own.grownO {w w' : World} {base e k : Nat} {v : Value} {n : Nat} {zs : List Int} {o : Option Nat} (h : Own w base e k v n zs) (hg : w.grownBy w' o) (ho : ∀ b, v.ownBlock = some b → o ≠ some b) : Own w' base e k v n zs := by
  refine ⟨h.1, ?_⟩
  rcases h.2 with hn | ⟨g, cap, cur, hv, hb, hh, r⟩
  · exact .inl hn
  · refine .inr ⟨g, cap, cur, hv, hb, ?_, r⟩
    have hlt := (h.lt g (by rw [hv]; rfl)).2
    exact (hg.block g hlt (fun e9 => ho g (by rw [hv]; rfl) e9.symm)).trans hh
set_option maxRecDepth 100000 in
set_option maxHeartbeats 4000000 in
theorem bothFallenN_any (A0 : Option Addr) (n0 c0 : Nat) (k0 : List (List Int)) (A1 : Option Addr) (n1 c1 : Nat) (v0 : List WriteD) (A2 : Option Addr) (n2 c2 : Nat) (k2 : List (List Int)) (A3 : Option Addr) (n3 c3 : Nat) (v2 : List WriteD) (lo hi : Nat) (w : World) (h0 : SlR w lo hi A0 n0 c0 k0) (h1 : SlW w lo hi A1 n1 c1 v0) (h2 : SlR w lo hi A2 n2 c2 k2) (h3 : SlW w lo hi A3 n3 c3 v2) (hhi : hi ≤ w.heap.size) (Af : Option Addr) (nf cf lof hif : Nat) (fs : List Int) (hfs : Sl w lof hif 1 Af nf cf fs) (hhf : hif ≤ w.heap.size) (hnf : nf ≤ 1000) (hd : twoOk k0 v0 k2 v2 = true) :
    Calls Try.prog 62 #[.agg #[.slice A0 n0 c0, .slice A1 n1 c1, .slice A2 n2 c2, .slice A3 n3 c3], .slice Af nf cf] w (TwRes w n0 (fallM k0 v0 (evs fs)) 0 [] n2 (fallM k2 v2 (ods fs)) 0 []) := by
  obtain ⟨hda, hdb, hkk⟩ : diskOk k0 v0 = true ∧ diskOk k2 v2 = true ∧ k0.length = k2.length := by
    simp only [twoOk, Bool.and_eq_true, decide_eq_true_eq] at hd
    exact hd
  have hg0 : n0 ≤ 9223372036854775807 := Nat.le_trans h0.cap h0.big
  have L0 := Lib.hid h0.len
  have L1 := Lib.hid h1.len
  have L2 := Lib.hid h2.len
  have L3 := Lib.hid h3.len
  have H0 := Lib.hid h0
  have H1 := Lib.hid h1
  have H2 := Lib.hid h2
  have H3 := Lib.hid h3
  have C1 : Hid (∀ W, Below w.heap.size w W → Calls Try.prog 98 #[.agg #[.slice A0 n0 c0, .slice A1 n1 c1, .slice A2 n2 c2, .slice A3 n3 c3]] W fun e w' => e = .returned (.bool true) ∧ Below W.heap.size W w') := Lib.hid (fun W hW => by
    have h7 := twoOk_any A0 n0 c0 k0 A1 n1 c1 v0 A2 n2 c2 k2 A3 n3 c3 v2 lo hi W (H0.out.below hW hhi) (H1.out.below hW hhi) (H2.out.below hW hhi) (H3.out.below hW hhi) (Nat.le_trans hhi hW.size)
    rw [hd] at h7
    exact h7)
  have T1 : Hid (∀ W, Below (w.heap.size + 2) ((w.alloc (.cells #[.slice A0 n0 c0, .slice A1 n1 c1, .slice A2 n2 c2, .slice A3 n3 c3] 69)).alloc (.cells #[.slice none 0 0, .slice none 0 0, .slice none 0 0, .slice none 0 0] 69)) W → (Box4 W w.heap.size (.slice A0 n0 c0) (.slice A1 n1 c1) (.slice A2 n2 c2) (.slice A3 n3 c3) ∧ Box4 W (w.heap.size + 1) (.slice none 0 0) (.slice none 0 0) (.slice none 0 0) (.slice none 0 0))) := Lib.hid (fun W hW => ⟨((Box4.new w (.slice A0 n0 c0) (.slice A1 n1 c1) (.slice A2 n2 c2) (.slice A3 n3 c3) 69).below (B := w.heap.size + 1) ((Below.refl _ _).alloc (by simp) (.cells #[.slice none 0 0, .slice none 0 0, .slice none 0 0, .slice none 0 0] 69)) (by omega)).below hW (by omega), by
    have h9 := Box4.new (w.alloc (.cells #[.slice A0 n0 c0, .slice A1 n1 c1, .slice A2 n2 c2, .slice A3 n3 c3] 69)) (.slice none 0 0) (.slice none 0 0) (.slice none 0 0) (.slice none 0 0) 69
    rw [World.heap_size_alloc] at h9
    exact h9.below hW (by omega)⟩)
  have hs9 : ((w.alloc (.cells #[.slice A0 n0 c0, .slice A1 n1 c1, .slice A2 n2 c2, .slice A3 n3 c3] 69)).alloc (.cells #[.slice none 0 0, .slice none 0 0, .slice none 0 0, .slice none 0 0] 69)).heap.size = w.heap.size + 2 := by simp only [World.heap_size_alloc]
  have hb9 : Below w.heap.size w ((w.alloc (.cells #[.slice A0 n0 c0, .slice A1 n1 c1, .slice A2 n2 c2, .slice A3 n3 c3] 69)).alloc (.cells #[.slice none 0 0, .slice none 0 0, .slice none 0 0, .slice none 0 0] 69)) := by (repeat' (first | with_reducible exact Below.refl _ _ | with_reducible assumption | with_reducible refine Below.drew ?_ | with_reducible refine Below.alloc ?_ ?_ _ | with_reducible refine Below.setCell ?_ ?_ _ | with_reducible refine Below.trans ?_ (Below.mono (by assumption) ?_) | ((try simp only [World.heap_size_alloc, World.heap_size_drew, World.heap_size_setCell]); omega)))
  have IX0 := index0 A0 n0 c0 A1 n1 c1 A2 n2 c2 A3 n3 c3
  have IX1 := index1 A0 n0 c0 A1 n1 c1 A2 n2 c2 A3 n3 c3
  clear h0 h1 h2 h3 hd
  go_enter Try.func62, Try.ntmps62
  go_wp2_with fail
  generalize hW0 : (w.alloc (.cells #[.slice A0 n0 c0, .slice A1 n1 c1, .slice A2 n2 c2, .slice A3 n3 c3] 69)).alloc (.cells #[.slice none 0 0, .slice none 0 0, .slice none 0 0, .slice none 0 0] 69) = W0 at *
  clear hW0
  (with_reducible refine (C1.out _ hb9).mono ?_); rintro _ w1 ⟨rfl, b1⟩
  have y1 := b1.size
  have P1 := Lib.hid (b1.mono (by omega) : Below (w.heap.size + 2) W0 w1)
  have HB1 := Lib.hid (hb9.trans (P1.out.mono (by omega)))
  obtain ⟨⟨q0, q1, q2, q3, f0, f1, f2, f3⟩, -⟩ := T1.out _ P1.out
  clear b1 hb9 C1
  have KF := Box2.new w1 (.slice none 0 0) (.slice none 0 0) 143
  have hs5 : (w1.alloc (.cells #[.slice none 0 0, .slice none 0 0] 143)).heap.size = w1.heap.size + 1 := World.heap_size_alloc _ _
  have hb5 : Below w1.heap.size w1 (w1.alloc (.cells #[.slice none 0 0, .slice none 0 0] 143)) := (Below.refl _ _).alloc (Nat.le_refl _) _
  have HB5 := Lib.hid hb5
  have KFH := Lib.hid KF
  obtain ⟨kf0, kf1, kg0, kg1⟩ := KF
  clear hb5
  have HFS := Lib.hid hfs
  have HFL := Lib.hid hfs.uniq_len
  clear hfs
  go_wp2_with fail
  generalize hW5 : (w1.alloc (.cells #[.slice none 0 0, .slice none 0 0] 143)) = W5 at *
  have hs5a := Nat.le_of_eq hs5
  have hs5b := Nat.le_of_eq hs5.symm
  clear hs5
  clear hW5 kf0 kf1 kg0 kg1 q0 q1 q2 q3 f0 f1 f2 f3
  go_loopw [6, 7, 18] (fun _ _ i wr => ∃ (q : Nat) (u0 u1 : Value) (ne no : Nat), q ≤ nf ∧ i = .int .i64 q ∧ Hid (Box2 wr w1.heap.size u0 u1) ∧ Hid (Own wr (w1.heap.size + 1) 2 1 u0 ne (evs (fs.take q))) ∧ Hid (Own wr (w1.heap.size + 1) 2 1 u1 no (ods (fs.take q))) ∧ Hid (∀ g, u0.ownBlock = some g → u1.ownBlock ≠ some g) ∧ Hid (Below w1.heap.size w1 wr) ∧ w1.heap.size + 1 ≤ wr.heap.size ∧ ne ≤ q ∧ no ≤ q) (fun _ _ i _ => nf - (intOf i).toNat)
  case atStart => exact ⟨0, _, _, 0, 0, Nat.zero_le _, rfl, KFH, Lib.hid (Own.nil _ _ _ _), Lib.hid (Own.nil _ _ _ _), Lib.hid (fun g hg => by cases hg), HB5, by omega, Nat.le_refl _, Nat.le_refl _⟩
  case round =>
    obtain ⟨q, u0, u1, ne, no, hq, rfl, BXR, OE, OO, DJ, HBR, hlt, hne, hno⟩ := hrel
    by_cases hqn : q < nf
    · obtain ⟨gf, of, x, rfl, -, hgf, hx, pf⟩ := HFS.out.int hqn
      have pfr := ((HB1.out.trans (HBR.out.mono (by have := HB1.out.size; omega))).cell (p := ⟨gf, of + q, none⟩) (show gf < w.heap.size by omega)).trans pf
      have HX := Lib.hid hx
      have pfa : (wr.alloc (.cells #[.int .i64 x] 2)).cell? ⟨gf, of + q, none⟩ = some (.int .i64 x) := (((Below.refl wr.heap.size wr).alloc (Nat.le_refl _) (.cells #[.int .i64 x] 2)).cell (p := ⟨gf, of + q, none⟩) (show gf < wr.heap.size by have := HB1.out.size; omega)).trans pfr
      obtain ⟨z0, z1, zf0, zf1⟩ := BXR.out
      have bxa : Box2 (wr.alloc (.cells #[.int .i64 x] 2)) w1.heap.size u0 u1 := BXR.out.below ((Below.refl wr.heap.size wr).alloc (Nat.le_refl _) _) (by omega)
      obtain ⟨za0, za1, zaf0, zaf1⟩ := id bxa
      have BXA := Lib.hid bxa
      have hal : Below wr.heap.size wr (wr.alloc (.cells #[.int .i64 x] 2)) := (Below.refl _ _).alloc (Nat.le_refl _) _
      have OEA := Lib.hid (OE.out.kept hal)
      have OOA := Lib.hid (OO.out.kept hal)
      have LTE := Lib.hid OE.out.lt
      have LTO := Lib.hid OO.out.lt
      clear pf bxa hal hx
      rcases Nat.mod_two_eq_zero_or_one q with hp | hp
      · have hm1 : (q : Int).tmod 2 = 0 := by rw [Int.tmod_eq_emod_of_nonneg (by omega)]; omega
        have hm2 : (q : Int) % 2 = 0 := by omega
        have HP := Lib.hid hp
        clear hp
        go_wp2_with (at_builtin; go_loud (refine wpList_append_sl _ rfl (.tmp 28) (.tmp 30) 28 rfl (w1.heap.size + 1) 2 Try.underlying28 info64 rfl (by omega) u0 ne (evs (fs.take q)) rfl OEA.out _ 1 1 _ _ [x] rfl (src_one wr 2 x) (by omega) (by omega) (by (try simp only [World.heap_size_alloc, World.heap_size_drew, World.heap_size_setCell]); omega) ?_); intro v6 w6 o6 g6 a6; obtain ⟨FQ, eQ, e6, s6⟩ := o6.sl; subst e6; have hb6 : Below (w1.heap.size + 1) (wr.alloc (.cells #[.int .i64 x] 2)) w6 := grown_below g6 (by (try simp only [World.heap_size_alloc, World.heap_size_drew, World.heap_size_setCell]); omega) (fun g hg => (LTE.out g hg).1); have bx6 := BXA.out.below hb6 (by omega); obtain ⟨y0, y1, yf0, yf1⟩ := id bx6; have BX6 := Lib.hid bx6; have HB6 := Lib.hid hb6; have O6 := Lib.hid o6; have OX6 := Lib.hid (OOA.out.grownO g6 (fun b hb e => DJ.out b e hb)); have DJ6 : Hid (∀ g, (Value.slice FQ (ne + 1) eQ).ownBlock = some g → u1.ownBlock ≠ some g) := Lib.hid (by intro g hg ho; rcases a6 with a6 | a6; exact (DJ.out g (a6 ▸ hg) ho); rw [a6] at hg; injection hg with hg; have := (LTO.out g ho).2; rw [World.heap_size_alloc] at hg; omega); have hz6 := hb6.size; clear o6 g6 a6 s6 hb6 bx6)
        have hu1 : Upd w1.heap.size (w1.heap.size + 1) w6 (w6.setCell ⟨w1.heap.size, 0, none⟩ (.slice FQ (ne + 1) eQ)) := Box2.upd1
        have hzz : w6.heap.size ≤ (w6.setCell ⟨w1.heap.size, 0, none⟩ (.slice FQ (ne + 1) eQ)).heap.size := hu1.size
        have BX7 := Lib.hid (BX6.out.set0 (.slice FQ (ne + 1) eQ))
        have O7 := Lib.hid (O6.out.upd2 hu1 (fun g hg => .inr (by have := (O6.out.lt g hg).1; omega)))
        have OX7 := Lib.hid (OX6.out.upd2 hu1 (fun g hg => .inr (by have := (OX6.out.lt g hg).1; omega)))
        have hbq : Below w1.heap.size wr w6 := ((Below.refl wr.heap.size wr).alloc (Nat.le_refl _) _ |>.mono (by omega)).trans (HB6.out.mono (by omega))
        have HB7 := Lib.hid ((HBR.out.trans hbq).setCell (p := ⟨w1.heap.size, 0, none⟩) (Nat.le_refl _) (.slice FQ (ne + 1) eQ))
        have hz8 : wr.heap.size ≤ w6.heap.size := by have := hbq.size; omega
        have HT : Hid (fs.take (q + 1) = fs.take q ++ [x]) := Lib.hid (by rw [List.take_add_one, HX.out]; rfl)
        have HTL : Hid ((fs.take q).length = q) := Lib.hid (by rw [List.length_take, HFL.out]; omega)
        clear hu1 hbq
        go_wp2_with fail
        go_roundw
        case rel => exact ⟨q + 1, _, u1, ne + 1, no, hqn, by go_num, BX7, Lib.hid (by rw [HT.out, evs_snoc, HTL.out, if_pos HP.out]; exact O7.out), Lib.hid (by rw [HT.out, ods_snoc, HTL.out, if_pos HP.out]; exact OX7.out), DJ6, HB7, by omega, by omega, by omega⟩
        case measure => simp [intOf]; omega
      · have hm1 : (q : Int).tmod 2 = 1 := by rw [Int.tmod_eq_emod_of_nonneg (by omega)]; omega
        have hm2 : (q : Int) % 2 = 1 := by omega
        have HP := Lib.hid hp
        clear hp
        go_wp2_with (at_builtin; go_loud (refine wpList_append_sl _ rfl (.tmp 28) (.tmp 30) 28 rfl (w1.heap.size + 1) 2 Try.underlying28 info64 rfl (by omega) u1 no (ods (fs.take q)) rfl OOA.out _ 1 1 _ _ [x] rfl (src_one wr 2 x) (by omega) (by omega) (by (try simp only [World.heap_size_alloc, World.heap_size_drew, World.heap_size_setCell]); omega) ?_); intro v6 w6 o6 g6 a6; obtain ⟨FQ, eQ, e6, s6⟩ := o6.sl; subst e6; have hb6 : Below (w1.heap.size + 1) (wr.alloc (.cells #[.int .i64 x] 2)) w6 := grown_below g6 (by (try simp only [World.heap_size_alloc, World.heap_size_drew, World.heap_size_setCell]); omega) (fun g hg => (LTO.out g hg).1); have bx6 := BXA.out.below hb6 (by omega); obtain ⟨y0, y1, yf0, yf1⟩ := id bx6; have BX6 := Lib.hid bx6; have HB6 := Lib.hid hb6; have O6 := Lib.hid o6; have OX6 := Lib.hid (OEA.out.grownO g6 (fun b hb e => DJ.out b hb e)); have DJ6 : Hid (∀ g, (Value.slice FQ (no + 1) eQ).ownBlock = some g → u0.ownBlock ≠ some g) := Lib.hid (by intro g hg ho; rcases a6 with a6 | a6; exact (DJ.out g ho (a6 ▸ hg)); rw [a6] at hg; injection hg with hg; have := (LTE.out g ho).2; rw [World.heap_size_alloc] at hg; omega); have hz6 := hb6.size; clear o6 g6 a6 s6 hb6 bx6)
        have hu1 : Upd w1.heap.size (w1.heap.size + 1) w6 (w6.setCell ⟨w1.heap.size, 1, none⟩ (.slice FQ (no + 1) eQ)) := Box2.upd1
        have hzz : w6.heap.size ≤ (w6.setCell ⟨w1.heap.size, 1, none⟩ (.slice FQ (no + 1) eQ)).heap.size := hu1.size
        have BX7 := Lib.hid (BX6.out.set1 (.slice FQ (no + 1) eQ))
        have O7 := Lib.hid (O6.out.upd2 hu1 (fun g hg => .inr (by have := (O6.out.lt g hg).1; omega)))
        have OX7 := Lib.hid (OX6.out.upd2 hu1 (fun g hg => .inr (by have := (OX6.out.lt g hg).1; omega)))
        have hbq : Below w1.heap.size wr w6 := ((Below.refl wr.heap.size wr).alloc (Nat.le_refl _) _ |>.mono (by omega)).trans (HB6.out.mono (by omega))
        have HB7 := Lib.hid ((HBR.out.trans hbq).setCell (p := ⟨w1.heap.size, 1, none⟩) (Nat.le_refl _) (.slice FQ (no + 1) eQ))
        have hz8 : wr.heap.size ≤ w6.heap.size := by have := hbq.size; omega
        have HT : Hid (fs.take (q + 1) = fs.take q ++ [x]) := Lib.hid (by rw [List.take_add_one, HX.out]; rfl)
        have HTL : Hid ((fs.take q).length = q) := Lib.hid (by rw [List.length_take, HFL.out]; omega)
        clear hu1 hbq
        go_wp2_with fail
        go_roundw
        case rel => exact ⟨q + 1, u0, _, ne, no + 1, hqn, by go_num, BX7, Lib.hid (by rw [HT.out, evs_snoc, HTL.out, if_neg (by rw [HP.out]; decide)]; exact OX7.out), Lib.hid (by rw [HT.out, ods_snoc, HTL.out, if_neg (by rw [HP.out]; decide)]; exact O7.out), Lib.hid (fun g h1 h2 => DJ6.out g h2 h1), HB7, by omega, by omega, by omega⟩
        case measure => simp [intOf]; omega
    · have hqe : q = nf := by omega
      obtain ⟨F0, e0, rfl, sf0⟩ := OE.out.sl
      obtain ⟨F1, e1, rfl, sf1⟩ := OO.out.sl
      rw [hqe, ← HFL.out, List.take_length] at sf0 sf1
      obtain ⟨N0, rfl⟩ : ∃ x, x = ne := ⟨ne, rfl⟩
      obtain ⟨N1, rfl⟩ : ∃ x, x = no := ⟨no, rfl⟩
      have hN0 : N0 ≤ 1000 := by omega
      have hN1 : N1 ≤ 1000 := by omega
      have hqnI : ¬ (q : Int) < (nf : Int) := by omega
      obtain ⟨wF, rfl⟩ : ∃ x, x = wr := ⟨wr, rfl⟩
      obtain ⟨b5, hb5e⟩ : ∃ x, x = w1.heap.size := ⟨_, rfl⟩
      have hb5w : b5 < wF.heap.size := by omega
      have BF : Hid (Box2 wF b5 (.slice F0 N0 e0) (.slice F1 N1 e1)) := Lib.hid (by rw [hb5e]; exact BXR.out)
      have SF0 : Hid (Sl wF (w1.heap.size + 1) wF.heap.size 1 F0 N0 e0 (evs fs)) := Lib.hid sf0
      have SF1 : Hid (Sl wF (w1.heap.size + 1) wF.heap.size 1 F1 N1 e1 (ods fs)) := Lib.hid sf1
      have hyF : w1.heap.size ≤ wF.heap.size := by omega
      have P1 := Lib.hid (P1.out.trans (HBR.out.mono (by omega)))
      have HB1 := Lib.hid (HB1.out.trans (HBR.out.mono (by have := HB1.out.size; omega)))
      obtain ⟨⟨q0, q1, q2, q3, f0, f1, f2, f3⟩, -⟩ := T1.out _ P1.out
      clear BXR sf0 sf1 HBR OE OO DJ hqe hne hno hqn
      generalize w1.heap.size = n1z at *
      subst hb5e
      go_wp2_with fail
      (with_reducible refine (disks_any _ _ _ _ _ _ _ _ _ _ _ _ _).mono ?_); rintro _ w2 ⟨rfl, b2⟩
      have y2 := b2.size
      have P2 : Hid (Below (w.heap.size + 2) W0 w2) := Lib.hid (P1.out.trans (b2.mono (by omega)))
      have HB2 := Lib.hid (HB1.out.trans ((b2.mono (by omega)).mono (by omega)))
      have HS2 := Lib.hid b2
      have HSF : Hid (∀ W, Below w2.heap.size w2 W → Box2 W b5 (.slice F0 N0 e0) (.slice F1 N1 e1)) := Lib.hid (fun W hW => BF.out.below (HS2.out.trans (hW.mono HS2.out.size)) (by omega))
      have CA : Hid (∀ W, Below w2.heap.size w2 W → Calls Try.prog 56 #[.agg #[.slice A0 n0 c0, .slice A1 n1 c1], .slice F0 N0 e0] W (DkRes W n0 (fallM k0 v0 (evs fs)) 0 [])) := Lib.hid (fun W hW => by
        have hwW := HB2.out.trans (hW.mono (by have := HB2.out.size; omega))
        exact fallen_any A0 n0 c0 k0 A1 n1 c1 v0 lo hi W (H0.out.below hwW hhi) (H1.out.below hwW hhi) (Nat.le_trans hhi hwW.size) F0 _ e0 _ _ (evs fs) (SF0.out.below (HS2.out.trans (hW.mono HS2.out.size)) (Nat.le_refl _)) (Nat.le_trans HS2.out.size hW.size) hda)
      have CB : Hid (∀ W, Below w2.heap.size w2 W → Calls Try.prog 56 #[.agg #[.slice A2 n2 c2, .slice A3 n3 c3], .slice F1 N1 e1] W (DkRes W n2 (fallM k2 v2 (ods fs)) 0 [])) := Lib.hid (fun W hW => by
        have hwW := HB2.out.trans (hW.mono (by have := HB2.out.size; omega))
        exact fallen_any A2 n2 c2 k2 A3 n3 c3 v2 lo hi W (H2.out.below hwW hhi) (H3.out.below hwW hhi) (Nat.le_trans hhi hwW.size) F1 _ e1 _ _ (ods fs) (SF1.out.below (HS2.out.trans (hW.mono HS2.out.size)) (Nat.le_refl _)) (Nat.le_trans HS2.out.size hW.size) hdb)
      have KB := Box4.new w2 (.slice A0 n0 c0) (.slice A1 n1 c1) (.slice A2 n2 c2) (.slice A3 n3 c3) 139
      have hst : Below w2.heap.size w2 (w2.alloc (.cells #[.slice A0 n0 c0, .slice A1 n1 c1, .slice A2 n2 c2, .slice A3 n3 c3] 139)) := (Below.refl _ _).alloc (Nat.le_refl _) _
      have hss : (w2.alloc (.cells #[.slice A0 n0 c0, .slice A1 n1 c1, .slice A2 n2 c2, .slice A3 n3 c3] 139)).heap.size = w2.heap.size + 1 := World.heap_size_alloc _ _
      have HST := Lib.hid hst
      obtain ⟨k0', k1', k2', k3', -, -, -, -⟩ := id KB
      have KBH := Lib.hid KB
      clear q0 q1 q2 q3 f0 f1 f2 f3 b2 KB hst
      go_wp2_with fail
      generalize hWs : (w2.alloc (.cells #[.slice A0 n0 c0, .slice A1 n1 c1, .slice A2 n2 c2, .slice A3 n3 c3] 139)) = Ws at *
      clear hWs k0' k1' k2' k3'
      go_loopw [9, 10, 37] (fun _ _ i wr => (i = .int .i64 0 ∧ wr = Ws) ∨ (i = .int .i64 1 ∧ ∃ (X0 : Option Addr) (d0 : Nat) (X1 : Option Addr) (d1 : Nat), Box4 wr w2.heap.size (.slice X0 n0 d0) (.slice X1 0 d1) (.slice A2 n2 c2) (.slice A3 n3 c3) ∧ Hid (SlR wr (w2.heap.size + 1) wr.heap.size X0 n0 d0 (fallM k0 v0 (evs fs))) ∧ Hid (SlW wr (w2.heap.size + 1) wr.heap.size X1 0 d1 []) ∧ Hid (Below w2.heap.size Ws wr) ∧ w2.heap.size + 1 ≤ wr.heap.size) ∨ (i = .int .i64 2 ∧ ∃ (X0 : Option Addr) (d0 : Nat) (X1 : Option Addr) (d1 : Nat) (X2 : Option Addr) (d2 : Nat) (X3 : Option Addr) (d3 : Nat), Box4 wr w2.heap.size (.slice X0 n0 d0) (.slice X1 0 d1) (.slice X2 n2 d2) (.slice X3 0 d3) ∧ Hid (SlR wr (w2.heap.size + 1) wr.heap.size X0 n0 d0 (fallM k0 v0 (evs fs))) ∧ Hid (SlW wr (w2.heap.size + 1) wr.heap.size X1 0 d1 []) ∧ Hid (SlR wr (w2.heap.size + 1) wr.heap.size X2 n2 d2 (fallM k2 v2 (ods fs))) ∧ Hid (SlW wr (w2.heap.size + 1) wr.heap.size X3 0 d3 []) ∧ Hid (Below w2.heap.size Ws wr) ∧ w2.heap.size + 1 ≤ wr.heap.size)) (fun _ _ i _ => 2 - (intOf i).toNat)
      case atStart => exact .inl ⟨rfl, rfl⟩
      case round =>
        rcases hrel with ⟨rfl, rfl⟩ | ⟨rfl, X0, d0, X1, d1, bx, S0, S1, hb, hlt⟩ | ⟨rfl, X0, d0, X1, d1, X2, d2, X3, d3, bx, S0, S1, S2, S3, hb, hlt⟩
        · have hx : Below wr.heap.size wr (wr.alloc (.cells #[.slice A0 n0 c0, .slice A1 n1 c1] 67)) := (Below.refl _ _).alloc (Nat.le_refl _) _
          have hxb : Below w2.heap.size w2 (wr.alloc (.cells #[.slice A0 n0 c0, .slice A1 n1 c1] 67)) := HST.out.trans (hx.mono (by omega))
          have HXB := Lib.hid hxb
          obtain ⟨e0, e1, -, -⟩ := Box2.new wr (.slice A0 n0 c0) (.slice A1 n1 c1) 67
          have BX := Lib.hid (KBH.out.below hx (by omega))
          have hxs : (wr.alloc (.cells #[.slice A0 n0 c0, .slice A1 n1 c1] 67)).heap.size = wr.heap.size + 1 := World.heap_size_alloc _ _
          clear hx hxb
          obtain ⟨u0, u1, -, -⟩ := HSF.out _ HXB.out
          go_upto_region 13 with fail
          go_region_law (first | (go_simp; go_at_call 56; (with_reducible refine (CA.out _ (by first | exact HXB.out | exact HXB.out.drew | (repeat' (first | with_reducible exact Below.refl _ _ | with_reducible assumption | with_reducible refine Below.drew ?_ | with_reducible refine Below.alloc ?_ ?_ _ | with_reducible refine Below.setCell ?_ ?_ _ | with_reducible refine Below.trans ?_ (Below.mono (by assumption) ?_) | ((try simp only [World.heap_size_alloc, World.heap_size_drew, World.heap_size_setCell]); omega))))).mono ?_); rintro _ w3 ⟨X0, d0, X1, d1, rfl, s0, s1, b3⟩; have y3 := b3.size; (try simp only [World.heap_size_alloc, World.heap_size_drew] at y3); have hdw : Below (wr.heap.size + 1) (wr.alloc (.cells #[.slice A0 n0 c0, .slice A1 n1 c1] 67)) w3 := Below.trans (by (repeat' (first | with_reducible exact Below.refl _ _ | with_reducible assumption | with_reducible refine Below.drew ?_ | with_reducible refine Below.alloc ?_ ?_ _ | with_reducible refine Below.setCell ?_ ?_ _ | with_reducible refine Below.trans ?_ (Below.mono (by assumption) ?_) | ((try simp only [World.heap_size_alloc, World.heap_size_drew, World.heap_size_setCell]); omega)))) (b3.mono (by (try simp only [World.heap_size_alloc, World.heap_size_drew, World.heap_size_setCell]); omega)); have bx3 := BX.out.below hdw (by omega); have b30 := b3; obtain ⟨r0, r1, -, -, rf0, rf1, -, -⟩ := id bx3; have BX3 := Lib.hid (bx3.set01 (.slice X0 n0 d0) (.slice X1 0 d1)); have hb3 : Below w2.heap.size wr w3 := ((Below.refl _ _).alloc (by omega) _).trans (hdw.mono (by omega)); have HB3 := Lib.hid (hb3.trans (below2 (Nat.le_refl _)) : Below w2.heap.size wr ((w3.setCell ⟨w2.heap.size, 0, none⟩ (.slice X0 n0 d0)).setCell ⟨w2.heap.size, 1, none⟩ (.slice X1 0 d1))); have S0 := Lib.hid (s0.at2 (b := w2.heap.size) (p := 0) (q := 1) (x := .slice X0 n0 d0) (y := .slice X1 0 d1) (lo' := w2.heap.size + 1) (by (try simp only [World.heap_size_alloc, World.heap_size_drew, World.heap_size_setCell]); omega) (by (try simp only [World.heap_size_alloc, World.heap_size_drew, World.heap_size_setCell]); omega) (by (try simp only [World.heap_size_alloc, World.heap_size_drew, World.heap_size_setCell]); omega)); have S1 := Lib.hid (s1.at2 (b := w2.heap.size) (p := 0) (q := 1) (x := .slice X0 n0 d0) (y := .slice X1 0 d1) (lo' := w2.heap.size + 1) (by (try simp only [World.heap_size_alloc, World.heap_size_drew, World.heap_size_setCell]); omega) (by (try simp only [World.heap_size_alloc, World.heap_size_drew, World.heap_size_setCell]); omega) (by (try simp only [World.heap_size_alloc, World.heap_size_drew, World.heap_size_setCell]); omega)); clear s0 s1 b3 hb3 bx3 BX b30))
          all_goals
            go_wp2_with fail
            go_roundw
            case rel => exact .inr (.inl ⟨by go_num, X0, d0, X1, d1, BX3.out, S0, S1, HB3, by rw [size2]; omega⟩)
            case measure => simp [intOf]
        · have hx : Below wr.heap.size wr (wr.alloc (.cells #[.slice A2 n2 c2, .slice A3 n3 c3] 67)) := (Below.refl _ _).alloc (Nat.le_refl _) _
          have hxb : Below w2.heap.size w2 (wr.alloc (.cells #[.slice A2 n2 c2, .slice A3 n3 c3] 67)) := HST.out.trans (hb.out.trans (hx.mono (by omega)))
          have HXB := Lib.hid hxb
          obtain ⟨e0, e1, -, -⟩ := Box2.new wr (.slice A2 n2 c2) (.slice A3 n3 c3) 67
          have BX := Lib.hid (bx.below hx (by omega))
          have hxs : (wr.alloc (.cells #[.slice A2 n2 c2, .slice A3 n3 c3] 67)).heap.size = wr.heap.size + 1 := World.heap_size_alloc _ _
          clear hx hxb bx
          obtain ⟨u0, u1, -, -⟩ := HSF.out _ HXB.out
          go_upto_region 13 with fail
          go_region_law (first | (go_simp; go_at_call 56; (with_reducible refine (CB.out _ (by first | exact HXB.out | exact HXB.out.drew | (repeat' (first | with_reducible exact Below.refl _ _ | with_reducible assumption | with_reducible refine Below.drew ?_ | with_reducible refine Below.alloc ?_ ?_ _ | with_reducible refine Below.setCell ?_ ?_ _ | with_reducible refine Below.trans ?_ (Below.mono (by assumption) ?_) | ((try simp only [World.heap_size_alloc, World.heap_size_drew, World.heap_size_setCell]); omega))))).mono ?_); rintro _ w3 ⟨X2, d2, X3, d3, rfl, s2, s3, b3⟩; have y3 := b3.size; (try simp only [World.heap_size_alloc, World.heap_size_drew] at y3); have hdw : Below (wr.heap.size + 1) (wr.alloc (.cells #[.slice A2 n2 c2, .slice A3 n3 c3] 67)) w3 := Below.trans (by (repeat' (first | with_reducible exact Below.refl _ _ | with_reducible assumption | with_reducible refine Below.drew ?_ | with_reducible refine Below.alloc ?_ ?_ _ | with_reducible refine Below.setCell ?_ ?_ _ | with_reducible refine Below.trans ?_ (Below.mono (by assumption) ?_) | ((try simp only [World.heap_size_alloc, World.heap_size_drew, World.heap_size_setCell]); omega)))) (b3.mono (by (try simp only [World.heap_size_alloc, World.heap_size_drew, World.heap_size_setCell]); omega)); have bx3 := BX.out.below hdw (by omega); have b30 := b3; obtain ⟨-, -, r0, r1, -, -, rf0, rf1⟩ := id bx3; have BX3 := Lib.hid (bx3.set23 (.slice X2 n2 d2) (.slice X3 0 d3)); have hb3 : Below wr.heap.size wr w3 := ((Below.refl _ _).alloc (Nat.le_refl _) _).trans (hdw.mono (by omega)); have HB3 := Lib.hid ((hb.out.trans (hb3.mono (by omega))).trans (below2 (Nat.le_refl _)) : Below w2.heap.size Ws ((w3.setCell ⟨w2.heap.size, 2, none⟩ (.slice X2 n2 d2)).setCell ⟨w2.heap.size, 3, none⟩ (.slice X3 0 d3))); have Z2 := Lib.hid (s2.at2 (b := w2.heap.size) (p := 2) (q := 3) (x := .slice X2 n2 d2) (y := .slice X3 0 d3) (lo' := w2.heap.size + 1) (by (try simp only [World.heap_size_alloc, World.heap_size_drew, World.heap_size_setCell]); omega) (by (try simp only [World.heap_size_alloc, World.heap_size_drew, World.heap_size_setCell]); omega) (by (try simp only [World.heap_size_alloc, World.heap_size_drew, World.heap_size_setCell]); omega)); have Z3 := Lib.hid (s3.at2 (b := w2.heap.size) (p := 2) (q := 3) (x := .slice X2 n2 d2) (y := .slice X3 0 d3) (lo' := w2.heap.size + 1) (by (try simp only [World.heap_size_alloc, World.heap_size_drew, World.heap_size_setCell]); omega) (by (try simp only [World.heap_size_alloc, World.heap_size_drew, World.heap_size_setCell]); omega) (by (try simp only [World.heap_size_alloc, World.heap_size_drew, World.heap_size_setCell]); omega)); have Z0 := Lib.hid ((S0.out.below hb3 (Nat.le_refl _)).at2 (b := w2.heap.size) (p := 2) (q := 3) (x := .slice X2 n2 d2) (y := .slice X3 0 d3) (lo' := w2.heap.size + 1) (Nat.le_refl _) (Nat.le_refl _) (by (try simp only [World.heap_size_alloc, World.heap_size_drew, World.heap_size_setCell]); omega)); have Z1 := Lib.hid ((S1.out.below hb3 (Nat.le_refl _)).at2 (b := w2.heap.size) (p := 2) (q := 3) (x := .slice X2 n2 d2) (y := .slice X3 0 d3) (lo' := w2.heap.size + 1) (Nat.le_refl _) (Nat.le_refl _) (by (try simp only [World.heap_size_alloc, World.heap_size_drew, World.heap_size_setCell]); omega)); clear s2 s3 b3 hb3 bx3 BX hb S0 S1 b30))
          all_goals
            go_wp2_with fail
            go_roundw
            case rel => exact .inr (.inr ⟨by go_num, X0, d0, X1, d1, X2, d2, X3, d3, BX3.out, Z0, Z1, Z2, Z3, HB3, by rw [size2]; omega⟩)
            case measure => simp [intOf]
        · have BR := Lib.hid (T1.out _ (P2.out.trans ((HST.out.trans (hb.out.mono (Nat.le_refl _))).mono (by omega)))).2
          obtain ⟨r0, r1, r2, r3, -, -, -, -⟩ := bx
          have HBR := Lib.hid (HB2.out.trans ((HST.out.trans hb.out).mono (by omega)))
          clear hb
          go_wp2_with fail
          (with_reducible refine (twoOf_any _ _ _ _ _ _ _ _ _ _ _ _ _).mono ?_); rintro _ w3 ⟨rfl, b3⟩
          have y3 := b3.size
          obtain ⟨p0, p1, p2, p3, g0, g1, g2, g3⟩ := BR.out.below b3 (by omega)
          have hb4 : Below (w.heap.size + 1) w3 ((((w3.setCell ⟨w.heap.size + 1, 0, none⟩ (.slice X0 n0 d0)).setCell ⟨w.heap.size + 1, 1, none⟩ (.slice X1 0 d1)).setCell ⟨w.heap.size + 1, 2, none⟩ (.slice X2 n2 d2)).setCell ⟨w.heap.size + 1, 3, none⟩ (.slice X3 0 d3)) := below4 (Nat.le_refl _)
          have hu4 : Upd (w.heap.size + 1) (w.heap.size + 2) w3 ((((w3.setCell ⟨w.heap.size + 1, 0, none⟩ (.slice X0 n0 d0)).setCell ⟨w.heap.size + 1, 1, none⟩ (.slice X1 0 d1)).setCell ⟨w.heap.size + 1, 2, none⟩ (.slice X2 n2 d2)).setCell ⟨w.heap.size + 1, 3, none⟩ (.slice X3 0 d3)) := up4
          have Z0 := Lib.hid ((S0.out.below b3 (Nat.le_refl _)).at4 (b := w.heap.size + 1) (x := .slice X0 n0 d0) (y := .slice X1 0 d1) (z := .slice X2 n2 d2) (u := .slice X3 0 d3) (lo' := w.heap.size) (by omega) (by omega) (by omega))
          have Z1 := Lib.hid ((S1.out.below b3 (Nat.le_refl _)).at4 (b := w.heap.size + 1) (x := .slice X0 n0 d0) (y := .slice X1 0 d1) (z := .slice X2 n2 d2) (u := .slice X3 0 d3) (lo' := w.heap.size) (by omega) (by omega) (by omega))
          have Z2 := Lib.hid ((S2.out.below b3 (Nat.le_refl _)).at4 (b := w.heap.size + 1) (x := .slice X0 n0 d0) (y := .slice X1 0 d1) (z := .slice X2 n2 d2) (u := .slice X3 0 d3) (lo' := w.heap.size) (by omega) (by omega) (by omega))
          have Z3 := Lib.hid ((S3.out.below b3 (Nat.le_refl _)).at4 (b := w.heap.size + 1) (x := .slice X0 n0 d0) (y := .slice X1 0 d1) (z := .slice X2 n2 d2) (u := .slice X3 0 d3) (lo' := w.heap.size) (by omega) (by omega) (by omega))
          have HBZ := Lib.hid ((HBR.out.trans (b3.mono (by omega))).trans (hb4.mono (by omega)))
          clear b3 hb4 hu4 S0 S1 S2 S3
          go_wp2_with fail
          refine bodyPost_ret (v := .agg #[.slice X0 n0 d0, .slice X1 0 d1, .slice X2 n2 d2, .slice X3 0 d3]) (by simp [results, Try.results62, go_sem, p0, p1, p2, p3, g0, g1, g2, g3]) rfl ⟨X0, d0, X1, d1, X2, d2, X3, d3, rfl, Z0.out, Z1.out, Z2.out, Z3.out, HBZ.out⟩
end Go.Proofs.Ytgnilmdaegnaaaa
