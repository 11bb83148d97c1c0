/- Heads and rows of drawn lists. No conditions. -/
import Derived.Test.YtgnilmdaegnaaaaZDk11
import Derived.Test.YtgnilmdaegnaaaaZRow1
import Derived.Test.YtgnilmdaegnaaaaZSeen7
import Derived.Test.YtgnilmdaegnaaaaZGen0
import Derived.Test.YtgnilmdaegnaaaaZSeen0
import Derived.Test.YtgnilmdaegnaaaaZCut
set_option linter.unusedSimpArgs false
set_option linter.unusedVariables false
namespace Go.Proofs.Ytgnilmdaegnaaaa
open Go.RowKit
theorem markAt_btw {l : List MarkD} (h : seenOk l = true) (c : Int) : btw (markAt l c).seq 0 1000000000 = true ∧ btw (markAt l c).index 0 1000000000 = true := by
  unfold markAt atClient
  cases e : l.find? (fun m => m.client == c) with
  | none => exact ⟨by decide, by decide⟩
  | some m =>
    obtain ⟨-, ⟨a1, a2⟩, a3, a4⟩ := seenOk_markOk h (List.mem_of_find?_eq_some e)
    exact ⟨btw_iff.2 ⟨by show 0 ≤ m.seq; omega, by show m.seq ≤ 1000000000; omega⟩, btw_iff.2 ⟨by show 0 ≤ m.index; omega, by show m.index ≤ 1000000000; omega⟩⟩
theorem headRow_ok {u b t : Int} {l : List MarkD} (h : headOk u b t l = true) : (headRow u b t l).length = 13 ∧ rowOk (headRow u b t l) = true ∧ (headRow u b t l)[0]? = some u ∧ (headRow u b t l)[11]? = some u ∧ (headRow u b t l)[12]? = some u := by
  have hs := headOk_seen h
  have h9 := h
  simp only [headOk, Bool.and_eq_true, btw_iff, Bool.or_eq_true, decide_eq_true_eq, beq_iff_eq] at h
  obtain ⟨⟨b0, b1⟩, ⟨u0, u1⟩, ⟨t0, t1⟩, -⟩ := h
  have e : headRow u b t l = [u, b, t] ++ markRows l 4 ++ [u, u] := if_pos h9
  have hbu : btw u 0 1000000000 = true := btw_iff.2 ⟨by omega, by omega⟩
  have hbb : btw b 0 1000000000 = true := btw_iff.2 ⟨by omega, by omega⟩
  have hbt : btw t 0 1000000000 = true := btw_iff.2 ⟨by omega, by omega⟩
  rw [e]
  refine ⟨by simp [markRows], ?_, by simp [markRows], by simp [markRows], by simp [markRows]⟩
  simp only [rowOk, markRows, Bool.and_eq_true, decide_eq_true_eq]
  refine ⟨by simp, ?_⟩
  simp only [List.nil_append, List.append_assoc, List.cons_append, List.all_cons, List.all_nil, Bool.and_eq_true, hbu, hbb, hbt, (markAt_btw hs _).1, (markAt_btw hs _).2, Bool.and_true]
theorem slotRow_ok {e : EntryD} (h : entryOk e = true) : (slotRow e).length = 11 ∧ rowOk (slotRow e) = true ∧ (slotRow e)[0]? = some e.index ∧ (slotRow e)[9]? = some e.index ∧ (slotRow e)[10]? = some e.index := by
  have e1 : slotRow e = e.ints ++ [e.index, e.index] := if_pos h
  obtain ⟨i, t, c, s, k, a, b, cc, d⟩ := e
  rw [e1]
  simp only [entryOk, Bool.and_eq_true, btw_iff] at h
  obtain ⟨⟨⟨⟨⟨i0, i1⟩, t0, t1⟩, c0, c1⟩, s0, s1⟩, ho⟩ := h
  have hop : (0 ≤ k ∧ k ≤ 1000000000) ∧ (0 ≤ a ∧ a ≤ 1000000000) ∧ (0 ≤ b ∧ b ≤ 1000000000) ∧ (0 ≤ cc ∧ cc ≤ 1000000000) ∧ (0 ≤ d ∧ d ≤ 1000000000) := by
    simp only [opOk] at ho
    split at ho
    · simp only [Bool.and_eq_true, btw_iff, beq_iff_eq] at ho
      simp only [] at *
      omega
    · split at ho
      · simp only [Bool.and_eq_true, btw_iff, beq_iff_eq] at ho
        simp only [] at *
        omega
      · split at ho
        · simp only [Bool.and_eq_true, btw_iff, beq_iff_eq] at ho
          simp only [] at *
          omega
        · split at ho
          · simp only [Bool.and_eq_true, btw_iff, beq_iff_eq] at ho
            simp only [] at *
            omega
          · split at ho
            · simp only [Bool.and_eq_true, btw_iff, beq_iff_eq] at ho
              simp only [] at *
              omega
            · cases ho
  obtain ⟨⟨k0, k1⟩, ⟨a0, a1⟩, ⟨b0, b1⟩, ⟨q0, q1⟩, d0, d1⟩ := hop
  refine ⟨rfl, ?_, rfl, rfl, rfl⟩
  simp only [rowOk, EntryD.ints, OpD.ints, Bool.and_eq_true, decide_eq_true_eq, List.all_cons, List.all_nil, List.cons_append, List.nil_append, btw_iff, Bool.and_true]
  refine ⟨by simp, ?_⟩
  (repeat' apply And.intro) <;> first | assumption | omega
theorem rowOk_sum {zs : List Int} (h : rowOk zs = true) (hl : zs.length < 48) : rowOk (zs ++ [sumM zs]) = true := by
  simp only [rowOk, Bool.and_eq_true, decide_eq_true_eq, List.all_append, List.length_append, List.length_singleton] at h ⊢
  obtain ⟨h0, h1⟩ := sumM_btw zs
  refine ⟨by omega, h.2, ?_⟩
  simp only [List.all_cons, List.all_nil, Bool.and_true]
  exact btw_iff.2 ⟨h0, by omega⟩
theorem rowOk_all {zs : List Int} : rowOk zs = true ↔ zs.length ≤ 48 ∧ ∀ x ∈ zs, btw x 0 1000000000 = true := by
  simp only [rowOk, Bool.and_eq_true, decide_eq_true_eq, List.all_eq_true]
theorem rowOk_torn {zs ys : List Int} (h : rowOk zs = true) (k : rowOk ys = true) : rowOk (tornM zs ys) = true := by
  obtain ⟨h1, h2⟩ := rowOk_all.1 h
  obtain ⟨k1, k2⟩ := rowOk_all.1 k
  refine rowOk_all.2 ⟨tornM_len h1 k1, fun x hx => ?_⟩
  rcases List.mem_append.1 hx with hx | hx
  · exact h2 x (List.mem_of_mem_take hx)
  · exact k2 x (List.mem_of_mem_drop hx)
end Go.Proofs.Ytgnilmdaegnaaaa
