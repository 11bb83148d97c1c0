/- Heads and rows of drawn lists. No conditions. -/
import Derived.Test.YtgnilmdaegnaaaaDk11
import Derived.Test.YtgnilmdaegnaaaaRow1
import Derived.Test.YtgnilmdaegnaaaaSeen7
import Derived.Test.YtgnilmdaegnaaaaSeenG
import Derived.Test.YtgnilmdaegnaaaaCut
set_option linter.unusedSimpArgs false
set_option linter.unusedVariables false
namespace Go.Proofs.Ytgnilmdaegnaaaa
open Go.RowKit

theorem genE_take : ∀ (ds : List DrawE) (s : StE) (m : Nat), (genE s ds).take m = genE s (ds.take m)
  | _, _, 0 => by simp [genE]
  | [], _, m + 1 => by simp [genE]
  | d :: ds, s, m + 1 => by simp [genE, genE_take ds _ m]
def w9Time (l : List EntryD) (b : Nat) : Int := match l[b - 1]? with
  | some e => e.time
  | none => 0
def w9Seen (l : List EntryD) (b : Nat) : List MarkD := (seenOver [] (l.take b)).1
theorem w9_ok {ds : List DrawE} (hd : ∀ d ∈ ds, drawOk d) (hl : ds.length ≤ 900) {num b : Nat} (h1 : 1 ≤ b) (h2 : b ≤ (genE st0 ds).length) (h3 : num ≤ b) :
    headOk (num : Int) (b : Int) (w9Time (genE st0 ds) b) (w9Seen (genE st0 ds) b) = true ∧ seenOk (w9Seen (genE st0 ds) b) = true := by
  have hd2 : ∀ d ∈ ds.take b, drawOk d := fun d h => hd d (List.mem_of_mem_take h)
  have hlen := genE_len ds st0
  obtain ⟨r, hr, hrk, hri, -⟩ := over0 hd2 (by rw [List.length_take]; omega)
  have hl2 : (genE st0 (ds.take b)).length = b := by
    rw [genE_len, List.length_take]
    omega
  have e1 : w9Seen (genE st0 ds) b = r := by
    unfold w9Seen
    rw [genE_take, seenOver_some rfl (by omega) hr]
  obtain ⟨e, he⟩ : ∃ e, (genE st0 ds)[b - 1]? = some e := ⟨(genE st0 ds)[b - 1]'(by omega), List.getElem?_eq_getElem _⟩
  obtain ⟨-, a2, a3, -⟩ := gen0_at hd he
  have e2 : w9Time (genE st0 ds) b = e.time := by simp [w9Time, he]
  rw [e1, e2]
  refine ⟨?_, hrk⟩
  have e3 : lastSeen r = (b : Int) := by
    unfold lastSeen
    rw [if_pos hrk, hri, hl2]
  simp only [headOk, Bool.and_eq_true, btw_iff, Bool.or_eq_true, decide_eq_true_eq, beq_iff_eq]
  exact ⟨⟨by omega, by omega⟩, ⟨by omega, by omega⟩, ⟨by omega, by omega⟩, .inl (by omega), hrk, e3⟩
theorem markAt_btw {l : List MarkD} (h : seenOk l = true) (c : Int) : btw (markAt l c).seq 0 1000000000 = true ∧ btw (markAt l c).index 0 1000000000 = true := by
  unfold markAt atClient
  cases e : l.find? (fun m => m.client == c) with
  | none => exact ⟨by decide, by decide⟩
  | some m =>
    obtain ⟨-, ⟨a1, a2⟩, a3, a4⟩ := seenOk_markOk h (List.mem_of_find?_eq_some e)
    exact ⟨btw_iff.2 ⟨by show 0 ≤ m.seq; omega, by show m.seq ≤ 1000000000; omega⟩, btw_iff.2 ⟨by show 0 ≤ m.index; omega, by show m.index ≤ 1000000000; omega⟩⟩
theorem headRow_ok {u b t : Int} {l : List MarkD} (h : headOk u b t l = true) : (headRow u b t l).length = 13 ∧ rowOk (headRow u b t l) = true ∧ (headRow u b t l)[0]? = some u ∧ (headRow u b t l)[11]? = some u ∧ (headRow u b t l)[12]? = some u := by
  have hs := headOk_seen h
  have h9 := h
  simp only [headOk, Bool.and_eq_true, btw_iff, Bool.or_eq_true, decide_eq_true_eq, beq_iff_eq] at h
  obtain ⟨⟨b0, b1⟩, ⟨u0, u1⟩, ⟨t0, t1⟩, -⟩ := h
  have e : headRow u b t l = [u, b, t] ++ markRows l 4 ++ [u, u] := if_pos h9
  have hbu : btw u 0 1000000000 = true := btw_iff.2 ⟨by omega, by omega⟩
  have hbb : btw b 0 1000000000 = true := btw_iff.2 ⟨by omega, by omega⟩
  have hbt : btw t 0 1000000000 = true := btw_iff.2 ⟨by omega, by omega⟩
  rw [e]
  refine ⟨by simp [markRows], ?_, by simp [markRows], by simp [markRows], by simp [markRows]⟩
  simp only [rowOk, markRows, Bool.and_eq_true, decide_eq_true_eq]
  refine ⟨by simp, ?_⟩
  simp only [List.nil_append, List.append_assoc, List.cons_append, List.all_cons, List.all_nil, Bool.and_eq_true, hbu, hbb, hbt, (markAt_btw hs _).1, (markAt_btw hs _).2, Bool.and_true]
theorem slotRow_ok {e : EntryD} (h : entryOk e = true) : (slotRow e).length = 11 ∧ rowOk (slotRow e) = true ∧ (slotRow e)[0]? = some e.index ∧ (slotRow e)[9]? = some e.index ∧ (slotRow e)[10]? = some e.index := by
  have e1 : slotRow e = e.ints ++ [e.index, e.index] := if_pos h
  obtain ⟨i, t, c, s, k, a, b, cc, d⟩ := e
  rw [e1]
  simp only [entryOk, Bool.and_eq_true, btw_iff] at h
  obtain ⟨⟨⟨⟨⟨i0, i1⟩, t0, t1⟩, c0, c1⟩, s0, s1⟩, ho⟩ := h
  have hop : (0 ≤ k ∧ k ≤ 1000000000) ∧ (0 ≤ a ∧ a ≤ 1000000000) ∧ (0 ≤ b ∧ b ≤ 1000000000) ∧ (0 ≤ cc ∧ cc ≤ 1000000000) ∧ (0 ≤ d ∧ d ≤ 1000000000) := by
    simp only [opOk] at ho
    split at ho
    · simp only [Bool.and_eq_true, btw_iff, beq_iff_eq] at ho
      simp only [] at *
      omega
    · split at ho
      · simp only [Bool.and_eq_true, btw_iff, beq_iff_eq] at ho
        simp only [] at *
        omega
      · split at ho
        · simp only [Bool.and_eq_true, btw_iff, beq_iff_eq] at ho
          simp only [] at *
          omega
        · split at ho
          · simp only [Bool.and_eq_true, btw_iff, beq_iff_eq] at ho
            simp only [] at *
            omega
          · split at ho
            · simp only [Bool.and_eq_true, btw_iff, beq_iff_eq] at ho
              simp only [] at *
              omega
            · cases ho
  obtain ⟨⟨k0, k1⟩, ⟨a0, a1⟩, ⟨b0, b1⟩, ⟨q0, q1⟩, d0, d1⟩ := hop
  refine ⟨rfl, ?_, rfl, rfl, rfl⟩
  simp only [rowOk, EntryD.ints, OpD.ints, Bool.and_eq_true, decide_eq_true_eq, List.all_cons, List.all_nil, List.cons_append, List.nil_append, btw_iff, Bool.and_true]
  refine ⟨by simp, ?_⟩
  (repeat' apply And.intro) <;> first | assumption | omega
theorem rowOk_sum {zs : List Int} (h : rowOk zs = true) (hl : zs.length < 48) : rowOk (zs ++ [sumM zs]) = true := by
  simp only [rowOk, Bool.and_eq_true, decide_eq_true_eq, List.all_append, List.length_append, List.length_singleton] at h ⊢
  obtain ⟨h0, h1⟩ := sumM_btw zs
  refine ⟨by omega, h.2, ?_⟩
  simp only [List.all_cons, List.all_nil, Bool.and_true]
  exact btw_iff.2 ⟨h0, by omega⟩
theorem rowOk_all {zs : List Int} : rowOk zs = true ↔ zs.length ≤ 48 ∧ ∀ x ∈ zs, btw x 0 1000000000 = true := by
  simp only [rowOk, Bool.and_eq_true, decide_eq_true_eq, List.all_eq_true]
theorem rowOk_rot {zs : List Int} (h : rowOk zs = true) (i x : Int) : rowOk (rotM zs i x) = true := by
  unfold rotM
  split
  · rename_i hr
    simp only [rotOk, Bool.and_eq_true] at hr
    obtain ⟨h1, h2⟩ := rowOk_all.1 h
    refine rowOk_all.2 ⟨by rw [List.length_set]; exact h1, fun y hy => ?_⟩
    rcases List.mem_or_eq_of_mem_set hy with h3 | rfl
    · exact h2 y h3
    · exact hr.2
  · exact h
theorem rotM_len (zs : List Int) (i x : Int) : (rotM zs i x).length = zs.length := by
  unfold rotM
  split <;> simp
theorem rowOk_torn {zs ys : List Int} (h : rowOk zs = true) (k : rowOk ys = true) : rowOk (tornM zs ys) = true := by
  obtain ⟨h1, h2⟩ := rowOk_all.1 h
  obtain ⟨k1, k2⟩ := rowOk_all.1 k
  refine rowOk_all.2 ⟨tornM_len h1 k1, fun x hx => ?_⟩
  rcases List.mem_append.1 hx with hx | hx
  · exact h2 x (List.mem_of_mem_take hx)
  · exact k2 x (List.mem_of_mem_drop hx)
/-- A torn row is no entry and no head. -/
theorem torn_none {r0 r1 : List Int} {N : Nat} {a b i x : Int} (hN : N = 11 ∨ N = 13) (h0 : r0.length = N) (h1 : r1.length = N) (hab : a ≠ b) (g1 : r1[0]? = some b) (ga : r0[N - 2]? = some a) (gb : r0[N - 1]? = some a) :
    (rowSlot (unsM (tornM (r1 ++ [sumM r1]) (rotM (r0 ++ [sumM r0]) i x)))).2 = false ∧ (rowHead (unsM (tornM (r1 ++ [sumM r1]) (rotM (r0 ++ [sumM r0]) i x)))).2.2.2.2 = false := by
  by_cases hu : unsOk (tornM (r1 ++ [sumM r1]) (rotM (r0 ++ [sumM r0]) i x)) = true
  · have e : unsM (tornM (r1 ++ [sumM r1]) (rotM (r0 ++ [sumM r0]) i x)) = (tornM (r1 ++ [sumM r1]) (rotM (r0 ++ [sumM r0]) i x)).take ((tornM (r1 ++ [sumM r1]) (rotM (r0 ++ [sumM r0]) i x)).length - 1) := if_pos hu
    have hrl := rotM_len (r0 ++ [sumM r0]) i x
    have hl : (tornM (r1 ++ [sumM r1]) (rotM (r0 ++ [sumM r0]) i x)).length = N + 1 := by
      simp only [tornM, List.length_append, List.length_take, List.length_drop, hrl, List.length_singleton]
      omega
    rw [hl] at e
    rw [e]
    clear e hu
    generalize hT : tornM (r1 ++ [sumM r1]) (rotM (r0 ++ [sumM r0]) i x) = T at *
    have hlt : (T.take (N + 1 - 1)).length = N := by rw [List.length_take]; omega
    have q0 : (T.take (N + 1 - 1))[0]? = some b := by
      rw [List.getElem?_take, if_pos (by omega), ← hT, tornM, List.getElem?_append_left (by simp only [List.length_take, List.length_append, List.length_singleton]; omega), List.getElem?_take, if_pos (by simp only [List.length_append, List.length_singleton]; omega), List.getElem?_append_left (by omega)]
      exact g1
    have qj : ∀ j, (r1.length + 1) / 2 ≤ j → j < N → (T.take (N + 1 - 1))[j]? = (rotM (r0 ++ [sumM r0]) i x)[j]? := fun j hj hjn => by
      rw [List.getElem?_take, if_pos (by omega), ← hT, tornM, List.getElem?_append_right (by simp only [List.length_take, List.length_append, List.length_singleton]; omega), List.getElem?_drop]
      congr 1
      simp only [List.length_take, List.length_append, List.length_singleton]
      omega
    have key : ¬ ((T.take (N + 1 - 1)).getD (N - 2) 0 = (T.take (N + 1 - 1)).getD 0 0 ∧ (T.take (N + 1 - 1)).getD (N - 1) 0 = (T.take (N + 1 - 1)).getD 0 0) := by
      rw [List.getD, List.getD, List.getD, q0, qj (N - 2) (by omega) (by omega), qj (N - 1) (by omega) (by omega)]
      have s0 : (r0 ++ [sumM r0])[N - 2]? = some a := by rw [List.getElem?_append_left (by omega)]; exact ga
      have s1 : (r0 ++ [sumM r0])[N - 1]? = some a := by rw [List.getElem?_append_left (by omega)]; exact gb
      unfold rotM
      split
      · by_cases hi : i.toNat = N - 2
        · rw [List.getElem?_set_ne (by omega) (i := i.toNat) (j := N - 1), s1]
          intro h
          exact hab h.2
        · rw [List.getElem?_set_ne hi, s0]
          intro h
          exact hab h.1
      · rw [s0]
        intro h
        exact hab h.1
    generalize T.take (N + 1 - 1) = R at *
    rcases hN with rfl | rfl
    · refine ⟨?_, ?_⟩
      · rw [rowSlot, if_neg (fun h => key ⟨h.2.1, h.2.2⟩)]
      · rw [rowHead, if_neg (fun h => by have := h.1; omega)]
    · refine ⟨?_, ?_⟩
      · rw [rowSlot, if_neg (fun h => by have := h.1; omega)]
      · rw [rowHead, if_neg (fun h => key ⟨h.2.1, h.2.2.1⟩)]
  · have e : unsM (tornM (r1 ++ [sumM r1]) (rotM (r0 ++ [sumM r0]) i x)) = [] := if_neg hu
    rw [e]
    exact ⟨rfl, rfl⟩
set_option maxRecDepth 100000 in
set_option maxHeartbeats 4000000 in
theorem w9Head_any (B : Option Addr) (n q lo hi : Nat) (l : List EntryD) (num b : Nat) (w : World) (h : Sl w lo hi 9 B n q (l.flatMap EntryD.ints)) (hhi : hi ≤ w.heap.size) (h1 : 1 ≤ b) (h2 : b ≤ n) (h3 : n ≤ 1000) (h4 : num ≤ 1000) :
    Calls Try.prog 50 #[.slice B n q, .int .i64 (num : Int), .int .i64 (b : Int)] w (fun e w' => ∃ A c, e = .returned (.agg #[.int .i64 (num : Int), .int .i64 (b : Int), .int .i64 (w9Time l b), .slice A (w9Seen l b).length c]) ∧ Sl w' w.heap.size w'.heap.size 3 A (w9Seen l b).length c ((w9Seen l b).flatMap MarkD.ints) ∧ Below w.heap.size w w') := by
  obtain ⟨m, rfl⟩ : ∃ m, b = m + 1 := ⟨b - 1, by omega⟩
  obtain ⟨g, off, e, rfl, _, hg, he, p0, p1, p2, p3, p4, p5, p6, p7, p8⟩ := h.entry (show m < n by omega)
  have et : w9Time l (m + 1) = e.time := by simp [w9Time, he]
  rw [et]
  have hcap := h.cap
  have hfr := run_front (some ⟨g, off, none⟩) n q (m + 1) (by omega)
  have HS := Lib.hid (h.cutFront EntryD.ints_len (j := m + 1) (by omega))
  have hgw : g < w.heap.size := by omega
  have hb1 : Below w.heap.size w ((w.alloc (.cells #[.int .i64 0, .int .i64 0, .int .i64 0, .slice none 0 0] 49)).alloc (.cells #[.int .i64 (num : Int), .int .i64 ((m + 1 : Nat) : Int), .int .i64 0, .slice none 0 0] 49)) := by (repeat' (first | with_reducible exact Below.refl _ _ | with_reducible assumption | with_reducible refine Below.drew ?_ | with_reducible refine Below.alloc ?_ ?_ _ | with_reducible refine Below.setCell ?_ ?_ _ | with_reducible refine Below.trans ?_ (Below.mono (by assumption) ?_) | ((try simp only [World.heap_size_alloc, World.heap_size_drew, World.heap_size_setCell]); omega)))
  have e1 := (hb1.cell (p := ⟨g, off + m * 9 + 1, none⟩) hgw).trans p1
  have hw1 : IntKind.i64.wrap (((m + 1 : Nat) : Int) - 1) = (m : Int) := by
    rw [show ((m + 1 : Nat) : Int) - 1 = (m : Int) by omega]
    exact IntWalk.i64_in _ (by omega)
  have hb0 : (0 : Int) < ((m + 1 : Nat) : Int) := by omega
  generalize hbb : ((m + 1 : Nat) : Int) = bI at *
  clear h et he p0 p1 p2 p3 p4 p5 p6 p7 p8 hbb
  have HW0 : Hid (Below w.heap.size w ((w.alloc (.cells #[.int .i64 0, .int .i64 0, .int .i64 0, .slice none 0 0] 49)).alloc (.cells #[.int .i64 (num : Int), .int .i64 bI, .int .i64 e.time, .slice none 0 0] 49))) := Lib.hid (by (repeat' (first | with_reducible exact Below.refl _ _ | with_reducible assumption | with_reducible refine Below.drew ?_ | with_reducible refine Below.alloc ?_ ?_ _ | with_reducible refine Below.setCell ?_ ?_ _ | with_reducible refine Below.trans ?_ (Below.mono (by assumption) ?_) | ((try simp only [World.heap_size_alloc, World.heap_size_drew, World.heap_size_setCell]); omega))))
  go_enter Try.func50, Try.ntmps50
  go_wp2_with fail
  (with_reducible refine (sSeenOver_any (some ⟨_, 0, none⟩) 0 0 0 0 [] (some ⟨g, off, none⟩) (m + 1) q lo hi (l.take (m + 1)) _ (Sl.nil _ _ _ _ _ _ (by omega)) (HS.out.below (B := w.heap.size) (by (repeat' (first | with_reducible exact Below.refl _ _ | with_reducible assumption | with_reducible refine Below.drew ?_ | with_reducible refine Below.alloc ?_ ?_ _ | with_reducible refine Below.setCell ?_ ?_ _ | with_reducible refine Below.trans ?_ (Below.mono (by assumption) ?_) | ((try simp only [World.heap_size_alloc, World.heap_size_drew, World.heap_size_setCell]); omega)))) hhi)).mono ?_); rintro _ w3 ⟨A3, c3, rfl, s3, b3⟩
  have y3 := b3.size
  simp only [World.heap_size_alloc] at y3
  have c0 : w3.cell? ⟨w.heap.size + 1, 0, none⟩ = some (.int .i64 (num : Int)) := (b3.cell (p := ⟨w.heap.size + 1, 0, none⟩) (by (try simp only [World.heap_size_alloc, World.heap_size_drew, World.heap_size_setCell]); omega)).trans (by simp [go_sem])
  have cf0 : w3.frozen? ⟨w.heap.size + 1, 0, none⟩ = false := (b3.frozen (p := ⟨w.heap.size + 1, 0, none⟩) (by (try simp only [World.heap_size_alloc, World.heap_size_drew, World.heap_size_setCell]); omega)).trans (by simp [go_sem])
  have c1 : w3.cell? ⟨w.heap.size + 1, 1, none⟩ = some (.int .i64 bI) := (b3.cell (p := ⟨w.heap.size + 1, 1, none⟩) (by (try simp only [World.heap_size_alloc, World.heap_size_drew, World.heap_size_setCell]); omega)).trans (by simp [go_sem])
  have cf1 : w3.frozen? ⟨w.heap.size + 1, 1, none⟩ = false := (b3.frozen (p := ⟨w.heap.size + 1, 1, none⟩) (by (try simp only [World.heap_size_alloc, World.heap_size_drew, World.heap_size_setCell]); omega)).trans (by simp [go_sem])
  have c2 : w3.cell? ⟨w.heap.size + 1, 2, none⟩ = some (.int .i64 e.time) := (b3.cell (p := ⟨w.heap.size + 1, 2, none⟩) (by (try simp only [World.heap_size_alloc, World.heap_size_drew, World.heap_size_setCell]); omega)).trans (by simp [go_sem])
  have cf2 : w3.frozen? ⟨w.heap.size + 1, 2, none⟩ = false := (b3.frozen (p := ⟨w.heap.size + 1, 2, none⟩) (by (try simp only [World.heap_size_alloc, World.heap_size_drew, World.heap_size_setCell]); omega)).trans (by simp [go_sem])
  have c3' : w3.cell? ⟨w.heap.size + 1, 3, none⟩ = some (.slice none 0 0) := (b3.cell (p := ⟨w.heap.size + 1, 3, none⟩) (by (try simp only [World.heap_size_alloc, World.heap_size_drew, World.heap_size_setCell]); omega)).trans (by simp [go_sem])
  have cf3 : w3.frozen? ⟨w.heap.size + 1, 3, none⟩ = false := (b3.frozen (p := ⟨w.heap.size + 1, 3, none⟩) (by (try simp only [World.heap_size_alloc, World.heap_size_drew, World.heap_size_setCell]); omega)).trans (by simp [go_sem])
  have t0 : w3.cell? ⟨w.heap.size, 0, none⟩ = some (.int .i64 0) := (b3.cell (p := ⟨w.heap.size, 0, none⟩) (by (try simp only [World.heap_size_alloc, World.heap_size_drew, World.heap_size_setCell]); omega)).trans (by simp [go_sem])
  have tf0 : w3.frozen? ⟨w.heap.size, 0, none⟩ = false := (b3.frozen (p := ⟨w.heap.size, 0, none⟩) (by (try simp only [World.heap_size_alloc, World.heap_size_drew, World.heap_size_setCell]); omega)).trans (by simp [go_sem])
  have t1 : w3.cell? ⟨w.heap.size, 1, none⟩ = some (.int .i64 0) := (b3.cell (p := ⟨w.heap.size, 1, none⟩) (by (try simp only [World.heap_size_alloc, World.heap_size_drew, World.heap_size_setCell]); omega)).trans (by simp [go_sem])
  have tf1 : w3.frozen? ⟨w.heap.size, 1, none⟩ = false := (b3.frozen (p := ⟨w.heap.size, 1, none⟩) (by (try simp only [World.heap_size_alloc, World.heap_size_drew, World.heap_size_setCell]); omega)).trans (by simp [go_sem])
  have t2 : w3.cell? ⟨w.heap.size, 2, none⟩ = some (.int .i64 0) := (b3.cell (p := ⟨w.heap.size, 2, none⟩) (by (try simp only [World.heap_size_alloc, World.heap_size_drew, World.heap_size_setCell]); omega)).trans (by simp [go_sem])
  have tf2 : w3.frozen? ⟨w.heap.size, 2, none⟩ = false := (b3.frozen (p := ⟨w.heap.size, 2, none⟩) (by (try simp only [World.heap_size_alloc, World.heap_size_drew, World.heap_size_setCell]); omega)).trans (by simp [go_sem])
  have t3 : w3.cell? ⟨w.heap.size, 3, none⟩ = some (.slice none 0 0) := (b3.cell (p := ⟨w.heap.size, 3, none⟩) (by (try simp only [World.heap_size_alloc, World.heap_size_drew, World.heap_size_setCell]); omega)).trans (by simp [go_sem])
  have tf3 : w3.frozen? ⟨w.heap.size, 3, none⟩ = false := (b3.frozen (p := ⟨w.heap.size, 3, none⟩) (by (try simp only [World.heap_size_alloc, World.heap_size_drew, World.heap_size_setCell]); omega)).trans (by simp [go_sem])
  have S3 := Lib.hid s3
  have HW3 : Hid (Below w.heap.size w w3) := Lib.hid (by (repeat' (first | with_reducible exact Below.refl _ _ | with_reducible assumption | with_reducible refine Below.drew ?_ | with_reducible refine Below.alloc ?_ ?_ _ | with_reducible refine Below.setCell ?_ ?_ _ | with_reducible refine Below.trans ?_ (Below.mono (by assumption) ?_) | ((try simp only [World.heap_size_alloc, World.heap_size_drew, World.heap_size_setCell]); omega))))
  clear s3 b3 HW0
  go_wp2_with fail
  refine bodyPost_ret (v := .agg #[.int .i64 (num : Int), .int .i64 bI, .int .i64 e.time, .slice A3 (w9Seen l (m + 1)).length c3]) (by simp [results, Try.results50, go_sem, w9Seen, c0, c1, c2, c3', cf0, cf1, cf2, cf3, t0, t1, t2, t3, tf0, tf1, tf2, tf3]) rfl ⟨A3, c3, rfl, ?_, ?_⟩
  · refine ((S3.out.upd (lo' := w.heap.size) (hi' := w.heap.size + 2) ?_ (.inr (by (try simp only [World.heap_size_alloc, World.heap_size_drew, World.heap_size_setCell]); omega))).mono (by (try simp only [World.heap_size_alloc, World.heap_size_drew, World.heap_size_setCell]); omega) (by (try simp only [World.heap_size_alloc, World.heap_size_drew, World.heap_size_setCell]); omega))
    (repeat' (first | with_reducible exact Upd.refl _ _ _ | with_reducible assumption | with_reducible refine Upd.setCell ?_ ?_ ?_ _ | (simp only []; omega) | omega))
  · have h9 := HW3.out
    (repeat' (first | with_reducible exact Below.refl _ _ | with_reducible assumption | with_reducible refine Below.drew ?_ | with_reducible refine Below.alloc ?_ ?_ _ | with_reducible refine Below.setCell ?_ ?_ _ | with_reducible refine Below.trans ?_ (Below.mono (by assumption) ?_) | ((try simp only [World.heap_size_alloc, World.heap_size_drew, World.heap_size_setCell]); omega)))
end Go.Proofs.Ytgnilmdaegnaaaa
