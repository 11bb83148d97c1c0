/- Marks: what the mark of a client and the greatest index are. No conditions. -/
import Derived.Test.YtgnilmdaegnaaaaZSeen
set_option linter.unusedSimpArgs false
set_option linter.unusedVariables false
namespace Go.Proofs.Ytgnilmdaegnaaaa
open Go.RowKit
/-- A mark by value. -/
def MarkVRes (w : World) (m : MarkD) (e : Ending) (w' : World) : Prop := e = .returned (.agg #[.int .i64 m.client, .int .i64 m.seq, .int .i64 m.index]) ∧ Below w.heap.size w w'
theorem markAt_hit {l : List MarkD} {c : Int} {m : Nat} {e : MarkD} (he : l[m]? = some e) (hc : e.client = c) (h : ∀ (j : Nat) (y : MarkD), j < m → l[j]? = some y → (y.client == c) = false) : markAt l c = e := by
  obtain ⟨h1, rfl⟩ := List.getElem?_eq_some_iff.1 he
  unfold markAt atClient
  have e2 : l = l.take m ++ l[m] :: l.drop (m + 1) := by rw [← List.drop_eq_getElem_cons h1, List.take_append_drop]
  have e3 : (l.take m).find? (fun x => x.client == c) = none := List.find?_eq_none.2 fun x hx => by
    rw [List.mem_take_iff_getElem] at hx
    obtain ⟨j, hj, rfl⟩ := hx
    have := h j _ (by omega) (List.getElem?_eq_getElem (by omega))
    simp [this]
  have e5 : (l.take m ++ l[m] :: l.drop (m + 1)).find? (fun x => x.client == c) = some l[m] := by
    rw [List.find?_append, e3, Option.none_or, List.find?_cons_of_pos (by simpa using hc)]
  rw [← e2] at e5
  rw [e5]
  rfl
theorem markAt_miss {l : List MarkD} {c : Int} (h : ∀ (j : Nat) (y : MarkD), j < l.length → l[j]? = some y → (y.client == c) = false) : markAt l c = zeroMark := by
  unfold markAt
  rw [atClient_none fun x hx => ?_]
  · rfl
  · obtain ⟨j, hj, rfl⟩ := List.getElem_of_mem hx
    have := h j _ hj (List.getElem?_eq_getElem hj)
    simpa using this
set_option maxRecDepth 100000 in
set_option maxHeartbeats 1000000 in
theorem markAt_any (A : Option Addr) (n c lo hi : Nat) (l : List MarkD) (q : Int) (w : World) (h : Sl w lo hi 3 A n c (l.flatMap MarkD.ints)) :
    Calls Try.prog 94 #[.slice A n c, .int .i64 q] w (MarkVRes w (markAt l q)) := by
  have hn : n ≤ 9223372036854775807 := Nat.le_trans h.cap h.big
  have HL := Lib.hid (h.count MarkD.ints_len (by omega) : l.length = n)
  have H := Lib.hid (h.fit (by omega))
  clear h
  go_enter Try.func94, Try.ntmps94
  go_wp2
  go_loopw [6, 9] (fun _ i wr => ∃ m : Nat, m ≤ n ∧ i = .int .i64 m ∧ Below (w.heap.size + 1) (w.alloc (.cells #[.int .i64 0, .int .i64 0, .int .i64 0] 117)) wr ∧ Hid (∀ (j : Nat) (y : MarkD), j < m → l[j]? = some y → (y.client == q) = false)) (fun _ i _ => n - (intOf i).toNat)
  case atStart => exact ⟨0, Nat.zero_le _, rfl, Below.refl _ _, fun j y hj => absurd hj (by omega)⟩
  case round =>
    obtain ⟨m, hm, rfl, hb0, hp⟩ := hrel
    have hbz := hb0.size
    simp only [World.heap_size_alloc] at hbz
    have hb : Below w.heap.size w wr := ((Below.refl w.heap.size w).alloc (Nat.le_refl _) _).trans (hb0.mono (by omega))
    have k0 : wr.cell? ⟨w.heap.size, 0, none⟩ = some (.int .i64 0) := by rw [hb0.cell (p := ⟨w.heap.size, 0, none⟩) (show w.heap.size < w.heap.size + 1 by omega)]; simp
    have k1 : wr.cell? ⟨w.heap.size, 1, none⟩ = some (.int .i64 0) := by rw [hb0.cell (p := ⟨w.heap.size, 1, none⟩) (show w.heap.size < w.heap.size + 1 by omega)]; simp
    have k2 : wr.cell? ⟨w.heap.size, 2, none⟩ = some (.int .i64 0) := by rw [hb0.cell (p := ⟨w.heap.size, 2, none⟩) (show w.heap.size < w.heap.size + 1 by omega)]; simp
    have f0 : wr.frozen? ⟨w.heap.size, 0, none⟩ = false := by rw [hb0.frozen (p := ⟨w.heap.size, 0, none⟩) (show w.heap.size < w.heap.size + 1 by omega)]; simp
    have f1 : wr.frozen? ⟨w.heap.size, 1, none⟩ = false := by rw [hb0.frozen (p := ⟨w.heap.size, 1, none⟩) (show w.heap.size < w.heap.size + 1 by omega)]; simp
    have f2 : wr.frozen? ⟨w.heap.size, 2, none⟩ = false := by rw [hb0.frozen (p := ⟨w.heap.size, 2, none⟩) (show w.heap.size < w.heap.size + 1 by omega)]; simp
    by_cases hlt : m < n
    · obtain ⟨g, off, e, rfl, _, hg, he, p0, p1, p2⟩ := H.out.mark hlt
      have hg1 := Nat.lt_of_lt_of_le hg (Nat.min_le_right _ _)
      have HE := Lib.hid he
      have r0 := (hb.cell (p := ⟨g, off + m * 3, none⟩) hg1).trans p0
      have r1 := (hb.cell (p := ⟨g, off + m * 3 + 1, none⟩) hg1).trans p1
      have r2 := (hb.cell (p := ⟨g, off + m * 3 + 2, none⟩) hg1).trans p2
      have hgw : g < wr.heap.size := Nat.lt_of_lt_of_le hg1 hb.size
      have hww : w.heap.size < wr.heap.size := by omega
      have HB := Lib.hid hb
      clear he p0 p1 p2 hb
      by_cases hq : e.client = q
      · have hq1 : (e.client == q) = true := by simpa using hq
        have HQ := Lib.hid hq
        clear hq
        go_wp2
        refine bodyPost_ret (v := .agg #[.int .i64 e.client, .int .i64 e.seq, .int .i64 e.index]) (by simp [results, Try.results94, go_sem, k0, k1, k2, hww]) rfl ⟨?_, ?_⟩
        · rw [markAt_hit HE.out HQ.out hp.out]
        · have hb := HB.out
          (repeat' (first | with_reducible exact Below.refl _ _ | with_reducible assumption | with_reducible refine Below.drew ?_ | with_reducible refine Below.alloc ?_ ?_ _ | with_reducible refine Below.setCell ?_ ?_ _ | with_reducible refine Below.trans ?_ (Below.mono (by assumption) ?_) | ((try simp only [World.heap_size_alloc, World.heap_size_drew, World.heap_size_setCell]); omega)))
      · have hq1 : (e.client == q) = false := by simpa using hq
        have HQ := Lib.hid hq1
        clear hq
        go_wp2
        go_roundw
        case rel => exact ⟨m + 1, hlt, by go_num, hb0.alloc (by omega) _, fun j y hj hy => by
          rcases Nat.lt_succ_iff_lt_or_eq.1 hj with h5 | rfl
          · exact hp.out j y h5 hy
          · rw [HE.out] at hy; injection hy with hy; subst hy; exact HQ.out⟩
        case measure => simp [intOf]; omega
    · have HB := Lib.hid hb
      clear hb
      go_wp2
      refine bodyPost_ret (v := .agg #[.int .i64 0, .int .i64 0, .int .i64 0]) (by simp [results, Try.results94, go_sem, k0, k1, k2]) rfl ⟨?_, ?_⟩
      · rw [markAt_miss (fun j y hj hy => hp.out j y (by rw [HL.out] at hj; omega) hy)]
        rfl
      · have hb := HB.out
        (repeat' (first | with_reducible exact Below.refl _ _ | with_reducible assumption | with_reducible refine Below.drew ?_ | with_reducible refine Below.alloc ?_ ?_ _ | with_reducible refine Below.setCell ?_ ?_ _ | with_reducible refine Below.trans ?_ (Below.mono (by assumption) ?_) | ((try simp only [World.heap_size_alloc, World.heap_size_drew, World.heap_size_setCell]); omega)))
end Go.Proofs.Ytgnilmdaegnaaaa
