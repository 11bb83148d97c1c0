/- Marks: the reference's mark of a client, fresh requests, the greatest index. No conditions. -/
import Derived.Test.YtgnilmdaegnaaaaZSeen3
set_option linter.unusedSimpArgs false
set_option linter.unusedVariables false
namespace Go.Proofs.Ytgnilmdaegnaaaa
open Go.RowKit
set_option maxRecDepth 100000 in
set_option maxHeartbeats 1000000 in
theorem lastIdx_any (A : Option Addr) (n c lo hi : Nat) (l : List MarkD) (w : World) (h : Sl w lo hi 3 A n c (l.flatMap MarkD.ints)) :
    Calls Try.prog 89 #[.slice A n c] w fun e w' => e = .returned (.int .i64 (lastIdx l)) ∧ Below w.heap.size w w' := by
  have hn : n ≤ 9223372036854775807 := Nat.le_trans h.cap h.big
  have HL := Lib.hid (h.count MarkD.ints_len (by omega) : l.length = n)
  have H := Lib.hid (h.fit (by omega))
  clear h
  go_enter Try.func89, Try.ntmps89
  go_wp2
  go_loopw [3, 5, 8] (fun v _ i wr => ∃ (m : Nat) (x : Int), m ≤ n ∧ i = .int .i64 m ∧ v = .int .i64 x ∧ Below w.heap.size w wr ∧ Hid (x = lastIdx (l.take m))) (fun _ _ i _ => n - (intOf i).toNat)
  case atStart => exact ⟨0, 0, Nat.zero_le _, rfl, rfl, Below.refl _ _, rfl⟩
  case round =>
    obtain ⟨m, x, hm, rfl, rfl, hb, hp⟩ := hrel
    have hbz := hb.size
    by_cases hlt : m < n
    · obtain ⟨g, off, e, rfl, _, hg, he, p0, p1, p2⟩ := H.out.mark hlt
      have hg1 := Nat.lt_of_lt_of_le hg (Nat.min_le_right _ _)
      have HE := Lib.hid he
      have r0 := (hb.cell (p := ⟨g, off + m * 3, none⟩) hg1).trans p0
      have r1 := (hb.cell (p := ⟨g, off + m * 3 + 1, none⟩) hg1).trans p1
      have r2 := (hb.cell (p := ⟨g, off + m * 3 + 2, none⟩) hg1).trans p2
      have hgw : g < wr.heap.size := Nat.lt_of_lt_of_le hg1 hb.size
      clear he p0 p1 p2
      go_wp2
      go_roundw
      case rel => exact ⟨m + 1, _, hlt, by go_num, rfl, by (repeat' (first | with_reducible exact Below.refl _ _ | with_reducible assumption | with_reducible refine Below.drew ?_ | with_reducible refine Below.alloc ?_ ?_ _ | with_reducible refine Below.setCell ?_ ?_ _ | with_reducible refine Below.trans ?_ (Below.mono (by assumption) ?_) | ((try simp only [World.heap_size_alloc, World.heap_size_drew, World.heap_size_setCell]); omega))), by show _ = lastIdx (l.take (m + 1)); rw [lastIdx_take HE.out, ← hp.out]; first | rfl | (rw [Int.max_def]; split <;> (first | rfl | omega | (split <;> (first | rfl | omega))))⟩
      case measure => simp [intOf]; omega
    · go_wp2
      go_ret
      exact ⟨by rw [hp.out, List.take_of_length_le (by rw [HL.out]; omega)]; rfl, hb⟩
end Go.Proofs.Ytgnilmdaegnaaaa
