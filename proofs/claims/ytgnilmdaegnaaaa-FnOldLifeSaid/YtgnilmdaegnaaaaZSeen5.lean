/- Marks: recording one entry, the reference's way. No conditions. -/
import Derived.Test.YtgnilmdaegnaaaaZSeen4
set_option linter.unusedSimpArgs false
set_option linter.unusedVariables false
namespace Go.Proofs.Ytgnilmdaegnaaaa
open Go.RowKit
/-- A fresh slice and a truth. -/
def SlBRes (w : World) (k n : Nat) (r : List Int × Bool) (e : Ending) (w' : World) : Prop :=
  ∃ A c, e = .returned (.tuple #[.slice A n c, .bool r.2]) ∧ Sl w' w.heap.size w'.heap.size k A n c r.1 ∧ Below w.heap.size w w'
theorem SlBRes.none {w w' : World} (hb : Below w.heap.size w w') (k : Nat) (A : Option Addr) (c : Nat) (hc : c ≤ 9223372036854775807) {b : Bool} : SlBRes w k 0 ([], b) (.returned (.tuple #[.slice A 0 c, .bool b])) w' :=
  ⟨A, c, rfl, Sl.nil _ _ _ _ _ _ hc, hb⟩
theorem src_new (W : World) (E k : Nat) (zs : List Int) (h : zs.length = k) : Sl (W.alloc (.cells (zs.map (Value.int .i64)).toArray E)) W.heap.size (W.heap.size + 1) k (some ⟨W.heap.size, 0, none⟩) 1 1 zs :=
  ⟨by omega, by omega, by omega, fun _ => ⟨_, 0, rfl, Nat.le_refl _, by omega, ints_new W E zs⟩⟩
section
variable {l ys r : List MarkD} {x p : MarkD} {m : Nat} {d : Bool}
end
set_option maxRecDepth 100000 in
set_option maxHeartbeats 1000000 in
theorem copySeen_any (A : Option Addr) (n c lo hi : Nat) (l : List MarkD) (w : World) (h : Sl w lo hi 3 A n c (l.flatMap MarkD.ints)) (hn : n ≤ 1000000) :
    Calls Try.prog 185 #[.slice A n c] w (SlRes w 3 n (l.flatMap MarkD.ints)) := by
  have o1 : Own (w.alloc (.cells #[] 117)) w.heap.size 117 3 (.slice (some ⟨w.heap.size, 0, none⟩) 0 0) 0 [] := Own.new w 117 3 [] rfl (Nat.le_refl _) (by omega)
  have O1 := Lib.hid o1
  have hb1 : Below (min hi w.heap.size) w (w.alloc (.cells #[] 117)) := (Below.refl _ _).alloc (Nat.min_le_right _ _) _
  have H := Lib.hid ((h.fit (by omega)).below hb1 (Nat.le_refl _))
  clear h o1
  go_enter Try.func185, Try.ntmps185
  go_wp2_with (at_builtin; go_loud (refine wpList_append_sl _ rfl (.tmp 3) (.tmp 4) 47 rfl w.heap.size 117 Try.underlying47 infoMark rfl (by omega) _ _ _ rfl O1.out _ n c _ _ _ rfl H.out (by omega) (by omega) (by (try simp only [World.heap_size_alloc, World.heap_size_drew, World.heap_size_setCell]); omega) ?_); intro v2 w2 o2 g2 a2)
  have hb2 : Below w.heap.size w w2 := ((Below.refl w.heap.size w).alloc (Nat.le_refl _) _).trans (grown_below g2 (by (try simp only [World.heap_size_alloc, World.heap_size_drew, World.heap_size_setCell]); omega) (fun g hg => (Own.lt O1.out g hg).1))
  have O2 := Lib.hid o2
  clear o2 g2 a2
  go_ret
  obtain ⟨A2, c2, rfl, s2⟩ := O2.out.sl
  rw [Nat.zero_add, List.nil_append] at s2
  rw [Nat.zero_add]
  exact ⟨A2, c2, rfl, s2, hb2⟩
end Go.Proofs.Ytgnilmdaegnaaaa
