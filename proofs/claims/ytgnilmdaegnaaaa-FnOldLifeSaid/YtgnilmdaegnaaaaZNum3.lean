/- From a row back to an entry: what the program's and the reference's functions return. No conditions. -/
import Derived.Test.YtgnilmdaegnaaaaZNum
import Derived.Test.YtgnilmdaegnaaaaZApp
set_option linter.unusedSimpArgs false
set_option linter.unusedVariables false
namespace Go.Proofs.Ytgnilmdaegnaaaa
open Go.RowKit
def entryNone : EntryD := ⟨0, 0, 0, 0, opNone⟩
def rowEntry : List Int → EntryD × Bool
  | [i, t, c, s, k, a, b, cc, d] => if entryOk ⟨i, t, c, s, ⟨k, a, b, cc, d⟩⟩ then (⟨i, t, c, s, ⟨k, a, b, cc, d⟩⟩, true) else (entryNone, false)
  | _ => (entryNone, false)
def EntryBRes (w : World) (r : EntryD × Bool) (e : Ending) (w' : World) : Prop :=
  e = .returned (.tuple #[.agg #[.int .i64 r.1.index, .int .i64 r.1.time, .int .i64 r.1.client, .int .i64 r.1.seq, .int .i64 r.1.op.kind, .int .i64 r.1.op.a, .int .i64 r.1.op.b, .int .i64 r.1.op.c, .int .i64 r.1.op.d], .bool r.2]) ∧ Below w.heap.size w w'
theorem list9_of {zs : List Int} {n : Nat} (h : zs.length = n * 1) (hn : n = 9) : ∃ a b c d e f g h i, zs = [a, b, c, d, e, f, g, h, i] := list9 (by omega)
theorem rowEntry_none {zs : List Int} (h : zs.length ≠ 9) : rowEntry zs = (entryNone, false) := by
  unfold rowEntry
  split
  · exact absurd rfl h
  · rfl
set_option maxRecDepth 100000 in
set_option maxHeartbeats 4000000 in
theorem rowEntry_any (A : Option Addr) (n c lo hi : Nat) (zs : List Int) (w : World) (h : Sl w lo hi 1 A n c zs) :
    Calls Try.prog 78 #[.slice A n c] w (EntryBRes w (rowEntry zs)) := by
  by_cases h9 : n = 9
  · obtain ⟨x0, x1, x2, x3, x4, x5, x6, x7, x8, rfl⟩ := list9_of h.len h9
    obtain ⟨g, off, rfl, _, _, hg, hI⟩ := ints_cells h (by omega)
    have hc := h.cap
    have hcb := h.big
    subst h9
    clear h
    have k0 := (hI 0 _ rfl).1
    have k1 := (hI 1 _ rfl).1
    have k2 := (hI 2 _ rfl).1
    have k3 := (hI 3 _ rfl).1
    rw [Nat.add_zero] at k0
    have hI4 : Ints w g (off + 4) [x4, x5, x6, x7, x8] := hI.sub 4 5
    clear hI
    have hc4 : 4 < c := by omega
    have hc5 : ¬ c = 4 := by omega
    have SK : ∀ W, Below (w.alloc (.cells #[.int .i64 0, .int .i64 0, .int .i64 0, .int .i64 0, .int .i64 0, .int .i64 0, .int .i64 0, .int .i64 0, .int .i64 0] 32)).heap.size (w.alloc (.cells #[.int .i64 0, .int .i64 0, .int .i64 0, .int .i64 0, .int .i64 0, .int .i64 0, .int .i64 0, .int .i64 0, .int .i64 0] 32)) W → (W.cell? ⟨g, off, none⟩ = some (.int .i64 x0) ∧ W.cell? ⟨g, off + 1, none⟩ = some (.int .i64 x1) ∧ W.cell? ⟨g, off + 2, none⟩ = some (.int .i64 x2) ∧ W.cell? ⟨g, off + 3, none⟩ = some (.int .i64 x3) ∧ Below (w.alloc (.cells #[.int .i64 0, .int .i64 0, .int .i64 0, .int .i64 0, .int .i64 0, .int .i64 0, .int .i64 0, .int .i64 0, .int .i64 0] 32)).heap.size (w.alloc (.cells #[.int .i64 0, .int .i64 0, .int .i64 0, .int .i64 0, .int .i64 0, .int .i64 0, .int .i64 0, .int .i64 0, .int .i64 0] 32)) W) := fun W hb => ⟨(hb.cell (p := ⟨g, off, none⟩) (by simp only [World.heap_size_alloc]; omega)).trans ((World.cell?_alloc_lt _ _ _ hg).trans k0), (hb.cell (p := ⟨g, off + 1, none⟩) (by simp only [World.heap_size_alloc]; omega)).trans ((World.cell?_alloc_lt _ _ _ hg).trans k1), (hb.cell (p := ⟨g, off + 2, none⟩) (by simp only [World.heap_size_alloc]; omega)).trans ((World.cell?_alloc_lt _ _ _ hg).trans k2), (hb.cell (p := ⟨g, off + 3, none⟩) (by simp only [World.heap_size_alloc]; omega)).trans ((World.cell?_alloc_lt _ _ _ hg).trans k3), hb⟩
    have HSK := Lib.hid SK
    have H4 := Lib.hid hI4
    clear SK hI4
    by_cases hok : entryOk ⟨x0, x1, x2, x3, ⟨x4, x5, x6, x7, x8⟩⟩ = true
    · have e : rowEntry [x0, x1, x2, x3, x4, x5, x6, x7, x8] = (⟨x0, x1, x2, x3, ⟨x4, x5, x6, x7, x8⟩⟩, true) := if_pos hok
      rw [e]
      clear e
      go_enter Try.func78, Try.ntmps78
      go_wp2
      go_region_held3 (fun w' => w'.cell? ⟨g, off, none⟩ = some (.int .i64 x0) ∧ w'.cell? ⟨g, off + 1, none⟩ = some (.int .i64 x1) ∧ w'.cell? ⟨g, off + 2, none⟩ = some (.int .i64 x2) ∧ w'.cell? ⟨g, off + 3, none⟩ = some (.int .i64 x3) ∧ Below (w.alloc (.cells #[.int .i64 0, .int .i64 0, .int .i64 0, .int .i64 0, .int .i64 0, .int .i64 0, .int .i64 0, .int .i64 0, .int .i64 0] 32)).heap.size (w.alloc (.cells #[.int .i64 0, .int .i64 0, .int .i64 0, .int .i64 0, .int .i64 0, .int .i64 0, .int .i64 0, .int .i64 0, .int .i64 0] 32)) w')
        (first | (refine HSK.out _ ?_; (repeat' (first | with_reducible exact Below.refl _ _ | with_reducible assumption | with_reducible refine Below.drew ?_ | with_reducible refine Below.alloc ?_ ?_ _ | with_reducible refine Below.setCell ?_ ?_ _ | with_reducible refine Below.trans ?_ (Below.mono (by assumption) ?_) | ((try simp only [World.heap_size_alloc, World.heap_size_drew, World.heap_size_setCell]); omega)))) | (go_split_ands; refine HSK.out _ ?_; (repeat' (first | with_reducible exact Below.refl _ _ | with_reducible assumption | with_reducible refine Below.drew ?_ | with_reducible refine Below.alloc ?_ ?_ _ | with_reducible refine Below.setCell ?_ ?_ _ | with_reducible refine Below.trans ?_ (Below.mono (by assumption) ?_) | ((try simp only [World.heap_size_alloc, World.heap_size_drew, World.heap_size_setCell]); omega)))))
        (first
          | (go_at_call 132; refine (opOf_any g (off + 4) _ _ x4 x5 x6 x7 x8 [] _ (by omega) (by omega) (H4.out.below (B := w.heap.size) (by (repeat' (first | with_reducible exact Below.refl _ _ | with_reducible assumption | with_reducible refine Below.drew ?_ | with_reducible refine Below.alloc ?_ ?_ _ | with_reducible refine Below.setCell ?_ ?_ _ | with_reducible refine Below.trans ?_ (Below.mono (by assumption) ?_) | ((try simp only [World.heap_size_alloc, World.heap_size_drew, World.heap_size_setCell]); omega)))) hg)).mono ?_; rintro _ w1 ⟨rfl, b1⟩; obtain ⟨b1_c, b1_f⟩ := bcell b1; have y1 := b1.size; (try simp only [World.heap_size_alloc, World.heap_size_drew] at y1); have z1 : w.heap.size < w1.heap.size := (by omega); (first | (have z1b : w.heap.size + 1 < w1.heap.size := by omega) | skip)))
      all_goals
        go_wp2_with fail
        (with_reducible refine (entryOk_any _ _ _ _ _ _ _ _ _ _).mono ?_); rintro e w2 ⟨rfl, b2⟩; obtain ⟨b2_c, b2_f⟩ := bcell b2; have b2_z := b2.size; (try simp only [World.heap_size_alloc, World.heap_size_drew, World.heap_size_setCell] at b2_z); (first | (have b2_z0 : w.heap.size < w2.heap.size := by omega) | skip); (first | (have b2_z1 : w.heap.size + 1 < w2.heap.size := by omega) | skip); (first | (have b2_z2 : w.heap.size + 1 + 1 < w2.heap.size := by omega) | skip)
        go_wp2_with fail
        clear b1_c b1_f b2_c b2_f
        have hb2 : Below (w.alloc (.cells #[.int .i64 0, .int .i64 0, .int .i64 0, .int .i64 0, .int .i64 0, .int .i64 0, .int .i64 0, .int .i64 0, .int .i64 0] 32)).heap.size (w.alloc (.cells #[.int .i64 0, .int .i64 0, .int .i64 0, .int .i64 0, .int .i64 0, .int .i64 0, .int .i64 0, .int .i64 0, .int .i64 0] 32)) w2 := by (repeat' (first | with_reducible exact Below.refl _ _ | with_reducible assumption | with_reducible refine Below.drew ?_ | with_reducible refine Below.alloc ?_ ?_ _ | with_reducible refine Below.setCell ?_ ?_ _ | with_reducible refine Below.trans ?_ (Below.mono (by assumption) ?_) | ((try simp only [World.heap_size_alloc, World.heap_size_drew, World.heap_size_setCell]); omega)))
        obtain ⟨rc, rf⟩ := bcell hb2
        refine bodyPost_ret (v := .tuple #[.agg #[.int .i64 x0, .int .i64 x1, .int .i64 x2, .int .i64 x3, .int .i64 x4, .int .i64 x5, .int .i64 x6, .int .i64 x7, .int .i64 x8], .bool true]) (by simp [results, Try.results78, go_sem, rc, rf]) rfl ⟨rfl, ?_⟩
        clear rc rf
        (repeat' (first | with_reducible exact Below.refl _ _ | with_reducible assumption | with_reducible refine Below.drew ?_ | with_reducible refine Below.alloc ?_ ?_ _ | with_reducible refine Below.setCell ?_ ?_ _ | with_reducible refine Below.trans ?_ (Below.mono (by assumption) ?_) | ((try simp only [World.heap_size_alloc, World.heap_size_drew, World.heap_size_setCell]); omega)))
    · have e : rowEntry [x0, x1, x2, x3, x4, x5, x6, x7, x8] = (entryNone, false) := if_neg hok
      have hb : entryOk ⟨x0, x1, x2, x3, ⟨x4, x5, x6, x7, x8⟩⟩ = false := by simpa using hok
      rw [e]
      clear e hok
      go_enter Try.func78, Try.ntmps78
      go_wp2
      go_region_held3 (fun w' => w'.cell? ⟨g, off, none⟩ = some (.int .i64 x0) ∧ w'.cell? ⟨g, off + 1, none⟩ = some (.int .i64 x1) ∧ w'.cell? ⟨g, off + 2, none⟩ = some (.int .i64 x2) ∧ w'.cell? ⟨g, off + 3, none⟩ = some (.int .i64 x3) ∧ Below (w.alloc (.cells #[.int .i64 0, .int .i64 0, .int .i64 0, .int .i64 0, .int .i64 0, .int .i64 0, .int .i64 0, .int .i64 0, .int .i64 0] 32)).heap.size (w.alloc (.cells #[.int .i64 0, .int .i64 0, .int .i64 0, .int .i64 0, .int .i64 0, .int .i64 0, .int .i64 0, .int .i64 0, .int .i64 0] 32)) w')
        (first | (refine HSK.out _ ?_; (repeat' (first | with_reducible exact Below.refl _ _ | with_reducible assumption | with_reducible refine Below.drew ?_ | with_reducible refine Below.alloc ?_ ?_ _ | with_reducible refine Below.setCell ?_ ?_ _ | with_reducible refine Below.trans ?_ (Below.mono (by assumption) ?_) | ((try simp only [World.heap_size_alloc, World.heap_size_drew, World.heap_size_setCell]); omega)))) | (go_split_ands; refine HSK.out _ ?_; (repeat' (first | with_reducible exact Below.refl _ _ | with_reducible assumption | with_reducible refine Below.drew ?_ | with_reducible refine Below.alloc ?_ ?_ _ | with_reducible refine Below.setCell ?_ ?_ _ | with_reducible refine Below.trans ?_ (Below.mono (by assumption) ?_) | ((try simp only [World.heap_size_alloc, World.heap_size_drew, World.heap_size_setCell]); omega)))))
        (first
          | (go_at_call 132; refine (opOf_any g (off + 4) _ _ x4 x5 x6 x7 x8 [] _ (by omega) (by omega) (H4.out.below (B := w.heap.size) (by (repeat' (first | with_reducible exact Below.refl _ _ | with_reducible assumption | with_reducible refine Below.drew ?_ | with_reducible refine Below.alloc ?_ ?_ _ | with_reducible refine Below.setCell ?_ ?_ _ | with_reducible refine Below.trans ?_ (Below.mono (by assumption) ?_) | ((try simp only [World.heap_size_alloc, World.heap_size_drew, World.heap_size_setCell]); omega)))) hg)).mono ?_; rintro _ w1 ⟨rfl, b1⟩; obtain ⟨b1_c, b1_f⟩ := bcell b1; have y1 := b1.size; (try simp only [World.heap_size_alloc, World.heap_size_drew] at y1); have z1 : w.heap.size < w1.heap.size := (by omega); (first | (have z1b : w.heap.size + 1 < w1.heap.size := by omega) | skip)))
      all_goals
        go_wp2_with fail
        (with_reducible refine (entryOk_any _ _ _ _ _ _ _ _ _ _).mono ?_); rintro e w2 ⟨rfl, b2⟩; obtain ⟨b2_c, b2_f⟩ := bcell b2; have b2_z := b2.size; (try simp only [World.heap_size_alloc, World.heap_size_drew, World.heap_size_setCell] at b2_z); (first | (have b2_z0 : w.heap.size < w2.heap.size := by omega) | skip); (first | (have b2_z1 : w.heap.size + 1 < w2.heap.size := by omega) | skip); (first | (have b2_z2 : w.heap.size + 1 + 1 < w2.heap.size := by omega) | skip)
        go_wp2_with fail
        clear b1_c b1_f b2_c b2_f
        have hb2 : Below (w.alloc (.cells #[.int .i64 0, .int .i64 0, .int .i64 0, .int .i64 0, .int .i64 0, .int .i64 0, .int .i64 0, .int .i64 0, .int .i64 0] 32)).heap.size (w.alloc (.cells #[.int .i64 0, .int .i64 0, .int .i64 0, .int .i64 0, .int .i64 0, .int .i64 0, .int .i64 0, .int .i64 0, .int .i64 0] 32)) w2 := by (repeat' (first | with_reducible exact Below.refl _ _ | with_reducible assumption | with_reducible refine Below.drew ?_ | with_reducible refine Below.alloc ?_ ?_ _ | with_reducible refine Below.setCell ?_ ?_ _ | with_reducible refine Below.trans ?_ (Below.mono (by assumption) ?_) | ((try simp only [World.heap_size_alloc, World.heap_size_drew, World.heap_size_setCell]); omega)))
        obtain ⟨rc, rf⟩ := bcell hb2
        refine bodyPost_ret (v := .tuple #[.agg #[.int .i64 0, .int .i64 0, .int .i64 0, .int .i64 0, .int .i64 0, .int .i64 0, .int .i64 0, .int .i64 0, .int .i64 0], .bool false]) (by simp [results, Try.results78, go_sem, rc, rf]) rfl ⟨rfl, ?_⟩
        clear rc rf
        (repeat' (first | with_reducible exact Below.refl _ _ | with_reducible assumption | with_reducible refine Below.drew ?_ | with_reducible refine Below.alloc ?_ ?_ _ | with_reducible refine Below.setCell ?_ ?_ _ | with_reducible refine Below.trans ?_ (Below.mono (by assumption) ?_) | ((try simp only [World.heap_size_alloc, World.heap_size_drew, World.heap_size_setCell]); omega)))
  · have hl : zs.length ≠ 9 := by have := h.len; omega
    rw [rowEntry_none hl]
    have hn : n ≤ 9223372036854775807 := Nat.le_trans h.cap h.big
    clear hl h
    go_enter Try.func78, Try.ntmps78
    go_wp2
    refine bodyPost_ret (v := .tuple #[.agg #[.int .i64 0, .int .i64 0, .int .i64 0, .int .i64 0, .int .i64 0, .int .i64 0, .int .i64 0, .int .i64 0, .int .i64 0], .bool false]) (by simp [results, Try.results78, go_sem]) rfl ⟨rfl, ?_⟩
    (repeat' (first | with_reducible exact Below.refl _ _ | with_reducible assumption | with_reducible refine Below.drew ?_ | with_reducible refine Below.alloc ?_ ?_ _ | with_reducible refine Below.setCell ?_ ?_ _ | with_reducible refine Below.trans ?_ (Below.mono (by assumption) ?_) | ((try simp only [World.heap_size_alloc, World.heap_size_drew, World.heap_size_setCell]); omega)))
end Go.Proofs.Ytgnilmdaegnaaaa
