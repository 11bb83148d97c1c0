/- Books: the reference's owned copies. No conditions. -/
import Derived.Test.YtijefbmnhcecmaaBk10
set_option linter.unusedSimpArgs false
set_option linter.unusedVariables false
namespace Go.Proofs.Ytijefbmnhcecmaa
open Go.RowKit

def RowOwn (w : World) (E n : Nat) (zs : List Int) (e : Ending) (w' : World) : Prop :=
  ∃ A c, e = .returned (.slice A n c) ∧ Own w' w.heap.size E 9 (.slice A n c) n zs ∧ Below w.heap.size w w'
set_option maxHeartbeats 1000000 in
theorem l8EntriesO_any (A : Option Addr) (n c lo hi : Nat) (l : List EntryD) (w : World) (h : Sl w lo hi 9 A n c (l.flatMap EntryD.ints)) (hn : n ≤ 1000000) :
    Calls Try.prog 70 #[.slice A n c] w (RowOwn w 37 n (l.flatMap EntryD.ints)) := by
  have o1 : Own (w.alloc (.cells #[] 37)) w.heap.size 37 9 (.slice (some ⟨w.heap.size, 0, none⟩) 0 0) 0 [] := Own.new w 37 9 [] rfl (Nat.le_refl _) (by omega)
  have O1 := Lib.hid o1
  have hb1 : Below (min hi w.heap.size) w (w.alloc (.cells #[] 37)) := (Below.refl _ _).alloc (Nat.min_le_right _ _) _
  have H := Lib.hid ((h.fit (by omega)).below hb1 (Nat.le_refl _))
  clear h o1
  go_enter Try.func70, Try.ntmps70
  go_wp2_with (at_builtin; go_loud (refine wpList_append_sl _ rfl (.tmp 3) (.tmp 4) 27 rfl w.heap.size 37 Try.underlying27 infoEntry rfl (by omega) _ _ _ rfl O1.out _ n c _ _ _ rfl H.out (by omega) (by omega) (by (try simp only [World.heap_size_alloc, World.heap_size_drew, World.heap_size_setCell]); omega) ?_); intro v2 w2 o2 g2 a2)
  have hb2 : Below w.heap.size w w2 := ((Below.refl w.heap.size w).alloc (Nat.le_refl _) _).trans (grown_below g2 (by (try simp only [World.heap_size_alloc, World.heap_size_drew, World.heap_size_setCell]); omega) (fun g hg => (Own.lt O1.out g hg).1))
  have O2 := Lib.hid o2
  clear o2 g2 a2
  go_ret
  obtain ⟨A2, c2, rfl, s2⟩ := O2.out.sl
  have o3 := O2.out
  rw [Nat.zero_add, List.nil_append] at o3
  rw [Nat.zero_add]
  exact ⟨A2, c2, rfl, o3, hb2⟩
set_option maxRecDepth 100000 in
set_option maxHeartbeats 2000000 in
theorem l8CopyO_any (b t : Int) (A : Option Addr) (n c lo hi : Nat) (l : List EntryD) (w : World) (h : Sl w lo hi 9 A n c (l.flatMap EntryD.ints)) (hn : n ≤ 1000000) :
    Calls Try.prog 68 #[.agg #[.int .i64 b, .int .i64 t, .slice A n c]] w (BookOwn w 37 b t n (l.flatMap EntryD.ints)) := by
  replace h := h.fit (by omega)
  have hhi : min hi w.heap.size ≤ w.heap.size := Nat.min_le_right _ _
  generalize min hi w.heap.size = hi at h hhi
  obtain ⟨W0, hW0⟩ : ∃ W0, W0 = ((w.alloc (.cells #[.int .i64 b, .int .i64 t, .slice A n c] 29)).alloc (.cells #[.int .i64 0, .int .i64 0, .slice none 0 0] 29)) := ⟨_, rfl⟩
  have hz0 : W0.heap.size = w.heap.size + 2 := by rw [hW0]; simp
  have hbw : Below w.heap.size w W0 := by rw [hW0]; (repeat' (first | with_reducible exact Below.refl _ _ | with_reducible assumption | with_reducible refine Below.drew ?_ | with_reducible refine Below.alloc ?_ ?_ _ | with_reducible refine Below.setCell ?_ ?_ _ | with_reducible refine Below.trans ?_ (Below.mono (by assumption) ?_) | ((try simp only [World.heap_size_alloc, World.heap_size_drew, World.heap_size_setCell]); omega)))
  have k0 : W0.cell? ⟨w.heap.size, 0, none⟩ = some (.int .i64 b) := by rw [hW0]; simp
  have k1 : W0.cell? ⟨w.heap.size, 1, none⟩ = some (.int .i64 t) := by rw [hW0]; simp
  have k2 : W0.cell? ⟨w.heap.size, 2, none⟩ = some (.slice A n c) := by rw [hW0]; simp
  have SK : ∀ W, Upd (w.heap.size + 1) (w.heap.size + 2) W0 W → (W.cell? ⟨w.heap.size, 0, none⟩ = some (.int .i64 b) ∧ W.cell? ⟨w.heap.size, 1, none⟩ = some (.int .i64 t) ∧ W.cell? ⟨w.heap.size, 2, none⟩ = some (.slice A n c) ∧ Upd (w.heap.size + 1) (w.heap.size + 2) W0 W) := fun W hu => ⟨((ucell hu (b := w.heap.size) (by omega) (.inl (by omega))).1 0).trans k0, ((ucell hu (b := w.heap.size) (by omega) (.inl (by omega))).1 1).trans k1, ((ucell hu (b := w.heap.size) (by omega) (.inl (by omega))).1 2).trans k2, hu⟩
  have HSK := Lib.hid SK
  have RK : ∀ W, Below W0.heap.size W0 W → W.cell? ⟨w.heap.size + 1, 0, none⟩ = some (.int .i64 0) ∧ W.cell? ⟨w.heap.size + 1, 1, none⟩ = some (.int .i64 0) ∧ W.cell? ⟨w.heap.size + 1, 2, none⟩ = some (.slice none 0 0) ∧ W.frozen? ⟨w.heap.size + 1, 0, none⟩ = false ∧ W.frozen? ⟨w.heap.size + 1, 1, none⟩ = false ∧ W.frozen? ⟨w.heap.size + 1, 2, none⟩ = false := fun W hb =>
    ⟨(hb.cell (p := ⟨w.heap.size + 1, 0, none⟩) (show w.heap.size + 1 < _ by omega)).trans (by rw [hW0]; simp), (hb.cell (p := ⟨w.heap.size + 1, 1, none⟩) (show w.heap.size + 1 < _ by omega)).trans (by rw [hW0]; simp), (hb.cell (p := ⟨w.heap.size + 1, 2, none⟩) (show w.heap.size + 1 < _ by omega)).trans (by rw [hW0]; simp), (hb.frozen (p := ⟨w.heap.size + 1, 0, none⟩) (show w.heap.size + 1 < _ by omega)).trans (by rw [hW0]; simp), (hb.frozen (p := ⟨w.heap.size + 1, 1, none⟩) (show w.heap.size + 1 < _ by omega)).trans (by rw [hW0]; simp), (hb.frozen (p := ⟨w.heap.size + 1, 2, none⟩) (show w.heap.size + 1 < _ by omega)).trans (by rw [hW0]; simp)⟩
  have HRK := Lib.hid RK
  have HS := Lib.hid (h.below hbw hhi)
  have HBW := Lib.hid hbw
  have hza : w.heap.size + 1 < W0.heap.size := by omega
  have hzb : W0.heap.size ≤ w.heap.size + 2 := by omega
  have HW0 := Lib.hid hW0
  clear h hbw SK RK k0 k1 k2 hz0 hW0
  go_enter Try.func68, Try.ntmps68
  go_wp2_with fail
  rw [← HW0.out]
  go_region_held3 (fun w' => w'.cell? ⟨w.heap.size, 0, none⟩ = some (.int .i64 b) ∧ w'.cell? ⟨w.heap.size, 1, none⟩ = some (.int .i64 t) ∧ w'.cell? ⟨w.heap.size, 2, none⟩ = some (.slice A n c) ∧ Upd (w.heap.size + 1) (w.heap.size + 2) W0 w')
    (first | (refine HSK.out _ ?_; (repeat' (first | with_reducible exact Upd.refl _ _ _ | with_reducible assumption | with_reducible refine Upd.drew ?_ | with_reducible refine Upd.alloc ?_ _ | with_reducible refine Upd.setCell ?_ ?_ ?_ _ | (simp only []; omega) | omega))) | (go_split_ands; refine HSK.out _ ?_; (repeat' (first | with_reducible exact Upd.refl _ _ _ | with_reducible assumption | with_reducible refine Upd.drew ?_ | with_reducible refine Upd.alloc ?_ _ | with_reducible refine Upd.setCell ?_ ?_ ?_ _ | (simp only []; omega) | omega))))
    (first | (go_at_call 70; (with_reducible refine (l8EntriesO_any A n c lo hi l _ (HS.out.below (B := w.heap.size) (by (repeat' (first | with_reducible exact Below.refl _ _ | with_reducible assumption | with_reducible refine Below.drew ?_ | with_reducible refine Below.alloc ?_ ?_ _ | with_reducible refine Below.setCell ?_ ?_ _ | with_reducible refine Below.trans ?_ (Below.mono (by assumption) ?_) | ((try simp only [World.heap_size_alloc, World.heap_size_drew, World.heap_size_setCell]); omega)))) hhi) hn).mono ?_); rintro _ w2 ⟨A2, c2, rfl, s2, b2⟩; have b3 : Below W0.heap.size W0 w2 := (by (repeat' (first | with_reducible exact Below.refl _ _ | with_reducible assumption | with_reducible refine Below.drew ?_ | with_reducible refine Below.alloc ?_ ?_ _ | with_reducible refine Below.setCell ?_ ?_ _ | with_reducible refine Below.trans ?_ (Below.mono (by assumption) ?_) | ((try simp only [World.heap_size_alloc, World.heap_size_drew, World.heap_size_setCell]); omega)))); have u2 : Upd (w.heap.size + 1) (w.heap.size + 2) W0 w2 := Upd.of_below b3; obtain ⟨q0, q1, q2, q3, q4, q5⟩ := HRK.out w2 b3; have y2 := b3.size; clear b2))
  go_wp2
  (try simp only [World.heap_size_alloc, World.heap_size_drew] at y2)
  refine bodyPost_ret (v := .agg #[.int .i64 b, .int .i64 t, .slice A2 n c2]) (by simp [results, Try.results68, go_sem, q0, q1, q2]) rfl ⟨A2, c2, rfl, ?_, ?_⟩
  · refine Own.baseB (Own.updB (lo := w.heap.size + 1) (up := w.heap.size + 2) s2 ?_ (by (try simp only [World.heap_size_drew]); omega)) (by (try simp only [World.heap_size_drew]); omega)
    (repeat' (first | with_reducible exact Upd.refl _ _ _ | with_reducible assumption | with_reducible refine Upd.drew ?_ | with_reducible refine Upd.alloc ?_ _ | with_reducible refine Upd.setCell ?_ ?_ ?_ _ | (simp only []; omega) | omega))
  · refine HBW.out.trans ?_
    have c9 : Below w.heap.size W0 w2 := b3.mono (by (try simp only [World.heap_size_alloc, World.heap_size_drew, World.heap_size_setCell]); omega)
    (repeat' (first | with_reducible exact Below.refl _ _ | with_reducible assumption | with_reducible refine Below.drew ?_ | with_reducible refine Below.alloc ?_ ?_ _ | with_reducible refine Below.setCell ?_ ?_ _ | with_reducible refine Below.trans ?_ (Below.mono (by assumption) ?_) | ((try simp only [World.heap_size_alloc, World.heap_size_drew, World.heap_size_setCell]); omega)))

end Go.Proofs.Ytijefbmnhcecmaa
