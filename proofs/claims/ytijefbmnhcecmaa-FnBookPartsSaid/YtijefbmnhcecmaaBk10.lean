/- Books: an owned copy. No conditions. -/
import Derived.Test.YtijefbmnhcecmaaBk9
set_option linter.unusedSimpArgs false
set_option linter.unusedVariables false
namespace Go.Proofs.Ytijefbmnhcecmaa
open Go.RowKit

theorem Own.updB {w w' : World} {base e k lo up : Nat} {v : Value} {n : Nat} {zs : List Int} (h : Own w base e k v n zs) (hu : Upd lo up w w') (ho : up ≤ base) : Own w' base e k v n zs := by
  refine ⟨h.1, ?_⟩
  rcases h.2 with hn | ⟨g, cap, cur, hv, hg, hh, r⟩
  · exact .inl hn
  · exact .inr ⟨g, cap, cur, hv, hg, by rw [hu.block g (Array.getElem?_eq_some_iff.1 hh).1 (.inr (Nat.le_trans ho hg))]; exact hh, r⟩
theorem Own.baseB {w : World} {base base' e k : Nat} {v : Value} {n : Nat} {zs : List Int} (h : Own w base e k v n zs) (hb : base' ≤ base) : Own w base' e k v n zs := by
  refine ⟨h.1, ?_⟩
  rcases h.2 with hn | ⟨g, cap, cur, hv, hg, hh, r⟩
  · exact .inl hn
  · exact .inr ⟨g, cap, cur, hv, Nat.le_trans hb hg, hh, r⟩
def BookOwn (w : World) (E : Nat) (b t : Int) (n : Nat) (zs : List Int) (e : Ending) (w' : World) : Prop :=
  ∃ A c, e = .returned (.agg #[.int .i64 b, .int .i64 t, .slice A n c]) ∧ Own w' w.heap.size E 9 (.slice A n c) n zs ∧ Below w.heap.size w w'
set_option maxRecDepth 100000 in
set_option maxHeartbeats 2000000 in
theorem copyBookO_any (b t : Int) (A : Option Addr) (n c lo hi : Nat) (l : List EntryD) (w : World) (h : Sl w lo hi 9 A n c (l.flatMap EntryD.ints)) (hn : n ≤ 1000000) :
    Calls Try.prog 69 #[.agg #[.int .i64 b, .int .i64 t, .slice A n c]] w (BookOwn w 37 b t n (l.flatMap EntryD.ints)) := by
  replace h := h.fit (by omega)
  have hhi : min hi w.heap.size ≤ w.heap.size := Nat.min_le_right _ _
  generalize min hi w.heap.size = hi at h hhi
  obtain ⟨W0, hW0⟩ : ∃ W0, W0 = ((w.alloc (.cells #[.int .i64 b, .int .i64 t, .slice A n c] 29)).alloc (.cells #[.int .i64 0, .int .i64 0, .slice none 0 0] 29)) := ⟨_, rfl⟩
  have hz0 : W0.heap.size = w.heap.size + 2 := by rw [hW0]; simp
  have hbw : Below w.heap.size w W0 := by rw [hW0]; (repeat' (first | with_reducible exact Below.refl _ _ | with_reducible assumption | with_reducible refine Below.drew ?_ | with_reducible refine Below.alloc ?_ ?_ _ | with_reducible refine Below.setCell ?_ ?_ _ | with_reducible refine Below.trans ?_ (Below.mono (by assumption) ?_) | ((try simp only [World.heap_size_alloc, World.heap_size_drew, World.heap_size_setCell]); omega)))
  have k0 : W0.cell? ⟨w.heap.size, 0, none⟩ = some (.int .i64 b) := by rw [hW0]; simp
  have k1 : W0.cell? ⟨w.heap.size, 1, none⟩ = some (.int .i64 t) := by rw [hW0]; simp
  have k2 : W0.cell? ⟨w.heap.size, 2, none⟩ = some (.slice A n c) := by rw [hW0]; simp
  have SK : ∀ W, Upd (w.heap.size + 1) (w.heap.size + 2) W0 W → (W.cell? ⟨w.heap.size, 0, none⟩ = some (.int .i64 b) ∧ W.cell? ⟨w.heap.size, 1, none⟩ = some (.int .i64 t) ∧ W.cell? ⟨w.heap.size, 2, none⟩ = some (.slice A n c) ∧ Upd (w.heap.size + 1) (w.heap.size + 2) W0 W) := fun W hu => ⟨((ucell hu (b := w.heap.size) (by omega) (.inl (by omega))).1 0).trans k0, ((ucell hu (b := w.heap.size) (by omega) (.inl (by omega))).1 1).trans k1, ((ucell hu (b := w.heap.size) (by omega) (.inl (by omega))).1 2).trans k2, hu⟩
  have HSK := Lib.hid SK
  have RK : ∀ W, Below W0.heap.size W0 W → W.cell? ⟨w.heap.size + 1, 0, none⟩ = some (.int .i64 0) ∧ W.cell? ⟨w.heap.size + 1, 1, none⟩ = some (.int .i64 0) ∧ W.cell? ⟨w.heap.size + 1, 2, none⟩ = some (.slice none 0 0) ∧ W.frozen? ⟨w.heap.size + 1, 0, none⟩ = false ∧ W.frozen? ⟨w.heap.size + 1, 1, none⟩ = false ∧ W.frozen? ⟨w.heap.size + 1, 2, none⟩ = false := fun W hb =>
    ⟨(hb.cell (p := ⟨w.heap.size + 1, 0, none⟩) (show w.heap.size + 1 < _ by omega)).trans (by rw [hW0]; simp), (hb.cell (p := ⟨w.heap.size + 1, 1, none⟩) (show w.heap.size + 1 < _ by omega)).trans (by rw [hW0]; simp), (hb.cell (p := ⟨w.heap.size + 1, 2, none⟩) (show w.heap.size + 1 < _ by omega)).trans (by rw [hW0]; simp), (hb.frozen (p := ⟨w.heap.size + 1, 0, none⟩) (show w.heap.size + 1 < _ by omega)).trans (by rw [hW0]; simp), (hb.frozen (p := ⟨w.heap.size + 1, 1, none⟩) (show w.heap.size + 1 < _ by omega)).trans (by rw [hW0]; simp), (hb.frozen (p := ⟨w.heap.size + 1, 2, none⟩) (show w.heap.size + 1 < _ by omega)).trans (by rw [hW0]; simp)⟩
  have HRK := Lib.hid RK
  have HS := Lib.hid (h.below hbw hhi)
  have HBW := Lib.hid hbw
  have O1 := Lib.hid (fun (W : World) (h : W0.heap.size ≤ W.heap.size) => Own.new W (base := W0.heap.size) 37 9 [] (n := 0) rfl h (by omega))
  have hza : w.heap.size + 1 < W0.heap.size := by omega
  have hzb : W0.heap.size ≤ w.heap.size + 2 := by omega
  have HW0 := Lib.hid hW0
  clear h hbw SK RK k0 k1 k2 hz0 hW0
  go_enter Try.func69, Try.ntmps69
  go_wp2_with fail
  rw [← HW0.out]
  go_region_held3 (fun w' => w'.cell? ⟨w.heap.size, 0, none⟩ = some (.int .i64 b) ∧ w'.cell? ⟨w.heap.size, 1, none⟩ = some (.int .i64 t) ∧ w'.cell? ⟨w.heap.size, 2, none⟩ = some (.slice A n c) ∧ Upd (w.heap.size + 1) (w.heap.size + 2) W0 w')
    (first | (refine HSK.out _ ?_; (repeat' (first | with_reducible exact Upd.refl _ _ _ | with_reducible assumption | with_reducible refine Upd.drew ?_ | with_reducible refine Upd.alloc ?_ _ | with_reducible refine Upd.setCell ?_ ?_ ?_ _ | (simp only []; omega) | omega))) | (go_split_ands; refine HSK.out _ ?_; (repeat' (first | with_reducible exact Upd.refl _ _ _ | with_reducible assumption | with_reducible refine Upd.drew ?_ | with_reducible refine Upd.alloc ?_ _ | with_reducible refine Upd.setCell ?_ ?_ ?_ _ | (simp only []; omega) | omega))))
    (first | (go_loud (refine step_append_sl _ (by rfl) (.tmp 7) (.tmp 9) 27 (by rfl) W0.heap.size 37 Try.underlying27 infoEntry (by rfl) (by omega) _ 0 [] (by rfl) ((O1.out W0 (Nat.le_refl _)).kept (Below.drew (Below.refl _ _))) A n c _ _ (l.flatMap EntryD.ints) (by rfl) (HS.out.below (B := w.heap.size) (by (repeat' (first | with_reducible exact Below.refl _ _ | with_reducible assumption | with_reducible refine Below.drew ?_ | with_reducible refine Below.alloc ?_ ?_ _ | with_reducible refine Below.setCell ?_ ?_ _ | with_reducible refine Below.trans ?_ (Below.mono (by assumption) ?_) | ((try simp only [World.heap_size_alloc, World.heap_size_drew, World.heap_size_setCell]); omega)))) hhi) (by omega) (by omega) (by (try simp only [World.heap_size_alloc, World.heap_size_drew, World.heap_size_setCell]); omega) ?_); intro v2 w2 o2 g2 a2; have c2 : Below W0.heap.size W0 w2 := (Below.drew ((Below.refl _ _).alloc (Nat.le_refl _) _)).trans (grown_below g2 (by (try simp only [World.heap_size_alloc, World.heap_size_drew, World.heap_size_setCell]); omega) (fun g hg => (Own.lt (O1.out W0 (Nat.le_refl _)) g hg).1)); have u2 : Upd (w.heap.size + 1) (w.heap.size + 2) W0 w2 := Upd.of_below c2; obtain ⟨q0, q1, q2, q3, q4, q5⟩ := HRK.out w2 c2; have y2 := c2.size; obtain ⟨A2, q9, rfl, s2⟩ := o2.sl; rw [Nat.zero_add, List.nil_append] at s2; rw [Nat.zero_add]; clear g2 a2))
  go_wp2
  (try simp only [World.heap_size_alloc, World.heap_size_drew] at y2)
  refine bodyPost_ret (v := .agg #[.int .i64 b, .int .i64 t, .slice A2 n q9]) (by simp [results, Try.results69, go_sem, q0, q1, q2]) rfl ⟨A2, q9, rfl, ?_, ?_⟩
  · rw [Nat.zero_add, List.nil_append] at o2
    refine Own.baseB (Own.updB (lo := w.heap.size + 1) (up := w.heap.size + 2) o2 ?_ (by omega)) (by omega)
    (repeat' (first | with_reducible exact Upd.refl _ _ _ | with_reducible assumption | with_reducible refine Upd.drew ?_ | with_reducible refine Upd.alloc ?_ _ | with_reducible refine Upd.setCell ?_ ?_ ?_ _ | (simp only []; omega) | omega))
  · refine HBW.out.trans ?_
    have c9 : Below w.heap.size W0 w2 := c2.mono (by (try simp only [World.heap_size_alloc, World.heap_size_drew, World.heap_size_setCell]); omega)
    (repeat' (first | with_reducible exact Below.refl _ _ | with_reducible assumption | with_reducible refine Below.drew ?_ | with_reducible refine Below.alloc ?_ ?_ _ | with_reducible refine Below.setCell ?_ ?_ _ | with_reducible refine Below.trans ?_ (Below.mono (by assumption) ?_) | ((try simp only [World.heap_size_alloc, World.heap_size_drew, World.heap_size_setCell]); omega)))

end Go.Proofs.Ytijefbmnhcecmaa
