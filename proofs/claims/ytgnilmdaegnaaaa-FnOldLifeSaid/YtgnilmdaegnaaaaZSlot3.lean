/- Rows of sectors: what the program's and the reference's functions return. No conditions. -/
import Derived.Test.YtgnilmdaegnaaaaZNum
import Derived.Test.YtgnilmdaegnaaaaZApp
set_option linter.unusedSimpArgs false
set_option linter.unusedVariables false
namespace Go.Proofs.Ytgnilmdaegnaaaa
open Go.RowKit
def OwnRes (w : World) (E n : Nat) (zs : List Int) (e : Ending) (w' : World) : Prop := ∃ v, e = .returned v ∧ Own w' w.heap.size E 1 v n zs ∧ Below w.heap.size w w'
theorem Own.base {w : World} {base base' e k : Nat} {v : Value} {n : Nat} {zs : List Int} (h : Own w base e k v n zs) (hb : base' ≤ base) : Own w base' e k v n zs := by
  refine ⟨h.1, ?_⟩
  rcases h.2 with hn | ⟨g, cap, cur, hv, hg, hh, r⟩
  · exact .inl hn
  · exact .inr ⟨g, cap, cur, hv, Nat.le_trans hb hg, hh, r⟩
theorem src2_new (W : World) (E : Nat) (x y : Int) : Sl (W.alloc (.cells #[.int .i64 x, .int .i64 y] E)) W.heap.size (W.heap.size + 1) 1 (some ⟨W.heap.size, 0, none⟩) 2 2 [x, y] :=
  ⟨rfl, by omega, by omega, fun _ => ⟨_, 0, rfl, Nat.le_refl _, by omega, ints_new W E [x, y]⟩⟩
def slotRow (e : EntryD) : List Int := if entryOk e then e.ints ++ [e.index, e.index] else []
set_option maxRecDepth 100000 in
set_option maxHeartbeats 2000000 in
theorem eNumbersO_any (i t c s k a b cc d : Int) (w : World) :
    Calls Try.prog 76 #[.agg #[.int .i64 i, .int .i64 t, .int .i64 c, .int .i64 s, .int .i64 k, .int .i64 a, .int .i64 b, .int .i64 cc, .int .i64 d]] w (OwnRes w 2 9 [i, t, c, s, k, a, b, cc, d]) := by
  go_enter Try.func76, Try.ntmps76
  go_wp2_with fail
  have o0 : Own (((w.alloc (.cells #[.int .i64 i, .int .i64 t, .int .i64 c, .int .i64 s, .int .i64 k, .int .i64 a, .int .i64 b, .int .i64 cc, .int .i64 d] 32)).alloc (.cells #[.int .i64 i, .int .i64 t, .int .i64 c, .int .i64 s] 2)).alloc (.cells #[.int .i64 k, .int .i64 a, .int .i64 b, .int .i64 cc, .int .i64 d, .slice (some ⟨w.heap.size + 1, 0, none⟩) 4 4] 150)) w.heap.size 2 1 (.slice (some ⟨w.heap.size + 1, 0, none⟩) 4 4) 4 [i, t, c, s] := by
    have h1 := Own.new (w.alloc (.cells #[.int .i64 i, .int .i64 t, .int .i64 c, .int .i64 s, .int .i64 k, .int .i64 a, .int .i64 b, .int .i64 cc, .int .i64 d] 32)) (base := w.heap.size) 2 1 [i, t, c, s] (n := 4) rfl (by simp) (by omega)
    rw [World.heap_size_alloc] at h1
    exact h1.kept ((Below.refl _ _).alloc (Nat.le_refl _) _)
  have k0 : (((w.alloc (.cells #[.int .i64 i, .int .i64 t, .int .i64 c, .int .i64 s, .int .i64 k, .int .i64 a, .int .i64 b, .int .i64 cc, .int .i64 d] 32)).alloc (.cells #[.int .i64 i, .int .i64 t, .int .i64 c, .int .i64 s] 2)).alloc (.cells #[.int .i64 k, .int .i64 a, .int .i64 b, .int .i64 cc, .int .i64 d, .slice (some ⟨w.heap.size + 1, 0, none⟩) 4 4] 150)).cell? ⟨w.heap.size + 1 + 1, 0, none⟩ = some (.int .i64 k) := by simp [go_sem]
  have k1 : (((w.alloc (.cells #[.int .i64 i, .int .i64 t, .int .i64 c, .int .i64 s, .int .i64 k, .int .i64 a, .int .i64 b, .int .i64 cc, .int .i64 d] 32)).alloc (.cells #[.int .i64 i, .int .i64 t, .int .i64 c, .int .i64 s] 2)).alloc (.cells #[.int .i64 k, .int .i64 a, .int .i64 b, .int .i64 cc, .int .i64 d, .slice (some ⟨w.heap.size + 1, 0, none⟩) 4 4] 150)).cell? ⟨w.heap.size + 1 + 1, 1, none⟩ = some (.int .i64 a) := by simp [go_sem]
  have k2 : (((w.alloc (.cells #[.int .i64 i, .int .i64 t, .int .i64 c, .int .i64 s, .int .i64 k, .int .i64 a, .int .i64 b, .int .i64 cc, .int .i64 d] 32)).alloc (.cells #[.int .i64 i, .int .i64 t, .int .i64 c, .int .i64 s] 2)).alloc (.cells #[.int .i64 k, .int .i64 a, .int .i64 b, .int .i64 cc, .int .i64 d, .slice (some ⟨w.heap.size + 1, 0, none⟩) 4 4] 150)).cell? ⟨w.heap.size + 1 + 1, 2, none⟩ = some (.int .i64 b) := by simp [go_sem]
  have k3 : (((w.alloc (.cells #[.int .i64 i, .int .i64 t, .int .i64 c, .int .i64 s, .int .i64 k, .int .i64 a, .int .i64 b, .int .i64 cc, .int .i64 d] 32)).alloc (.cells #[.int .i64 i, .int .i64 t, .int .i64 c, .int .i64 s] 2)).alloc (.cells #[.int .i64 k, .int .i64 a, .int .i64 b, .int .i64 cc, .int .i64 d, .slice (some ⟨w.heap.size + 1, 0, none⟩) 4 4] 150)).cell? ⟨w.heap.size + 1 + 1, 3, none⟩ = some (.int .i64 cc) := by simp [go_sem]
  have k4 : (((w.alloc (.cells #[.int .i64 i, .int .i64 t, .int .i64 c, .int .i64 s, .int .i64 k, .int .i64 a, .int .i64 b, .int .i64 cc, .int .i64 d] 32)).alloc (.cells #[.int .i64 i, .int .i64 t, .int .i64 c, .int .i64 s] 2)).alloc (.cells #[.int .i64 k, .int .i64 a, .int .i64 b, .int .i64 cc, .int .i64 d, .slice (some ⟨w.heap.size + 1, 0, none⟩) 4 4] 150)).cell? ⟨w.heap.size + 1 + 1, 4, none⟩ = some (.int .i64 d) := by simp [go_sem]
  have k5 : (((w.alloc (.cells #[.int .i64 i, .int .i64 t, .int .i64 c, .int .i64 s, .int .i64 k, .int .i64 a, .int .i64 b, .int .i64 cc, .int .i64 d] 32)).alloc (.cells #[.int .i64 i, .int .i64 t, .int .i64 c, .int .i64 s] 2)).alloc (.cells #[.int .i64 k, .int .i64 a, .int .i64 b, .int .i64 cc, .int .i64 d, .slice (some ⟨w.heap.size + 1, 0, none⟩) 4 4] 150)).cell? ⟨w.heap.size + 1 + 1, 5, none⟩ = some (.slice (some ⟨w.heap.size + 1, 0, none⟩) 4 4) := by simp [go_sem]
  have hB : Below w.heap.size w (((w.alloc (.cells #[.int .i64 i, .int .i64 t, .int .i64 c, .int .i64 s, .int .i64 k, .int .i64 a, .int .i64 b, .int .i64 cc, .int .i64 d] 32)).alloc (.cells #[.int .i64 i, .int .i64 t, .int .i64 c, .int .i64 s] 2)).alloc (.cells #[.int .i64 k, .int .i64 a, .int .i64 b, .int .i64 cc, .int .i64 d, .slice (some ⟨w.heap.size + 1, 0, none⟩) 4 4] 150)) := by (repeat' (first | with_reducible exact Below.refl _ _ | with_reducible assumption | with_reducible refine Below.drew ?_ | with_reducible refine Below.alloc ?_ ?_ _ | with_reducible refine Below.setCell ?_ ?_ _ | with_reducible refine Below.trans ?_ (Below.mono (by assumption) ?_) | ((try simp only [World.heap_size_alloc, World.heap_size_drew, World.heap_size_setCell]); omega)))
  have hz : w.heap.size + 1 + 1 < (((w.alloc (.cells #[.int .i64 i, .int .i64 t, .int .i64 c, .int .i64 s, .int .i64 k, .int .i64 a, .int .i64 b, .int .i64 cc, .int .i64 d] 32)).alloc (.cells #[.int .i64 i, .int .i64 t, .int .i64 c, .int .i64 s] 2)).alloc (.cells #[.int .i64 k, .int .i64 a, .int .i64 b, .int .i64 cc, .int .i64 d, .slice (some ⟨w.heap.size + 1, 0, none⟩) 4 4] 150)).heap.size := by simp
  generalize ((w.alloc (.cells #[.int .i64 i, .int .i64 t, .int .i64 c, .int .i64 s, .int .i64 k, .int .i64 a, .int .i64 b, .int .i64 cc, .int .i64 d] 32)).alloc (.cells #[.int .i64 i, .int .i64 t, .int .i64 c, .int .i64 s] 2)).alloc (.cells #[.int .i64 k, .int .i64 a, .int .i64 b, .int .i64 cc, .int .i64 d, .slice (some ⟨w.heap.size + 1, 0, none⟩) 4 4] 150) = W3 at *
  have hzz := hB.size
  have H0 := Lib.hid o0
  clear o0
  go_region_held3 (fun w' => w'.cell? ⟨w.heap.size + 1 + 1, 0, none⟩ = some (.int .i64 k) ∧ w'.cell? ⟨w.heap.size + 1 + 1, 1, none⟩ = some (.int .i64 a) ∧ w'.cell? ⟨w.heap.size + 1 + 1, 2, none⟩ = some (.int .i64 b) ∧ w'.cell? ⟨w.heap.size + 1 + 1, 3, none⟩ = some (.int .i64 cc) ∧ w'.cell? ⟨w.heap.size + 1 + 1, 4, none⟩ = some (.int .i64 d) ∧ w'.cell? ⟨w.heap.size + 1 + 1, 5, none⟩ = some (.slice (some ⟨w.heap.size + 1, 0, none⟩) 4 4)) (first | exact ⟨k0, k1, k2, k3, k4, k5⟩ | exact ⟨(c1.cell (p := ⟨w.heap.size + 1 + 1, 0, none⟩) hz).trans k0, (c1.cell (p := ⟨w.heap.size + 1 + 1, 1, none⟩) hz).trans k1, (c1.cell (p := ⟨w.heap.size + 1 + 1, 2, none⟩) hz).trans k2, (c1.cell (p := ⟨w.heap.size + 1 + 1, 3, none⟩) hz).trans k3, (c1.cell (p := ⟨w.heap.size + 1 + 1, 4, none⟩) hz).trans k4, (c1.cell (p := ⟨w.heap.size + 1 + 1, 5, none⟩) hz).trans k5⟩ | exact ⟨(c2 0).trans ((c1.cell (p := ⟨w.heap.size + 1 + 1, 0, none⟩) hz).trans k0), (c2 1).trans ((c1.cell (p := ⟨w.heap.size + 1 + 1, 1, none⟩) hz).trans k1), (c2 2).trans ((c1.cell (p := ⟨w.heap.size + 1 + 1, 2, none⟩) hz).trans k2), (c2 3).trans ((c1.cell (p := ⟨w.heap.size + 1 + 1, 3, none⟩) hz).trans k3), (c2 4).trans ((c1.cell (p := ⟨w.heap.size + 1 + 1, 4, none⟩) hz).trans k4), (c2 5).trans ((c1.cell (p := ⟨w.heap.size + 1 + 1, 5, none⟩) hz).trans k5)⟩)
    (first
      | (refine step_append_sl _ (by rfl) (.tmp 17) (.tmp 20) 28 (by rfl) w.heap.size 2 Try.underlying28 info64 (by rfl) (by omega) (.slice (some ⟨w.heap.size + 1, 0, none⟩) 4 4) 4 [i, t, c, s] (by rfl) (H0.out.kept c1) A1 5 q1 _ _ [k, a, b, cc, d] (by rfl) s1 (by omega) (by omega) (by have := c1.size; omega) ?_; intro v2 w2 o2 g2 a2; have c2 : ∀ j, w2.cell? ⟨w.heap.size + 1 + 1, j, none⟩ = w1.cell? ⟨w.heap.size + 1 + 1, j, none⟩ := fun j => World.cell?_of_block (g2.block _ (Nat.lt_of_lt_of_le hz c1.size) (by simp [Value.ownBlock])))
      | (go_at_call 130; refine (numbers_any _ _ _ _ _ _).mono ?_; rintro _ w1 ⟨A1, q1, rfl, s1, b1⟩; obtain ⟨b1_c, b1_f⟩ := bcell b1; have c1 : Below W3.heap.size W3 w1 := by (repeat' (first | with_reducible exact Below.refl _ _ | with_reducible assumption | with_reducible refine Below.drew ?_ | with_reducible refine Below.alloc ?_ ?_ _ | with_reducible refine Below.setCell ?_ ?_ _ | with_reducible refine Below.trans ?_ (Below.mono (by assumption) ?_) | ((try simp only [World.heap_size_alloc, World.heap_size_drew, World.heap_size_setCell]); omega)))))
  go_wp2
  go_ret
  have hB2 : Below w.heap.size w w2 := (hB.trans (c1.mono (by omega))).trans (grown_below g2 (by have := c1.size; omega) (fun g hg => by simp [Value.ownBlock] at hg; omega))
  exact ⟨v2, rfl, o2, hB2⟩
set_option maxRecDepth 100000 in
set_option maxHeartbeats 4000000 in
theorem slotRow_any (i t c s k a b cc d : Int) (w : World) :
    Calls Try.prog 18 #[.agg #[.int .i64 i, .int .i64 t, .int .i64 c, .int .i64 s, .int .i64 k, .int .i64 a, .int .i64 b, .int .i64 cc, .int .i64 d]] w (SlRes w 1 (slotRow ⟨i, t, c, s, ⟨k, a, b, cc, d⟩⟩).length (slotRow ⟨i, t, c, s, ⟨k, a, b, cc, d⟩⟩)) := by
  by_cases h : entryOk ⟨i, t, c, s, ⟨k, a, b, cc, d⟩⟩ = true
  · have e : slotRow ⟨i, t, c, s, ⟨k, a, b, cc, d⟩⟩ = [i, t, c, s, k, a, b, cc, d] ++ [i, i] := if_pos h
    rw [e]
    clear e
    have HO := Lib.hid (fun W => eNumbersO_any i t c s k a b cc d W)
    go_enter Try.func18, Try.ntmps18
    go_wp2_with fail
    (with_reducible refine (entryOk_any _ _ _ _ _ _ _ _ _ _).mono ?_); rintro e w1 ⟨rfl, b1⟩; obtain ⟨b1_c, b1_f⟩ := bcell b1; have b1_z := b1.size; (try simp only [World.heap_size_alloc, World.heap_size_drew, World.heap_size_setCell] at b1_z); (first | (have b1_z0 : w.heap.size < w1.heap.size := by omega) | skip); (first | (have b1_z1 : w.heap.size + 1 < w1.heap.size := by omega) | skip); (first | (have b1_z2 : w.heap.size + 1 + 1 < w1.heap.size := by omega) | skip)
    have k0 : w1.cell? ⟨w.heap.size, 0, none⟩ = some (.int .i64 i) := by rw [b1_c _ _ (by simp)]; simp
    have k1 : w1.cell? ⟨w.heap.size, 1, none⟩ = some (.int .i64 t) := by rw [b1_c _ _ (by simp)]; simp
    have k2 : w1.cell? ⟨w.heap.size, 2, none⟩ = some (.int .i64 c) := by rw [b1_c _ _ (by simp)]; simp
    have k3 : w1.cell? ⟨w.heap.size, 3, none⟩ = some (.int .i64 s) := by rw [b1_c _ _ (by simp)]; simp
    have k4 : w1.cell? ⟨w.heap.size, 4, none⟩ = some (.int .i64 k) := by rw [b1_c _ _ (by simp)]; simp
    have k5 : w1.cell? ⟨w.heap.size, 5, none⟩ = some (.int .i64 a) := by rw [b1_c _ _ (by simp)]; simp
    have k6 : w1.cell? ⟨w.heap.size, 6, none⟩ = some (.int .i64 b) := by rw [b1_c _ _ (by simp)]; simp
    have k7 : w1.cell? ⟨w.heap.size, 7, none⟩ = some (.int .i64 cc) := by rw [b1_c _ _ (by simp)]; simp
    have k8 : w1.cell? ⟨w.heap.size, 8, none⟩ = some (.int .i64 d) := by rw [b1_c _ _ (by simp)]; simp
    have z1 : w.heap.size < w1.heap.size := by omega
    have hB : Below w.heap.size w w1 := by clear b1_c b1_f; (repeat' (first | with_reducible exact Below.refl _ _ | with_reducible assumption | with_reducible refine Below.drew ?_ | with_reducible refine Below.alloc ?_ ?_ _ | with_reducible refine Below.setCell ?_ ?_ _ | with_reducible refine Below.trans ?_ (Below.mono (by assumption) ?_) | ((try simp only [World.heap_size_alloc, World.heap_size_drew, World.heap_size_setCell]); omega)))
    clear b1_c b1_f
    have SK : ∀ W, Below w1.heap.size w1 W → (W.cell? ⟨w.heap.size, 0, none⟩ = some (.int .i64 i) ∧ W.cell? ⟨w.heap.size, 1, none⟩ = some (.int .i64 t) ∧ W.cell? ⟨w.heap.size, 2, none⟩ = some (.int .i64 c) ∧ W.cell? ⟨w.heap.size, 3, none⟩ = some (.int .i64 s) ∧ W.cell? ⟨w.heap.size, 4, none⟩ = some (.int .i64 k) ∧ W.cell? ⟨w.heap.size, 5, none⟩ = some (.int .i64 a) ∧ W.cell? ⟨w.heap.size, 6, none⟩ = some (.int .i64 b) ∧ W.cell? ⟨w.heap.size, 7, none⟩ = some (.int .i64 cc) ∧ W.cell? ⟨w.heap.size, 8, none⟩ = some (.int .i64 d) ∧ Below w1.heap.size w1 W) := fun W hb => ⟨(hb.cell (p := ⟨w.heap.size, 0, none⟩) z1).trans k0, (hb.cell (p := ⟨w.heap.size, 1, none⟩) z1).trans k1, (hb.cell (p := ⟨w.heap.size, 2, none⟩) z1).trans k2, (hb.cell (p := ⟨w.heap.size, 3, none⟩) z1).trans k3, (hb.cell (p := ⟨w.heap.size, 4, none⟩) z1).trans k4, (hb.cell (p := ⟨w.heap.size, 5, none⟩) z1).trans k5, (hb.cell (p := ⟨w.heap.size, 6, none⟩) z1).trans k6, (hb.cell (p := ⟨w.heap.size, 7, none⟩) z1).trans k7, (hb.cell (p := ⟨w.heap.size, 8, none⟩) z1).trans k8, hb⟩
    have HSK := Lib.hid SK
    clear SK
    have HO2 := Lib.hid (fun (W : World) => src2_new W 2 i i)
    go_wp2_with fail
    go_region_held3 (fun w' => w'.cell? ⟨w.heap.size, 0, none⟩ = some (.int .i64 i) ∧ w'.cell? ⟨w.heap.size, 1, none⟩ = some (.int .i64 t) ∧ w'.cell? ⟨w.heap.size, 2, none⟩ = some (.int .i64 c) ∧ w'.cell? ⟨w.heap.size, 3, none⟩ = some (.int .i64 s) ∧ w'.cell? ⟨w.heap.size, 4, none⟩ = some (.int .i64 k) ∧ w'.cell? ⟨w.heap.size, 5, none⟩ = some (.int .i64 a) ∧ w'.cell? ⟨w.heap.size, 6, none⟩ = some (.int .i64 b) ∧ w'.cell? ⟨w.heap.size, 7, none⟩ = some (.int .i64 cc) ∧ w'.cell? ⟨w.heap.size, 8, none⟩ = some (.int .i64 d) ∧ Below w1.heap.size w1 w')
      (first | (refine HSK.out _ ?_; (repeat' (first | with_reducible exact Below.refl _ _ | with_reducible assumption | with_reducible refine Below.drew ?_ | with_reducible refine Below.alloc ?_ ?_ _ | with_reducible refine Below.setCell ?_ ?_ _ | with_reducible refine Below.trans ?_ (Below.mono (by assumption) ?_) | ((try simp only [World.heap_size_alloc, World.heap_size_drew, World.heap_size_setCell]); omega)))) | (go_split_ands; refine HSK.out _ ?_; (repeat' (first | with_reducible exact Below.refl _ _ | with_reducible assumption | with_reducible refine Below.drew ?_ | with_reducible refine Below.alloc ?_ ?_ _ | with_reducible refine Below.setCell ?_ ?_ _ | with_reducible refine Below.trans ?_ (Below.mono (by assumption) ?_) | ((try simp only [World.heap_size_alloc, World.heap_size_drew, World.heap_size_setCell]); omega)))))
      (first
        | (refine step_append_sl _ (by rfl) (.tmp 7) (.tmp 12) 28 (by rfl) w1.heap.size 2 Try.underlying28 info64 (by rfl) (by omega) v1 9 [i, t, c, s, k, a, b, cc, d] (by rfl) o1 _ 2 2 _ _ [i, i] (by rfl) ((HO2.out w1.drew).below b2 (by (try simp only [World.heap_size_alloc, World.heap_size_drew, World.heap_size_setCell]); omega)) (by omega) (by omega) (by (try simp only [World.heap_size_alloc, World.heap_size_drew, World.heap_size_setCell]); omega) ?_; intro v2 w2 o2 g2 a2; have c2 : Below w1.heap.size w1 w2 := c3.trans (grown_below g2 (by omega) (fun g hg => (Own.lt o1 g hg).1)))
        | (refine step_append_sl _ (by rfl) (.tmp 7) (.tmp 12) 28 (by rfl) w1.heap.size 2 Try.underlying28 info64 (by rfl) (by omega) v1 9 [i, t, c, s, k, a, b, cc, d] (by rfl) (o1.kept ((Below.refl _ _).alloc (Nat.le_refl _) _)) _ 2 2 _ _ [i, i] (by rfl) (HO2.out w3) (by omega) (by omega) (by (try simp only [World.heap_size_alloc, World.heap_size_drew, World.heap_size_setCell]); omega) ?_; intro v2 w2 o2 g2 a2; have c2 : Below w1.heap.size w1 w2 := (c3.alloc (by omega) _).trans (grown_below g2 (by simp only [World.heap_size_alloc]; omega) (fun g hg => (Own.lt o1 g hg).1)))
        | (go_at_call 76; (with_reducible refine (HO.out _).mono ?_); rintro _ w3 ⟨v1, rfl, o1, b2⟩; have c3 : Below w1.heap.size w1 w3 := (by (repeat' (first | with_reducible exact Below.refl _ _ | with_reducible assumption | with_reducible refine Below.drew ?_ | with_reducible refine Below.alloc ?_ ?_ _ | with_reducible refine Below.setCell ?_ ?_ _ | with_reducible refine Below.trans ?_ (Below.mono (by assumption) ?_) | ((try simp only [World.heap_size_alloc, World.heap_size_drew, World.heap_size_setCell]); omega)))); have y3 := c3.size; replace o1 := Own.base o1 (base' := w1.heap.size) (by (try simp only [World.heap_size_alloc, World.heap_size_drew, World.heap_size_setCell]); omega)))
    all_goals
      go_wp2
      go_ret
      obtain ⟨A2, q2, rfl, s2⟩ := o2.sl
      exact ⟨A2, q2, rfl, s2.mono (by omega) (Nat.le_refl _), hB.trans (c2.mono (by omega))⟩
  · have e : slotRow ⟨i, t, c, s, ⟨k, a, b, cc, d⟩⟩ = [] := if_neg h
    rw [e]
    have hb : entryOk ⟨i, t, c, s, ⟨k, a, b, cc, d⟩⟩ = false := by simpa using h
    clear e h
    go_enter Try.func18, Try.ntmps18
    go_wp2_with fail
    (with_reducible refine (entryOk_any _ _ _ _ _ _ _ _ _ _).mono ?_); rintro e w1 ⟨rfl, b1⟩; obtain ⟨b1_c, b1_f⟩ := bcell b1; have b1_z := b1.size; (try simp only [World.heap_size_alloc, World.heap_size_drew, World.heap_size_setCell] at b1_z); (first | (have b1_z0 : w.heap.size < w1.heap.size := by omega) | skip); (first | (have b1_z1 : w.heap.size + 1 < w1.heap.size := by omega) | skip); (first | (have b1_z2 : w.heap.size + 1 + 1 < w1.heap.size := by omega) | skip)
    go_wp2_with fail
    go_ret
    clear b1_c b1_f
    exact SlRes.none (by (repeat' (first | with_reducible exact Below.refl _ _ | with_reducible assumption | with_reducible refine Below.drew ?_ | with_reducible refine Below.alloc ?_ ?_ _ | with_reducible refine Below.setCell ?_ ?_ _ | with_reducible refine Below.trans ?_ (Below.mono (by assumption) ?_) | ((try simp only [World.heap_size_alloc, World.heap_size_drew, World.heap_size_setCell]); omega)))) _ _ _ (by omega)
end Go.Proofs.Ytgnilmdaegnaaaa
