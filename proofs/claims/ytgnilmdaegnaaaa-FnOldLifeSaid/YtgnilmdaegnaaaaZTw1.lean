/- Pairs of disks: boxes of four, new ones, synced ones. No conditions. -/
import Derived.Test.YtgnilmdaegnaaaaZDk11
set_option linter.unusedSimpArgs false
set_option linter.unusedVariables false
namespace Go.Proofs.Ytgnilmdaegnaaaa
open Go.RowKit
structure Box4 (w : World) (b : Nat) (v0 v1 v2 v3 : Value) : Prop where
  c0 : w.cell? ⟨b, 0, none⟩ = some v0
  c1 : w.cell? ⟨b, 1, none⟩ = some v1
  c2 : w.cell? ⟨b, 2, none⟩ = some v2
  c3 : w.cell? ⟨b, 3, none⟩ = some v3
  f0 : w.frozen? ⟨b, 0, none⟩ = false
  f1 : w.frozen? ⟨b, 1, none⟩ = false
  f2 : w.frozen? ⟨b, 2, none⟩ = false
  f3 : w.frozen? ⟨b, 3, none⟩ = false
theorem Box4.lt {w : World} {b : Nat} {v0 v1 v2 v3 : Value} (h : Box4 w b v0 v1 v2 v3) : b < w.heap.size := World.block_lt_of_cell? w _ h.c0
theorem Box4.new (w : World) (v0 v1 v2 v3 : Value) (E : Nat) : Box4 (w.alloc (.cells #[v0, v1, v2, v3] E)) w.heap.size v0 v1 v2 v3 := ⟨by simp, by simp, by simp, by simp, by simp, by simp, by simp, by simp⟩
theorem Box4.same {w w' : World} {b : Nat} {v0 v1 v2 v3 : Value} (h : Box4 w b v0 v1 v2 v3) (hb : w'.heap[b]? = w.heap[b]?) : Box4 w' b v0 v1 v2 v3 :=
  ⟨(World.cell?_of_block (w := w) (a := ⟨b, 0, none⟩) hb).trans h.c0, (World.cell?_of_block (w := w) (a := ⟨b, 1, none⟩) hb).trans h.c1, (World.cell?_of_block (w := w) (a := ⟨b, 2, none⟩) hb).trans h.c2, (World.cell?_of_block (w := w) (a := ⟨b, 3, none⟩) hb).trans h.c3, (World.frozen?_of_block (w := w) (a := ⟨b, 0, none⟩) hb).trans h.f0, (World.frozen?_of_block (w := w) (a := ⟨b, 1, none⟩) hb).trans h.f1, (World.frozen?_of_block (w := w) (a := ⟨b, 2, none⟩) hb).trans h.f2, (World.frozen?_of_block (w := w) (a := ⟨b, 3, none⟩) hb).trans h.f3⟩
theorem Box4.below {w w' : World} {b B : Nat} {v0 v1 v2 v3 : Value} (h : Box4 w b v0 v1 v2 v3) (hb : Below B w w') (hB : b < B) : Box4 w' b v0 v1 v2 v3 :=
  ⟨(hb.cell (p := ⟨b, 0, none⟩) hB).trans h.c0, (hb.cell (p := ⟨b, 1, none⟩) hB).trans h.c1, (hb.cell (p := ⟨b, 2, none⟩) hB).trans h.c2, (hb.cell (p := ⟨b, 3, none⟩) hB).trans h.c3, (hb.frozen (p := ⟨b, 0, none⟩) hB).trans h.f0, (hb.frozen (p := ⟨b, 1, none⟩) hB).trans h.f1, (hb.frozen (p := ⟨b, 2, none⟩) hB).trans h.f2, (hb.frozen (p := ⟨b, 3, none⟩) hB).trans h.f3⟩
theorem Box4.upd {w w' : World} {b lo hi : Nat} {v0 v1 v2 v3 : Value} (h : Box4 w b v0 v1 v2 v3) (hu : Upd lo hi w w') (ho : b < lo ∨ hi ≤ b) : Box4 w' b v0 v1 v2 v3 := h.same (hu.block b h.lt ho)
theorem Box4.set01 {w : World} {b : Nat} {v0 v1 v2 v3 : Value} (h : Box4 w b v0 v1 v2 v3) (x y : Value) : Box4 ((w.setCell ⟨b, 0, none⟩ x).setCell ⟨b, 1, none⟩ y) b x y v2 v3 := by
  have q0 : (w.setCell ⟨b, 0, none⟩ x).cell? ⟨b, 0, none⟩ = some x := World.cell?_setCell_same _ _ _ h.c0
  have q1 : (w.setCell ⟨b, 0, none⟩ x).cell? ⟨b, 1, none⟩ = some v1 := (World.cell?_setCell_other _ _ _ _ (by simp)).trans h.c1
  have q2 : (w.setCell ⟨b, 0, none⟩ x).cell? ⟨b, 2, none⟩ = some v2 := (World.cell?_setCell_other _ _ _ _ (by simp)).trans h.c2
  have q3 : (w.setCell ⟨b, 0, none⟩ x).cell? ⟨b, 3, none⟩ = some v3 := (World.cell?_setCell_other _ _ _ _ (by simp)).trans h.c3
  exact ⟨(World.cell?_setCell_other _ _ _ _ (by simp)).trans q0, World.cell?_setCell_same _ _ _ q1, (World.cell?_setCell_other _ _ _ _ (by simp)).trans q2, (World.cell?_setCell_other _ _ _ _ (by simp)).trans q3, by simp only [World.frozen?_setCell]; exact h.f0, by simp only [World.frozen?_setCell]; exact h.f1, by simp only [World.frozen?_setCell]; exact h.f2, by simp only [World.frozen?_setCell]; exact h.f3⟩
theorem Box4.set23 {w : World} {b : Nat} {v0 v1 v2 v3 : Value} (h : Box4 w b v0 v1 v2 v3) (x y : Value) : Box4 ((w.setCell ⟨b, 2, none⟩ x).setCell ⟨b, 3, none⟩ y) b v0 v1 x y := by
  have q0 : (w.setCell ⟨b, 2, none⟩ x).cell? ⟨b, 0, none⟩ = some v0 := (World.cell?_setCell_other _ _ _ _ (by simp)).trans h.c0
  have q1 : (w.setCell ⟨b, 2, none⟩ x).cell? ⟨b, 1, none⟩ = some v1 := (World.cell?_setCell_other _ _ _ _ (by simp)).trans h.c1
  have q2 : (w.setCell ⟨b, 2, none⟩ x).cell? ⟨b, 2, none⟩ = some x := World.cell?_setCell_same _ _ _ h.c2
  have q3 : (w.setCell ⟨b, 2, none⟩ x).cell? ⟨b, 3, none⟩ = some v3 := (World.cell?_setCell_other _ _ _ _ (by simp)).trans h.c3
  exact ⟨(World.cell?_setCell_other _ _ _ _ (by simp)).trans q0, (World.cell?_setCell_other _ _ _ _ (by simp)).trans q1, (World.cell?_setCell_other _ _ _ _ (by simp)).trans q2, World.cell?_setCell_same _ _ _ q3, by simp only [World.frozen?_setCell]; exact h.f0, by simp only [World.frozen?_setCell]; exact h.f1, by simp only [World.frozen?_setCell]; exact h.f2, by simp only [World.frozen?_setCell]; exact h.f3⟩
theorem Box4.set {w : World} {b : Nat} {v0 v1 v2 v3 : Value} (h : Box4 w b v0 v1 v2 v3) (x y z u : Value) : Box4 ((((w.setCell ⟨b, 0, none⟩ x).setCell ⟨b, 1, none⟩ y).setCell ⟨b, 2, none⟩ z).setCell ⟨b, 3, none⟩ u) b x y z u := (h.set01 x y).set23 z u
theorem up2 {w : World} {b p q : Nat} {x y : Value} : Upd b (b + 1) w ((w.setCell ⟨b, p, none⟩ x).setCell ⟨b, q, none⟩ y) := ((Upd.refl _ _ _).setCell (p := ⟨b, p, none⟩) (Nat.le_refl _) (Nat.lt_succ_self _) _).setCell (p := ⟨b, q, none⟩) (Nat.le_refl _) (Nat.lt_succ_self _) _
theorem up4 {w : World} {b : Nat} {x y z u : Value} : Upd b (b + 1) w ((((w.setCell ⟨b, 0, none⟩ x).setCell ⟨b, 1, none⟩ y).setCell ⟨b, 2, none⟩ z).setCell ⟨b, 3, none⟩ u) := (((up2 (w := w)).setCell (p := ⟨b, 2, none⟩) (Nat.le_refl _) (Nat.lt_succ_self _) _)).setCell (p := ⟨b, 3, none⟩) (Nat.le_refl _) (Nat.lt_succ_self _) _
theorem size4 {w : World} {b : Nat} {x y z u : Value} : ((((w.setCell ⟨b, 0, none⟩ x).setCell ⟨b, 1, none⟩ y).setCell ⟨b, 2, none⟩ z).setCell ⟨b, 3, none⟩ u).heap.size = w.heap.size := by simp only [World.heap_size_setCell]
theorem size2 {w : World} {b p q : Nat} {x y : Value} : ((w.setCell ⟨b, p, none⟩ x).setCell ⟨b, q, none⟩ y).heap.size = w.heap.size := by simp only [World.heap_size_setCell]
theorem below2 {w : World} {B b p q : Nat} (hB : B ≤ b) {x y : Value} : Below B w ((w.setCell ⟨b, p, none⟩ x).setCell ⟨b, q, none⟩ y) := ((Below.refl _ _).setCell (p := ⟨b, p, none⟩) hB _).setCell (p := ⟨b, q, none⟩) hB _
theorem below4 {w : World} {B b : Nat} (hB : B ≤ b) {x y z u : Value} : Below B w ((((w.setCell ⟨b, 0, none⟩ x).setCell ⟨b, 1, none⟩ y).setCell ⟨b, 2, none⟩ z).setCell ⟨b, 3, none⟩ u) := ((below2 hB (w := w)).setCell (p := ⟨b, 2, none⟩) hB _).setCell (p := ⟨b, 3, none⟩) hB _
theorem SlR.at2 {w : World} {lo hi n c b p q lo' : Nat} {A : Option Addr} {rows : List (List Int)} {x y : Value} (h : SlR w lo hi A n c rows) (hb : b + 1 ≤ lo) (hl : lo' ≤ lo) (hh : hi ≤ w.heap.size) : SlR ((w.setCell ⟨b, p, none⟩ x).setCell ⟨b, q, none⟩ y) lo' ((w.setCell ⟨b, p, none⟩ x).setCell ⟨b, q, none⟩ y).heap.size A n c rows := (h.upd up2 (.inr hb)).mono hl (by rw [size2]; exact hh)
theorem SlW.at2 {w : World} {lo hi n c b p q lo' : Nat} {A : Option Addr} {rows : List WriteD} {x y : Value} (h : SlW w lo hi A n c rows) (hb : b + 1 ≤ lo) (hl : lo' ≤ lo) (hh : hi ≤ w.heap.size) : SlW ((w.setCell ⟨b, p, none⟩ x).setCell ⟨b, q, none⟩ y) lo' ((w.setCell ⟨b, p, none⟩ x).setCell ⟨b, q, none⟩ y).heap.size A n c rows := (h.upd up2 (.inr hb)).mono hl (by rw [size2]; exact hh)
theorem SlR.at4 {w : World} {lo hi n c b lo' : Nat} {A : Option Addr} {rows : List (List Int)} {x y z u : Value} (h : SlR w lo hi A n c rows) (hb : b + 1 ≤ lo) (hl : lo' ≤ lo) (hh : hi ≤ w.heap.size) : SlR ((((w.setCell ⟨b, 0, none⟩ x).setCell ⟨b, 1, none⟩ y).setCell ⟨b, 2, none⟩ z).setCell ⟨b, 3, none⟩ u) lo' ((((w.setCell ⟨b, 0, none⟩ x).setCell ⟨b, 1, none⟩ y).setCell ⟨b, 2, none⟩ z).setCell ⟨b, 3, none⟩ u).heap.size A n c rows := (h.upd up4 (.inr hb)).mono hl (by rw [size4]; exact hh)
theorem SlW.at4 {w : World} {lo hi n c b lo' : Nat} {A : Option Addr} {rows : List WriteD} {x y z u : Value} (h : SlW w lo hi A n c rows) (hb : b + 1 ≤ lo) (hl : lo' ≤ lo) (hh : hi ≤ w.heap.size) : SlW ((((w.setCell ⟨b, 0, none⟩ x).setCell ⟨b, 1, none⟩ y).setCell ⟨b, 2, none⟩ z).setCell ⟨b, 3, none⟩ u) lo' ((((w.setCell ⟨b, 0, none⟩ x).setCell ⟨b, 1, none⟩ y).setCell ⟨b, 2, none⟩ z).setCell ⟨b, 3, none⟩ u).heap.size A n c rows := (h.upd up4 (.inr hb)).mono hl (by rw [size4]; exact hh)
set_option maxRecDepth 100000 in
set_option maxHeartbeats 2000000 in
theorem disks_any (A0 : Option Addr) (n0 c0 : Nat) (A1 : Option Addr) (n1 c1 : Nat) (A2 : Option Addr) (n2 c2 : Nat) (A3 : Option Addr) (n3 c3 : Nat) (w : World) :
    Calls Try.prog 116 #[.agg #[.slice A0 n0 c0, .slice A1 n1 c1, .slice A2 n2 c2, .slice A3 n3 c3]] w (fun e w' => e = .returned (.agg #[.slice A0 n0 c0, .slice A1 n1 c1, .slice A2 n2 c2, .slice A3 n3 c3]) ∧ Below w.heap.size w w') := by
  have hbw : Below w.heap.size w ((w.alloc (.cells #[.slice A0 n0 c0, .slice A1 n1 c1, .slice A2 n2 c2, .slice A3 n3 c3] 69)).alloc (.cells #[.slice A0 n0 c0, .slice A1 n1 c1, .slice A2 n2 c2, .slice A3 n3 c3] 139)) := by (repeat' (first | with_reducible exact Below.refl _ _ | with_reducible assumption | with_reducible refine Below.drew ?_ | with_reducible refine Below.alloc ?_ ?_ _ | with_reducible refine Below.setCell ?_ ?_ _ | with_reducible refine Below.trans ?_ (Below.mono (by assumption) ?_) | ((try simp only [World.heap_size_alloc, World.heap_size_drew, World.heap_size_setCell]); omega)))
  have HB := Lib.hid hbw
  have z0 := (Box4.new w (.slice A0 n0 c0) (.slice A1 n1 c1) (.slice A2 n2 c2) (.slice A3 n3 c3) 69).below (B := w.heap.size + 1) (w' := (w.alloc (.cells #[.slice A0 n0 c0, .slice A1 n1 c1, .slice A2 n2 c2, .slice A3 n3 c3] 69)).alloc (.cells #[.slice A0 n0 c0, .slice A1 n1 c1, .slice A2 n2 c2, .slice A3 n3 c3] 139)) ((Below.refl _ _).alloc (by simp) _) (by omega)
  have z1 := Box4.new (w.alloc (.cells #[.slice A0 n0 c0, .slice A1 n1 c1, .slice A2 n2 c2, .slice A3 n3 c3] 69)) (.slice A0 n0 c0) (.slice A1 n1 c1) (.slice A2 n2 c2) (.slice A3 n3 c3) 139
  rw [World.heap_size_alloc] at z1
  obtain ⟨p0, p1, p2, p3, g0, g1, g2, g3⟩ := z0
  obtain ⟨q0, q1, q2, q3, f0, f1, f2, f3⟩ := z1
  clear hbw
  go_enter Try.func116, Try.ntmps116
  go_wp2_with fail
  refine bodyPost_ret (v := .agg #[.slice A0 n0 c0, .slice A1 n1 c1, .slice A2 n2 c2, .slice A3 n3 c3]) (by simp [results, Try.results116, go_sem, q0, q1, q2, q3, f0, f1, f2, f3]) rfl ⟨rfl, HB.out⟩
set_option maxRecDepth 100000 in
set_option maxHeartbeats 2000000 in
theorem twoOf_any (A0 : Option Addr) (n0 c0 : Nat) (A1 : Option Addr) (n1 c1 : Nat) (A2 : Option Addr) (n2 c2 : Nat) (A3 : Option Addr) (n3 c3 : Nat) (w : World) :
    Calls Try.prog 117 #[.agg #[.slice A0 n0 c0, .slice A1 n1 c1, .slice A2 n2 c2, .slice A3 n3 c3]] w (fun e w' => e = .returned (.agg #[.slice A0 n0 c0, .slice A1 n1 c1, .slice A2 n2 c2, .slice A3 n3 c3]) ∧ Below w.heap.size w w') := by
  have hbw : Below w.heap.size w ((w.alloc (.cells #[.slice A0 n0 c0, .slice A1 n1 c1, .slice A2 n2 c2, .slice A3 n3 c3] 139)).alloc (.cells #[.slice A0 n0 c0, .slice A1 n1 c1, .slice A2 n2 c2, .slice A3 n3 c3] 69)) := by (repeat' (first | with_reducible exact Below.refl _ _ | with_reducible assumption | with_reducible refine Below.drew ?_ | with_reducible refine Below.alloc ?_ ?_ _ | with_reducible refine Below.setCell ?_ ?_ _ | with_reducible refine Below.trans ?_ (Below.mono (by assumption) ?_) | ((try simp only [World.heap_size_alloc, World.heap_size_drew, World.heap_size_setCell]); omega)))
  have HB := Lib.hid hbw
  have z0 := (Box4.new w (.slice A0 n0 c0) (.slice A1 n1 c1) (.slice A2 n2 c2) (.slice A3 n3 c3) 139).below (B := w.heap.size + 1) (w' := (w.alloc (.cells #[.slice A0 n0 c0, .slice A1 n1 c1, .slice A2 n2 c2, .slice A3 n3 c3] 139)).alloc (.cells #[.slice A0 n0 c0, .slice A1 n1 c1, .slice A2 n2 c2, .slice A3 n3 c3] 69)) ((Below.refl _ _).alloc (by simp) _) (by omega)
  have z1 := Box4.new (w.alloc (.cells #[.slice A0 n0 c0, .slice A1 n1 c1, .slice A2 n2 c2, .slice A3 n3 c3] 139)) (.slice A0 n0 c0) (.slice A1 n1 c1) (.slice A2 n2 c2) (.slice A3 n3 c3) 69
  rw [World.heap_size_alloc] at z1
  obtain ⟨p0, p1, p2, p3, g0, g1, g2, g3⟩ := z0
  obtain ⟨q0, q1, q2, q3, f0, f1, f2, f3⟩ := z1
  clear hbw
  go_enter Try.func117, Try.ntmps117
  go_wp2_with fail
  refine bodyPost_ret (v := .agg #[.slice A0 n0 c0, .slice A1 n1 c1, .slice A2 n2 c2, .slice A3 n3 c3]) (by simp [results, Try.results117, go_sem, q0, q1, q2, q3, f0, f1, f2, f3]) rfl ⟨rfl, HB.out⟩
set_option maxRecDepth 100000 in
set_option maxHeartbeats 2000000 in
theorem newTwo_any (m : Nat) (w : World) (h1 : 1 ≤ m) (h2 : m ≤ 40) :
    Calls Try.prog 103 #[.int .i64 (m : Int)] w (TwRes w m (List.replicate m []) 0 [] m (List.replicate m []) 0 []) := by
  have CN : Hid (∀ W, Calls Try.prog 52 #[.int .i64 (m : Int)] W (DkRes W m (List.replicate m []) 0 [])) := Lib.hid (fun W => newDisk_any m W h1 h2)
  have z0 := Box4.new w (.slice none 0 0) (.slice none 0 0) (.slice none 0 0) (.slice none 0 0) 69
  go_enter Try.func103, Try.ntmps103
  go_wp2_with fail
  (with_reducible refine (CN.out _).mono ?_); rintro _ w1 ⟨A0, c0, A1, c1, rfl, s0, s1, b1⟩
  have y1 := b1.size
  simp only [World.heap_size_alloc] at y1
  have z1 := z0.below b1 (by (try simp only [World.heap_size_alloc, World.heap_size_drew, World.heap_size_setCell]); omega)
  go_wp2_with fail
  (with_reducible refine (CN.out _).mono ?_); rintro _ w2 ⟨A2, c2, A3, c3, rfl, s2, s3, b2⟩
  have y2 := b2.size
  obtain ⟨p0, p1, p2, p3, g0, g1, g2, g3⟩ := z1.below b2 (by omega)
  have K0 := Lib.hid ((s0.below b2 (Nat.le_refl _)).mono (lo' := w.heap.size + 1) (hi' := w2.heap.size) (by (try simp only [World.heap_size_alloc, World.heap_size_drew, World.heap_size_setCell]); omega) (by omega))
  have K1 := Lib.hid ((s1.below b2 (Nat.le_refl _)).mono (lo' := w.heap.size + 1) (hi' := w2.heap.size) (by (try simp only [World.heap_size_alloc, World.heap_size_drew, World.heap_size_setCell]); omega) (by omega))
  have K2 := Lib.hid (s2.mono (lo' := w.heap.size + 1) (hi' := w2.heap.size) (by (try simp only [World.heap_size_alloc, World.heap_size_drew, World.heap_size_setCell]); omega) (by omega))
  have K3 := Lib.hid (s3.mono (lo' := w.heap.size + 1) (hi' := w2.heap.size) (by (try simp only [World.heap_size_alloc, World.heap_size_drew, World.heap_size_setCell]); omega) (by omega))
  have HB : Hid (Below w.heap.size w w2) := Lib.hid ((((Below.refl _ _).alloc (Nat.le_refl _) _).trans (b1.mono (by (try simp only [World.heap_size_alloc, World.heap_size_drew, World.heap_size_setCell]); omega))).trans (b2.mono (by omega)))
  clear s0 s1 s2 s3 b1 b2 z0 z1
  go_wp2_with fail
  refine bodyPost_ret (v := .agg #[.slice A0 m c0, .slice A1 0 c1, .slice A2 m c2, .slice A3 0 c3]) (by simp [results, Try.results103, go_sem, p0, p1, p2, p3, g0, g1, g2, g3]) rfl ⟨A0, c0, A1, c1, A2, c2, A3, c3, rfl, (K0.out.upd up4 (.inr (Nat.le_refl _))).mono (by omega) (by rw [size4]; exact Nat.le_refl _), (K1.out.upd up4 (.inr (Nat.le_refl _))).mono (by omega) (by rw [size4]; exact Nat.le_refl _), (K2.out.upd up4 (.inr (Nat.le_refl _))).mono (by omega) (by rw [size4]; exact Nat.le_refl _), (K3.out.upd up4 (.inr (Nat.le_refl _))).mono (by omega) (by rw [size4]; exact Nat.le_refl _), HB.out.trans (below4 (Nat.le_refl _))⟩
end Go.Proofs.Ytgnilmdaegnaaaa
