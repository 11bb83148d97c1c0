/- The law FnExactKeptOk returns true for every input. No conditions. -/
import Derived.Test.YtgnilmdaegnaaaaDk4
import Derived.Test.YtgnilmdaegnaaaaDk3
import Derived.Deep.RegionHeld3
set_option linter.unusedSimpArgs false
set_option linter.unusedVariables false
namespace Go.Proofs.Ytgnilmdaegnaaaa
open Go.ChangeShapes Go.WideShapes Go.ChangeAt Go.RowKit Go.Joins Go.Deep
namespace KeptOk
section
variable {H : Type} {enc : TypeId × Value → H} {P : Program}
theorem open_disk2 {w : World} {sp : Nat → Bool} {held : Bool} {m fuel : Nat} {t e i e1 i1 : TypeId} {f0 f1 g0 g1 : Field} {c0 c1 : Value} {x : DataW H × List MemPlace}
    (hs : P.underlying t = some (.struct #[f0, f1])) (o0 : f0.offset = 0) (o1 : f1.offset = 1) (k0 : P.cellsOf f0.type = 1) (k1 : P.cellsOf f1.type = 1)
    (hu : P.underlying f0.type = some (.slice e)) (he : P.underlying e = some (.slice i)) (hf : flatB P m i = true) (hk : P.cellsOf i = 1) (hc : P.cellsOf e = 1)
    (hu1 : P.underlying f1.type = some (.slice e1)) (he1 : P.underlying e1 = some (.struct #[g0, g1])) (ce : P.cellsOf e1 = 2) (p0 : g0.offset = 0) (p1 : g1.offset = 1) (q0 : P.cellsOf g0.type = 1) (q1 : P.cellsOf g1.type = 1)
    (h0 : P.underlying g0.type = some (.int .i64)) (h1 : P.underlying g1.type = some (.slice i1)) (hf1 : flatB P m i1 = true) (hk1 : P.cellsOf i1 = 1)
    (h : DataW.trod enc P w 0 sp held fuel t [c0, c1] = some x) : ∃ A0 n0 d0 r0 A1 n1 d1 r1, c0 = .slice A0 n0 d0 ∧ c1 = .slice A1 n1 d1 ∧ ArgR w A0 n0 d0 r0 ∧ ArgW w A1 n1 d1 r1 := by
  obtain ⟨y0, y1, n, _, _, t0, t1⟩ := trod_struct2 hs h
  rw [o0, k0] at t0
  rw [o1, k1] at t1
  obtain ⟨A0, n0, d0, r0, e0, a0⟩ := open_rows hu he hf hk hc t0
  obtain ⟨A1, n1, d1, r1, e9, a1⟩ := open_writes hu1 he1 ce p0 p1 q0 q1 h0 h1 hf1 hk1 t1
  simp at e0 e9
  exact ⟨A0, n0, d0, r0, A1, n1, d1, r1, e0, e9, a0, a1⟩
theorem open_two {w : World} {sp : Nat → Bool} {held : Bool} {r : Reach} {b0 m : Nat} {t e i e1 i1 : TypeId} {F0 F1 f0 f1 g0 g1 : Field} {v : Value} {d : DataW H} {p : List MemPlace}
    (hS : P.underlying t = some (.struct #[F0, F1])) (O0 : F0.offset = 0) (O1 : F1.offset = 2) (hC : P.cellsOf t = 4) (K0 : P.cellsOf F0.type = 2) (hT : F1.type = F0.type)
    (hs : P.underlying F0.type = some (.struct #[f0, f1])) (o0 : f0.offset = 0) (o1 : f1.offset = 1) (k0 : P.cellsOf f0.type = 1) (k1 : P.cellsOf f1.type = 1)
    (hu : P.underlying f0.type = some (.slice e)) (he : P.underlying e = some (.slice i)) (hf : flatB P m i = true) (hk : P.cellsOf i = 1) (hc : P.cellsOf e = 1)
    (hu1 : P.underlying f1.type = some (.slice e1)) (he1 : P.underlying e1 = some (.struct #[g0, g1])) (ce : P.cellsOf e1 = 2) (p0 : g0.offset = 0) (p1 : g1.offset = 1) (q0 : P.cellsOf g0.type = 1) (q1 : P.cellsOf g1.type = 1)
    (h0 : P.underlying g0.type = some (.int .i64)) (h1 : P.underlying g1.type = some (.slice i1)) (hf1 : flatB P m i1 = true) (hk1 : P.cellsOf i1 = 1)
    (hv : Value.okWide P w r b0 t v) (h : DataW.Trod enc P w 0 sp held t v d p) :
    ∃ A0 n0 d0 r0 A1 n1 d1 r1 A2 n2 d2 r2 A3 n3 d3 r3, v = .agg #[.slice A0 n0 d0, .slice A1 n1 d1, .slice A2 n2 d2, .slice A3 n3 d3] ∧ ArgR w A0 n0 d0 r0 ∧ ArgW w A1 n1 d1 r1 ∧ ArgR w A2 n2 d2 r2 ∧ ArgW w A3 n3 d3 r3 := by
  obtain ⟨cs, rfl, hsz⟩ := okWide_struct hS hv
  obtain ⟨c0, c1, c2, c3, rfl⟩ := array4 (hsz.trans hC)
  obtain ⟨fuel, hf9⟩ := h
  obtain ⟨y0, y1, n, _, _, t0, t1⟩ := trod_struct2 hS hf9
  rw [O0, K0] at t0
  rw [O1, hT, K0] at t1
  obtain ⟨A0, n0, d0, r0, A1, n1, d1, r1, rfl, rfl, a0, a1⟩ := open_disk2 hs o0 o1 k0 k1 hu he hf hk hc hu1 he1 ce p0 p1 q0 q1 h0 h1 hf1 hk1 t0
  obtain ⟨A2, n2, d2, r2, A3, n3, d3, r3, rfl, rfl, a2, a3⟩ := open_disk2 hs o0 o1 k0 k1 hu he hf hk hc hu1 he1 ce p0 p1 q0 q1 h0 h1 hf1 hk1 t1
  exact ⟨A0, n0, d0, r0, A1, n1, d1, r1, A2, n2, d2, r2, A3, n3, d3, r3, rfl, a0, a1, a2, a3⟩
end
set_option maxRecDepth 100000 in
set_option maxHeartbeats 16000000 in
theorem law_any (AA0 : Option Addr) (n0 cp0 : Nat) (k0 : List (List Int)) (AA1 : Option Addr) (n1 cp1 : Nat) (k1 : List WriteD) (AA2 : Option Addr) (n2 cp2 : Nat) (k2 : List (List Int)) (AA3 : Option Addr) (n3 cp3 : Nat) (k3 : List WriteD) (w : World) (h0 : ArgR w AA0 n0 cp0 k0) (h1 : ArgW w AA1 n1 cp1 k1) (h2 : ArgR w AA2 n2 cp2 k2) (h3 : ArgW w AA3 n3 cp3 k3) : Calls Try.prog 9 #[.agg #[.slice AA0 n0 cp0, .slice AA1 n1 cp1, .slice AA2 n2 cp2, .slice AA3 n3 cp3]] w fun e w' => e = .returned (.bool true) ∧ Below w.heap.size w w' := by
  have CS := fun (A0 : Option Addr) (n0 c0 : Nat) (A1 : Option Addr) (n1 c1 : Nat) (A2 : Option Addr) (n2 c2 : Nat) (A3 : Option Addr) (n3 c3 : Nat) (lo hi : Nat) (w : World) => sKeptOk_any A0 n0 c0 k0 A1 n1 c1 k1 A2 n2 c2 k2 A3 n3 c3 k3 lo hi w
  have CI := fun (A0 : Option Addr) (n0 c0 : Nat) (A1 : Option Addr) (n1 c1 : Nat) (A2 : Option Addr) (n2 c2 : Nat) (A3 : Option Addr) (n3 c3 : Nat) (lo hi : Nat) (w : World) => keptOk_any A0 n0 c0 k0 A1 n1 c1 k1 A2 n2 c2 k2 A3 n3 c3 k3 lo hi w
  generalize (twoOk k0 k1 k2 k3 && decide (k0.length = 22)) = r at CS CI
  have HS := Lib.hid CS
  have HI := Lib.hid CI
  clear CS CI
  have bx0 : (w.alloc (.cells #[.slice AA0 n0 cp0, .slice AA1 n1 cp1, .slice AA2 n2 cp2, .slice AA3 n3 cp3] 62)).cell? ⟨w.heap.size, 0, none⟩ = some (.slice AA0 n0 cp0) := by simp
  have bx1 : (w.alloc (.cells #[.slice AA0 n0 cp0, .slice AA1 n1 cp1, .slice AA2 n2 cp2, .slice AA3 n3 cp3] 62)).cell? ⟨w.heap.size, 1, none⟩ = some (.slice AA1 n1 cp1) := by simp
  have bx2 : (w.alloc (.cells #[.slice AA0 n0 cp0, .slice AA1 n1 cp1, .slice AA2 n2 cp2, .slice AA3 n3 cp3] 62)).cell? ⟨w.heap.size, 2, none⟩ = some (.slice AA2 n2 cp2) := by simp
  have bx3 : (w.alloc (.cells #[.slice AA0 n0 cp0, .slice AA1 n1 cp1, .slice AA2 n2 cp2, .slice AA3 n3 cp3] 62)).cell? ⟨w.heap.size, 3, none⟩ = some (.slice AA3 n3 cp3) := by simp
  have SK : ∀ W, Below (w.heap.size + 1) (w.alloc (.cells #[.slice AA0 n0 cp0, .slice AA1 n1 cp1, .slice AA2 n2 cp2, .slice AA3 n3 cp3] 62)) W → (W.cell? ⟨w.heap.size, 0, none⟩ = some (.slice AA0 n0 cp0) ∧ W.cell? ⟨w.heap.size, 1, none⟩ = some (.slice AA1 n1 cp1) ∧ W.cell? ⟨w.heap.size, 2, none⟩ = some (.slice AA2 n2 cp2) ∧ W.cell? ⟨w.heap.size, 3, none⟩ = some (.slice AA3 n3 cp3) ∧ Below (w.heap.size + 1) (w.alloc (.cells #[.slice AA0 n0 cp0, .slice AA1 n1 cp1, .slice AA2 n2 cp2, .slice AA3 n3 cp3] 62)) W) := fun W hb => ⟨(hb.cell (p := ⟨w.heap.size, 0, none⟩) (show w.heap.size < w.heap.size + 1 by omega)).trans bx0, (hb.cell (p := ⟨w.heap.size, 1, none⟩) (show w.heap.size < w.heap.size + 1 by omega)).trans bx1, (hb.cell (p := ⟨w.heap.size, 2, none⟩) (show w.heap.size < w.heap.size + 1 by omega)).trans bx2, (hb.cell (p := ⟨w.heap.size, 3, none⟩) (show w.heap.size < w.heap.size + 1 by omega)).trans bx3, hb⟩
  have HSK := Lib.hid SK
  clear SK bx0 bx1 bx2 bx3
  go_enter Try.func9, Try.ntmps9
  go_wp2_with fail
  (with_reducible refine (szTwo_res _ _ _ k0 _ _ _ k1 _ _ _ k2 _ _ _ k3 1048576 _ (h0.below (by (repeat' (first | with_reducible exact Below.refl _ _ | with_reducible assumption | with_reducible refine Below.drew ?_ | with_reducible refine Below.alloc ?_ ?_ _ | with_reducible refine Below.setCell ?_ ?_ _ | with_reducible refine Below.trans ?_ (Below.mono (by assumption) ?_) | ((try simp only [World.heap_size_alloc, World.heap_size_drew, World.heap_size_setCell]); omega))))) (h1.below (by (repeat' (first | with_reducible exact Below.refl _ _ | with_reducible assumption | with_reducible refine Below.drew ?_ | with_reducible refine Below.alloc ?_ ?_ _ | with_reducible refine Below.setCell ?_ ?_ _ | with_reducible refine Below.trans ?_ (Below.mono (by assumption) ?_) | ((try simp only [World.heap_size_alloc, World.heap_size_drew, World.heap_size_setCell]); omega))))) (h2.below (by (repeat' (first | with_reducible exact Below.refl _ _ | with_reducible assumption | with_reducible refine Below.drew ?_ | with_reducible refine Below.alloc ?_ ?_ _ | with_reducible refine Below.setCell ?_ ?_ _ | with_reducible refine Below.trans ?_ (Below.mono (by assumption) ?_) | ((try simp only [World.heap_size_alloc, World.heap_size_drew, World.heap_size_setCell]); omega))))) (h3.below (by (repeat' (first | with_reducible exact Below.refl _ _ | with_reducible assumption | with_reducible refine Below.drew ?_ | with_reducible refine Below.alloc ?_ ?_ _ | with_reducible refine Below.setCell ?_ ?_ _ | with_reducible refine Below.trans ?_ (Below.mono (by assumption) ?_) | ((try simp only [World.heap_size_alloc, World.heap_size_drew, World.heap_size_setCell]); omega))))) (by omega) (by omega)).mono ?_); rintro _ w1 ⟨sz, rfl, b1, hr1, hr2, hrP⟩
  have y1 := b1.size
  (try simp only [World.heap_size_alloc, World.heap_size_drew] at y1)
  have c1 : Below w.heap.size w w1 := by (repeat' (first | with_reducible exact Below.refl _ _ | with_reducible assumption | with_reducible refine Below.drew ?_ | with_reducible refine Below.alloc ?_ ?_ _ | with_reducible refine Below.setCell ?_ ?_ _ | with_reducible refine Below.trans ?_ (Below.mono (by assumption) ?_) | ((try simp only [World.heap_size_alloc, World.heap_size_drew, World.heap_size_setCell]); omega)))
  obtain ⟨b1_c, b1_f⟩ := bcell b1
  have z1_0 : w.heap.size < w1.heap.size := by omega
  have cB1 : Below (w.heap.size + 1) (w.alloc (.cells #[.slice AA0 n0 cp0, .slice AA1 n1 cp1, .slice AA2 n2 cp2, .slice AA3 n3 cp3] 62)) w1 := Below.trans (by (repeat' (first | with_reducible exact Below.refl _ _ | with_reducible assumption | with_reducible refine Below.drew ?_ | with_reducible refine Below.alloc ?_ ?_ _ | with_reducible refine Below.setCell ?_ ?_ _ | with_reducible refine Below.trans ?_ (Below.mono (by assumption) ?_) | ((try simp only [World.heap_size_alloc, World.heap_size_drew, World.heap_size_setCell]); omega)))) (b1.mono (by (try simp only [World.heap_size_alloc, World.heap_size_drew, World.heap_size_setCell]); omega))
  by_cases hneg : sz < 0
  · clear HSK hrP h0 h1 h2 h3 HS HI
    go_wp2_with fail
    go_ret
    exact ⟨rfl, by clear b1_c b1_f; (repeat' (first | with_reducible exact Below.refl _ _ | with_reducible assumption | with_reducible refine Below.drew ?_ | with_reducible refine Below.alloc ?_ ?_ _ | with_reducible refine Below.setCell ?_ ?_ _ | with_reducible refine Below.trans ?_ (Below.mono (by assumption) ?_) | ((try simp only [World.heap_size_alloc, World.heap_size_drew, World.heap_size_setCell]); omega)))⟩
  obtain ⟨⟨hN0, hN1⟩, hN2, hN3⟩ := hrP (by omega)
  have N0 := Lib.hid hN0
  have N1 := Lib.hid hN1
  have N2 := Lib.hid hN2
  have N3 := Lib.hid hN3
  clear hN0 hN1 hN2 hN3 hrP
  go_wp2_with fail
  (with_reducible refine (toTwo_any _ _ _ k0 _ _ _ k1 _ _ _ k2 _ _ _ k3 _ (h0.below (by (repeat' (first | with_reducible exact Below.refl _ _ | with_reducible assumption | with_reducible refine Below.drew ?_ | with_reducible refine Below.alloc ?_ ?_ _ | with_reducible refine Below.setCell ?_ ?_ _ | with_reducible refine Below.trans ?_ (Below.mono (by assumption) ?_) | ((try simp only [World.heap_size_alloc, World.heap_size_drew, World.heap_size_setCell]); omega))))) (h1.below (by (repeat' (first | with_reducible exact Below.refl _ _ | with_reducible assumption | with_reducible refine Below.drew ?_ | with_reducible refine Below.alloc ?_ ?_ _ | with_reducible refine Below.setCell ?_ ?_ _ | with_reducible refine Below.trans ?_ (Below.mono (by assumption) ?_) | ((try simp only [World.heap_size_alloc, World.heap_size_drew, World.heap_size_setCell]); omega))))) (h2.below (by (repeat' (first | with_reducible exact Below.refl _ _ | with_reducible assumption | with_reducible refine Below.drew ?_ | with_reducible refine Below.alloc ?_ ?_ _ | with_reducible refine Below.setCell ?_ ?_ _ | with_reducible refine Below.trans ?_ (Below.mono (by assumption) ?_) | ((try simp only [World.heap_size_alloc, World.heap_size_drew, World.heap_size_setCell]); omega))))) (h3.below (by (repeat' (first | with_reducible exact Below.refl _ _ | with_reducible assumption | with_reducible refine Below.drew ?_ | with_reducible refine Below.alloc ?_ ?_ _ | with_reducible refine Below.setCell ?_ ?_ _ | with_reducible refine Below.trans ?_ (Below.mono (by assumption) ?_) | ((try simp only [World.heap_size_alloc, World.heap_size_drew, World.heap_size_setCell]); omega))))) N0.out N1.out N2.out N3.out).mono ?_); rintro _ w2 ⟨X0_2, d0_2, X1_2, d1_2, X2_2, d2_2, X3_2, d3_2, rfl, r2, s2, t2, u2, b2⟩
  have y2 := b2.size
  (try simp only [World.heap_size_alloc, World.heap_size_drew] at y2)
  have c2 : Below w1.heap.size w1 w2 := by (repeat' (first | with_reducible exact Below.refl _ _ | with_reducible assumption | with_reducible refine Below.drew ?_ | with_reducible refine Below.alloc ?_ ?_ _ | with_reducible refine Below.setCell ?_ ?_ _ | with_reducible refine Below.trans ?_ (Below.mono (by assumption) ?_) | ((try simp only [World.heap_size_alloc, World.heap_size_drew, World.heap_size_setCell]); omega)))
  obtain ⟨b2_c, b2_f⟩ := bcell b2
  have z2_0 : w.heap.size < w2.heap.size := by omega
  have sa0_2 := r2.mono (lo' := w1.heap.size) (by (try simp only [World.heap_size_alloc, World.heap_size_drew, World.heap_size_setCell]); omega) (Nat.le_refl _)
  clear r2
  have sa1_2 := s2.mono (lo' := w1.heap.size) (by (try simp only [World.heap_size_alloc, World.heap_size_drew, World.heap_size_setCell]); omega) (Nat.le_refl _)
  clear s2
  have sa2_2 := t2.mono (lo' := w1.heap.size) (by (try simp only [World.heap_size_alloc, World.heap_size_drew, World.heap_size_setCell]); omega) (Nat.le_refl _)
  clear t2
  have sa3_2 := u2.mono (lo' := w1.heap.size) (by (try simp only [World.heap_size_alloc, World.heap_size_drew, World.heap_size_setCell]); omega) (Nat.le_refl _)
  clear u2
  have cB2 : Below (w.heap.size + 1) (w.alloc (.cells #[.slice AA0 n0 cp0, .slice AA1 n1 cp1, .slice AA2 n2 cp2, .slice AA3 n3 cp3] 62)) w2 := Below.trans (by (repeat' (first | with_reducible exact Below.refl _ _ | with_reducible assumption | with_reducible refine Below.drew ?_ | with_reducible refine Below.alloc ?_ ?_ _ | with_reducible refine Below.setCell ?_ ?_ _ | with_reducible refine Below.trans ?_ (Below.mono (by assumption) ?_) | ((try simp only [World.heap_size_alloc, World.heap_size_drew, World.heap_size_setCell]); omega)))) (b2.mono (by (try simp only [World.heap_size_alloc, World.heap_size_drew, World.heap_size_setCell]); omega))
  go_wp2_with fail
  (with_reducible refine (HS.out _ _ _ _ _ _ _ _ _ _ _ _ _ _ _ (sa0_2) (sa1_2) (sa2_2) (sa3_2) (by omega)).mono ?_); rintro _ w3 ⟨rfl, b3⟩
  have y3 := b3.size
  (try simp only [World.heap_size_alloc, World.heap_size_drew] at y3)
  have c3 : Below w2.heap.size w2 w3 := by (repeat' (first | with_reducible exact Below.refl _ _ | with_reducible assumption | with_reducible refine Below.drew ?_ | with_reducible refine Below.alloc ?_ ?_ _ | with_reducible refine Below.setCell ?_ ?_ _ | with_reducible refine Below.trans ?_ (Below.mono (by assumption) ?_) | ((try simp only [World.heap_size_alloc, World.heap_size_drew, World.heap_size_setCell]); omega)))
  obtain ⟨b3_c, b3_f⟩ := bcell b3
  have z3_0 : w.heap.size < w3.heap.size := by omega
  have sa0_3 := sa0_2.below c3 (by omega)
  clear sa0_2
  have sa1_3 := sa1_2.below c3 (by omega)
  clear sa1_2
  have sa2_3 := sa2_2.below c3 (by omega)
  clear sa2_2
  have sa3_3 := sa3_2.below c3 (by omega)
  clear sa3_2
  have cB3 : Below (w.heap.size + 1) (w.alloc (.cells #[.slice AA0 n0 cp0, .slice AA1 n1 cp1, .slice AA2 n2 cp2, .slice AA3 n3 cp3] 62)) w3 := Below.trans (by (repeat' (first | with_reducible exact Below.refl _ _ | with_reducible assumption | with_reducible refine Below.drew ?_ | with_reducible refine Below.alloc ?_ ?_ _ | with_reducible refine Below.setCell ?_ ?_ _ | with_reducible refine Below.trans ?_ (Below.mono (by assumption) ?_) | ((try simp only [World.heap_size_alloc, World.heap_size_drew, World.heap_size_setCell]); omega)))) (b3.mono (by (try simp only [World.heap_size_alloc, World.heap_size_drew, World.heap_size_setCell]); omega))
  clear sa0_3
  clear sa1_3
  clear sa2_3
  clear sa3_3
  go_wp2_with fail
  (with_reducible refine (toTwo_any _ _ _ k0 _ _ _ k1 _ _ _ k2 _ _ _ k3 _ (h0.below (by (repeat' (first | with_reducible exact Below.refl _ _ | with_reducible assumption | with_reducible refine Below.drew ?_ | with_reducible refine Below.alloc ?_ ?_ _ | with_reducible refine Below.setCell ?_ ?_ _ | with_reducible refine Below.trans ?_ (Below.mono (by assumption) ?_) | ((try simp only [World.heap_size_alloc, World.heap_size_drew, World.heap_size_setCell]); omega))))) (h1.below (by (repeat' (first | with_reducible exact Below.refl _ _ | with_reducible assumption | with_reducible refine Below.drew ?_ | with_reducible refine Below.alloc ?_ ?_ _ | with_reducible refine Below.setCell ?_ ?_ _ | with_reducible refine Below.trans ?_ (Below.mono (by assumption) ?_) | ((try simp only [World.heap_size_alloc, World.heap_size_drew, World.heap_size_setCell]); omega))))) (h2.below (by (repeat' (first | with_reducible exact Below.refl _ _ | with_reducible assumption | with_reducible refine Below.drew ?_ | with_reducible refine Below.alloc ?_ ?_ _ | with_reducible refine Below.setCell ?_ ?_ _ | with_reducible refine Below.trans ?_ (Below.mono (by assumption) ?_) | ((try simp only [World.heap_size_alloc, World.heap_size_drew, World.heap_size_setCell]); omega))))) (h3.below (by (repeat' (first | with_reducible exact Below.refl _ _ | with_reducible assumption | with_reducible refine Below.drew ?_ | with_reducible refine Below.alloc ?_ ?_ _ | with_reducible refine Below.setCell ?_ ?_ _ | with_reducible refine Below.trans ?_ (Below.mono (by assumption) ?_) | ((try simp only [World.heap_size_alloc, World.heap_size_drew, World.heap_size_setCell]); omega))))) N0.out N1.out N2.out N3.out).mono ?_); rintro _ w4 ⟨X0_4, d0_4, X1_4, d1_4, X2_4, d2_4, X3_4, d3_4, rfl, r4, s4, t4, u4, b4⟩
  have y4 := b4.size
  (try simp only [World.heap_size_alloc, World.heap_size_drew] at y4)
  have c4 : Below w3.heap.size w3 w4 := by (repeat' (first | with_reducible exact Below.refl _ _ | with_reducible assumption | with_reducible refine Below.drew ?_ | with_reducible refine Below.alloc ?_ ?_ _ | with_reducible refine Below.setCell ?_ ?_ _ | with_reducible refine Below.trans ?_ (Below.mono (by assumption) ?_) | ((try simp only [World.heap_size_alloc, World.heap_size_drew, World.heap_size_setCell]); omega)))
  obtain ⟨b4_c, b4_f⟩ := bcell b4
  have z4_0 : w.heap.size < w4.heap.size := by omega
  have sx0_4 := r4.mono (lo' := w3.heap.size) (by (try simp only [World.heap_size_alloc, World.heap_size_drew, World.heap_size_setCell]); omega) (Nat.le_refl _)
  clear r4
  have sx1_4 := s4.mono (lo' := w3.heap.size) (by (try simp only [World.heap_size_alloc, World.heap_size_drew, World.heap_size_setCell]); omega) (Nat.le_refl _)
  clear s4
  have sx2_4 := t4.mono (lo' := w3.heap.size) (by (try simp only [World.heap_size_alloc, World.heap_size_drew, World.heap_size_setCell]); omega) (Nat.le_refl _)
  clear t4
  have sx3_4 := u4.mono (lo' := w3.heap.size) (by (try simp only [World.heap_size_alloc, World.heap_size_drew, World.heap_size_setCell]); omega) (Nat.le_refl _)
  clear u4
  have cB4 : Below (w.heap.size + 1) (w.alloc (.cells #[.slice AA0 n0 cp0, .slice AA1 n1 cp1, .slice AA2 n2 cp2, .slice AA3 n3 cp3] 62)) w4 := Below.trans (by (repeat' (first | with_reducible exact Below.refl _ _ | with_reducible assumption | with_reducible refine Below.drew ?_ | with_reducible refine Below.alloc ?_ ?_ _ | with_reducible refine Below.setCell ?_ ?_ _ | with_reducible refine Below.trans ?_ (Below.mono (by assumption) ?_) | ((try simp only [World.heap_size_alloc, World.heap_size_drew, World.heap_size_setCell]); omega)))) (b4.mono (by (try simp only [World.heap_size_alloc, World.heap_size_drew, World.heap_size_setCell]); omega))
  obtain ⟨bx0, bx1, bx2, bx3, -⟩ := HSK.out w4 cB4
  replace bx0 := (World.cell?_alloc_lt (w := w4) (a := ⟨w.heap.size, 0, none⟩) (.cells #[.slice X0_4 n0 d0_4, .slice X1_4 n1 d1_4, .slice X2_4 n2 d2_4, .slice X3_4 n3 d3_4] 69) (show w.heap.size < w4.heap.size by omega)).trans bx0
  replace bx1 := (World.cell?_alloc_lt (w := w4) (a := ⟨w.heap.size, 1, none⟩) (.cells #[.slice X0_4 n0 d0_4, .slice X1_4 n1 d1_4, .slice X2_4 n2 d2_4, .slice X3_4 n3 d3_4] 69) (show w.heap.size < w4.heap.size by omega)).trans bx1
  replace bx2 := (World.cell?_alloc_lt (w := w4) (a := ⟨w.heap.size, 2, none⟩) (.cells #[.slice X0_4 n0 d0_4, .slice X1_4 n1 d1_4, .slice X2_4 n2 d2_4, .slice X3_4 n3 d3_4] 69) (show w.heap.size < w4.heap.size by omega)).trans bx2
  replace bx3 := (World.cell?_alloc_lt (w := w4) (a := ⟨w.heap.size, 3, none⟩) (.cells #[.slice X0_4 n0 d0_4, .slice X1_4 n1 d1_4, .slice X2_4 n2 d2_4, .slice X3_4 n3 d3_4] 69) (show w.heap.size < w4.heap.size by omega)).trans bx3
  have bx4 : (w4.alloc (.cells #[.slice X0_4 n0 d0_4, .slice X1_4 n1 d1_4, .slice X2_4 n2 d2_4, .slice X3_4 n3 d3_4] 69)).cell? ⟨w4.heap.size, 0, none⟩ = some (.slice X0_4 n0 d0_4) := by simp
  have bx5 : (w4.alloc (.cells #[.slice X0_4 n0 d0_4, .slice X1_4 n1 d1_4, .slice X2_4 n2 d2_4, .slice X3_4 n3 d3_4] 69)).cell? ⟨w4.heap.size, 1, none⟩ = some (.slice X1_4 n1 d1_4) := by simp
  have bx6 : (w4.alloc (.cells #[.slice X0_4 n0 d0_4, .slice X1_4 n1 d1_4, .slice X2_4 n2 d2_4, .slice X3_4 n3 d3_4] 69)).cell? ⟨w4.heap.size, 2, none⟩ = some (.slice X2_4 n2 d2_4) := by simp
  have bx7 : (w4.alloc (.cells #[.slice X0_4 n0 d0_4, .slice X1_4 n1 d1_4, .slice X2_4 n2 d2_4, .slice X3_4 n3 d3_4] 69)).cell? ⟨w4.heap.size, 3, none⟩ = some (.slice X3_4 n3 d3_4) := by simp
  have SK : ∀ W, Below (w4.heap.size + 1) (w4.alloc (.cells #[.slice X0_4 n0 d0_4, .slice X1_4 n1 d1_4, .slice X2_4 n2 d2_4, .slice X3_4 n3 d3_4] 69)) W → (W.cell? ⟨w.heap.size, 0, none⟩ = some (.slice AA0 n0 cp0) ∧ W.cell? ⟨w.heap.size, 1, none⟩ = some (.slice AA1 n1 cp1) ∧ W.cell? ⟨w.heap.size, 2, none⟩ = some (.slice AA2 n2 cp2) ∧ W.cell? ⟨w.heap.size, 3, none⟩ = some (.slice AA3 n3 cp3) ∧ W.cell? ⟨w4.heap.size, 0, none⟩ = some (.slice X0_4 n0 d0_4) ∧ W.cell? ⟨w4.heap.size, 1, none⟩ = some (.slice X1_4 n1 d1_4) ∧ W.cell? ⟨w4.heap.size, 2, none⟩ = some (.slice X2_4 n2 d2_4) ∧ W.cell? ⟨w4.heap.size, 3, none⟩ = some (.slice X3_4 n3 d3_4) ∧ Below (w4.heap.size + 1) (w4.alloc (.cells #[.slice X0_4 n0 d0_4, .slice X1_4 n1 d1_4, .slice X2_4 n2 d2_4, .slice X3_4 n3 d3_4] 69)) W) := fun W hb => ⟨(hb.cell (p := ⟨w.heap.size, 0, none⟩) (show w.heap.size < w4.heap.size + 1 by omega)).trans bx0, (hb.cell (p := ⟨w.heap.size, 1, none⟩) (show w.heap.size < w4.heap.size + 1 by omega)).trans bx1, (hb.cell (p := ⟨w.heap.size, 2, none⟩) (show w.heap.size < w4.heap.size + 1 by omega)).trans bx2, (hb.cell (p := ⟨w.heap.size, 3, none⟩) (show w.heap.size < w4.heap.size + 1 by omega)).trans bx3, (hb.cell (p := ⟨w4.heap.size, 0, none⟩) (show w4.heap.size < w4.heap.size + 1 by omega)).trans bx4, (hb.cell (p := ⟨w4.heap.size, 1, none⟩) (show w4.heap.size < w4.heap.size + 1 by omega)).trans bx5, (hb.cell (p := ⟨w4.heap.size, 2, none⟩) (show w4.heap.size < w4.heap.size + 1 by omega)).trans bx6, (hb.cell (p := ⟨w4.heap.size, 3, none⟩) (show w4.heap.size < w4.heap.size + 1 by omega)).trans bx7, hb⟩
  have HSK4 := Lib.hid SK
  clear SK bx0 bx1 bx2 bx3 bx4 bx5 bx6 bx7
  go_wp2_with fail
  (with_reducible refine (HI.out _ _ _ _ _ _ _ _ _ _ _ _ _ _ _ (sx0_4.below (B := w4.heap.size) (by (repeat' (first | with_reducible exact Below.refl _ _ | with_reducible assumption | with_reducible refine Below.drew ?_ | with_reducible refine Below.alloc ?_ ?_ _ | with_reducible refine Below.setCell ?_ ?_ _ | with_reducible refine Below.trans ?_ (Below.mono (by assumption) ?_) | ((try simp only [World.heap_size_alloc, World.heap_size_drew, World.heap_size_setCell]); omega)))) (by omega)) (sx1_4.below (B := w4.heap.size) (by (repeat' (first | with_reducible exact Below.refl _ _ | with_reducible assumption | with_reducible refine Below.drew ?_ | with_reducible refine Below.alloc ?_ ?_ _ | with_reducible refine Below.setCell ?_ ?_ _ | with_reducible refine Below.trans ?_ (Below.mono (by assumption) ?_) | ((try simp only [World.heap_size_alloc, World.heap_size_drew, World.heap_size_setCell]); omega)))) (by omega)) (sx2_4.below (B := w4.heap.size) (by (repeat' (first | with_reducible exact Below.refl _ _ | with_reducible assumption | with_reducible refine Below.drew ?_ | with_reducible refine Below.alloc ?_ ?_ _ | with_reducible refine Below.setCell ?_ ?_ _ | with_reducible refine Below.trans ?_ (Below.mono (by assumption) ?_) | ((try simp only [World.heap_size_alloc, World.heap_size_drew, World.heap_size_setCell]); omega)))) (by omega)) (sx3_4.below (B := w4.heap.size) (by (repeat' (first | with_reducible exact Below.refl _ _ | with_reducible assumption | with_reducible refine Below.drew ?_ | with_reducible refine Below.alloc ?_ ?_ _ | with_reducible refine Below.setCell ?_ ?_ _ | with_reducible refine Below.trans ?_ (Below.mono (by assumption) ?_) | ((try simp only [World.heap_size_alloc, World.heap_size_drew, World.heap_size_setCell]); omega)))) (by omega)) (by (try simp only [World.heap_size_alloc, World.heap_size_drew, World.heap_size_setCell]); omega)).mono ?_); rintro _ w5 ⟨rfl, b5⟩
  have y5 := b5.size
  (try simp only [World.heap_size_alloc, World.heap_size_drew] at y5)
  have c5 : Below w4.heap.size w4 w5 := by (repeat' (first | with_reducible exact Below.refl _ _ | with_reducible assumption | with_reducible refine Below.drew ?_ | with_reducible refine Below.alloc ?_ ?_ _ | with_reducible refine Below.setCell ?_ ?_ _ | with_reducible refine Below.trans ?_ (Below.mono (by assumption) ?_) | ((try simp only [World.heap_size_alloc, World.heap_size_drew, World.heap_size_setCell]); omega)))
  obtain ⟨b5_c, b5_f⟩ := bcell b5
  have z5_0 : w.heap.size < w5.heap.size := by omega
  have z5_1 : w4.heap.size < w5.heap.size := by omega
  have sx0_5 := sx0_4.below c5 (by omega)
  clear sx0_4
  have sx1_5 := sx1_4.below c5 (by omega)
  clear sx1_4
  have sx2_5 := sx2_4.below c5 (by omega)
  clear sx2_4
  have sx3_5 := sx3_4.below c5 (by omega)
  clear sx3_4
  have cB5 : Below (w4.heap.size + 1) (w4.alloc (.cells #[.slice X0_4 n0 d0_4, .slice X1_4 n1 d1_4, .slice X2_4 n2 d2_4, .slice X3_4 n3 d3_4] 69)) w5 := Below.trans (by (repeat' (first | with_reducible exact Below.refl _ _ | with_reducible assumption | with_reducible refine Below.drew ?_ | with_reducible refine Below.alloc ?_ ?_ _ | with_reducible refine Below.setCell ?_ ?_ _ | with_reducible refine Below.trans ?_ (Below.mono (by assumption) ?_) | ((try simp only [World.heap_size_alloc, World.heap_size_drew, World.heap_size_setCell]); omega)))) (b5.mono (by (try simp only [World.heap_size_alloc, World.heap_size_drew, World.heap_size_setCell]); omega))
  go_wp2_with fail
  go_region_held3 (fun w' => w'.cell? ⟨w.heap.size, 0, none⟩ = some (.slice AA0 n0 cp0) ∧ w'.cell? ⟨w.heap.size, 1, none⟩ = some (.slice AA1 n1 cp1) ∧ w'.cell? ⟨w.heap.size, 2, none⟩ = some (.slice AA2 n2 cp2) ∧ w'.cell? ⟨w.heap.size, 3, none⟩ = some (.slice AA3 n3 cp3) ∧ w'.cell? ⟨w4.heap.size, 0, none⟩ = some (.slice X0_4 n0 d0_4) ∧ w'.cell? ⟨w4.heap.size, 1, none⟩ = some (.slice X1_4 n1 d1_4) ∧ w'.cell? ⟨w4.heap.size, 2, none⟩ = some (.slice X2_4 n2 d2_4) ∧ w'.cell? ⟨w4.heap.size, 3, none⟩ = some (.slice X3_4 n3 d3_4) ∧ Below (w4.heap.size + 1) (w4.alloc (.cells #[.slice X0_4 n0 d0_4, .slice X1_4 n1 d1_4, .slice X2_4 n2 d2_4, .slice X3_4 n3 d3_4] 69)) w')
    (first | (refine HSK4.out _ ?_; (repeat' (first | with_reducible exact Below.refl _ _ | with_reducible assumption | with_reducible refine Below.drew ?_ | with_reducible refine Below.alloc ?_ ?_ _ | with_reducible refine Below.setCell ?_ ?_ _ | with_reducible refine Below.trans ?_ (Below.mono (by assumption) ?_) | ((try simp only [World.heap_size_alloc, World.heap_size_drew, World.heap_size_setCell]); omega)))) | (go_split_ands; refine HSK4.out _ ?_; (repeat' (first | with_reducible exact Below.refl _ _ | with_reducible assumption | with_reducible refine Below.drew ?_ | with_reducible refine Below.alloc ?_ ?_ _ | with_reducible refine Below.setCell ?_ ?_ _ | with_reducible refine Below.trans ?_ (Below.mono (by assumption) ?_) | ((try simp only [World.heap_size_alloc, World.heap_size_drew, World.heap_size_setCell]); omega)))))
    (first | (go_at_call 39; (with_reducible refine (toTwo_any _ _ _ k0 _ _ _ k1 _ _ _ k2 _ _ _ k3 _ (h0.below (by (repeat' (first | with_reducible exact Below.refl _ _ | with_reducible assumption | with_reducible refine Below.drew ?_ | with_reducible refine Below.alloc ?_ ?_ _ | with_reducible refine Below.setCell ?_ ?_ _ | with_reducible refine Below.trans ?_ (Below.mono (by assumption) ?_) | ((try simp only [World.heap_size_alloc, World.heap_size_drew, World.heap_size_setCell]); omega))))) (h1.below (by (repeat' (first | with_reducible exact Below.refl _ _ | with_reducible assumption | with_reducible refine Below.drew ?_ | with_reducible refine Below.alloc ?_ ?_ _ | with_reducible refine Below.setCell ?_ ?_ _ | with_reducible refine Below.trans ?_ (Below.mono (by assumption) ?_) | ((try simp only [World.heap_size_alloc, World.heap_size_drew, World.heap_size_setCell]); omega))))) (h2.below (by (repeat' (first | with_reducible exact Below.refl _ _ | with_reducible assumption | with_reducible refine Below.drew ?_ | with_reducible refine Below.alloc ?_ ?_ _ | with_reducible refine Below.setCell ?_ ?_ _ | with_reducible refine Below.trans ?_ (Below.mono (by assumption) ?_) | ((try simp only [World.heap_size_alloc, World.heap_size_drew, World.heap_size_setCell]); omega))))) (h3.below (by (repeat' (first | with_reducible exact Below.refl _ _ | with_reducible assumption | with_reducible refine Below.drew ?_ | with_reducible refine Below.alloc ?_ ?_ _ | with_reducible refine Below.setCell ?_ ?_ _ | with_reducible refine Below.trans ?_ (Below.mono (by assumption) ?_) | ((try simp only [World.heap_size_alloc, World.heap_size_drew, World.heap_size_setCell]); omega))))) N0.out N1.out N2.out N3.out).mono ?_); rintro _ w6 ⟨X0_6, d0_6, X1_6, d1_6, X2_6, d2_6, X3_6, d3_6, rfl, r6, s6, t6, u6, b6⟩; have y6 := b6.size; (try simp only [World.heap_size_alloc, World.heap_size_drew] at y6); have c6 : Below w5.heap.size w5 w6 := (by (repeat' (first | with_reducible exact Below.refl _ _ | with_reducible assumption | with_reducible refine Below.drew ?_ | with_reducible refine Below.alloc ?_ ?_ _ | with_reducible refine Below.setCell ?_ ?_ _ | with_reducible refine Below.trans ?_ (Below.mono (by assumption) ?_) | ((try simp only [World.heap_size_alloc, World.heap_size_drew, World.heap_size_setCell]); omega)))); have cB6 : Below (w4.heap.size + 1) (w4.alloc (.cells #[.slice X0_4 n0 d0_4, .slice X1_4 n1 d1_4, .slice X2_4 n2 d2_4, .slice X3_4 n3 d3_4] 69)) w6 := Below.trans (by (repeat' (first | with_reducible exact Below.refl _ _ | with_reducible assumption | with_reducible refine Below.drew ?_ | with_reducible refine Below.alloc ?_ ?_ _ | with_reducible refine Below.setCell ?_ ?_ _ | with_reducible refine Below.trans ?_ (Below.mono (by assumption) ?_) | ((try simp only [World.heap_size_alloc, World.heap_size_drew, World.heap_size_setCell]); omega)))) (b6.mono (by (try simp only [World.heap_size_alloc, World.heap_size_drew, World.heap_size_setCell]); omega)); obtain ⟨b6_c, b6_f⟩ := bcell b6; have z6_0 : w.heap.size < w6.heap.size := (by omega); have z6_1 : w4.heap.size < w6.heap.size := (by omega); have sx0_6 := sx0_5.below c6 (by omega); clear sx0_5; have sx1_6 := sx1_5.below c6 (by omega); clear sx1_5; have sx2_6 := sx2_5.below c6 (by omega); clear sx2_5; have sx3_6 := sx3_5.below c6 (by omega); clear sx3_5; have sy0_6 := r6.mono (lo' := w5.heap.size) (by (try simp only [World.heap_size_alloc, World.heap_size_drew, World.heap_size_setCell]); omega) (Nat.le_refl _); clear r6; have sy1_6 := s6.mono (lo' := w5.heap.size) (by (try simp only [World.heap_size_alloc, World.heap_size_drew, World.heap_size_setCell]); omega) (Nat.le_refl _); clear s6; have sy2_6 := t6.mono (lo' := w5.heap.size) (by (try simp only [World.heap_size_alloc, World.heap_size_drew, World.heap_size_setCell]); omega) (Nat.le_refl _); clear t6; have sy3_6 := u6.mono (lo' := w5.heap.size) (by (try simp only [World.heap_size_alloc, World.heap_size_drew, World.heap_size_setCell]); omega) (Nat.le_refl _); clear u6) | (go_at_call 41; (with_reducible refine (eqTwo_same _ _ _ _ _ _ _ _ _ _ _ _ _ _ _ _ _ _ _ _ _ _ _ _ _ _ _ _ _ _ _ _ _ _ _ _ _ _ _ _ _ (sx0_6) (sy0_6) (sx1_6) (sy1_6) (sx2_6) (sy2_6) (sx3_6) (sy3_6) (by omega) (by omega) (by omega) (by omega) (by omega) (by omega) (by omega) (by omega)).mono ?_); rintro _ w7 ⟨rfl, b7⟩; have y7 := b7.size; (try simp only [World.heap_size_alloc, World.heap_size_drew] at y7); have c7 : Below w6.heap.size w6 w7 := (by (repeat' (first | with_reducible exact Below.refl _ _ | with_reducible assumption | with_reducible refine Below.drew ?_ | with_reducible refine Below.alloc ?_ ?_ _ | with_reducible refine Below.setCell ?_ ?_ _ | with_reducible refine Below.trans ?_ (Below.mono (by assumption) ?_) | ((try simp only [World.heap_size_alloc, World.heap_size_drew, World.heap_size_setCell]); omega)))); have cB7 : Below (w4.heap.size + 1) (w4.alloc (.cells #[.slice X0_4 n0 d0_4, .slice X1_4 n1 d1_4, .slice X2_4 n2 d2_4, .slice X3_4 n3 d3_4] 69)) w7 := Below.trans (by (repeat' (first | with_reducible exact Below.refl _ _ | with_reducible assumption | with_reducible refine Below.drew ?_ | with_reducible refine Below.alloc ?_ ?_ _ | with_reducible refine Below.setCell ?_ ?_ _ | with_reducible refine Below.trans ?_ (Below.mono (by assumption) ?_) | ((try simp only [World.heap_size_alloc, World.heap_size_drew, World.heap_size_setCell]); omega)))) (b7.mono (by (try simp only [World.heap_size_alloc, World.heap_size_drew, World.heap_size_setCell]); omega)); obtain ⟨b7_c, b7_f⟩ := bcell b7; have z7_0 : w.heap.size < w7.heap.size := (by omega); have z7_1 : w4.heap.size < w7.heap.size := (by omega); have sx0_7 := sx0_6.below c7 (by omega); clear sx0_6; have sx1_7 := sx1_6.below c7 (by omega); clear sx1_6; have sx2_7 := sx2_6.below c7 (by omega); clear sx2_6; have sx3_7 := sx3_6.below c7 (by omega); clear sx3_6; have sy0_7 := sy0_6.below c7 (by omega); clear sy0_6; have sy1_7 := sy1_6.below c7 (by omega); clear sy1_6; have sy2_7 := sy2_6.below c7 (by omega); clear sy2_6; have sy3_7 := sy3_6.below c7 (by omega); clear sy3_6))
  go_wp2_with fail
  go_ret
  refine ⟨rfl, ?_⟩
  clear b1_c b1_f b2_c b2_f b3_c b3_f b4_c b4_f b5_c b5_f b6_c b6_f b7_c b7_f
  (repeat' (first | with_reducible exact Below.refl _ _ | with_reducible assumption | with_reducible refine Below.drew ?_ | with_reducible refine Below.alloc ?_ ?_ _ | with_reducible refine Below.setCell ?_ ?_ _ | with_reducible refine Below.trans ?_ (Below.mono (by assumption) ?_) | ((try simp only [World.heap_size_alloc, World.heap_size_drew, World.heap_size_setCell]); omega)))
theorem own : ownKnob Try.prog.godebug = none := by kernel_rfl
theorem laidOut : laidOutB Try.prog = true := by kernel_rfl
set_option maxRecDepth 100000 in
theorem lifted (os : Os) (started : os.Started) (H : Type) (enc : TypeId × Value → H) :
    ReturnsInHanded {} Try.checked os 9 .any (Rows.fnExactKeptOkSpec.pre6 enc Try.prog Try.f9 Rows.fnExactKeptOkRow.domain false) (Rows.fnExactKeptOkSpec.post enc Try.prog Try.f9 false true false false) := by
  refine returnsInHanded_of_change (C := Try.checked) own started (by kernel_rfl) Try.func9
    (ChangeSpec.witness6 (enc := enc) (C := Try.checked) false ⟨#[], #[.agg #[.slice none 0 0, .slice none 0 0, .slice none 0 0, .slice none 0 0]], []⟩ 8 (by kernel_rfl) (by kernel_rfl) (by kernel_rfl) (by kernel_rfl)) ?_
  intro W base args ds gs before hval0 hW hcnd _
  have hval : ∀ (j : Nat) t v, Try.f9.params[j]? = some t → args[j]? = some v → Value.okWide Try.prog W .any base t v := hval0
  have hW' := hW
  obtain ⟨p, q, hA0, hV, rfl, hfz, hnd⟩ := hW
  have hA : DataW.TrodAll enc Try.prog W 0 (fun _ => true) true Try.f9.params.toList args.toList ds p := hA0
  rw [Try.params9] at hA hval
  obtain ⟨v0, d0, rfl, rfl, h0⟩ := trodAll_one hA
  obtain ⟨rfl, rfl⟩ := trodVars_none hV
  obtain ⟨A0, n0, c0, k0, A1, n1, c1, k1, A2, n2, c2, k2, A3, n3, c3, k3, rfl, hz0, hz1, hz2, hz3⟩ := open_two (m := 3) Try.underlying62 rfl rfl (by kernel_rfl) (by kernel_rfl) rfl Try.underlying60 rfl rfl (by kernel_rfl) (by kernel_rfl) Try.underlying57 Try.underlying28 (by kernel_rfl) (by kernel_rfl) (by kernel_rfl) Try.underlying58 Try.underlying172 (by kernel_rfl) rfl rfl (by kernel_rfl) (by kernel_rfl) Try.underlying2 Try.underlying28 (by kernel_rfl) (by kernel_rfl) (hval 0 62 v0 rfl rfl) h0
  clear hA0 hval0
  refine (law_any A0 n0 c0 k0 A1 n1 c1 k1 A2 n2 c2 k2 A3 n3 c3 k3 W hz0 hz1 hz2 hz3).mono fun e W' ⟨he, hb⟩ => ?_
  subst he
  exact ⟨_, rfl, law_post laidOut (by kernel_rfl) rfl Try.underlying4 rfl hW' hb rfl rfl rfl⟩
theorem holds : Rows.FnExactKeptOkSaid :=
  OpenClaim.holds_of_wide 9 Try.f9 rfl rfl rfl rfl rfl rfl rfl ⟨rfl, rfl, rfl, rfl, rfl⟩ rfl rfl rfl rfl rfl (by kernel_rfl) Try.func9 (by kernel_rfl)
    (of_decide_eq_true (by kernel_rfl)) (by unfold Func.isWrapper; first | (rw [if_pos (by decide +kernel)]; kernel_rfl) | (rw [if_neg (by decide +kernel)]; exact ⟨rfl, rfl⟩))
    (fun os started H enc _ => lifted os started H enc)
#print axioms holds
end KeptOk
end Go.Proofs.Ytgnilmdaegnaaaa
