/- Disks: new ones, and what is written. No conditions. -/
import Derived.Test.YtgnilmdaegnaaaaZDk7
set_option linter.unusedSimpArgs false
set_option linter.unusedVariables false
namespace Go.Proofs.Ytgnilmdaegnaaaa
open Go.RowKit
def nilRow (m : Nat) : Array Value := (List.replicate m (Value.slice none 0 0)).toArray
theorem made_nil (m : Nat) : madeCells #[.slice none 0 0] m = nilRow m := by
  apply Array.ext'
  apply List.ext_getElem
  · simp [madeCells, nilRow]
  · intro i h1 h2
    simp [madeCells, nilRow, Nat.mod_one]
theorem run_make_nil {P : Program} {t e : TypeId} {bytes : Nat} (ht : P.underlying t = some (.slice e)) (hi : (P.info? e).map (fun i => (i.zero, i.size, i.bytes)) = some (some (.slice none 0 0), 1, bytes))
    (n : Nat) (hb : bytes * n ≤ 281474976710656) (hn : n ≤ 9223372036854775807) (w : World) :
    (Instr.makeSlice t (.int .i64 (n : Int)) (.int .i64 (n : Int))).run P w = .ok (.slice (some ⟨w.heap.size, 0, none⟩) n n) (w.alloc (.cells (nilRow n) e)) := by
  obtain ⟨i, h1, h2, h3, h4⟩ := info_parts hi
  have hb' : (i.bytes : Int) * (n : Int) ≤ 281474976710656 := by
    have h : ((i.bytes * n : Nat) : Int) ≤ 281474976710656 := by rw [h4]; omega
    rwa [Int.natCast_mul] at h
  have hr := run_make (P := P) w t e i (.slice none 0 0) ht h1 h2 .i64 .i64 n n (by omega) (by omega) hb' (by omega)
  simp only [Int.toNat_natCast] at hr
  rw [hr, h3, Nat.mul_one]
  rw [show (Value.slice none 0 0).cells = #[.slice none 0 0] from rfl, made_nil]
theorem nilRow_at (w : World) (E m : Nat) {j : Nat} (hj : j < m) : (w.alloc (.cells (nilRow m) E)).cell? ⟨w.heap.size, j, none⟩ = some (.slice none 0 0) := by
  rw [World.cell?_alloc_new]
  simp [nilRow, hj]
theorem SlR.news (w : World) (E m B : Nat) (hB : B ≤ w.heap.size) (hm : m ≤ 1048576) : SlR (w.alloc (.cells (nilRow m) E)) B (w.heap.size + 1) (some ⟨w.heap.size, 0, none⟩) m m (List.replicate m []) :=
  ⟨by simp, Nat.le_refl _, by omega, fun j r hr => by
    have hj := (List.getElem?_eq_some_iff.1 hr).1
    simp at hj
    rw [List.getElem?_replicate] at hr
    rw [if_pos hj] at hr
    injection hr with hr
    subst hr
    exact ⟨w.heap.size, 0, none, 0, 0, rfl, hB, by omega, by rw [Nat.zero_add]; exact nilRow_at w E m hj, Sl.nil _ _ _ _ _ _ (by omega)⟩⟩
set_option maxRecDepth 100000 in
set_option maxHeartbeats 1000000 in
theorem newDisk_any (m : Nat) (w : World) (h1 : 1 ≤ m) (h2 : m ≤ 40) :
    Calls Try.prog 52 #[.int .i64 (m : Int)] w (DkRes w m (List.replicate m []) 0 []) := by
  have hmk := fun W => run_make_nil (P := Try.prog) Try.underlying57 infoI64S m (by omega) (by omega) W
  have CB : Hid (∀ W, Calls Try.prog 86 #[.int .i64 (m : Int), .int .i64 1, .int .i64 40] W fun e w' => e = .returned (.bool true) ∧ W = w') := Lib.hid (fun W => by
    have h7 := between_any (m : Int) 1 40 W
    rw [show btw (m : Int) 1 40 = true from btw_iff.2 ⟨by omega, by omega⟩] at h7
    exact h7)
  obtain ⟨q0, q1, qf0, qf1⟩ := (Box2.new w (.slice none 0 0) (.slice none 0 0) 67).below (B := w.heap.size + 1) (w' := (w.alloc (.cells #[.slice none 0 0, .slice none 0 0] 67)).alloc (.cells (nilRow m) 28)) ((Below.refl _ _).alloc (by simp) _) (by omega)
  go_enter Try.func52, Try.ntmps52
  go_wp2_with fail
  (with_reducible refine (CB.out _).mono ?_); rintro _ _ ⟨rfl, rfl⟩
  go_wp2_with fail
  have s1 := SlR.news (w.alloc (.cells #[.slice (some ⟨w.heap.size + 1, 0, none⟩) m m, .slice none 0 0] 67)) 28 m (w.heap.size + 1) (by simp) (by omega)
  rw [World.heap_size_alloc] at s1
  obtain ⟨q0, q1, qf0, qf1⟩ := (Box2.new w (.slice (some ⟨w.heap.size + 1, 0, none⟩) m m) (.slice none 0 0) 67).below (B := w.heap.size + 1) (w' := (w.alloc (.cells #[.slice (some ⟨w.heap.size + 1, 0, none⟩) m m, .slice none 0 0] 67)).alloc (.cells (nilRow m) 28)) ((Below.refl _ _).alloc (by simp) _) (by omega)
  refine bodyPost_ret (v := .agg #[.slice (some ⟨w.heap.size + 1, 0, none⟩) m m, .slice none 0 0]) (by simp [results, Try.results52, go_sem, q0, q1, qf0, qf1]) rfl ⟨_, m, none, 0, rfl, s1.mono (by omega) (by simp only [World.heap_size_alloc]; omega), SlW.nil _ _ _ _ _ (by omega), by (repeat' (first | with_reducible exact Below.refl _ _ | with_reducible assumption | with_reducible refine Below.drew ?_ | with_reducible refine Below.alloc ?_ ?_ _ | with_reducible refine Below.setCell ?_ ?_ _ | with_reducible refine Below.trans ?_ (Below.mono (by assumption) ?_) | ((try simp only [World.heap_size_alloc, World.heap_size_drew, World.heap_size_setCell]); omega)))⟩
def DkBRes (w : World) (n0 : Nat) (k0 : List (List Int)) (n1 : Nat) (v0 : List WriteD) (b : Bool) (e : Ending) (w' : World) : Prop :=
  ∃ A0 c0 A1 c1, e = .returned (.tuple #[.agg #[.slice A0 n0 c0, .slice A1 n1 c1], .bool b]) ∧ SlR w' w.heap.size w'.heap.size A0 n0 c0 k0 ∧ SlW w' w.heap.size w'.heap.size A1 n1 c1 v0 ∧ Below w.heap.size w w'
theorem diskOk_sizes {k0 : List (List Int)} {v0 : List WriteD} (h : diskOk k0 v0 = true) : 1 ≤ k0.length ∧ k0.length ≤ 40 ∧ v0.length ≤ 60 ∧ (∀ (j : Nat) r, k0[j]? = some r → rowOk r = true) ∧ (∀ (j : Nat) r, v0[j]? = some r → wrOk k0.length r = true) := by
  simp only [diskOk, Bool.and_eq_true, decide_eq_true_eq, List.all_eq_true] at h
  exact ⟨h.1, h.2.1, h.2.2.1, fun j r hr => h.2.2.2.1 r (List.mem_of_getElem? hr), fun j r hr => h.2.2.2.2 r (List.mem_of_getElem? hr)⟩
theorem wrOk_row {n : Nat} {r : WriteD} (h : wrOk n r = true) : rowOk r.row = true := by
  simp only [wrOk, Bool.and_eq_true] at h
  exact h.2
set_option maxRecDepth 100000 in
set_option maxHeartbeats 8000000 in
theorem wrote_any (A0 : Option Addr) (n0 c0 : Nat) (k0 : List (List Int)) (A1 : Option Addr) (n1 c1 : Nat) (v0 : List WriteD) (lo hi : Nat) (w : World) (h0 : SlR w lo hi A0 n0 c0 k0) (h1 : SlW w lo hi A1 n1 c1 v0) (hhi : hi ≤ w.heap.size) (q : Int) (Ar : Option Addr) (nr cr lor hir : Nat) (zr : List Int) (hr : Sl w lor hir 1 Ar nr cr zr) (hhr : hir ≤ w.heap.size) (hd : diskOk k0 v0 = true) (hq : btw q 0 ((n0 : Int) - 1) = true) (hz : rowOk zr = true) (hn1 : n1 < 60) :
    Calls Try.prog 51 #[.agg #[.slice A0 n0 c0, .slice A1 n1 c1], .int .i64 q, .slice Ar nr cr] w (DkBRes w n0 k0 (n1 + 1) (v0 ++ [⟨q, zr⟩]) true) := by
  obtain ⟨z3, z4, z5, hk0, hv0⟩ := diskOk_sizes hd
  have L0 := h0.len
  have L1 := h1.len
  rw [L0] at z3 z4 hv0
  rw [L1] at z5
  have hnr : nr ≤ 1000 := by
    have h8 := rowOk_len hz
    have h9 := hr.len
    omega
  have C1 : Hid (∀ W, Below w.heap.size w W → Calls Try.prog 108 #[.agg #[.slice A0 n0 c0, .slice A1 n1 c1]] W fun e w' => e = .returned (.bool true) ∧ Below W.heap.size W w') := Lib.hid (fun W hW => by
    have h7 := diskOk_any A0 n0 c0 k0 A1 n1 c1 v0 lo hi W (h0.below hW hhi) (h1.below hW hhi) (Nat.le_trans hhi hW.size)
    rw [hd] at h7
    exact h7)
  have C2 : Hid (∀ W, Below w.heap.size w W → Calls Try.prog 109 #[.agg #[.slice A0 n0 c0, .slice A1 n1 c1]] W (DkRes3 W 135 n0 k0 n1 v0)) := Lib.hid (fun W hW => copyDisk_any A0 n0 c0 k0 A1 n1 c1 v0 lo hi W (h0.below hW hhi) (h1.below hW hhi) (Nat.le_trans hhi hW.size) (by omega) (by omega) (fun j r h => by have := rowOk_len (hk0 j r h); omega) (fun j r h => by have := rowOk_len (wrOk_row (hv0 j r h)); omega))
  have C3 : Hid (∀ W, Calls Try.prog 110 #[.agg #[.slice A0 n0 c0, .slice A1 n1 c1], .int .i64 q] W fun e w' => e = .returned (.bool true) ∧ Below W.heap.size W w') := Lib.hid (fun W => by
    have h7 := sectorOk_any A0 n0 c0 A1 n1 c1 q W (by omega)
    rw [hq] at h7
    exact h7)
  have C4 : Hid (∀ W, Below w.heap.size w W → Calls Try.prog 111 #[.slice Ar nr cr] W fun e w' => e = .returned (.bool true) ∧ W = w') := Lib.hid (fun W hW => by
    have h7 := rowOk_any Ar nr cr lor hir zr W (hr.below hW hhr)
    rw [hz] at h7
    exact h7)
  have HR := Lib.hid hr
  have T1 : Hid (∀ W, Below (w.heap.size + 2) ((w.alloc (.cells #[.slice A0 n0 c0, .slice A1 n1 c1] 67)).alloc (.cells #[.slice none 0 0, .slice none 0 0] 67)) W → (Box2 W w.heap.size (.slice A0 n0 c0) (.slice A1 n1 c1) ∧ Box2 W (w.heap.size + 1) (.slice none 0 0) (.slice none 0 0))) := Lib.hid (fun W hW => ⟨((Box2.new w (.slice A0 n0 c0) (.slice A1 n1 c1) 67).below (B := w.heap.size + 1) ((Below.refl _ _).alloc (by simp) (.cells #[.slice none 0 0, .slice none 0 0] 67)) (by omega)).below hW (by omega), by
    have h9 := Box2.new (w.alloc (.cells #[.slice A0 n0 c0, .slice A1 n1 c1] 67)) (.slice none 0 0) (.slice none 0 0) 67
    rw [World.heap_size_alloc] at h9
    exact h9.below hW (by omega)⟩)
  have hs9 : ((w.alloc (.cells #[.slice A0 n0 c0, .slice A1 n1 c1] 67)).alloc (.cells #[.slice none 0 0, .slice none 0 0] 67)).heap.size = w.heap.size + 2 := by simp only [World.heap_size_alloc]
  have hb9 : Below w.heap.size w ((w.alloc (.cells #[.slice A0 n0 c0, .slice A1 n1 c1] 67)).alloc (.cells #[.slice none 0 0, .slice none 0 0] 67)) := by (repeat' (first | with_reducible exact Below.refl _ _ | with_reducible assumption | with_reducible refine Below.drew ?_ | with_reducible refine Below.alloc ?_ ?_ _ | with_reducible refine Below.setCell ?_ ?_ _ | with_reducible refine Below.trans ?_ (Below.mono (by assumption) ?_) | ((try simp only [World.heap_size_alloc, World.heap_size_drew, World.heap_size_setCell]); omega)))
  clear h0 h1 hr hk0 hv0 hd hq hz
  go_enter Try.func51, Try.ntmps51
  go_wp2_with fail
  generalize hW0 : (w.alloc (.cells #[.slice A0 n0 c0, .slice A1 n1 c1] 67)).alloc (.cells #[.slice none 0 0, .slice none 0 0] 67) = W0 at *
  clear hW0
  (with_reducible refine (C1.out _ hb9).mono ?_); rintro _ w1 ⟨rfl, b1⟩
  have y1 := b1.size
  have p1 : Below (w.heap.size + 2) W0 w1 := b1.mono (by omega)
  obtain ⟨⟨q0, q1, qf0, qf1⟩, -⟩ := T1.out _ p1
  have P1 := Lib.hid p1
  clear b1 p1
  go_wp2_with fail
  (with_reducible refine (C2.out _ (hb9.trans (P1.out.mono (by omega)))).mono ?_); rintro _ w2 ⟨X0, d0, X1, d1, vs, mid, rfl, s2, o2, v2, m1, m2, -, b2⟩
  have y2 := b2.size
  have hw2 : w.heap.size < w2.heap.size := by omega
  have p2 : Below (w.heap.size + 2) W0 w2 := P1.out.trans (b2.mono (by omega))
  obtain ⟨⟨e0, e1, -, -⟩, -⟩ := T1.out _ p2
  have q0 : (w2.alloc (.cells #[.slice X0 n0 d0, .slice X1 n1 d1] 67)).cell? ⟨w.heap.size, 0, none⟩ = some (.slice A0 n0 c0) := (World.cell?_alloc_lt _ _ _ hw2).trans e0
  have q1 : (w2.alloc (.cells #[.slice X0 n0 d0, .slice X1 n1 d1] 67)).cell? ⟨w.heap.size, 1, none⟩ = some (.slice A1 n1 c1) := (World.cell?_alloc_lt _ _ _ hw2).trans e1
  have S2 := Lib.hid s2
  have O2 := Lib.hid o2
  have V2 := Lib.hid v2
  have P2 := Lib.hid p2
  have K2 := Lib.hid (Box2.new w2 (.slice X0 n0 d0) (.slice X1 n1 d1) 67)
  clear s2 o2 v2 b2 p2
  go_wp2_with fail
  (with_reducible refine (C3.out _).mono ?_); rintro _ w3 ⟨rfl, b3⟩
  have y3 := b3.size
  simp only [World.heap_size_alloc] at y3
  have p3 : Below w2.heap.size w2 w3 := ((Below.refl _ _).alloc (Nat.le_refl _) _).trans (b3.mono (by simp only [World.heap_size_alloc]; omega))
  have k3 := K2.out.below b3 (by simp only [World.heap_size_alloc]; omega)
  have K3 := Lib.hid k3
  have P3 := Lib.hid (P2.out.trans (p3.mono (by omega)))
  obtain ⟨⟨q0, q1, -, -⟩, -⟩ := T1.out _ P3.out
  have O3 := Lib.hid (O2.out.kept p3)
  have V3 : Hid (VWr w3 mid w3.heap.size (Value.slice X1 n1 d1).ownBlock vs ((v0 ++ [(⟨q, zr⟩ : WriteD)]).take n1)) := Lib.hid (by
    rw [List.take_left' L1]
    exact (V2.out.below p3 (Nat.le_refl _)).mono (Nat.le_refl _) (by omega))
  have S3 := Lib.hid (S2.out.below p3 m2)
  have OL : Hid (∀ g, (Value.slice X1 n1 d1).ownBlock = some g → mid ≤ g ∧ g < w2.heap.size) := Lib.hid O2.out.lt
  obtain ⟨x0, x1, xf0, xf1⟩ := k3
  have HX : Hid ((v0 ++ [(⟨q, zr⟩ : WriteD)])[n1]? = some ⟨q, zr⟩) := Lib.hid (by rw [List.getElem?_append_right (by omega), L1]; simp)
  clear b3 p3 K2 O2 V2 S2
  go_wp2_with fail
  (with_reducible refine (C4.out _ (hb9.trans (P3.out.mono (by omega)))).mono ?_); rintro _ _ ⟨rfl, rfl⟩
  have HS := Lib.hid (HR.out.below (hb9.trans (P3.out.mono (by omega))) hhr)
  have HKH : Hid (∀ W, Below w3.heap.size w3 W → Box2 W w2.heap.size (.slice X0 n0 d0) (.slice X1 n1 d1)) := Lib.hid (fun W hW => K3.out.below hW (by omega))
  go_wp2_with fail
  go_region_law (first | (go_simp; go_at_call 112; (with_reducible refine (copyRow_any _ _ _ _ _ zr _ (HS.out.below (B := w3.heap.size) (by (repeat' (first | with_reducible exact Below.refl _ _ | with_reducible assumption | with_reducible refine Below.drew ?_ | with_reducible refine Below.alloc ?_ ?_ _ | with_reducible refine Below.setCell ?_ ?_ _ | with_reducible refine Below.trans ?_ (Below.mono (by assumption) ?_) | ((try simp only [World.heap_size_alloc, World.heap_size_drew, World.heap_size_setCell]); omega)))) (by omega)) (by omega)).mono ?_); rintro _ w5 ⟨A5, c5, rfl, s5, b5⟩; have y5 := b5.size; (try simp only [World.heap_size_alloc, World.heap_size_drew] at y5); have hb5 : Below w3.heap.size w3 w5 := Below.trans (by (repeat' (first | with_reducible exact Below.refl _ _ | with_reducible assumption | with_reducible refine Below.drew ?_ | with_reducible refine Below.alloc ?_ ?_ _ | with_reducible refine Below.setCell ?_ ?_ _ | with_reducible refine Below.trans ?_ (Below.mono (by assumption) ?_) | ((try simp only [World.heap_size_alloc, World.heap_size_drew, World.heap_size_setCell]); omega)))) (b5.mono (by (try simp only [World.heap_size_alloc, World.heap_size_drew, World.heap_size_setCell]); omega)); have S5 := Lib.hid (s5.mono (lo' := w3.heap.size) (by (try simp only [World.heap_size_alloc, World.heap_size_drew, World.heap_size_setCell]); omega) (Nat.le_refl _)); have B5 := Lib.hid hb5; obtain ⟨x0, x1, xf0, xf1⟩ := HKH.out _ hb5; have hz7 : w2.heap.size < w5.heap.size := (by omega); have x1a : (w5.alloc (.cells #[.int .i64 q, .slice A5 nr c5] 135)).cell? ⟨w2.heap.size, 1, none⟩ = some (.slice X1 n1 d1) := (World.cell?_alloc_lt _ _ _ hz7).trans x1; clear s5 b5 hb5) | (refine step_append_v _ rfl (.tmp 32) (.tmp 37) 65 rfl mid 135 Try.underlying65 infoWrite rfl (by omega) _ n1 vs rfl (O3.out.kept (B5.out.alloc (by omega) _)) _ 0 1 1 [.int .i64 q, .slice A5 nr c5] rfl rfl (src_cells w5 135 [.int .i64 q, .slice A5 nr c5]) (one_write _ _ _ _) (by omega) (by omega) (by rw [World.heap_size_alloc]; omega) ?_; intro v6 w6 o6 g6 a6; have y6 := g6.size; rw [World.heap_size_alloc] at y6; obtain ⟨A6, c6, rfl⟩ := OwnV.form o6; obtain ⟨z0, z1, zf0, zf1⟩ := (((HKH.out _ B5.out).below ((Below.refl w5.heap.size w5).alloc (Nat.le_refl _) (.cells #[.int .i64 q, .slice A5 nr c5] 135)) (by omega)).same (g6.block w2.heap.size (by rw [World.heap_size_alloc]; omega) (fun e => by have := (OL.out _ e.symm).2; omega)))))
  all_goals
    have hbW : Below w5.heap.size w5 (w5.alloc (.cells #[.int .i64 q, .slice A5 nr c5] 135)) := (Below.refl w5.heap.size w5).alloc (Nat.le_refl _) _
    have v6 := V3.out.push O3.out.lt2 B5.out (by omega) (Nat.le_refl _) S5.out HX.out hbW g6 a6
    have hb6 : Below mid w3 w6 := ((B5.out.mono (by omega)).alloc (by omega) _).trans (grown_below g6 (by (try simp only [World.heap_size_alloc, World.heap_size_drew, World.heap_size_setCell]); omega) (fun g hg => (OL.out g hg).1))
    have k6 : Box2 w6 w2.heap.size (.slice X0 n0 d0) (.slice X1 n1 d1) := ⟨z0, z1, zf0, zf1⟩
    have hne : ∀ g, (Value.slice A6 (n1 + 1) c6).ownBlock = some g → g ≠ w2.heap.size ∧ g ≠ w.heap.size + 1 := fun g hg => by
      have h7 := (OwnV.lt o6 g hg).1
      rcases a6 with a6 | a6
      · rw [a6] at hg
        have := (OL.out g hg)
        omega
      · rw [a6] at hg
        injection hg with hg
        rw [World.heap_size_alloc] at hg
        omega
    rw [List.take_of_length_le (show (v0 ++ [(⟨q, zr⟩ : WriteD)]).length ≤ n1 + 1 by simp [L1])] at v6
    have k7 := k6.set1 (.slice A6 (n1 + 1) c6)
    obtain ⟨t0, t1, tf0, tf1⟩ := ((T1.out _ P3.out).2.below hb6 (by omega)).upd (Box2.upd1 (b := w2.heap.size) (q := 1) (v := .slice A6 (n1 + 1) c6)) (.inl (by omega))
    obtain ⟨n0', n1', nf0, nf1⟩ := k7
    have O7 := Lib.hid (OwnV.setFar o6 (b := w2.heap.size) (q := 1) (fun g hg => (hne g hg).1) (.slice A6 (n1 + 1) c6))
    have V7 := Lib.hid (v6.setOther (p := ⟨w2.heap.size, 1, none⟩) k6.c1 slice_noint (.slice A6 (n1 + 1) c6))
    have S7 := Lib.hid (((S3.out.below hb6 (Nat.le_refl _))).upd (Box2.upd1 (b := w2.heap.size) (q := 1) (v := .slice A6 (n1 + 1) c6)) (.inl m2))
    have HB7 := Lib.hid ((hb9.trans (P3.out.mono (by omega))).trans ((hb6.mono (by omega)).setCell (p := ⟨w2.heap.size, 1, none⟩) (by simp only; omega) (.slice A6 (n1 + 1) c6)))
    have HNE := Lib.hid hne
    have W7 : (w6.setCell ⟨w2.heap.size, 1, none⟩ (.slice A6 (n1 + 1) c6)).heap.size = w6.heap.size := World.heap_size_setCell _ _ _
    clear o6 g6 a6 v6 hbW hb6 k6 hne z0 z1 zf0 zf1 x0 x1 xf0 xf1
    go_wp2_with fail
    generalize w6.setCell ⟨w2.heap.size, 1, none⟩ (.slice A6 (n1 + 1) c6) = W at *
    refine bodyPost_ret (v := .tuple #[.agg #[.slice X0 n0 d0, .slice A6 (n1 + 1) c6], .bool true]) (by simp [results, Try.results51, go_sem, t0, t1, tf0, tf1]) rfl ?_
    have u9 : Upd (w.heap.size + 1) (w.heap.size + 2) W ((W.setCell ⟨w.heap.size + 1, 0, none⟩ (.slice X0 n0 d0)).setCell ⟨w.heap.size + 1, 1, none⟩ (.slice A6 (n1 + 1) c6)) := ((Upd.refl _ _ _).setCell (p := ⟨w.heap.size + 1, 0, none⟩) (Nat.le_refl _) (by simp) _).setCell (p := ⟨w.heap.size + 1, 1, none⟩) (Nat.le_refl _) (by simp) _
    have t1' : (W.setCell ⟨w.heap.size + 1, 0, none⟩ (.slice X0 n0 d0)).cell? ⟨w.heap.size + 1, 1, none⟩ = some (.slice none 0 0) := (World.cell?_setCell_other _ _ _ _ (by simp)).trans t1
    have o9 := (O7.out.setFar (b := w.heap.size + 1) (q := 0) (fun g hg => (HNE.out g hg).2) (.slice X0 n0 d0)).setFar (b := w.heap.size + 1) (q := 1) (fun g hg => (HNE.out g hg).2) (.slice A6 (n1 + 1) c6)
    have v9 := (V7.out.setOther (p := ⟨w.heap.size + 1, 0, none⟩) t0 slice_noint (.slice X0 n0 d0)).setOther (p := ⟨w.heap.size + 1, 1, none⟩) t1' slice_noint (.slice A6 (n1 + 1) c6)
    obtain ⟨A9, c9, e9, s9⟩ := SlW.of_own o9 v9 (Nat.le_refl _) (by simp only [World.heap_size_setCell]; omega)
    injection e9 with e91 e92 e93
    subst e91 e93
    refine ⟨X0, d0, A6, c6, rfl, (S7.out.upd u9 (.inr (by omega))).mono (by omega) (by simp only [World.heap_size_setCell]; omega), s9.mono (by omega) (Nat.le_refl _), ?_⟩
    exact (HB7.out.setCell (p := ⟨w.heap.size + 1, 0, none⟩) (by simp only; omega) _).setCell (p := ⟨w.heap.size + 1, 1, none⟩) (by simp only; omega) _
end Go.Proofs.Ytgnilmdaegnaaaa
