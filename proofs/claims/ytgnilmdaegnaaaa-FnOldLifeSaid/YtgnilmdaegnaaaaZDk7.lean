/- Disks: copies of disks. No conditions. -/
import Derived.Test.YtgnilmdaegnaaaaZDk6
import Derived.Deep.RegionLaw
set_option linter.unusedSimpArgs false
set_option linter.unusedVariables false
namespace Go.Proofs.Ytgnilmdaegnaaaa
open Go.RowKit
/-- A block of two cells that may be written. -/
structure Box2 (w : World) (b : Nat) (v0 v1 : Value) : Prop where
  c0 : w.cell? ⟨b, 0, none⟩ = some v0
  c1 : w.cell? ⟨b, 1, none⟩ = some v1
  f0 : w.frozen? ⟨b, 0, none⟩ = false
  f1 : w.frozen? ⟨b, 1, none⟩ = false
theorem Box2.lt {w : World} {b : Nat} {v0 v1 : Value} (h : Box2 w b v0 v1) : b < w.heap.size := World.block_lt_of_cell? w _ h.c0
theorem Box2.new (w : World) (v0 v1 : Value) (E : Nat) : Box2 (w.alloc (.cells #[v0, v1] E)) w.heap.size v0 v1 := ⟨by simp, by simp, by simp, by simp⟩
theorem Box2.below {w w' : World} {b B : Nat} {v0 v1 : Value} (h : Box2 w b v0 v1) (hb : Below B w w') (hB : b < B) : Box2 w' b v0 v1 :=
  ⟨(hb.cell (p := ⟨b, 0, none⟩) hB).trans h.c0, (hb.cell (p := ⟨b, 1, none⟩) hB).trans h.c1, (hb.frozen (p := ⟨b, 0, none⟩) hB).trans h.f0, (hb.frozen (p := ⟨b, 1, none⟩) hB).trans h.f1⟩
theorem Box2.same {w w' : World} {b : Nat} {v0 v1 : Value} (h : Box2 w b v0 v1) (hb : w'.heap[b]? = w.heap[b]?) : Box2 w' b v0 v1 :=
  ⟨(World.cell?_of_block (w := w) (a := ⟨b, 0, none⟩) hb).trans h.c0, (World.cell?_of_block (w := w) (a := ⟨b, 1, none⟩) hb).trans h.c1, (World.frozen?_of_block (w := w) (a := ⟨b, 0, none⟩) hb).trans h.f0, (World.frozen?_of_block (w := w) (a := ⟨b, 1, none⟩) hb).trans h.f1⟩
theorem Box2.grown {w w' : World} {b : Nat} {v0 v1 : Value} {x : Option Nat} (h : Box2 w b v0 v1) (hg : w.grownBy w' x) (hx : ∀ g, x = some g → b < g) : Box2 w' b v0 v1 :=
  h.same (hg.block b h.lt (fun e => by have := hx b e.symm; omega))
theorem Box2.upd {w w' : World} {b lo hi : Nat} {v0 v1 : Value} (h : Box2 w b v0 v1) (hu : Upd lo hi w w') (ho : b < lo ∨ hi ≤ b) : Box2 w' b v0 v1 := h.same (hu.block b h.lt ho)
theorem Box2.set1 {w : World} {b : Nat} {v0 v1 : Value} (h : Box2 w b v0 v1) (v : Value) : Box2 (w.setCell ⟨b, 1, none⟩ v) b v0 v :=
  ⟨(World.cell?_setCell_other _ _ _ _ (by simp)).trans h.c0, World.cell?_setCell_same _ _ _ h.c1, by rw [World.frozen?_setCell]; exact h.f0, by rw [World.frozen?_setCell]; exact h.f1⟩
theorem Box2.set0 {w : World} {b : Nat} {v0 v1 : Value} (h : Box2 w b v0 v1) (v : Value) : Box2 (w.setCell ⟨b, 0, none⟩ v) b v v1 :=
  ⟨World.cell?_setCell_same _ _ _ h.c0, (World.cell?_setCell_other _ _ _ _ (by simp)).trans h.c1, by rw [World.frozen?_setCell]; exact h.f0, by rw [World.frozen?_setCell]; exact h.f1⟩
theorem Box2.upd1 {w : World} {b : Nat} {q : Nat} {v : Value} : Upd b (b + 1) w (w.setCell ⟨b, q, none⟩ v) := (Upd.refl _ _ _).setCell (p := ⟨b, q, none⟩) (Nat.le_refl _) (Nat.lt_succ_self _) _
theorem OwnV.form {w : World} {base e k : Nat} {v : Value} {n : Nat} {vs : List Value} (h : OwnV w base e k v n vs) : ∃ A c, v = .slice A n c := by
  rcases h.2 with ⟨rfl, rfl⟩ | ⟨g, cap, cur, hv, _⟩
  · exact ⟨none, 0, rfl⟩
  · exact ⟨_, _, hv⟩
/-- What a copy of a disk leaves: its rows in blocks ahead of mid, its writes behind. -/
def DkRes3 (w : World) (E n0 : Nat) (k0 : List (List Int)) (n1 : Nat) (v0 : List WriteD) (e : Ending) (w' : World) : Prop :=
  ∃ A0 c0 A1 c1 vs mid, e = .returned (.agg #[.slice A0 n0 c0, .slice A1 n1 c1]) ∧ SlR w' w.heap.size mid A0 n0 c0 k0 ∧ OwnV w' mid E 2 (.slice A1 n1 c1) n1 vs ∧ VWr w' mid w'.heap.size (Value.slice A1 n1 c1).ownBlock vs v0 ∧ w.heap.size ≤ mid ∧ mid ≤ w'.heap.size ∧ KF w' w.heap.size mid A0 ∧ Below w.heap.size w w'
theorem Sl.setOther {w : World} {lo hi k : Nat} {A : Option Addr} {n c : Nat} {zs : List Int} (h : Sl w lo hi k A n c zs) {p : Addr} {u : Value} (hp : w.cell? p = some u) (hu : ∀ z, u ≠ .int .i64 z) (x : Value) : Sl (w.setCell p x) lo hi k A n c zs :=
  h.same fun g off _ _ _ hI j z hz => by
    obtain ⟨h1, h2⟩ := hI j z hz
    refine ⟨?_, by rw [World.frozen?_setCell]; exact h2⟩
    rw [World.cell?_setCell_other _ _ _ _ (fun e => by
      rw [← e, hp] at h1
      injection h1 with h1
      exact hu z h1)]
    exact h1
theorem VWr.setOther {w : World} {lo hi : Nat} {x : Option Nat} {vs : List Value} {ws : List WriteD} (h : VWr w lo hi x vs ws) {p : Addr} {u : Value} (hp : w.cell? p = some u) (hu : ∀ z, u ≠ .int .i64 z) (y : Value) : VWr (w.setCell p y) lo hi x vs ws :=
  ⟨h.1, fun j r hr => by
    obtain ⟨Aj, nj, cj, q1, q0, q2, q3⟩ := h.2 j r hr
    exact ⟨Aj, nj, cj, q1, q0, q2.setOther hp hu y, q3⟩⟩
theorem VRow.setOther {w : World} {lo hi : Nat} {x : Option Nat} {vs : List Value} {rows : List (List Int)} (h : VRow w lo hi x vs rows) {p : Addr} {u : Value} (hp : w.cell? p = some u) (hu : ∀ z, u ≠ .int .i64 z) (y : Value) : VRow (w.setCell p y) lo hi x vs rows :=
  ⟨h.1, fun j r hr => by
    obtain ⟨Aj, nj, cj, q1, q2, q3⟩ := h.2 j r hr
    exact ⟨Aj, nj, cj, q1, q2.setOther hp hu y, q3⟩⟩
theorem OwnV.setFar {w : World} {base e k : Nat} {v : Value} {n : Nat} {vs : List Value} (h : OwnV w base e k v n vs) {b q : Nat} (hb : ∀ g, v.ownBlock = some g → g ≠ b) (x : Value) : OwnV (w.setCell ⟨b, q, none⟩ x) base e k v n vs :=
  h.upd (lo := b) (hi := b + 1) Box2.upd1 (fun g hg => by have := hb g hg; omega)
theorem slice_noint {A : Option Addr} {n c : Nat} : ∀ z, Value.slice A n c ≠ .int .i64 z := fun z e => by cases e
set_option maxRecDepth 100000 in
set_option maxHeartbeats 8000000 in
theorem copyDisk_any (A0 : Option Addr) (n0 c0 : Nat) (k0 : List (List Int)) (A1 : Option Addr) (n1 c1 : Nat) (v0 : List WriteD) (lo hi : Nat) (w : World) (h0 : SlR w lo hi A0 n0 c0 k0) (h1 : SlW w lo hi A1 n1 c1 v0) (hhi : hi ≤ w.heap.size) (hn0 : n0 ≤ 1000) (hn1 : n1 ≤ 1000) (hr0 : ∀ (j : Nat) r, k0[j]? = some r → r.length ≤ 1000) (hr1 : ∀ (j : Nat) (r : WriteD), v0[j]? = some r → r.row.length ≤ 1000) :
    Calls Try.prog 109 #[.agg #[.slice A0 n0 c0, .slice A1 n1 c1]] w (DkRes3 w 135 n0 k0 n1 v0) := by
  have L1 := Lib.hid h1.len
  have hz1 : n1 ≤ 9223372036854775807 := by omega
  have H0 := Lib.hid h0
  have H1 := Lib.hid h1
  have R0 := Lib.hid hr0
  have R1 := Lib.hid hr1
  clear h0 h1 hr0 hr1
  go_enter Try.func109, Try.ntmps109
  go_wp2_with fail
  (with_reducible refine (copyRows_any _ _ _ _ _ k0 _ (H0.out.below (B := w.heap.size) (by (repeat' (first | with_reducible exact Below.refl _ _ | with_reducible assumption | with_reducible refine Below.drew ?_ | with_reducible refine Below.alloc ?_ ?_ _ | with_reducible refine Below.setCell ?_ ?_ _ | with_reducible refine Below.trans ?_ (Below.mono (by assumption) ?_) | ((try simp only [World.heap_size_alloc, World.heap_size_drew, World.heap_size_setCell]); omega)))) hhi) (by (try simp only [World.heap_size_alloc, World.heap_size_drew, World.heap_size_setCell]); omega) hn0 R0.out).mono ?_); rintro _ w1 ⟨X0, d0, rfl, s1, kf1, b1⟩
  have y1 := b1.size
  simp only [World.heap_size_alloc] at y1
  have hw1 : Below w.heap.size w w1 := by (repeat' (first | with_reducible exact Below.refl _ _ | with_reducible assumption | with_reducible refine Below.drew ?_ | with_reducible refine Below.alloc ?_ ?_ _ | with_reducible refine Below.setCell ?_ ?_ _ | with_reducible refine Below.trans ?_ (Below.mono (by assumption) ?_) | ((try simp only [World.heap_size_alloc, World.heap_size_drew, World.heap_size_setCell]); omega)))
  have hz9 : w.heap.size < w1.heap.size := by omega
  have g1 : (w1.alloc (.cells #[.slice X0 n0 d0, .slice none 0 0] 67)).cell? ⟨w.heap.size, 1, none⟩ = some (.slice A1 n1 c1) := (World.cell?_alloc_lt _ _ _ hz9).trans ((b1.cell (p := ⟨w.heap.size, 1, none⟩) (by (try simp only [World.heap_size_alloc, World.heap_size_drew, World.heap_size_setCell]); omega)).trans (by simp))
  have t2 : Box2 w1 (w.heap.size + 1) (.slice none 0 0) (.slice none 0 0) := (by
    have h9 := (Box2.new (w.alloc (.cells #[.slice A0 n0 c0, .slice A1 n1 c1] 67)) (.slice none 0 0) (.slice none 0 0) 67).below b1 (by (try simp only [World.heap_size_alloc, World.heap_size_drew, World.heap_size_setCell]); omega)
    rw [World.heap_size_alloc] at h9
    exact h9)
  have T2 := Lib.hid t2
  have S1 := Lib.hid (s1.mono (lo' := w.heap.size + 2) (by (try simp only [World.heap_size_alloc, World.heap_size_drew, World.heap_size_setCell]); omega) (Nat.le_refl _))
  have KF1 := Lib.hid (kf1.mono (lo' := w.heap.size + 2) (by (try simp only [World.heap_size_alloc, World.heap_size_drew, World.heap_size_setCell]); omega) (Nat.le_refl _))
  have HW1 := Lib.hid hw1
  have HB1 := Lib.hid (Box2.new w1 (.slice X0 n0 d0) (.slice none 0 0) 67)
  have HBA : Hid (Below w1.heap.size w1 (w1.alloc (.cells #[.slice X0 n0 d0, .slice none 0 0] 67))) := Lib.hid (by (repeat' (first | with_reducible exact Below.refl _ _ | with_reducible assumption | with_reducible refine Below.drew ?_ | with_reducible refine Below.alloc ?_ ?_ _ | with_reducible refine Below.setCell ?_ ?_ _ | with_reducible refine Below.trans ?_ (Below.mono (by assumption) ?_) | ((try simp only [World.heap_size_alloc, World.heap_size_drew, World.heap_size_setCell]); omega))))
  clear s1 hw1 b1 t2 kf1
  go_wp2_with fail
  go_loopw [5, 13] (fun _ i wr => ∃ (m : Nat) (v : Value) (vs : List Value), m ≤ n1 ∧ i = .int .i64 m ∧ Box2 wr w1.heap.size (.slice X0 n0 d0) v ∧ Hid (OwnV wr (w1.heap.size + 1) 135 2 v m vs) ∧ Hid (VWr wr (w1.heap.size + 1) wr.heap.size v.ownBlock vs (v0.take m)) ∧ Below w1.heap.size w1 wr) (fun _ i _ => n1 - (intOf i).toNat)
  case atStart => exact ⟨0, _, [], Nat.zero_le _, rfl, HB1.out, Lib.hid (OwnV.nil _ _ _ _), Lib.hid (VWr.nil _ _ _ _), HBA.out⟩
  case round =>
    clear HB1 HBA g1
    obtain ⟨m, v, vs, hm, rfl, hbx, O, V, hb⟩ := hrel
    have hbz := hb.size
    have hblt := hbx.lt
    by_cases hlt : m < n1
    · obtain ⟨r, hr⟩ : ∃ r, v0[m]? = some r := ⟨v0[m]'(by rw [L1.out]; exact hlt), List.getElem?_eq_getElem _⟩
      obtain ⟨g, off, Aj, nj, cj, rfl, _, hg, p0, p1, hs⟩ := H1.out.lie m r hr
      have hw : Below w.heap.size w wr := HW1.out.trans (hb.mono (by omega))
      have r0 := (hw.cell (p := ⟨g, off + m * 2, none⟩) (show g < w.heap.size by omega)).trans p0
      have r1 := (hw.cell (p := ⟨g, off + m * 2 + 1, none⟩) (show g < w.heap.size by omega)).trans p1
      have hnj : nj ≤ 1000000 := by
        have h8 := R1.out m r hr
        have h9 := hs.len
        omega
      have HS := Lib.hid (hs.below hw hhi)
      have HX := Lib.hid hr
      have HB := Lib.hid hb
      have BX := Lib.hid hbx
      have OL := Lib.hid O.out.lt
      have HK : ∀ W, Below (wr.heap.size + 1) (wr.alloc (.cells #[.int .i64 r.at_, .slice Aj nj cj] 135)) W → (Box2 W w1.heap.size (.slice X0 n0 d0) v ∧ Box2 W wr.heap.size (.int .i64 r.at_) (.slice Aj nj cj)) := fun W hW => ⟨(hbx.below (B := wr.heap.size) ((Below.refl _ _).alloc (Nat.le_refl _) _) hblt).below hW (by omega), (Box2.new wr (.int .i64 r.at_) (.slice Aj nj cj) 135).below hW (by omega)⟩
      have HKH := Lib.hid HK
      obtain ⟨x0, x1, xf0, xf1⟩ := (HK _ (Below.refl _ _)).1
      obtain ⟨q0, q1, qf0, qf1⟩ := (HK _ (Below.refl _ _)).2
      clear p0 p1 hs hr hb hw hbx HK
      go_wp2_with fail
      go_region_law (first | (go_simp; go_at_call 112; (with_reducible refine (copyRow_any _ _ _ _ _ r.row _ (HS.out.below (B := wr.heap.size) (by (repeat' (first | with_reducible exact Below.refl _ _ | with_reducible assumption | with_reducible refine Below.drew ?_ | with_reducible refine Below.alloc ?_ ?_ _ | with_reducible refine Below.setCell ?_ ?_ _ | with_reducible refine Below.trans ?_ (Below.mono (by assumption) ?_) | ((try simp only [World.heap_size_alloc, World.heap_size_drew, World.heap_size_setCell]); omega)))) (by omega)) hnj).mono ?_); rintro _ w2 ⟨A2, c2, rfl, s2, b2⟩; have y2 := b2.size; (try simp only [World.heap_size_alloc, World.heap_size_drew] at y2); have hb2 : Below (wr.heap.size + 1) (wr.alloc (.cells #[.int .i64 r.at_, .slice Aj nj cj] 135)) w2 := Below.trans (by (repeat' (first | with_reducible exact Below.refl _ _ | with_reducible assumption | with_reducible refine Below.drew ?_ | with_reducible refine Below.alloc ?_ ?_ _ | with_reducible refine Below.setCell ?_ ?_ _ | with_reducible refine Below.trans ?_ (Below.mono (by assumption) ?_) | ((try simp only [World.heap_size_alloc, World.heap_size_drew, World.heap_size_setCell]); omega)))) (b2.mono (by (try simp only [World.heap_size_alloc, World.heap_size_drew, World.heap_size_setCell]); omega)); have S2 := Lib.hid (s2.mono (lo' := wr.heap.size) (by (try simp only [World.heap_size_alloc, World.heap_size_drew, World.heap_size_setCell]); omega) (Nat.le_refl _)); have B2 := Lib.hid hb2; obtain ⟨⟨x0, x1, xf0, xf1⟩, q0, q1, qf0, qf1⟩ := HKH.out _ hb2; have hz7 : w1.heap.size < w2.heap.size := (by omega); have x1a : (w2.alloc (.cells #[.int .i64 r.at_, .slice A2 nj c2] 135)).cell? ⟨w1.heap.size, 1, none⟩ = some v := (World.cell?_alloc_lt _ _ _ hz7).trans x1; clear s2 b2 hb2) | (refine step_append_v _ rfl (.tmp 18) (.tmp 25) 65 rfl (w1.heap.size + 1) 135 Try.underlying65 infoWrite rfl (by omega) v m vs rfl (O.out.kept (((Below.refl _ _).alloc (Nat.le_refl _) _ : Below wr.heap.size wr (wr.alloc (.cells #[.int .i64 r.at_, .slice Aj nj cj] 135))).trans ((B2.out.mono (by omega)).alloc (by omega) _))) _ 0 1 1 [.int .i64 r.at_, .slice A2 nj c2] rfl rfl (src_cells w2 135 [.int .i64 r.at_, .slice A2 nj c2]) (one_write _ _ _ _) (by omega) (by omega) (by rw [World.heap_size_alloc]; omega) ?_; intro v3 w3 o3 g3 a3; have y3 := g3.size; rw [World.heap_size_alloc] at y3; obtain ⟨A3, c3, rfl⟩ := OwnV.form o3; obtain ⟨z0, z1, zf0, zf1⟩ := (((HKH.out _ B2.out).1.below ((Below.refl w2.heap.size w2).alloc (Nat.le_refl _) (.cells #[.int .i64 r.at_, .slice A2 nj c2] 135)) (by omega)).grown g3 (fun g hg => by have := (OL.out g hg).1; omega))))
      all_goals
        have hbW : Below wr.heap.size wr w2 := ((Below.refl _ _).alloc (Nat.le_refl _) _ : Below wr.heap.size wr (wr.alloc (.cells #[.int .i64 r.at_, .slice Aj nj cj] 135))).trans (B2.out.mono (by omega))
        have V3 := V.out.push O.out.lt2 hbW (by omega) (Nat.le_refl _) S2.out HX.out ((Below.refl w2.heap.size w2).alloc (Nat.le_refl _) (.cells #[.int .i64 r.at_, .slice A2 nj c2] 135)) g3 a3
        have hb3 : Below w1.heap.size w1 w3 := ((HB.out.trans (hbW.mono hbz)).alloc (by omega) _).trans (grown_below g3 (by (try simp only [World.heap_size_alloc, World.heap_size_drew, World.heap_size_setCell]); omega) (fun g hg => by have := (OL.out g hg).1; omega))
        have BX3 : Hid (Box2 w3 w1.heap.size (.slice X0 n0 d0) v) := Lib.hid ⟨z0, z1, zf0, zf1⟩
        have u3 : Upd w1.heap.size (w1.heap.size + 1) w3 (w3.setCell ⟨w1.heap.size, 1, none⟩ (.slice A3 (m + 1) c3)) := Box2.upd1
        have O4 := Lib.hid (OwnV.upd o3 u3 (fun g hg => .inr (by have := (OwnV.lt o3 g hg).1; omega)))
        have V4 := Lib.hid (V3.upd u3 (.inr (Nat.le_refl _)))
        have B4 := Lib.hid (hb3.setCell (p := ⟨w1.heap.size, 1, none⟩) (Nat.le_refl _) (.slice A3 (m + 1) c3))
        clear o3 g3 a3 V3 hbW hb3 u3
        go_wp2_with fail
        go_roundw
        case rel => exact ⟨m + 1, _, _, hlt, by go_num, BX3.out.set1 _, O4, by rw [World.heap_size_setCell]; exact V4, B4.out⟩
        case measure => simp [intOf]; omega
    · have hmn : m = n1 := by omega
      have v1' := V.out
      rw [hmn, ← L1.out, List.take_length] at v1'
      have o1' := O.out
      rw [hmn] at o1'
      obtain ⟨A9, c9, rfl⟩ := OwnV.form o1'
      obtain ⟨x0, x1, xf0, xf1⟩ := hbx
      have s0 := S1.out.below hb (Nat.le_refl _)
      have hw : Below w.heap.size w wr := HW1.out.trans (hb.mono (by omega))
      obtain ⟨q0, q1, qf0, qf1⟩ := T2.out.below hb (by omega)
      have O9 := Lib.hid o1'
      have V9 := Lib.hid v1'
      have S0 := Lib.hid s0
      have KF0 := Lib.hid (KF1.out.below hb (Nat.le_refl _))
      have HW := Lib.hid hw
      clear v1' o1' O V s0 hw hmn
      go_wp2_with fail
      have u9 : Upd (w.heap.size + 1) (w.heap.size + 2) wr ((wr.setCell ⟨w.heap.size + 1, 0, none⟩ (.slice X0 n0 d0)).setCell ⟨w.heap.size + 1, 1, none⟩ (.slice A9 n1 c9)) := ((Upd.refl _ _ _).setCell (p := ⟨w.heap.size + 1, 0, none⟩) (Nat.le_refl _) (by simp) _).setCell (p := ⟨w.heap.size + 1, 1, none⟩) (Nat.le_refl _) (by simp) _
      refine bodyPost_ret (v := .agg #[.slice X0 n0 d0, .slice A9 n1 c9]) (by simp [results, Try.results109, go_sem, q0, q1, qf0, qf1]) rfl ⟨X0, d0, A9, c9, vs, w1.heap.size + 1, rfl, (S0.out.upd u9 (.inr (Nat.le_refl _))).mono (by omega) (by omega), O9.out.upd u9 (fun g hg => .inr (by have := (O9.out.lt g hg).1; omega)), ?_, by omega, by simp only [World.heap_size_setCell]; omega, ((KF0.out.setCell _ _).setCell _ _).mono (by omega) (by omega), ?_⟩
      · have h8 := V9.out.upd u9 (.inr (by omega))
        rw [World.heap_size_setCell, World.heap_size_setCell]
        exact h8
      · exact (HW.out.setCell (p := ⟨w.heap.size + 1, 0, none⟩) (by simp only; omega) _).setCell (p := ⟨w.heap.size + 1, 1, none⟩) (by simp only; omega) _
end Go.Proofs.Ytgnilmdaegnaaaa
