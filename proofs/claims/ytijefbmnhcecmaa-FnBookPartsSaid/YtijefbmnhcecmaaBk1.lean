/- Books by value: what the laws' helpers do with them; an argument of that kind, opened. No conditions. -/
import Derived.Test.YtijefbmnhcecmaaHelp
import Derived.Test.YtijefbmnhcecmaaEnts
import Derived.Lib.SmallJoins
set_option linter.unusedSimpArgs false
set_option linter.unusedVariables false
namespace Go.Proofs.Ytijefbmnhcecmaa
open Go.RowKit

/-- A fresh Book by value. -/
def BookRes (w : World) (i0 i1 : Int) (n : Nat) (zs : List Int) (e : Ending) (w' : World) : Prop :=
  ∃ A c, e = .returned (.agg #[.int .i64 i0, .int .i64 i1, .slice A n c]) ∧ Sl w' w.heap.size w'.heap.size 9 A n c zs ∧ Below w.heap.size w w'
/-- A fresh Book and a truth. -/
def BookBRes (w : World) (i0 i1 : Int) (n : Nat) (zs : List Int) (b : Bool) (e : Ending) (w' : World) : Prop :=
  ∃ A c, e = .returned (.tuple #[.agg #[.int .i64 i0, .int .i64 i1, .slice A n c], .bool b]) ∧ Sl w' w.heap.size w'.heap.size 9 A n c zs ∧ Below w.heap.size w w'
set_option maxHeartbeats 1000000 in
theorem toBook_any (i0 i1 : Int) (A : Option Addr) (n c : Nat) (zs : List Int) (w : World) (h : ArgSl w 9 A n c zs) (hn : n ≤ 1048576) :
    Calls Try.prog 18 #[.agg #[.int .i64 i0, .int .i64 i1, .slice A n c]] w (BookRes w i0 i1 n zs) := by
  have H := Lib.hid h
  clear h
  go_enter Try.func18, Try.ntmps18
  go_wp2_with fail
  (with_reducible refine (toEntryS_any _ _ _ zs _ (H.out.below (by (repeat' (first | with_reducible exact Below.refl _ _ | with_reducible assumption | with_reducible refine Below.drew ?_ | with_reducible refine Below.alloc ?_ ?_ _ | with_reducible refine Below.setCell ?_ ?_ _ | with_reducible refine Below.trans ?_ (Below.mono (by assumption) ?_) | ((try simp only [World.heap_size_alloc, World.heap_size_drew, World.heap_size_setCell]); omega))))) hn).mono ?_); rintro _ w1 ⟨A1, q1, rfl, s1, b1⟩
  obtain ⟨b1_c, b1_f⟩ := bcell b1
  have y1 := b1.size
  (try simp only [World.heap_size_alloc, World.heap_size_setCell] at y1)
  have z0 : w.heap.size < w1.heap.size := by omega
  have z1 : w.heap.size + 1 < w1.heap.size := by omega
  have z2 : w.heap.size + 1 + 1 < w1.heap.size := by omega
  go_wp2_with fail
  refine bodyPost_ret (v := .agg #[.int .i64 i0, .int .i64 i1, .slice A1 n q1]) (by simp [results, Try.results18, go_sem, b1_c, b1_f, z0, z1, z2]) rfl ⟨A1, q1, rfl, ?_, ?_⟩
  · clear b1_c b1_f
    have s2 := s1.mono (lo' := w.heap.size + 3) (by (try simp only [World.heap_size_alloc, World.heap_size_drew, World.heap_size_setCell]); omega) (Nat.le_refl _)
    refine Sl.mono (Sl.upd (lo' := w.heap.size) (hi' := w.heap.size + 3) s2 ?_ (.inr (Nat.le_refl _))) (by omega) (by (try simp only [World.heap_size_alloc, World.heap_size_drew, World.heap_size_setCell]); omega)
    (repeat' (first | with_reducible exact Upd.refl _ _ _ | with_reducible refine Upd.setCell ?_ ?_ ?_ _ | (simp only []; omega) | omega))
  · clear b1_c b1_f
    (repeat' (first | with_reducible exact Below.refl _ _ | with_reducible assumption | with_reducible refine Below.drew ?_ | with_reducible refine Below.alloc ?_ ?_ _ | with_reducible refine Below.setCell ?_ ?_ _ | with_reducible refine Below.trans ?_ (Below.mono (by assumption) ?_) | ((try simp only [World.heap_size_alloc, World.heap_size_drew, World.heap_size_setCell]); omega)))
set_option maxHeartbeats 1000000 in
theorem szBook_ok (i0 i1 : Int) (A : Option Addr) (n c : Nat) (left : Int) (w : World) (h0 : left ≤ 1048576) (h : (n : Int) ≤ left) :
    Calls Try.prog 16 #[.agg #[.int .i64 i0, .int .i64 i1, .slice A n c], .int .i64 left] w fun e w' => e = .returned (.int .i64 (left - (n : Int))) ∧ Below w.heap.size w w' := by
  go_enter Try.func16, Try.ntmps16
  go_wp2_with fail
  (with_reducible refine (szEntryS_ok _ n _ _ _ h0 h).mono ?_); rintro _ _ ⟨rfl, rfl⟩
  go_wp2_with fail
  go_ret
  exact ⟨rfl, by (repeat' (first | with_reducible exact Below.refl _ _ | with_reducible assumption | with_reducible refine Below.drew ?_ | with_reducible refine Below.alloc ?_ ?_ _ | with_reducible refine Below.setCell ?_ ?_ _ | with_reducible refine Below.trans ?_ (Below.mono (by assumption) ?_) | ((try simp only [World.heap_size_alloc, World.heap_size_drew, World.heap_size_setCell]); omega)))⟩
set_option maxHeartbeats 1000000 in
theorem szBook_big (i0 i1 : Int) (A : Option Addr) (n c : Nat) (left : Int) (w : World) (h0 : 0 ≤ left) (h1 : left ≤ 1048576) (hn : n ≤ 9223372036854775807) (h : left < (n : Int)) :
    Calls Try.prog 16 #[.agg #[.int .i64 i0, .int .i64 i1, .slice A n c], .int .i64 left] w fun e w' => e = .returned (.int .i64 (-1)) ∧ Below w.heap.size w w' := by
  go_enter Try.func16, Try.ntmps16
  go_wp2_with fail
  (with_reducible refine (szEntryS_big _ n _ _ _ h0 h1 hn h).mono ?_); rintro _ _ ⟨rfl, rfl⟩
  go_wp2_with fail
  go_ret
  exact ⟨rfl, by (repeat' (first | with_reducible exact Below.refl _ _ | with_reducible assumption | with_reducible refine Below.drew ?_ | with_reducible refine Below.alloc ?_ ?_ _ | with_reducible refine Below.setCell ?_ ?_ _ | with_reducible refine Below.trans ?_ (Below.mono (by assumption) ?_) | ((try simp only [World.heap_size_alloc, World.heap_size_drew, World.heap_size_setCell]); omega)))⟩
set_option maxHeartbeats 1000000 in
theorem eqBook_same (i0 i1 : Int) (A B : Option Addr) (n c d lo hi lo' hi' : Nat) (l : List EntryD) (w : World) (h : Sl w lo hi 9 A n c (l.flatMap EntryD.ints)) (k : Sl w lo' hi' 9 B n d (l.flatMap EntryD.ints)) :
    Calls Try.prog 20 #[.agg #[.int .i64 i0, .int .i64 i1, .slice A n c], .agg #[.int .i64 i0, .int .i64 i1, .slice B n d]] w fun e w' => e = .returned (.bool true) ∧ Below w.heap.size w w' := by
  have H := Lib.hid (h.fit (by omega))
  have K := Lib.hid (k.fit (by omega))
  clear h k
  go_enter Try.func20, Try.ntmps20
  go_wp2_with fail
  (with_reducible refine (eqEntryS_same _ _ _ _ _ _ _ _ _ _ _ (H.out.below (B := w.heap.size) (by (repeat' (first | with_reducible exact Below.refl _ _ | with_reducible assumption | with_reducible refine Below.drew ?_ | with_reducible refine Below.alloc ?_ ?_ _ | with_reducible refine Below.setCell ?_ ?_ _ | with_reducible refine Below.trans ?_ (Below.mono (by assumption) ?_) | ((try simp only [World.heap_size_alloc, World.heap_size_drew, World.heap_size_setCell]); omega)))) (Nat.min_le_right _ _)) (K.out.below (B := w.heap.size) (by (repeat' (first | with_reducible exact Below.refl _ _ | with_reducible assumption | with_reducible refine Below.drew ?_ | with_reducible refine Below.alloc ?_ ?_ _ | with_reducible refine Below.setCell ?_ ?_ _ | with_reducible refine Below.trans ?_ (Below.mono (by assumption) ?_) | ((try simp only [World.heap_size_alloc, World.heap_size_drew, World.heap_size_setCell]); omega)))) (Nat.min_le_right _ _))).mono ?_); rintro _ w1 ⟨rfl, b1⟩
  have y1 := b1.size
  (try simp only [World.heap_size_alloc] at y1)
  go_wp2_with fail
  go_ret
  exact ⟨rfl, by (repeat' (first | with_reducible exact Below.refl _ _ | with_reducible assumption | with_reducible refine Below.drew ?_ | with_reducible refine Below.alloc ?_ ?_ _ | with_reducible refine Below.setCell ?_ ?_ _ | with_reducible refine Below.trans ?_ (Below.mono (by assumption) ?_) | ((try simp only [World.heap_size_alloc, World.heap_size_drew, World.heap_size_setCell]); omega)))⟩
set_option maxHeartbeats 1000000 in
theorem markBook_any (i0 i1 : Int) (A : Option Addr) (n c lo hi : Nat) (zs : List Int) (q0 : Int) (w : World) (h : Sl w lo hi 9 A n c zs) (hhi : hi ≤ w.heap.size) (hn : n ≤ 1048576) (hq0 : 0 ≤ q0) (hq1 : q0 ≤ 1099511627776) :
    Calls Try.prog 33 #[.agg #[.int .i64 i0, .int .i64 i1, .slice A n c], .int .i64 q0] w (MarkRes w lo hi 9 A n c q0) := by
  have H := Lib.hid h
  clear h
  go_enter Try.func33, Try.ntmps33
  go_wp2_with fail
  (with_reducible refine (markEntryS_any _ _ _ _ _ _ q0 _ (H.out.below (B := w.heap.size) (by (repeat' (first | with_reducible exact Below.refl _ _ | with_reducible assumption | with_reducible refine Below.drew ?_ | with_reducible refine Below.alloc ?_ ?_ _ | with_reducible refine Below.setCell ?_ ?_ _ | with_reducible refine Below.trans ?_ (Below.mono (by assumption) ?_) | ((try simp only [World.heap_size_alloc, World.heap_size_drew, World.heap_size_setCell]); omega)))) hhi) hn hq0 hq1).mono ?_); rintro _ w1 ⟨rfl, m1, u1⟩
  go_wp2_with fail
  go_ret
  exact ⟨rfl, m1, ((Upd.refl _ _ _).alloc _).trans u1⟩
set_option maxHeartbeats 1000000 in
theorem heldBook_ok (i0 i1 : Int) (A : Option Addr) (n c lo hi : Nat) (q0 : Int) (w : World) (h : Sl w lo hi 9 A n c (countUp q0 (n * 9))) (hhi : hi ≤ w.heap.size) (hn : n ≤ 1048576) (hq0 : 0 ≤ q0) (hq1 : q0 ≤ 1099511627776) :
    Calls Try.prog 38 #[.agg #[.int .i64 i0, .int .i64 i1, .slice A n c], .int .i64 q0] w fun e w' => e = .returned (.int .i64 (q0 + ((n * 9 : Nat) : Int))) ∧ Below w.heap.size w w' := by
  have H := Lib.hid h
  have hq2 : 0 ≤ q0 + ((n * 9 : Nat) : Int) := by omega
  clear h
  go_enter Try.func38, Try.ntmps38
  go_wp2_with fail
  (with_reducible refine (heldEntryS_ok _ _ _ _ _ q0 _ (H.out.below (B := w.heap.size) (by (repeat' (first | with_reducible exact Below.refl _ _ | with_reducible assumption | with_reducible refine Below.drew ?_ | with_reducible refine Below.alloc ?_ ?_ _ | with_reducible refine Below.setCell ?_ ?_ _ | with_reducible refine Below.trans ?_ (Below.mono (by assumption) ?_) | ((try simp only [World.heap_size_alloc, World.heap_size_drew, World.heap_size_setCell]); omega)))) hhi) hn hq0 hq1).mono ?_); rintro _ _ ⟨rfl, rfl⟩
  go_wp2_with fail
  go_ret
  exact ⟨rfl, by (repeat' (first | with_reducible exact Below.refl _ _ | with_reducible assumption | with_reducible refine Below.drew ?_ | with_reducible refine Below.alloc ?_ ?_ _ | with_reducible refine Below.setCell ?_ ?_ _ | with_reducible refine Below.trans ?_ (Below.mono (by assumption) ?_) | ((try simp only [World.heap_size_alloc, World.heap_size_drew, World.heap_size_setCell]); omega)))⟩
section
variable {H : Type} {enc : TypeId × Value → H} {P : Program}
open Go.ChangeShapes Go.WideShapes Go.ChangeAt Go.Joins Go.Deep
/-- An argument that is a Book by value. -/
theorem open_Book {w : World} {sp : Nat → Bool} {held : Bool} {r : Reach} {b0 m : Nat} {t e : TypeId} {f0 f1 fL : Field} {v : Value} {d : DataW H} {p : List MemPlace} (hs : P.underlying t = some (.struct #[f0, f1, fL])) (hone : oneCellFields P #[f0, f1, fL] = true) (hC : P.cellsOf t = 3)
    (h0 : P.underlying f0.type = some (.int .i64)) (h1 : P.underlying f1.type = some (.int .i64)) (hu : P.underlying fL.type = some (.slice e)) (hf : flatB P m e = true) (hk : P.cellsOf e = 9)
    (hv : Value.okWide P w r b0 t v) (h : DataW.Trod enc P w 0 sp held t v d p) : ∃ (i0 i1 : Int) (A : Option Addr) (n c : Nat) (zs : List Int), v = .agg #[.int .i64 i0, .int .i64 i1, .slice A n c] ∧ ArgSl w 9 A n c zs := by
  obtain ⟨v0, v1, vL, _, _, _, q, rfl, _, _, t0, t1, tL⟩ := Joins.open_agg3 hs hone hC hv h
  obtain ⟨i0, e0, _, _⟩ := DataW.trod_int h0 t0
  simp at e0
  subst e0
  obtain ⟨i1, e1, _, _⟩ := DataW.trod_int h1 t1
  simp at e1
  subst e1
  obtain ⟨A, n, c, zs, e1, ha⟩ := open_slc hu hf hk (by omega) tL
  simp at e1
  subst e1
  exact ⟨i0, i1, A, n, c, zs, rfl, ha⟩
end

end Go.Proofs.Ytijefbmnhcecmaa
