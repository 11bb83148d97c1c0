/- The program's plain data as numbers, and what its functions on them compute. No conditions. -/
import Derived.Test.YtgnilmdaegnaaaaZBase
set_option linter.unusedSimpArgs false
set_option linter.unusedVariables false
namespace Go.Proofs.Ytgnilmdaegnaaaa
open Go.RowKit
def btw (x lo hi : Int) : Bool := decide (lo ≤ x) && decide (x ≤ hi)
@[ext] structure OpD where
  kind : Int
  a : Int
  b : Int
  c : Int
  d : Int
  deriving DecidableEq
@[ext] structure EntryD where
  index : Int
  time : Int
  client : Int
  seq : Int
  op : OpD
  deriving DecidableEq
@[ext] structure MarkD where
  client : Int
  seq : Int
  index : Int
  deriving DecidableEq
@[ext] structure TimerD where
  id : Int
  due : Int
  deriving DecidableEq
def OpD.ints (o : OpD) : List Int := [o.kind, o.a, o.b, o.c, o.d]
def EntryD.ints (e : EntryD) : List Int := [e.index, e.time, e.client, e.seq, e.op.kind, e.op.a, e.op.b, e.op.c, e.op.d]
def MarkD.ints (m : MarkD) : List Int := [m.client, m.seq, m.index]
def TimerD.ints (t : TimerD) : List Int := [t.id, t.due]
def opOk (o : OpD) : Bool :=
  if o.kind = 1 then btw o.a 0 9 && btw o.b 0 999 && o.c == 0 && o.d == 0
  else if o.kind = 2 then btw o.a 0 9 && o.b == 0 && o.c == 0 && o.d == 0
  else if o.kind = 3 then btw o.a 1 20 && btw o.b 0 1000000 && btw o.c 0 9 && btw o.d 0 999
  else if o.kind = 4 then btw o.a 1 20 && btw o.b 0 1000 && o.c == 0 && o.d == 0
  else if o.kind = 5 then btw o.a 1 1000 && o.b == 0 && o.c == 0 && o.d == 0
  else false
def entryOk (e : EntryD) : Bool := btw e.index 1 2000 && btw e.time 0 1000000 && btw e.client 2 5 && btw e.seq 1 2000 && opOk e.op
theorem btw_iff {x lo hi : Int} : btw x lo hi = true ↔ lo ≤ x ∧ x ≤ hi := by simp [btw]
section
variable {α : Type} {f : α → List Int} {k : Nat}
theorem flat_len (hk : ∀ x, (f x).length = k) : ∀ l : List α, (l.flatMap f).length = l.length * k
  | [] => by simp
  | x :: l => by simp [List.flatMap_cons, flat_len hk l, hk, Nat.add_mul, Nat.add_comm]
theorem flat_get (hk : ∀ x, (f x).length = k) : ∀ (l : List α) (i : Nat) (x : α), l[i]? = some x → ∀ j, j < k → (l.flatMap f)[i * k + j]? = (f x)[j]?
  | [], i, x, h, _, _ => by simp at h
  | y :: l, 0, x, h, j, hj => by
    simp at h; subst h
    rw [List.flatMap_cons, List.getElem?_append_left (by rw [hk]; omega)]
    simp
  | y :: l, i + 1, x, h, j, hj => by
    have ih := flat_get hk l i x (by simpa using h) j hj
    have e : (i + 1) * k = k + i * k := by rw [Nat.add_mul]; omega
    rw [List.flatMap_cons, List.getElem?_append_right (by rw [hk, e]; omega), hk, e, ← ih]
    congr 1
    omega
theorem flat_take (hk : ∀ x, (f x).length = k) : ∀ (l : List α) (i : Nat), (l.take i).flatMap f = (l.flatMap f).take (i * k)
  | [], i => by simp
  | y :: l, 0 => by simp
  | y :: l, i + 1 => by
    have e : (i + 1) * k = k + i * k := by rw [Nat.add_mul]; omega
    rw [List.take_succ_cons, List.flatMap_cons, List.flatMap_cons, flat_take hk l i, e, List.take_append, hk, List.take_of_length_le (l := f y) (by rw [hk]; omega), Nat.add_sub_cancel_left]
end
theorem EntryD.ints_len (e : EntryD) : e.ints.length = 9 := rfl
theorem MarkD.ints_len (e : MarkD) : e.ints.length = 3 := rfl
theorem TimerD.ints_len (e : TimerD) : e.ints.length = 2 := rfl
section
variable {w : World} {lo hi : Nat} {A : Option Addr} {n c : Nat}
theorem Sl.elem {α : Type} {f : α → List Int} {k : Nat} {l : List α} (h : Sl w lo hi k A n c (l.flatMap f)) (hk : ∀ x, (f x).length = k) (hk0 : 0 < k) {i : Nat} (hi' : i < n) :
    ∃ g off x, A = some ⟨g, off, none⟩ ∧ lo ≤ g ∧ g < hi ∧ l[i]? = some x ∧ ∀ j z, (f x)[j]? = some z → w.cell? ⟨g, off + i * k + j, none⟩ = some (.int .i64 z) ∧ w.frozen? ⟨g, off + i * k + j, none⟩ = false := by
  obtain ⟨g, off, e, h1, h2, h3⟩ := h.lie (by omega)
  have hn : l.length = n := by
    have := h.len
    rw [flat_len hk] at this
    exact Nat.eq_of_mul_eq_mul_right hk0 this
  have hx : l[i]? = some l[i] := List.getElem?_eq_getElem (by omega)
  refine ⟨g, off, l[i], e, h1, h2, hx, fun j z hz => ?_⟩
  have hj : j < k := by rw [← hk l[i]]; exact (List.getElem?_eq_some_iff.1 hz).1
  have := h3 (i * k + j) z (by rw [flat_get hk l i _ hx j hj]; exact hz)
  rw [← Nat.add_assoc] at this
  exact this
theorem Sl.count {α : Type} {f : α → List Int} {k : Nat} {l : List α} (h : Sl w lo hi k A n c (l.flatMap f)) (hk : ∀ x, (f x).length = k) (hk0 : 0 < k) : l.length = n := by
  have := h.len
  rw [flat_len hk] at this
  exact Nat.eq_of_mul_eq_mul_right hk0 this
theorem Sl.entry {l : List EntryD} (h : Sl w lo hi 9 A n c (l.flatMap EntryD.ints)) {i : Nat} (hi' : i < n) :
    ∃ g off e, A = some ⟨g, off, none⟩ ∧ lo ≤ g ∧ g < hi ∧ l[i]? = some e ∧ w.cell? ⟨g, off + i * 9, none⟩ = some (.int .i64 e.index) ∧ w.cell? ⟨g, off + i * 9 + 1, none⟩ = some (.int .i64 e.time) ∧
      w.cell? ⟨g, off + i * 9 + 2, none⟩ = some (.int .i64 e.client) ∧ w.cell? ⟨g, off + i * 9 + 3, none⟩ = some (.int .i64 e.seq) ∧ w.cell? ⟨g, off + i * 9 + 4, none⟩ = some (.int .i64 e.op.kind) ∧
      w.cell? ⟨g, off + i * 9 + 5, none⟩ = some (.int .i64 e.op.a) ∧ w.cell? ⟨g, off + i * 9 + 6, none⟩ = some (.int .i64 e.op.b) ∧ w.cell? ⟨g, off + i * 9 + 7, none⟩ = some (.int .i64 e.op.c) ∧
      w.cell? ⟨g, off + i * 9 + 8, none⟩ = some (.int .i64 e.op.d) := by
  obtain ⟨g, off, e, h1, h2, h3, h4, h5⟩ := h.elem EntryD.ints_len (by omega) hi'
  exact ⟨g, off, e, h1, h2, h3, h4, (h5 0 _ rfl).1, (h5 1 _ rfl).1, (h5 2 _ rfl).1, (h5 3 _ rfl).1, (h5 4 _ rfl).1, (h5 5 _ rfl).1, (h5 6 _ rfl).1, (h5 7 _ rfl).1, (h5 8 _ rfl).1⟩
theorem Sl.mark {l : List MarkD} (h : Sl w lo hi 3 A n c (l.flatMap MarkD.ints)) {i : Nat} (hi' : i < n) :
    ∃ g off e, A = some ⟨g, off, none⟩ ∧ lo ≤ g ∧ g < hi ∧ l[i]? = some e ∧ w.cell? ⟨g, off + i * 3, none⟩ = some (.int .i64 e.client) ∧ w.cell? ⟨g, off + i * 3 + 1, none⟩ = some (.int .i64 e.seq) ∧
      w.cell? ⟨g, off + i * 3 + 2, none⟩ = some (.int .i64 e.index) := by
  obtain ⟨g, off, e, h1, h2, h3, h4, h5⟩ := h.elem MarkD.ints_len (by omega) hi'
  exact ⟨g, off, e, h1, h2, h3, h4, (h5 0 _ rfl).1, (h5 1 _ rfl).1, (h5 2 _ rfl).1⟩
theorem Sl.int {l : List Int} (h : Sl w lo hi 1 A n c l) {i : Nat} (hi' : i < n) :
    ∃ g off x, A = some ⟨g, off, none⟩ ∧ lo ≤ g ∧ g < hi ∧ l[i]? = some x ∧ w.cell? ⟨g, off + i, none⟩ = some (.int .i64 x) := by
  obtain ⟨g, off, e, h1, h2, h3⟩ := h.lie (by omega)
  have hl : i < l.length := by have := h.len; omega
  have hx : l[i]? = some l[i] := List.getElem?_eq_getElem hl
  exact ⟨g, off, l[i], e, h1, h2, hx, (h3 i _ hx).1⟩
end
end Go.Proofs.Ytgnilmdaegnaaaa
