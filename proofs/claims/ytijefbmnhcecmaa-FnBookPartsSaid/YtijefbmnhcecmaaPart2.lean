/- A part of a book's entries: what the program's function returns: a range over a function. No conditions. -/
import Derived.Test.YtijefbmnhcecmaaPart1
import Derived.RangeFuncNested
import Derived.RangeFuncBound
import Derived.RangeFuncCalls
import Derived.RangeFuncLeaves
import Derived.Shelf.Abstract
import Derived.OwnWalkIn
import Derived.TacticsInMore
import Derived.LoopNIn
import Derived.LoopIn
import Derived.Maps.AppendAt
import Derived.Maps.OwnIn
set_option linter.unusedSimpArgs false
set_option linter.unusedVariables false
namespace Go.Proofs.Ytijefbmnhcecmaa
open Go.RowKit Go.Shelf
attribute [local go_sem] Oper.semAt_some

def entVal (e : EntryD) : Value := .agg #[.int .i64 e.index, .int .i64 e.time, .int .i64 e.client, .int .i64 e.seq, .int .i64 e.op.kind, .int .i64 e.op.a, .int .i64 e.op.b, .int .i64 e.op.c, .int .i64 e.op.d]
def entCells (e : EntryD) : List Value := e.ints.map (Value.int .i64)
/-- What a round keeps: what lay below n0, and two blocks. -/
def Kb (n0 B0 B1 : Nat) (W W' : World) : Prop := Below n0 W W' ∧ W'.heap[B0]? = W.heap[B0]? ∧ W'.heap[B1]? = W.heap[B1]?
theorem Kb.t {n0 B0 B1 : Nat} {X Y Z : World} (h : Kb n0 B0 B1 X Y) (k : Kb n0 B0 B1 Y Z) : Kb n0 B0 B1 X Z := ⟨h.1.trans k.1, k.2.1.trans h.2.1, k.2.2.trans h.2.2⟩
theorem Kb.b {n0 B0 B1 : Nat} {w : World} (hn : n0 ≤ w.heap.size) (h0 : B0 < w.heap.size) (h1 : B1 < w.heap.size) (W : World) (l : Nat) (o o' : Obj) (hl : w.heap.size ≤ l) (h : W.heap[l]? = some o) (hc : o.isCells = false) (hw : o.isWalk = false) : Kb n0 B0 B1 W (W.putObj l o') :=
  ⟨belowK_b hn W l o o' hl h hc hw, World.putObj_heap_other (by omega), World.putObj_heap_other (by omega)⟩
theorem Kb.refl (n0 B0 B1 : Nat) (W : World) : Kb n0 B0 B1 W W := ⟨Below.refl _ _, rfl, rfl⟩
theorem Kb.alloc {n0 B0 B1 : Nat} {W : World} (hn : n0 ≤ W.heap.size) (h0 : B0 < W.heap.size) (h1 : B1 < W.heap.size) (o : Obj) : Kb n0 B0 B1 W (W.alloc o) :=
  ⟨(Below.refl _ _).alloc hn _, Below.heap_alloc _ _ _ h0, Below.heap_alloc _ _ _ h1⟩

set_option maxRecDepth 100000 in
set_option maxHeartbeats 4000000 in
/-- The closure of entriesFrom: every entry whose index is at least f. -/
theorem entriesFrom1_in (F : Fence) (n : Nat) (hf : F.fn 75) (hro : F.round = none) (hn : 1 ≤ n) (lp B0 B1 n0 : Nat) (b t : Int) (A : Option Addr) (len cap lo hi : Nat) (l : List EntryD) (f : Int) (J Jx : List EntryD → World → Prop)
    (hA : ∀ {s W} (o : Obj), J s W → J s (W.alloc o))
    (hhi : hi ≤ n0) (hlen : len ≤ 20) (hb0 : n0 ≤ B0) (hb1 : n0 ≤ B1)
    (hY : ∀ pre x W, J pre W → pre.length < (l.filter (fromP f)).length → YieldAt F (n - 1) Try.prog lp #[entVal x] W fun e W' =>
      (e = .returned (.bool true) ∧ J (pre ++ [x]) W' ∧ Kb n0 B0 B1 W W') ∨ (e = .returned (.bool false) ∧ Jx (pre ++ [x]) W'))
    (W : World) (x2 : W.cell? ⟨B0, 2, none⟩ = some (.slice A len cap)) (x3 : W.cell? ⟨B1, 0, none⟩ = some (.int .i64 f)) (hs : Sl W lo hi 9 A len cap (l.flatMap EntryD.ints)) (h0 : J [] W) :
    CallsIn F n Try.prog 75 #[.func (.yield lp) #[] #[], .pointer (some ⟨B0, 0, none⟩), .pointer (some ⟨B1, 0, none⟩)] W fun e W' => (∃ v, e = .returned v) ∧
      ((∃ ys, ys = l.filter (fromP f) ∧ J ys W') ∨ (∃ pre, pre <+: l.filter (fromP f) ∧ Jx pre W')) := by
  have HLEN := Lib.hid (hs.count EntryD.ints_len (by omega) : l.length = len)
  have H := Lib.hid hs
  have z0 := World.block_lt_of_cell? W _ x2
  have z1 := World.block_lt_of_cell? W _ x3
  simp only at z0 z1
  clear hs
  refine callsIn_of_wp Try.func75 rfl hf ?_ hro
  simp only [Try.ntmps75, List.size_toArray, List.length_cons, List.length_nil, Nat.reduceAdd, Nat.reduceSub, Array.replicate_succ, Array.replicate_zero, List.push_toArray, List.append_toArray, List.nil_append, List.cons_append]
  gi_wp2
  gi_loopw [9] (fun i wr => ∃ m : Nat, m ≤ len ∧ i = .int .i64 m ∧ J ((l.take m).filter (fromP f)) wr ∧ Kb n0 B0 B1 W wr) (fun i _ => len - (intOf i).toNat)
  case atStart => exact ⟨0, Nat.zero_le _, rfl, by simpa using h0, Kb.refl _ _ _ _⟩
  case round =>
    obtain ⟨m, hm, rfl, hJ, hk⟩ := hrel
    by_cases hlt : m < len
    · obtain ⟨g, off, e, rfl, _, hge, he, p0, p1, p2, p3, p4, p5, p6, p7, p8⟩ := H.out.entry hlt
      have hgn : g < n0 := by omega
      have r0 := (hk.1.cell (p := ⟨g, off + m * 9, none⟩) hgn).trans p0
      have r1 := (hk.1.cell (p := ⟨g, off + m * 9 + 1, none⟩) hgn).trans p1
      have r2 := (hk.1.cell (p := ⟨g, off + m * 9 + 2, none⟩) hgn).trans p2
      have r3 := (hk.1.cell (p := ⟨g, off + m * 9 + 3, none⟩) hgn).trans p3
      have r4 := (hk.1.cell (p := ⟨g, off + m * 9 + 4, none⟩) hgn).trans p4
      have r5 := (hk.1.cell (p := ⟨g, off + m * 9 + 5, none⟩) hgn).trans p5
      have r6 := (hk.1.cell (p := ⟨g, off + m * 9 + 6, none⟩) hgn).trans p6
      have r7 := (hk.1.cell (p := ⟨g, off + m * 9 + 7, none⟩) hgn).trans p7
      have r8 := (hk.1.cell (p := ⟨g, off + m * 9 + 8, none⟩) hgn).trans p8
      have u3 : wr.cell? ⟨B1, 0, none⟩ = some (.int .i64 f) := (World.cell?_of_block (w := W) (a := ⟨B1, 0, none⟩) hk.2.2).trans x3
      have hzw := hk.1.size
      have hw1 : B1 < wr.heap.size := by omega
      have v3 : (wr.alloc (.cells #[.int .i64 e.index, .int .i64 e.time, .int .i64 e.client, .int .i64 e.seq, .int .i64 e.op.kind, .int .i64 e.op.a, .int .i64 e.op.b, .int .i64 e.op.c, .int .i64 e.op.d] 37)).cell? ⟨B1, 0, none⟩ = some (.int .i64 f) := (World.cell?_alloc_lt _ _ _ hw1).trans u3
      have hstep := take_filter_step (f := f) he
      have hka : Kb n0 B0 B1 W (wr.alloc (.cells #[.int .i64 e.index, .int .i64 e.time, .int .i64 e.client, .int .i64 e.seq, .int .i64 e.op.kind, .int .i64 e.op.a, .int .i64 e.op.b, .int .i64 e.op.c, .int .i64 e.op.d] 37)) := hk.t (Kb.alloc (by omega) (by omega) (by omega) _)
      have hJa := hA (.cells #[.int .i64 e.index, .int .i64 e.time, .int .i64 e.client, .int .i64 e.seq, .int .i64 e.op.kind, .int .i64 e.op.a, .int .i64 e.op.b, .int .i64 e.op.c, .int .i64 e.op.d] 37) hJ
      have HST := Lib.hid hstep
      by_cases hfe : f ≤ e.index
      · have hpl : ((l.take m).filter (fromP f)).length < (l.filter (fromP f)).length := by
          have e1 : l.filter (fromP f) = (l.take (m + 1)).filter (fromP f) ++ (l.drop (m + 1)).filter (fromP f) := by rw [← List.filter_append, List.take_append_drop]
          rw [e1, hstep, if_pos hfe]
          simp
        obtain ⟨fn, tmps, assign, body, hy, hR⟩ := hY _ e _ hJa hpl
        unfold entVal at hy
        clear he p0 p1 p2 p3 p4 p5 p6 p7 p8 hstep hpl
        gi_wp2
        refine hR.mono ?_
        rintro x W3 (⟨rfl, hJ3, hk3⟩ | ⟨rfl, hJx3⟩)
        · gi_wp2
          go_roundw
          case rel => exact ⟨m + 1, hlt, by go_num, by rw [HST.out, if_pos hfe]; exact hJ3, hka.t hk3⟩
          case measure => simp [intOf]; omega
        · gi_wp2
          refine bodyPost_ret (results_none rfl _ _ _) rfl ?_
          refine ⟨⟨_, rfl⟩, .inr ⟨_, ?_, hJx3⟩⟩
          have e1 : l.filter (fromP f) = (l.take (m + 1)).filter (fromP f) ++ (l.drop (m + 1)).filter (fromP f) := by rw [← List.filter_append, List.take_append_drop]
          rw [e1, HST.out, if_pos hfe]
          exact List.prefix_append _ _
      · clear he p0 p1 p2 p3 p4 p5 p6 p7 p8 hstep
        gi_wp2
        refine ⟨fun _ h => (by cases h), ?_⟩
        gi_wp2
        go_roundw
        case rel => exact ⟨m + 1, hlt, by go_num, by rw [HST.out, if_neg (by omega), List.append_nil]; exact hJa, hka⟩
        case measure => simp [intOf]; omega
    · obtain rfl : m = len := by omega
      gi_wp2
      go_end0
      refine ⟨⟨_, rfl⟩, .inl ⟨_, rfl, ?_⟩⟩
      rw [List.take_of_length_le (by rw [HLEN.out]; exact Nat.le_refl _)] at hJ
      exact hJ
theorem flat_cells (l : List EntryD) : l.flatMap entCells = (l.flatMap EntryD.ints).map (Value.int .i64) := by
  induction l with
  | nil => rfl
  | cons x xs ih => rw [List.flatMap_cons, List.flatMap_cons, List.map_append, ih]; rfl
theorem partOf_prefix {b t : Int} {l pre : List EntryD} {f many : Int} (hok : bookOk b t l = true) (hp : pre <+: l.filter (fromP f)) (h : (pre.length : Int) = many) : partOfM b t l f many = pre := by
  unfold partOfM
  rw [if_pos hok]
  obtain ⟨r, hr⟩ := hp
  rw [← hr, show many.toNat = pre.length by omega, List.take_append_of_le_length (Nat.le_refl _), List.take_length]
theorem entriesFrom_in (F : Fence) (n : Nat) (h : F.fn 67) (hro : F.round = none) (b t : Int) (A : Option Addr) (n1 c1 : Nat) (f : Int) (w : World) :
    CallsIn F n Try.prog 67 #[.agg #[.int .i64 b, .int .i64 t, .slice A n1 c1], .int .i64 f] w fun e w' => e = .returned (.func (.func 75) #[] #[.pointer (some ⟨w.heap.size, 0, none⟩), .pointer (some ⟨w.heap.size + 1, 0, none⟩)]) ∧ w' = (w.alloc (.cells #[.int .i64 b, .int .i64 t, .slice A n1 c1] 29)).alloc (.cells #[.int .i64 f] 2) := by
  refine callsIn_of_wp Try.func67 rfl h ?_ hro
  simp only [Try.ntmps67, List.size_toArray, List.length_cons, List.length_nil, Nat.reduceAdd, Nat.reduceSub, Array.replicate_succ, Array.replicate_zero, List.push_toArray, List.append_toArray, List.nil_append, List.cons_append]
  gi_wp2
  go_ret
  exact ⟨rfl, rfl⟩
theorem entriesFrom_stops (F : Fence) (n : Nat) (hf : F.fn 75) (hro : F.round = none) (hn : 1 ≤ n) (B0 B1 n0 : Nat) (b t : Int) (A : Option Addr) (len cap lo hi : Nat) (l : List EntryD) (f : Int) (w : World)
    (hhi : hi ≤ n0) (hlen : len ≤ 20) (hb0 : n0 ≤ B0) (hb1 : n0 ≤ B1) (h0w : B0 < w.heap.size) (h1w : B1 < w.heap.size) (hn0 : n0 ≤ w.heap.size)
    (x2 : w.cell? ⟨B0, 2, none⟩ = some (.slice A len cap)) (x3 : w.cell? ⟨B1, 0, none⟩ = some (.int .i64 f)) (hs : Sl w lo hi 9 A len cap (l.flatMap EntryD.ints)) :
    SeqStopsK F n Try.prog 75 #[.pointer (some ⟨B0, 0, none⟩), .pointer (some ⟨B1, 0, none⟩)] (fun e => #[entVal e]) (Kb n0 B0 B1) (fun ys => ys = l.filter (fromP f)) (fun pre => pre <+: l.filter (fromP f)) (l.filter (fromP f)).length w := fun lp J Jx W hW hJ _ hY h0 =>
  entriesFrom1_in F n hf hro hn lp B0 B1 n0 b t A len cap lo hi l f J Jx (fun {s W} o hs => hJ s W _ none hs (World.grownBy_alloc W o none) (fun r e => by cases e)) hhi hlen hb0 hb1 hY W ((hW.cell (p := ⟨B0, 2, none⟩) h0w).trans x2) ((hW.cell (p := ⟨B1, 0, none⟩) h1w).trans x3) (hs.below hW (by omega)) h0
/-- What the loop's body keeps of the caller's own: the collected row in its box, the box of many. -/
def PartS (w : World) (S : Nat) (many : Int) (pre : List EntryD) (W : World) : Prop :=
  (((∃ v, Boxed W (S + 1) 27 v ∧ W.ownsRow S 37 9 v pre.length (pre.flatMap entCells) ∧ (∀ g, v.ownBlock = some g → g ≠ S + 1 + 1 ∧ g ≠ S + 1 + 1 + 1)) ∧ Boxed W (w.heap.size + 1) 2 (.int .i64 many)) ∧ Below w.heap.size w W) ∧ S + 4 ≤ W.heap.size
theorem PartS.own (w : World) (S : Nat) (many : Int) {B : Nat} (hB : w.heap.size ≤ B) : OwnFrom B (PartS w S many) :=
  OwnFrom.and (OwnFrom.and (OwnFrom.and (_root_.Go.Own.from (holdsRow_own S (S + 1) 27 37 9 (fun (pre : List EntryD) => pre.length) (fun pre => pre.flatMap entCells) (fun _ v => ∀ g, v.ownBlock = some g → g ≠ S + 1 + 1 ∧ g ≠ S + 1 + 1 + 1)) B)
    (_root_.Go.Own.from (boxed_own (w.heap.size + 1) 2 (fun (_ : List EntryD) => Value.int .i64 many)) B)) (ownFrom_below (Nat.le_refl _) hB)) (fun _ _ _ _ hs hg _ => Nat.le_trans hs hg.size)
theorem ent_new (W : World) (x : EntryD) : ∀ j u, (entCells x)[j]? = some u → (W.alloc (.cells #[.int .i64 x.index, .int .i64 x.time, .int .i64 x.client, .int .i64 x.seq, .int .i64 x.op.kind, .int .i64 x.op.a, .int .i64 x.op.b, .int .i64 x.op.c, .int .i64 x.op.d] 37)).cell? ((⟨W.heap.size, 0, none⟩ : Addr).add j) = some u := fun j u hu => by
  rw [Addr.add_mid, Nat.zero_add, World.cell?_alloc_new]
  rw [← hu]
  simp [entCells, EntryD.ints]
theorem PartS.sl {w : World} {S : Nat} {many : Int} {pre : List EntryD} {W : World} (h : PartS w S many pre W) (hS : w.heap.size ≤ S) {D : Nat} (hD : w.heap.size ≤ D) (hK : W.heap[D]? = some (.deferred (some []))) :
    ∃ A c, Boxed W (S + 1) 27 (.slice A pre.length c) ∧ Sl (W.putObj D (.deferred none)) w.heap.size (W.putObj D (.deferred none)).heap.size 9 A pre.length c (pre.flatMap EntryD.ints) ∧ Below w.heap.size w (W.putObj D (.deferred none)) := by
  obtain ⟨⟨⟨⟨v, hv, hrow, hG⟩, h5⟩, hB⟩, hz⟩ := h
  have hr2 := ownsRow_putObj hrow (.deferred none) hK rfl
  rw [flat_cells] at hr2
  obtain ⟨A, c, rfl, s⟩ := Own.sl (zs := pre.flatMap EntryD.ints) hr2
  exact ⟨A, c, hv, s.mono hS (Nat.le_refl _), hB.trans (belowK_b (w := w) (Nat.le_refl _) W D _ _ hD hK rfl rfl)⟩
set_option maxRecDepth 100000 in
set_option maxHeartbeats 4000000 in
theorem partOf_any (b t : Int) (A : Option Addr) (n c lo hi : Nat) (l : List EntryD) (f many : Int) (w : World) (h : Sl w lo hi 9 A n c (l.flatMap EntryD.ints)) :
    Calls Try.prog 31 #[.agg #[.int .i64 b, .int .i64 t, .slice A n c], .int .i64 f, .int .i64 many] w (SlRes w 9 (partOfM b t l f many).length ((partOfM b t l f many).flatMap EntryD.ints)) := by
  have hn : n ≤ 9223372036854775807 := Nat.le_trans h.cap h.big
  have HL := Lib.hid (h.count EntryD.ints_len (by omega) : l.length = n)
  replace h := h.fit (by omega)
  have hhi : min hi w.heap.size ≤ w.heap.size := Nat.min_le_right _ _
  generalize min hi w.heap.size = hi at h hhi
  cases hok : bookOk b t l with
  | false =>
    have e0 : partOfM b t l f many = [] := by simp [partOfM, hok]
    rw [e0]
    clear e0
    have CO : ∀ W, Sl W lo hi 9 A n c (l.flatMap EntryD.ints) → Calls Try.prog 22 #[.agg #[.int .i64 b, .int .i64 t, .slice A n c]] W fun x w' => x = .returned (.bool false) ∧ Below W.heap.size W w' := fun W s => by
      have h7 := bookOk_any b t A n c lo hi l W s
      rw [hok] at h7
      exact h7
    have HO := Lib.hid CO
    clear CO
    clear hok
    go_enter Try.func31, Try.ntmps31
    go_wp2_with fail
    (with_reducible refine (HO.out _ (h.below (B := w.heap.size) (by (repeat' (first | with_reducible exact Below.refl _ _ | with_reducible assumption | with_reducible refine Below.drew ?_ | with_reducible refine Below.alloc ?_ ?_ _ | with_reducible refine Below.setCell ?_ ?_ _ | with_reducible refine Below.trans ?_ (Below.mono (by assumption) ?_) | ((try simp only [World.heap_size_alloc, World.heap_size_drew, World.heap_size_setCell]); omega)))) hhi)).mono ?_); rintro _ w1 ⟨rfl, b1⟩
    have y1 := b1.size
    (try simp only [World.heap_size_alloc] at y1)
    have hw1 : Below w.heap.size w w1 := by (repeat' (first | with_reducible exact Below.refl _ _ | with_reducible assumption | with_reducible refine Below.drew ?_ | with_reducible refine Below.alloc ?_ ?_ _ | with_reducible refine Below.setCell ?_ ?_ _ | with_reducible refine Below.trans ?_ (Below.mono (by assumption) ?_) | ((try simp only [World.heap_size_alloc, World.heap_size_drew, World.heap_size_setCell]); omega)))
    go_wp2_with fail
    go_ret
    exact SlRes.none (by (repeat' (first | with_reducible exact Below.refl _ _ | with_reducible assumption | with_reducible refine Below.drew ?_ | with_reducible refine Below.alloc ?_ ?_ _ | with_reducible refine Below.setCell ?_ ?_ _ | with_reducible refine Below.trans ?_ (Below.mono (by assumption) ?_) | ((try simp only [World.heap_size_alloc, World.heap_size_drew, World.heap_size_setCell]); omega)))) _ _ _ (by omega)
  | true =>
    by_cases hm1 : many < 1
    · have e0 : partOfM b t l f many = [] := by
        unfold partOfM
        rw [if_pos hok, show many.toNat = 0 by omega, List.take_zero]
      rw [e0]
      clear e0
      have CO : ∀ W, Sl W lo hi 9 A n c (l.flatMap EntryD.ints) → Calls Try.prog 22 #[.agg #[.int .i64 b, .int .i64 t, .slice A n c]] W fun x w' => x = .returned (.bool true) ∧ Below W.heap.size W w' := fun W s => by
        have h7 := bookOk_any b t A n c lo hi l W s
        rw [hok] at h7
        exact h7
      have HO := Lib.hid CO
      clear CO
      clear hok
      go_enter Try.func31, Try.ntmps31
      go_wp2_with fail
      (with_reducible refine (HO.out _ (h.below (B := w.heap.size) (by (repeat' (first | with_reducible exact Below.refl _ _ | with_reducible assumption | with_reducible refine Below.drew ?_ | with_reducible refine Below.alloc ?_ ?_ _ | with_reducible refine Below.setCell ?_ ?_ _ | with_reducible refine Below.trans ?_ (Below.mono (by assumption) ?_) | ((try simp only [World.heap_size_alloc, World.heap_size_drew, World.heap_size_setCell]); omega)))) hhi)).mono ?_); rintro _ w1 ⟨rfl, b1⟩
      have y1 := b1.size
      (try simp only [World.heap_size_alloc] at y1)
      have hw1 : Below w.heap.size w w1 := by (repeat' (first | with_reducible exact Below.refl _ _ | with_reducible assumption | with_reducible refine Below.drew ?_ | with_reducible refine Below.alloc ?_ ?_ _ | with_reducible refine Below.setCell ?_ ?_ _ | with_reducible refine Below.trans ?_ (Below.mono (by assumption) ?_) | ((try simp only [World.heap_size_alloc, World.heap_size_drew, World.heap_size_setCell]); omega)))
      have v5 : w1.cell? ⟨w.heap.size + 1, 0, none⟩ = some (.int .i64 many) := (b1.cell (p := ⟨w.heap.size + 1, 0, none⟩) (by (try simp only [World.heap_size_alloc, World.heap_size_drew, World.heap_size_setCell]); omega)).trans (by simp)
      go_wp2_with fail
      go_ret
      exact SlRes.none (by (repeat' (first | with_reducible exact Below.refl _ _ | with_reducible assumption | with_reducible refine Below.drew ?_ | with_reducible refine Below.alloc ?_ ?_ _ | with_reducible refine Below.setCell ?_ ?_ _ | with_reducible refine Below.trans ?_ (Below.mono (by assumption) ?_) | ((try simp only [World.heap_size_alloc, World.heap_size_drew, World.heap_size_setCell]); omega)))) _ _ _ (by omega)
    · obtain ⟨q0, q1, q2, q3, q4, _⟩ := bookOk_facts hok
      rw [HL.out] at q4
      have HOK := Lib.hid hok
      have CO : ∀ W, Sl W lo hi 9 A n c (l.flatMap EntryD.ints) → Calls Try.prog 22 #[.agg #[.int .i64 b, .int .i64 t, .slice A n c]] W fun x w' => x = .returned (.bool true) ∧ Below W.heap.size W w' := fun W s => by
        have h7 := bookOk_any b t A n c lo hi l W s
        rw [hok] at h7
        exact h7
      have HO := Lib.hid CO
      clear CO
      clear hok
      refine (callsIn_wide (n := 5)).1 ?_
      refine callsIn_of_wp_marks Try.func31 rfl trivial ?_ rfl
      simp only [Try.ntmps31, List.size_toArray, List.length_cons, List.length_nil, Nat.reduceAdd, Nat.reduceSub, Array.replicate_succ, Array.replicate_zero, List.push_toArray, List.append_toArray, List.nil_append, List.cons_append]
      gi_wp2_with fail
      refine ⟨trivial, ?_⟩
      refine (callsIn_wide.2 (HO.out _ (h.below (B := w.heap.size) (by (repeat' (first | with_reducible exact Below.refl _ _ | with_reducible assumption | with_reducible refine Below.drew ?_ | with_reducible refine Below.alloc ?_ ?_ _ | with_reducible refine Below.setCell ?_ ?_ _ | with_reducible refine Below.trans ?_ (Below.mono (by assumption) ?_) | ((try simp only [World.heap_size_alloc, World.heap_size_drew, World.heap_size_setCell]); omega)))) hhi))).mono ?_; rintro _ w1 ⟨rfl, b1⟩
      have y1 := b1.size
      simp only [World.heap_size_alloc] at y1
      have v5 : w1.cell? ⟨w.heap.size + 1, 0, none⟩ = some (.int .i64 many) := (b1.cell (p := ⟨w.heap.size + 1, 0, none⟩) (by (try simp only [World.heap_size_alloc, World.heap_size_drew, World.heap_size_setCell]); omega)).trans (by simp)
      have v0 : w1.cell? ⟨w.heap.size, 0, none⟩ = some (.int .i64 b) := (b1.cell (p := ⟨w.heap.size, 0, none⟩) (by (try simp only [World.heap_size_alloc, World.heap_size_drew, World.heap_size_setCell]); omega)).trans (by simp)
      have v1 : w1.cell? ⟨w.heap.size, 1, none⟩ = some (.int .i64 t) := (b1.cell (p := ⟨w.heap.size, 1, none⟩) (by (try simp only [World.heap_size_alloc, World.heap_size_drew, World.heap_size_setCell]); omega)).trans (by simp)
      have v2 : w1.cell? ⟨w.heap.size, 2, none⟩ = some (.slice A n c) := (b1.cell (p := ⟨w.heap.size, 2, none⟩) (by (try simp only [World.heap_size_alloc, World.heap_size_drew, World.heap_size_setCell]); omega)).trans (by simp)
      have hwz : w.heap.size < w1.heap.size := by omega
      have k0 : ((w1.alloc (.cells #[] 37)).alloc (.cells #[.slice (some ⟨w1.heap.size, 0, none⟩) 0 0] 27)).cell? ⟨w.heap.size, 0, none⟩ = some (.int .i64 b) := (World.cell?_alloc_lt _ _ _ (by (try simp only [World.heap_size_alloc, World.heap_size_drew, World.heap_size_setCell]); omega)).trans ((World.cell?_alloc_lt _ _ _ hwz).trans v0)
      have k1 : ((w1.alloc (.cells #[] 37)).alloc (.cells #[.slice (some ⟨w1.heap.size, 0, none⟩) 0 0] 27)).cell? ⟨w.heap.size, 1, none⟩ = some (.int .i64 t) := (World.cell?_alloc_lt _ _ _ (by (try simp only [World.heap_size_alloc, World.heap_size_drew, World.heap_size_setCell]); omega)).trans ((World.cell?_alloc_lt _ _ _ hwz).trans v1)
      have k2 : ((w1.alloc (.cells #[] 37)).alloc (.cells #[.slice (some ⟨w1.heap.size, 0, none⟩) 0 0] 27)).cell? ⟨w.heap.size, 2, none⟩ = some (.slice A n c) := (World.cell?_alloc_lt _ _ _ (by (try simp only [World.heap_size_alloc, World.heap_size_drew, World.heap_size_setCell]); omega)).trans ((World.cell?_alloc_lt _ _ _ hwz).trans v2)
      gi_wp2_with fail
      refine ⟨trivial, ?_⟩
      refine (entriesFrom_in _ _ trivial rfl b t A n c f _).mono ?_; rintro _ w2 ⟨rfl, rfl⟩
      gi_wp2_with fail
      have hw1 : Below w.heap.size w w1 := by (repeat' (first | with_reducible exact Below.refl _ _ | with_reducible assumption | with_reducible refine Below.drew ?_ | with_reducible refine Below.alloc ?_ ?_ _ | with_reducible refine Below.setCell ?_ ?_ _ | with_reducible refine Below.trans ?_ (Below.mono (by assumption) ?_) | ((try simp only [World.heap_size_alloc, World.heap_size_drew, World.heap_size_setCell]); omega)))
      have bx5 : Boxed w1 (w.heap.size + 1) 2 (.int .i64 many) := by
        have h9 := Boxed.new (w.alloc (.cells #[.int .i64 b, .int .i64 t, .slice A n c] 29)) 2 (.int .i64 many)
        rw [World.heap_size_alloc] at h9
        exact (b1.block _ (by (try simp only [World.heap_size_alloc, World.heap_size_drew, World.heap_size_setCell]); omega)).trans h9
      have bx7 := Boxed.new (w1.alloc (.cells #[] 37)) 27 (.slice (some ⟨w1.heap.size, 0, none⟩) 0 0)
      rw [World.heap_size_alloc] at bx7
      have hr0 : Own ((w1.alloc (.cells #[] 37)).alloc (.cells #[.slice (some ⟨w1.heap.size, 0, none⟩) 0 0] 27)) w1.heap.size 37 9 (.slice (some ⟨w1.heap.size, 0, none⟩) 0 0) 0 [] := (Own.new w1 (base := w1.heap.size) 37 9 [] (n := 0) rfl (Nat.le_refl _) (by omega)).kept ((Below.refl _ _).alloc (Nat.le_refl _) _)
      have hr1 := hr0.kept (w' := ((((w1.alloc (.cells #[] 37)).alloc (.cells #[.slice (some ⟨w1.heap.size, 0, none⟩) 0 0] 27)).alloc (.cells #[.int .i64 b, .int .i64 t, .slice A n c] 29)).alloc (.cells #[.int .i64 f] 2))) (((Below.refl _ _).alloc (Nat.le_refl _) _).alloc (by (try simp only [World.heap_size_alloc, World.heap_size_drew, World.heap_size_setCell]); omega) _)
      have bx7' : Boxed ((((w1.alloc (.cells #[] 37)).alloc (.cells #[.slice (some ⟨w1.heap.size, 0, none⟩) 0 0] 27)).alloc (.cells #[.int .i64 b, .int .i64 t, .slice A n c] 29)).alloc (.cells #[.int .i64 f] 2)) (w1.heap.size + 1) 27 (.slice (some ⟨w1.heap.size, 0, none⟩) 0 0) := (bx7.alloc _).alloc _
      have bx5' : Boxed ((((w1.alloc (.cells #[] 37)).alloc (.cells #[.slice (some ⟨w1.heap.size, 0, none⟩) 0 0] 27)).alloc (.cells #[.int .i64 b, .int .i64 t, .slice A n c] 29)).alloc (.cells #[.int .i64 f] 2)) (w.heap.size + 1) 2 (.int .i64 many) := (((bx5.alloc _).alloc _).alloc _).alloc _
      have x2 : ((((w1.alloc (.cells #[] 37)).alloc (.cells #[.slice (some ⟨w1.heap.size, 0, none⟩) 0 0] 27)).alloc (.cells #[.int .i64 b, .int .i64 t, .slice A n c] 29)).alloc (.cells #[.int .i64 f] 2)).cell? ⟨w1.heap.size + 1 + 1, 2, none⟩ = some (.slice A n c) := by
        refine (World.cell?_alloc_lt _ _ _ (by (try simp only [World.heap_size_alloc, World.heap_size_drew, World.heap_size_setCell]); omega)).trans ?_
        have h9 := World.cell?_alloc_new ((w1.alloc (.cells #[] 37)).alloc (.cells #[.slice (some ⟨w1.heap.size, 0, none⟩) 0 0] 27)) #[.int .i64 b, .int .i64 t, .slice A n c] 29 2
        simp only [World.heap_size_alloc] at h9
        exact h9
      have x3 : ((((w1.alloc (.cells #[] 37)).alloc (.cells #[.slice (some ⟨w1.heap.size, 0, none⟩) 0 0] 27)).alloc (.cells #[.int .i64 b, .int .i64 t, .slice A n c] 29)).alloc (.cells #[.int .i64 f] 2)).cell? ⟨w1.heap.size + 1 + 1 + 1, 0, none⟩ = some (.int .i64 f) := by
        have h9 := World.cell?_alloc_new (((w1.alloc (.cells #[] 37)).alloc (.cells #[.slice (some ⟨w1.heap.size, 0, none⟩) 0 0] 27)).alloc (.cells #[.int .i64 b, .int .i64 t, .slice A n c] 29)) #[.int .i64 f] 2 0
        simp only [World.heap_size_alloc] at h9
        exact h9
      have hB0 : Below w.heap.size w ((((w1.alloc (.cells #[] 37)).alloc (.cells #[.slice (some ⟨w1.heap.size, 0, none⟩) 0 0] 27)).alloc (.cells #[.int .i64 b, .int .i64 t, .slice A n c] 29)).alloc (.cells #[.int .i64 f] 2)) := by (repeat' (first | with_reducible exact Below.refl _ _ | with_reducible assumption | with_reducible refine Below.drew ?_ | with_reducible refine Below.alloc ?_ ?_ _ | with_reducible refine Below.setCell ?_ ?_ _ | with_reducible refine Below.trans ?_ (Below.mono (by assumption) ?_) | ((try simp only [World.heap_size_alloc, World.heap_size_drew, World.heap_size_setCell]); omega)))
      have hsz : ((((w1.alloc (.cells #[] 37)).alloc (.cells #[.slice (some ⟨w1.heap.size, 0, none⟩) 0 0] 27)).alloc (.cells #[.int .i64 b, .int .i64 t, .slice A n c] 29)).alloc (.cells #[.int .i64 f] 2)).heap.size = w1.heap.size + 4 := by simp
      obtain ⟨W0, hW0⟩ : ∃ W0, ((((w1.alloc (.cells #[] 37)).alloc (.cells #[.slice (some ⟨w1.heap.size, 0, none⟩) 0 0] 27)).alloc (.cells #[.int .i64 b, .int .i64 t, .slice A n c] 29)).alloc (.cells #[.int .i64 f] 2)) = W0 := ⟨_, rfl⟩
      rw [hW0] at hr1 bx7' bx5' x2 x3 hB0 hsz ⊢
      clear hW0 hr0 bx7 bx5 k0 k1 k2 v0 v1 v2 v5 b1
      have hs0 := h.below hB0 hhi
      have hS0 : PartS w w1.heap.size many [] W0 := ⟨⟨⟨⟨_, bx7', hr1, fun g hg => by simp [Value.ownBlock] at hg; omega⟩, bx5'⟩, hB0⟩, by omega⟩
      have eg := enters_of Try.func75 (by kernel_rfl) rfl
      obtain ⟨i0, hi0, hz0, hz1, hz2⟩ := info_parts infoEntry
      refine wpIn_rangeFunc_ownH rfl (by omega) (gf := 75) (lb := #[.pointer (some ⟨w1.heap.size + 1 + 1, 0, none⟩), .pointer (some ⟨w1.heap.size + 1 + 1 + 1, 0, none⟩)]) rfl trivial eg
        (entriesFrom_stops Fence.wide (5 - 1) trivial rfl (by omega) (w1.heap.size + 1 + 1) (w1.heap.size + 1 + 1 + 1) w.heap.size b t A n c lo hi l f W0 hhi q4 (by omega) (by omega) (by omega) (by omega) (by omega) x2 x3 hs0)
        (fun h k => Kb.t h k) (Kb.b (by omega) (by omega) (by omega)) (Below.refl _ _) (fun _ => rfl)
        (fun pre W => PartS w w1.heap.size many pre W ∧ (pre.length : Int) < many)
        (fun cc pre W => PartS w w1.heap.size many pre W ∧ (cc = .exit 0 ∧ (pre.length : Int) = many))
        (OwnFrom.and (PartS.own w _ many (by omega)) (ownFrom_pure _ _)) (fun cc => OwnFrom.and (PartS.own w _ many (by omega)) (ownFrom_pure _ _)) ⟨hS0, by simp; omega⟩
        (fun x a' W => ∃ Bx, w1.heap.size + 4 ≤ Bx ∧ W.heap[Bx]? = some (.cells #[.int .i64 x.index, .int .i64 x.time, .int .i64 x.client, .int .i64 x.seq, .int .i64 x.op.kind, .int .i64 x.op.a, .int .i64 x.op.b, .int .i64 x.op.c, .int .i64 x.op.d] 37 (0, 0)) ∧ a' = { tmps := #[.agg #[.int .i64 b, .int .i64 t, .slice A n c], .int .i64 f, .int .i64 many, .pointer (some ⟨w.heap.size, 0, none⟩), undef, .pointer (some ⟨w.heap.size + 1, 0, none⟩), .slice none 0 0, .pointer (some ⟨w1.heap.size + 1, 0, none⟩), .pointer (some ⟨Bx, 0, none⟩), .agg #[.int .i64 b, .int .i64 t, .slice A n c], .bool true, .bool false, .bool false, .int .i64 many, .bool (decide (many < 1)), .bool (decide (many < 1)), .slice (some ⟨w1.heap.size, 0, none⟩) 0 0, .agg #[.int .i64 b, .int .i64 t, .slice A n c], .int .i64 f, .func (.func 75) #[] #[.pointer (some ⟨w1.heap.size + 1 + 1, 0, none⟩), .pointer (some ⟨w1.heap.size + 1 + 1 + 1, 0, none⟩)], entVal x, undef, undef, undef, undef, undef, undef, undef, undef, undef], defers := [] })
        (fun x a' _ X Y row hs hg hr => by
          obtain ⟨Bx, h1, h2, h3⟩ := hs
          refine ⟨Bx, h1, (hg.block Bx (Array.getElem?_eq_some_iff.1 h2).1 (fun e => ?_)).trans h2, h3⟩
          obtain ⟨_, o, ho, hc⟩ := hr Bx e.symm
          rw [h2] at ho
          cases ho
          cases hc)
        ?assign ?body ?done ?stop
      case assign =>
        rintro lr pre x W K ⟨hP, hl9⟩ hK
        have hz := hP.2
        unfold entVal
        gi_wp2
        exact hK _ _ ((KeepsOthers.alloc _ _).from _) (Kb.alloc (by have := hP.1.2.size; omega) (by omega) (by omega) _) ⟨(PartS.own w _ many (Nat.le_refl _)).alloc _ hP, hl9⟩ ⟨W.heap.size, hz, World.alloc_heap_new W _, rfl⟩
      case body =>
        rintro lr pre x a' W hl _ ⟨⟨⟨⟨⟨v, hv, hrow, hG⟩, h5⟩, hB⟩, hz9⟩, hl9⟩ ⟨Bx, hBx, hX, rfl⟩ hN
        have hne : ¬ w.heap.size = w1.heap.size := by omega
        have c7 := hv.cell
        have c5 := h5.cell
        have e0 : W.cell? ⟨Bx, 0, none⟩ = some (.int .i64 x.index) := by simp [World.cell?, hX]
        have e1 : W.cell? ⟨Bx, 1, none⟩ = some (.int .i64 x.time) := by simp [World.cell?, hX]
        have e2 : W.cell? ⟨Bx, 2, none⟩ = some (.int .i64 x.client) := by simp [World.cell?, hX]
        have e3 : W.cell? ⟨Bx, 3, none⟩ = some (.int .i64 x.seq) := by simp [World.cell?, hX]
        have e4 : W.cell? ⟨Bx, 4, none⟩ = some (.int .i64 x.op.kind) := by simp [World.cell?, hX]
        have e5 : W.cell? ⟨Bx, 5, none⟩ = some (.int .i64 x.op.a) := by simp [World.cell?, hX]
        have e6 : W.cell? ⟨Bx, 6, none⟩ = some (.int .i64 x.op.b) := by simp [World.cell?, hX]
        have e7 : W.cell? ⟨Bx, 7, none⟩ = some (.int .i64 x.op.c) := by simp [World.cell?, hX]
        have e8 : W.cell? ⟨Bx, 8, none⟩ = some (.int .i64 x.op.d) := by simp [World.cell?, hX]
        have hfl : (l.filter (fromP f)).length ≤ 20 := Nat.le_trans (List.length_filter_le _ _) (by rw [HL.out]; exact q4)
        have hzB := hB.size
        have HFIN : Hid (∀ v' w4, w4.ownsRow w1.heap.size 37 9 v' (pre.length + 1) (pre.flatMap entCells ++ entCells x) → (W.alloc (.cells #[.int .i64 x.index, .int .i64 x.time, .int .i64 x.client, .int .i64 x.seq, .int .i64 x.op.kind, .int .i64 x.op.a, .int .i64 x.op.b, .int .i64 x.op.c, .int .i64 x.op.d] 37)).grownBy w4 v.ownBlock → (v'.ownBlock = v.ownBlock ∨ v'.ownBlock = some (W.alloc (.cells #[.int .i64 x.index, .int .i64 x.time, .int .i64 x.client, .int .i64 x.seq, .int .i64 x.op.kind, .int .i64 x.op.a, .int .i64 x.op.b, .int .i64 x.op.c, .int .i64 x.op.d] 37)).heap.size) →
            PartS w w1.heap.size many (pre ++ [x]) (w4.setCell ⟨w1.heap.size + 1, 0, none⟩ v') ∧ KeepsFrom W0.heap.size W (w4.setCell ⟨w1.heap.size + 1, 0, none⟩ v') ∧ Kb w.heap.size (w1.heap.size + 1 + 1) (w1.heap.size + 1 + 1 + 1) W (w4.setCell ⟨w1.heap.size + 1, 0, none⟩ v') ∧
            w4.cell? ⟨w1.heap.size + 1, 0, none⟩ = some v ∧ w4.frozen? ⟨w1.heap.size + 1, 0, none⟩ = false ∧ (w4.setCell ⟨w1.heap.size + 1, 0, none⟩ v').cell? ⟨w.heap.size + 1, 0, none⟩ = some (.int .i64 many) ∧ ∃ A5 c5, v' = .slice A5 (pre.length + 1) c5) := Lib.hid (fun v' w4 ho hg hat => by
          obtain ⟨hv1, hv2, hr2, hk2, hb2⟩ := hv.appended (by decide) hrow (by omega) (by omega) ho hg
          have hz4 := hg.size
          simp only [World.heap_size_alloc] at hz4 hat
          have h5a := (h5.alloc (.cells #[.int .i64 x.index, .int .i64 x.time, .int .i64 x.client, .int .i64 x.seq, .int .i64 x.op.kind, .int .i64 x.op.a, .int .i64 x.op.b, .int .i64 x.op.c, .int .i64 x.op.d] 37)).kept hg (h5.not_row (by decide) hrow)
          have h5b := h5a.other (B' := w1.heap.size + 1) (by omega) v'
          have hblk : ∀ B, B < W.heap.size → B ≠ w1.heap.size + 1 → (∀ g, v.ownBlock = some g → g ≠ B) → (w4.setCell ⟨w1.heap.size + 1, 0, none⟩ v').heap[B]? = W.heap[B]? := fun B hB1 hB2 hB3 =>
            ((Below.heap_setCell _ _ _ _ hB2).trans (hg.block B (by rw [World.heap_size_alloc]; omega) (fun e => hB3 B e.symm rfl))).trans (Below.heap_alloc _ _ _ hB1)
          have hr3 : (w4.setCell ⟨w1.heap.size + 1, 0, none⟩ v').ownsRow w1.heap.size 37 9 v' (pre ++ [x]).length ((pre ++ [x]).flatMap entCells) := by
            rw [List.length_append, List.flatMap_append]
            simpa using hr2
          refine ⟨⟨⟨⟨⟨v', hv2, hr3, fun g hgv => ?_⟩, h5b⟩, hB.trans (hb2.mono (by omega))⟩, ?_⟩, hk2.from _, ⟨hb2.mono (by omega), hblk _ (by omega) (by omega) (fun g hgv => (hG g hgv).1), hblk _ (by omega) (by omega) (fun g hgv => (hG g hgv).2)⟩, hv1.cell, hv1.frozen, h5b.cell, ?_⟩
          · rcases hat with hat | hat
            · exact hG g (hat.symm.trans hgv)
            · rw [hat] at hgv
              injection hgv with hgv
              omega
          · rw [World.heap_size_setCell]
            omega
          · obtain ⟨A5, c5, e5, _⟩ := Own.sl (zs := (pre ++ [x]).flatMap EntryD.ints) (by
              unfold Own
              rw [← flat_cells]
              exact hr3)
            rw [List.length_append] at e5
            exact ⟨A5, c5, e5⟩)
        have hpl1 : (pre ++ [x]).length = pre.length + 1 := by simp
        have HP1 := Lib.hid hpl1
        obtain ⟨pl, hpl⟩ : ∃ pl, pre.length = pl := ⟨_, rfl⟩
        rw [hpl] at HFIN HP1 hl9 hrow hN
        have hpl20 : pl ≤ 20 := by omega
        have HRW := Lib.hid hrow
        have H1C : Hid (∀ u ∈ entCells x, u.oneCell' = true) := Lib.hid (ints_oneCell .i64 x.ints)
        have HEN := Lib.hid (ent_new W x)
        have HRA := Lib.hid (hrow.alloc (.cells #[.int .i64 x.index, .int .i64 x.time, .int .i64 x.client, .int .i64 x.seq, .int .i64 x.op.kind, .int .i64 x.op.a, .int .i64 x.op.b, .int .i64 x.op.c, .int .i64 x.op.d] 37))
        clear hpl hpl1 hrow hG hX hv h5 hN
        by_cases hq : (pl : Int) + 1 = many
        · have hqb : ((pl : Int) + 1 == many) = true := by simp [hq]
          have HQ := Lib.hid hq
          clear hq
          gi_wp2_with (gi_at_builtin; refine wpListIn_append_own_at _ rfl (.tmp 21) (.tmp 23) 27 rfl w1.heap.size 37 i0 _ 9 _ Try.underlying27 hi0 hz0 hz1 hz2 rfl (by decide) _ _ _ rfl HRA.out ⟨W.heap.size, 0, none⟩ 1 1 (entCells x) rfl rfl HEN.out H1C.out (by unfold maxLen; omega) (by omega) (by (try simp only [World.heap_size_alloc, World.heap_size_drew, World.heap_size_setCell]); omega) ?_; intro v' w4 ho hg _ hat; obtain ⟨hP', hKF', hKb', cc7, cf7, cc5, A5, cA5, rfl⟩ := HFIN.out v' w4 ho hg hat; have HP' := Lib.hid hP'; have HKF := Lib.hid hKF'; have HKB := Lib.hid hKb'; clear ho hg hat hP' hKF' hKb')
          exact ⟨HKF.out, HP'.out, rfl, by rw [HP1.out]; have := HQ.out; omega⟩
        · have hqb : ((pl : Int) + 1 == many) = false := by simpa using hq
          have HQ := Lib.hid hq
          clear hq
          gi_wp2_with (gi_at_builtin; refine wpListIn_append_own_at _ rfl (.tmp 21) (.tmp 23) 27 rfl w1.heap.size 37 i0 _ 9 _ Try.underlying27 hi0 hz0 hz1 hz2 rfl (by decide) _ _ _ rfl HRA.out ⟨W.heap.size, 0, none⟩ 1 1 (entCells x) rfl rfl HEN.out H1C.out (by unfold maxLen; omega) (by omega) (by (try simp only [World.heap_size_alloc, World.heap_size_drew, World.heap_size_setCell]); omega) ?_; intro v' w4 ho hg _ hat; obtain ⟨hP', hKF', hKb', cc7, cf7, cc5, A5, cA5, rfl⟩ := HFIN.out v' w4 ho hg hat; have HP' := Lib.hid hP'; have HKF := Lib.hid hKF'; have HKB := Lib.hid hKb'; clear ho hg hat hP' hKF' hKb')
          exact ⟨HKF.out, HKB.out, HP'.out, by rw [HP1.out]; have := HQ.out; omega⟩
      case done =>
        rintro D ys W hD rfl ⟨hP, hl9⟩ hK
        have hpl : partOfM b t l f many = l.filter (fromP f) := partOf_all HOK.out (by omega)
        have HPL := Lib.hid hpl
        obtain ⟨Av, cv, hv, hs9, hb9⟩ := hP.sl (by omega) (by omega) hK
        have hc7 := hv.cell
        gi_wp2
        refine ⟨by simp, .inl ⟨_, _, rfl, run_takeDeferred hK, ?_⟩⟩
        refine ⟨_, results_tmp rfl _ _ _, ?_⟩
        rw [HPL.out]
        exact ⟨Av, cv, rfl, hs9, hb9⟩
      case stop =>
        rintro D cc pre W hD hp ⟨hP, rfl, hl9⟩ hK
        have hpl : partOfM b t l f many = pre := partOf_prefix HOK.out hp hl9
        have HPL := Lib.hid hpl
        obtain ⟨Av, cv, hv, hs9, hb9⟩ := hP.sl (by omega) (by omega) hK
        have hc7 := hv.cell
        gi_wp2
        refine ⟨by simp, .inl ⟨_, _, rfl, run_takeDeferred hK, ?_⟩⟩
        refine ⟨_, results_tmp rfl _ _ _, ?_⟩
        rw [HPL.out]
        exact ⟨Av, cv, rfl, hs9, hb9⟩

end Go.Proofs.Ytijefbmnhcecmaa
