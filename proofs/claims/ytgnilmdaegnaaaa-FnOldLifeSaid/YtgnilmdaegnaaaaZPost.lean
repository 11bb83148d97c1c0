/- From the walk of a law to its row: the answer is true and the arguments read as before; arguments that are numbers, structs and slices of numbers, opened. No conditions. -/
import Derived.Test.YtgnilmdaegnaaaaZBase
import Derived.ProofKit
import Derived.Deep.Slices
set_option linter.unusedSimpArgs false
set_option linter.unusedVariables false
namespace Go.Proofs.Ytgnilmdaegnaaaa
open Go.ChangeShapes Go.WideShapes Go.ChangeAt Go.RowKit
section
variable {H : Type} {enc : TypeId × Value → H} {P : Program}
theorem trodAll_below (hl : laidOutB P = true) {W W' : World} (hb : Below W.heap.size W W') : ∀ (ts : List TypeId) (vs : List Value) (ds : List (DataW H)) (ps : List MemPlace),
    ts.all (fun t => P.readableRec t && decide (t < P.types.size)) = true → (∀ p ∈ ps, p.block < W.heap.size) →
    DataW.TrodAll enc P W 0 (fun _ => true) true ts vs ds ps → DataW.TrodAll enc P W' 0 (fun b => decide (b < W.heap.size)) true ts vs ds ps
  | [], [], [], ps, _, _, h => h
  | t :: ts, v :: vs, d :: ds, ps, hr, hp, h => by
    obtain ⟨p, q, h1, h2, rfl⟩ := h
    simp only [List.all_cons, Bool.and_eq_true, decide_eq_true_eq] at hr
    exact ⟨p, q, Below.trod hl hr.1.1 hr.1.2 h1 hb (fun x hx => hp x (List.mem_append_left _ hx)), trodAll_below hl hb ts vs ds q hr.2 (fun x hx => hp x (List.mem_append_right _ hx)) h2, rfl⟩
  | [], _ :: _, _, _, _, _, h => h.elim
  | [], [], _ :: _, _, _, _, h => h.elim
  | _ :: _, [], _, _, _, _, h => h.elim
  | _ :: _, _ :: _, [], _, _, _, h => h.elim
theorem law_post {f : Func} {s : ChangeSpec} {T : TypeId} (hl : laidOutB P = true) (hr : f.params.toList.all (fun t => P.readableRec t && decide (t < P.types.size)) = true)
    (hres : f.resultTypes = #[T]) (hT : P.underlying T = some .bool) (hvars : s.vars = []) {W W' : World} {args : Array Value} {ds gs : List (DataW H)} {before : List MemPlace}
    (hW : DataW.Whole enc P f.params.toList s.vars false W args.toList ds gs before) (hb : Below W.heap.size W W')
    (hs1 : (s.fn H (ds ++ gs)).results = [.lit (.bool true)]) (hs2 : (s.fn H (ds ++ gs)).args = ds) (hs3 : (s.fn H (ds ++ gs)).vars = []) :
    s.post enc P f false true false false W args (.bool true) W' := by
  have hlt : ∀ p ∈ before, p.block < W.heap.size := fun p hp => hW.lt p hp
  have hW' := hW
  obtain ⟨p, q, hA, hV, rfl, hz, hn⟩ := hW
  refine ⟨ds, gs, _, [], p, [], hW', ?_, ?_, ?_, World.keptBut_mono (fun x hx => ⟨hx, .inr (.inl ?_)⟩) (hb.frame (· ∈ p ++ q)), fun h => by cases h⟩
  · rw [hs1, hres]
    exact trodAll_mk1 (shut_bool hT _)
  · rw [hs2]
    exact trodAll_below hl hb _ _ _ _ hr (fun x hx => hlt x (List.mem_append_left _ hx)) hA
  · rw [hs3, hvars]
    rfl
  · rw [hvars] at hV
    obtain ⟨_, rfl⟩ := trodVars_none hV
    simpa using hx
/-- The slice '.slice A n c' that came in: n elements of k numbers each; it holds zs. -/
structure ArgSl (w : World) (k : Nat) (A : Option Addr) (n c : Nat) (zs : List Int) : Prop where
  len : zs.length = n * k
  cap : n ≤ c
  big : c ≤ 9223372036854775807
  lie : 0 < n → ∃ a : Addr, A = some a ∧ a.block < w.heap.size ∧ ∀ j z, zs[j]? = some z → w.cell? (a.add j) = some (.int .i64 z)
theorem add_block (a : Addr) (j : Nat) : (a.add j).block = a.block := by unfold Addr.add; split <;> rfl
theorem ArgSl.below {w w' : World} {k : Nat} {A : Option Addr} {n c : Nat} {zs : List Int} (h : ArgSl w k A n c zs) (hb : Below w.heap.size w w') : ArgSl w' k A n c zs :=
  ⟨h.len, h.cap, h.big, fun hn => by
    obtain ⟨a, e, h1, h2⟩ := h.lie hn
    exact ⟨a, e, Nat.lt_of_lt_of_le h1 hb.size, fun j z hz => (hb.cell (p := a.add j) (by rw [add_block]; exact h1)).trans (h2 j z hz)⟩⟩
end
theorem list9 {α : Type} : ∀ {l : List α}, l.length = 9 → ∃ a b c d e f g h i, l = [a, b, c, d, e, f, g, h, i]
  | [a, b, c, d, e, f, g, h, i], _ => ⟨a, b, c, d, e, f, g, h, i, rfl⟩
/-- A call's answer is a slice in new memory that holds zs. -/
def SlRes (w : World) (k n : Nat) (zs : List Int) (e : Ending) (w' : World) : Prop :=
  ∃ A c, e = .returned (.slice A n c) ∧ Sl w' w.heap.size w'.heap.size k A n c zs ∧ Below w.heap.size w w'
/-- A new row of m zeros. -/
def zeroRow (m : Nat) : Array Value := ((List.replicate m (0 : Int)).map (.int .i64)).toArray
theorem made_zero (m : Nat) (z : Array Value) (hz : ∀ j, j < z.size → z[j]! = .int .i64 0) (hk : 0 < z.size) : madeCells z m = zeroRow m := by
  apply Array.ext'
  apply List.ext_getElem
  · simp [madeCells, zeroRow]
  · intro i h1 h2
    simp [madeCells, zeroRow]
    exact hz _ (Nat.mod_lt _ hk)
theorem ints_zeroRow (w : World) (E m : Nat) : Ints (w.alloc (.cells (zeroRow m) E)) w.heap.size 0 (List.replicate m 0) := by
  intro j x hx
  refine ⟨?_, by simp⟩
  rw [World.cell?_alloc_new, Nat.zero_add]
  rw [zeroRow, List.getElem?_toArray, List.getElem?_map, hx]
  rfl
theorem run_make_n {P : Program} {t e : TypeId} {z : Value} {k bytes : Nat} (ht : P.underlying t = some (.slice e)) (hi : (P.info? e).map (fun i => (i.zero, i.size, i.bytes)) = some (some z, k, bytes))
    (hz : z.cells = ((List.replicate k (0 : Int)).map (Value.int .i64)).toArray) (hz0 : 0 < k) (n : Nat) (hb : bytes * n ≤ 281474976710656) (hn : n ≤ 9223372036854775807) (w : World) :
    (Instr.makeSlice t (.int .i64 (n : Int)) (.int .i64 (n : Int))).run P w = .ok (.slice (some ⟨w.heap.size, 0, none⟩) n n) (w.alloc (.cells (zeroRow (n * k)) e)) := by
  obtain ⟨i, h1, h2, h3, h4⟩ := info_parts hi
  have hb' : (i.bytes : Int) * (n : Int) ≤ 281474976710656 := by
    have h : ((i.bytes * n : Nat) : Int) ≤ 281474976710656 := by rw [h4]; omega
    rwa [Int.natCast_mul] at h
  have hr := run_make (P := P) w t e i z ht h1 h2 .i64 .i64 n n (by omega) (by omega) hb' (by omega)
  simp only [Int.toNat_natCast] at hr
  rw [hr, h3, made_zero _ _ (fun j hj => by
    rw [hz] at hj ⊢
    simp at hj
    simp [hj]) (by rw [hz]; simpa using hz0)]
def ToRel (w : World) (g k n : Nat) (zs : List Int) (i : Value) (wr : World) : Prop :=
  ∃ m ys, m ≤ n ∧ i = .int .i64 (m : Nat) ∧ ys.length = n * k ∧ Ints wr g 0 ys ∧ (∀ j, j < m * k → ys[j]? = zs[j]?) ∧ Below w.heap.size w wr ∧ g < wr.heap.size
theorem ToRel.step {w wr w1 : World} {g k n m : Nat} {zs ys new : List Int} (hlt : m < n) (hy : ys.length = n * k) (hI : Ints wr g 0 ys) (hz : ∀ j, j < m * k → ys[j]? = zs[j]?) (hb : Below w.heap.size w wr) (hg : g < wr.heap.size)
    (hw : w.heap.size ≤ g) (b1 : Below wr.heap.size wr w1) (hx : (zs.drop (m * k)).take k = new) (hn : new.length = k) {i : Value} (hi : i = .int .i64 ((m + 1 : Nat) : Int)) :
    ToRel w g k n zs i (w1.setCells g (m * k) (new.map (Value.int .i64))) := by
  have hmk : m * k + k ≤ n * k := by
    have h := Nat.mul_le_mul_right k (show m + 1 ≤ n from hlt)
    rw [Nat.add_mul] at h
    omega
  have hI1 := hI.below b1 hg
  have hs := hI1.sets (m * k) new (by omega)
  rw [Nat.zero_add] at hs
  refine ⟨m + 1, _, hlt, hi, ?_, hs, fun j hj => ?_, ?_, ?_⟩
  · simp only [List.length_append, List.length_take, List.length_drop]; omega
  · rw [Nat.add_mul, Nat.one_mul] at hj
    have hlen : (ys.take (m * k)).length = m * k := by rw [List.length_take]; omega
    by_cases h1 : j < m * k
    · rw [List.append_assoc, List.getElem?_append_left (by omega), List.getElem?_take, if_pos h1]
      exact hz j h1
    · rw [List.append_assoc, List.getElem?_append_right (by omega), List.getElem?_append_left (by omega), ← hx, List.getElem?_take, if_pos (by omega), List.getElem?_drop]
      congr 1
      omega
  · have hk : ∀ (vs : List Value) (o : Nat) (u : World), w.heap.size ≤ u.heap.size → Below w.heap.size u (u.setCells g o vs) := by
      intro vs
      induction vs with
      | nil => intro o u _; exact Below.refl _ _
      | cons v vs ih =>
        intro o u hu
        show Below _ u ((u.setCell ⟨g, o, none⟩ v).setCells g (o + 1) vs)
        exact ((Below.refl _ _).setCell hw v).trans (ih _ _ (by rw [World.heap_size_setCell]; exact hu))
    exact (hb.trans (b1.mono hb.size)).trans (hk _ _ _ (Nat.le_trans hb.size b1.size))
  · have hk : ∀ (vs : List Value) (o : Nat) (u : World), (u.setCells g o vs).heap.size = u.heap.size := by
      intro vs
      induction vs with
      | nil => intro o u; rfl
      | cons v vs ih =>
        intro o u
        show ((u.setCell ⟨g, o, none⟩ v).setCells g (o + 1) vs).heap.size = _
        rw [ih, World.heap_size_setCell]
    rw [hk]
    exact Nat.lt_of_lt_of_le hg b1.size
theorem setCells_upd {lo hi g : Nat} (h1 : lo ≤ g) (h2 : g < hi) : ∀ (vs : List Value) (o : Nat) (u : World), Upd lo hi u (u.setCells g o vs)
  | [], o, u => Upd.refl _ _ _
  | v :: vs, o, u => ((Upd.refl lo hi u).setCell (p := ⟨g, o, none⟩) h1 h2 v).trans (setCells_upd h1 h2 vs (o + 1) _)
/-- The first m rows of a slice bear the numbers from k on. -/
def MarkRel (w : World) (lo hi g off k n : Nat) (q0 : Int) (q i : Value) (wr : World) : Prop :=
  ∃ (m : Nat) (x : Int) (ys : List Int), m ≤ n ∧ i = .int .i64 (m : Nat) ∧ q = .int .i64 x ∧ x = q0 + ((m * k : Nat) : Int) ∧ ys.length = n * k ∧ Ints wr g off ys ∧ (∀ j, j < m * k → ys[j]? = some (q0 + (j : Nat))) ∧ Upd lo hi w wr
theorem MarkRel.step {w wr : World} {lo hi g off k n m : Nat} {q0 x : Int} {ys new : List Int} (hlt : m < n) (hx : x = q0 + ((m * k : Nat) : Int)) (hy : ys.length = n * k) (hI : Ints wr g off ys) (hz : ∀ j, j < m * k → ys[j]? = some (q0 + (j : Nat)))
    (hu : Upd lo hi w wr) (h1 : lo ≤ g) (h2 : g < hi) (hn : new.length = k) (hnew : ∀ r z, new[r]? = some z → z = x + (r : Nat)) {q i : Value} (hii : i = .int .i64 ((m + 1 : Nat) : Int)) (hq : q = .int .i64 (x + (k : Nat))) :
    MarkRel w lo hi g off k n q0 q i (wr.setCells g (off + m * k) (new.map (Value.int .i64))) := by
  have hmk : m * k + k ≤ n * k := by
    have h := Nat.mul_le_mul_right k (show m + 1 ≤ n from hlt)
    rw [Nat.add_mul] at h
    omega
  have hs := hI.sets (m * k) new (by omega)
  refine ⟨m + 1, x + (k : Nat), _, hlt, hii, hq, ?_, ?_, hs, fun j hj => ?_, hu.trans (setCells_upd h1 h2 _ _ _)⟩
  · rw [hx, Nat.add_mul, Nat.one_mul, Int.natCast_add, Int.add_assoc]
  · simp only [List.length_append, List.length_take, List.length_drop]; omega
  · rw [Nat.add_mul, Nat.one_mul] at hj
    have hlen : (ys.take (m * k)).length = m * k := by rw [List.length_take]; omega
    by_cases hj1 : j < m * k
    · rw [List.append_assoc, List.getElem?_append_left (by omega), List.getElem?_take, if_pos hj1]
      exact hz j hj1
    · rw [List.append_assoc, List.getElem?_append_right (by omega), List.getElem?_append_left (by omega), hlen, List.getElem?_eq_getElem (by omega)]
      have h3 := hnew (j - m * k) _ (List.getElem?_eq_getElem (by omega))
      rw [h3, hx]
      congr 1
      omega
theorem ints_new (w : World) (E : TypeId) (zs : List Int) : Ints (w.alloc (.cells (zs.map (Value.int .i64)).toArray E)) w.heap.size 0 zs := by
  intro j x hx
  refine ⟨?_, by simp⟩
  rw [World.cell?_alloc_new, Nat.zero_add, List.getElem?_toArray, List.getElem?_map, hx]
  rfl
theorem SlRes.new {w w0 : World} {g n : Nat} (hb : Below w.heap.size w w0) (hg : g = w0.heap.size) (zs : List Int) (E : TypeId) (hn : zs.length = n) (hn1 : n ≤ 1048576) :
    SlRes w 1 n zs (.returned (.slice (some ⟨g, 0, none⟩) n n)) (w0.alloc (.cells (zs.map (Value.int .i64)).toArray E)) := by
  subst hg
  exact ⟨_, _, rfl, ⟨by omega, Nat.le_refl _, by omega, fun _ => ⟨_, 0, rfl, hb.size, by simp, ints_new w0 E zs⟩⟩, hb.alloc hb.size _⟩
theorem SlRes.none {w w' : World} (hb : Below w.heap.size w w') (k : Nat) (A : Option Addr) (c : Nat) (hc : c ≤ 9223372036854775807) : SlRes w k 0 [] (.returned (.slice A 0 c)) w' :=
  ⟨A, c, rfl, Sl.nil _ _ _ _ _ _ hc, hb⟩
end Go.Proofs.Ytgnilmdaegnaaaa
