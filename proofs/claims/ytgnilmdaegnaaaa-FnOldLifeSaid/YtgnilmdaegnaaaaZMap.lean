/- Maps from numbers that a call makes: what they hold, said as a function. No conditions. -/
import Derived.Test.YtgnilmdaegnaaaaZBase
import Derived.Test.YtgnilmdaegnaaaaRows
import Derived.Maps.OwnSet
set_option linter.unusedSimpArgs false
set_option linter.unusedVariables false
namespace Go.Proofs.Ytgnilmdaegnaaaa
open Go.RowKit Go.Maps
/-- Every value, as a datum. -/
def asD (v : Value) : Option (DataW Value × List MemPlace) := some (.held v, [])
/-- Block B is a map from numbers, of at most n entries, that holds f. -/
def IMap (P : Program) (w : World) (K B n : Nat) (f : Int → Option Value) : Prop :=
  ∃ D, w.ownsMap P K asD B n D ∧ ∀ x : Int, (Lit.int .i64 x).wf = true → ∀ z, D.atKey (.int .i64 x) z = match f x with | none => z | some v => .held v
section
variable {P : Program} {w w' : World} {T K E B n : Nat} {f : Int → Option Value}
theorem IMap.made (w : World) (P : Program) (K : Nat) : IMap P (w.alloc (.map #[] 0)) K w.heap.size 0 (fun _ => none) :=
  ⟨_, World.ownsMap_made w P K asD, fun _ _ _ => rfl⟩
theorem IMap.lt (h : IMap P w K B n f) : B < w.heap.size := by obtain ⟨D, h1, _⟩ := h; exact h1.lt
theorem IMap.same (h : IMap P w K B n f) (hb : w'.heap[B]? = w.heap[B]?) : IMap P w' K B n f := by
  obtain ⟨D, ⟨es, clock, h1, h2, h3, h4⟩, h5⟩ := h
  exact ⟨D, ⟨es, clock, hb.trans h1, h2, h3, h4⟩, h5⟩
theorem IMap.kept (h : IMap P w K B n f) (hb : Below w.heap.size w w') : IMap P w' K B n f := h.same (hb.block B h.lt)
theorem IMap.below {C : Nat} (h : IMap P w K B n f) (hb : Below C w w') (hB : B < C) : IMap P w' K B n f := h.same (hb.block B hB)
theorem IMap.upd {lo hi : Nat} (h : IMap P w K B n f) (hu : Upd lo hi w w') (ho : B < lo ∨ hi ≤ B) : IMap P w' K B n f := h.same (hu.block B h.lt ho)
theorem IMap.drew (h : IMap P w K B n f) : IMap P w.drew K B n f := h
theorem IMap.look {z : Value} (h : IMap P w K B n f) (hk : P.underlying K = some (.int .i64)) (ht : P.underlying T = some (.map K E)) (hz : (zeroValue E).run P w = .ok z w) {x : Int} (hx : (Lit.int .i64 x).wf = true) (c : Bool) :
    (Instr.lookup T (.map (some B)) (.int .i64 x) c).run P w = .ok (if c then .tuple #[(f x).getD z, .bool (f x).isSome] else (f x).getD z) w := by
  obtain ⟨D, h1, h2⟩ := h
  have h3 := h2 x hx
  have L : Keyed P K := int_keyed hk
  cases c with
  | false =>
    obtain ⟨v, ps, hrun, hv⟩ := h1.lookup L ht hz (zd := .held z) (zp := []) rfl (keyOf_int_mk hk hx)
    rw [hrun]
    rw [h3] at hv
    cases hf : f x with
    | none => rw [hf] at hv; simp [asD] at hv; simp [hv.1]
    | some u => rw [hf] at hv; simp [asD] at hv; simp [hv.1]
  | true =>
    obtain ⟨v, ps, hrun, hv⟩ := h1.look_ok L ht hz (zd := .held z) (zp := []) rfl (keyOf_int_mk hk hx)
    rw [hrun]
    rw [h3] at hv
    cases hf : f x with
    | none =>
      rw [hf] at hv; simp [asD] at hv
      have : Maps.has D (.int .i64 x) = false := has_false_of_atKey (fun z => by rw [h3, hf])
      simp [hv.1, this]
    | some u =>
      rw [hf] at hv; simp [asD] at hv
      have : Maps.has D (.int .i64 x) = true := has_true_of_atKey (fun z => by rw [h3, hf])
      simp [hv.1, this]
theorem lit_ne {x y : Int} (h : y ≠ x) : Lit.int .i64 y ≠ Lit.int .i64 x := by
  intro e
  injection e with e1 e2
  exact h e2
theorem IMap.put (h : IMap P w K B n f) (hk : P.underlying K = some (.int .i64)) (ht : P.underlying T = some (.map K E)) {x : Int} (hx : (Lit.int .i64 x).wf = true) (v : Value) (hn : n < maxLen) :
    ∃ w', (Instr.mapUpdate T (.map (some B)) (.int .i64 x) v).run P w = .ok () w' ∧ IMap P w' K B (n + 1) (fun y => if y = x then some v else f y) ∧ w.grownBy w' (some B) := by
  obtain ⟨D, h1, h2⟩ := h
  obtain ⟨w', hrun, h3, h4⟩ := h1.store (d := .held v) (ps := []) (val := v) (int_keyed hk) ht hn (keyOf_int_mk hk hx) rfl
  refine ⟨w', hrun, ⟨_, h3, fun y hy z => ?_⟩, h4.grown⟩
  by_cases e : y = x
  · subst e
    simp only [if_true]
    exact atKey_put_same h1.isMap ((int_keyed hk).key (keyOf_int_mk hk hy)) _ _
  · rw [atKey_put_other (lit_ne e), h2 y hy]
    simp [e]
theorem IMap.del (h : IMap P w K B n f) (hk : P.underlying K = some (.int .i64)) (ht : P.underlying T = some (.map K E)) {x : Int} (hx : (Lit.int .i64 x).wf = true) (ty : TypeId) :
    ∃ w', (Builtin.delete_ #[T, K] ty #[.map (some B), .int .i64 x]).run P w = .ok (.tuple #[]) w' ∧ IMap P w' K B n (fun y => if y = x then none else f y) ∧ w.grownBy w' (some B) := by
  obtain ⟨D, h1, h2⟩ := h
  obtain ⟨w', hrun, h3, h4⟩ := h1.drop (int_keyed hk) ht (keyOf_int_mk hk hx) ty
  refine ⟨w', hrun, ⟨_, h3, fun y hy z => ?_⟩, h4.grown⟩
  by_cases e : y = x
  · subst e
    simp only [if_true]
    exact atKey_del_same _
  · rw [atKey_del_other (lit_ne e), h2 y hy]
    simp [e]
end
theorem grownBy_below {w w' : World} {B C : Nat} (h : w.grownBy w' (some B)) (h1 : C ≤ B) (h2 : C ≤ w.heap.size) : Below C w w' :=
  (Below.refl C w).grown h h2 (fun g e => by cases e; exact h1)
theorem wf64 {x : Int} (h1 : -9223372036854775808 ≤ x) (h2 : x ≤ 9223372036854775807) : (Lit.int .i64 x).wf = true := WalkArith.wf_i64 (by omega)
section
variable {P : Program} {ops : Array Oper} {rest : List Oper} {o : Oper} {a : Act} {Q : Exit → Act → World → Prop} {w : World} {T K E B n : Nat} {f : Int → Option Value}
theorem wpList_put (hg : o.guard = none) (m x v : Operand) (hop : o.op = Op.mapUpdate T m x v) {u : Value} {k : Int} (h : IMap P w K B n f) (hk : P.underlying K = some (.int .i64)) (ht : P.underlying T = some (.map K E)) (hn : n < 1000000)
    (hm : a.eval m = .map (some B)) (hx : a.eval x = .int .i64 k) (hv : a.eval v = u) (hw : (Lit.int .i64 k).wf = true)
    (hK : ∀ w', IMap P w' K B (n + 1) (fun y => if y = k then some u else f y) → w.grownBy w' (some B) → wpList P ops Q rest (a.put o.dst undef) w') : wpList P ops Q (o :: rest) a w := by
  refine wpList_plain hg fun K' hK' => ?_
  obtain ⟨w', hrun, h1, h2⟩ := h.put (T := T) hk ht hw u (by unfold maxLen; omega)
  unfold Oper.wp
  simp [execOp, hop, hm, hx, hv, hrun, Result.andThen]
  exact hK' _ _ (hK w' h1 h2)
theorem wpList_del (hg : o.guard = none) (m x : Operand) (hop : o.op = Op.call { callee := Callee.builtin Builtin.delete, args := #[m, x], argTypes := #[T, K] }) {k : Int} (h : IMap P w K B n f) (hk : P.underlying K = some (.int .i64)) (ht : P.underlying T = some (.map K E))
    (hm : a.eval m = .map (some B)) (hx : a.eval x = .int .i64 k) (hw : (Lit.int .i64 k).wf = true)
    (hK : ∀ w', IMap P w' K B n (fun y => if y = k then none else f y) → w.grownBy w' (some B) → wpList P ops Q rest (a.put o.dst (.tuple #[])) w') : wpList P ops Q (o :: rest) a w := by
  refine wpList_plain hg fun K' hK' => ?_
  obtain ⟨w', hrun, h1, h2⟩ := h.del (T := T) hk ht hw o.type
  unfold Oper.wp
  simp [execOp, hop, resolve, invoke, builtin, hm, hx, hrun, Result.andThen]
  exact hK' _ _ (hK w' h1 h2)
end
end Go.Proofs.Ytgnilmdaegnaaaa
