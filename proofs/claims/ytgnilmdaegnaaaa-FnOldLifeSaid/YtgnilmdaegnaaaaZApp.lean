/- append onto a row of the call's own, its source a slice of numbers that may be nil or empty. No conditions. -/
import Derived.Test.YtgnilmdaegnaaaaZPost
import Derived.RegionTactic
import Derived.OwnWalk
import Derived.Deep.RegionHeld3
set_option linter.unusedSimpArgs false
set_option linter.unusedVariables false
namespace Go.Proofs.Ytgnilmdaegnaaaa
open Go.RowKit
/-- The value v is a row of the call's own that holds zs. -/
def Own (w : World) (base e k : Nat) (v : Value) (n : Nat) (zs : List Int) : Prop := w.ownsRow base e k v n (zs.map (Value.int .i64))
theorem Own.sl {w : World} {base e k : Nat} {v : Value} {n : Nat} {zs : List Int} (h : Own w base e k v n zs) : ∃ A c, v = .slice A n c ∧ Sl w base w.heap.size k A n c zs := Sl.of_own h
theorem Own.nil (w : World) (base e k : Nat) : Own w base e k (.slice none 0 0) 0 [] := World.ownsRow_nil w base e k
theorem Own.new (w : World) {base : Nat} (e k : Nat) (zs : List Int) {n : Nat} (hn : zs.length = n * k) (hb : base ≤ w.heap.size) (h : n ≤ 1048576) :
    Own (w.alloc (.cells (zs.map (Value.int .i64)).toArray e)) base e k (.slice (some ⟨w.heap.size, 0, none⟩) n n) n zs := by
  refine ⟨by simpa using hn, .inr ⟨w.heap.size, n, _, rfl, hb, heap_alloc_new w _, Nat.le_refl _, by unfold maxLen; omega, by simpa using hn, ?_⟩⟩
  rw [List.take_of_length_le (by simp; omega)]
theorem Own.lt {w : World} {base e k : Nat} {v : Value} {n : Nat} {zs : List Int} (h : Own w base e k v n zs) : ∀ g, v.ownBlock = some g → base ≤ g ∧ g < w.heap.size := World.ownsRow.lt h
theorem Own.kept {w w' : World} {base e k : Nat} {v : Value} {n : Nat} {zs : List Int} (h : Own w base e k v n zs) (hb : Below w.heap.size w w') : Own w' base e k v n zs := by
  refine ⟨h.1, ?_⟩
  rcases h.2 with hn | ⟨g, cap, cur, hv, hg, hh, r⟩
  · exact .inl hn
  · exact .inr ⟨g, cap, cur, hv, hg, by rw [hb.block g (Array.getElem?_eq_some_iff.1 hh).1]; exact hh, r⟩
section
variable {P : Program} (w : World)
theorem run_append_sl (base : Nat) (t ty e : TypeId) {z : Value} {k bytes : Nat} (ht : P.underlying t = some (.slice e)) (hi : (P.info? e).map (fun i => (i.zero, i.size, i.bytes)) = some (some z, k, bytes)) (hzs : z.cells.size = k) (hk : 0 < k)
    (v : Value) (n : Nat) (zs : List Int) (hown : Own w base e k v n zs) (A : Option Addr) (m c lo hi' : Nat) (ys : List Int) (hr : Sl w lo hi' k A m c ys)
    (h63 : n + m ≤ 17179869184) (hb : bytes ≤ 4096) (hbase : base ≤ w.heap.size) :
    ∃ v' w', (Builtin.append_ #[t, t] ty #[v, .slice A m c]).run P w = .ok v' w' ∧ Own w' base e k v' (n + m) (zs ++ ys) ∧ w.grownBy w' v.ownBlock ∧ (v'.ownBlock = v.ownBlock ∨ v'.ownBlock = some w.heap.size) := by
  obtain ⟨i, h1, h2, h3, h4⟩ := info_parts hi
  have hbytes : (n + m) * bytes ≤ 140737488355328 := by
    have := Nat.mul_le_mul h63 hb
    omega
  by_cases hm : 0 < m
  · obtain ⟨g, off, rfl, _, _, hI⟩ := hr.lie hm
    have hcells : ∀ j u, (ys.map (Value.int .i64))[j]? = some u → w.cell? ((⟨g, off, none⟩ : Addr).add j) = some u := fun j u hu => by
      rw [Addr.add_mid]
      rw [List.getElem?_map] at hu
      obtain ⟨y, hy, rfl⟩ := Option.map_eq_some_iff.1 hu
      exact (hI j y hy).1
    obtain ⟨v', w', hrun, ho, hg, _, hat⟩ := run_append_own_at (P := P) w base t ty e i z k bytes ht h1 h2 h3 h4 hzs hk v n (zs.map (Value.int .i64)) hown ⟨g, off, none⟩ m c (ys.map (Value.int .i64)) (by simpa using hr.len) hcells (ints_oneCell _ _) (by unfold maxLen; omega) hbytes hbase
    exact ⟨v', w', hrun, by unfold Own; rw [List.map_append]; exact ho, hg, hat⟩
  · obtain rfl : m = 0 := by omega
    have hy : ys = [] := List.eq_nil_of_length_eq_zero (by simpa using hr.len)
    subst hy
    refine ⟨v, w, ?_, by simpa using hown, World.grownBy.refl w _, .inl rfl⟩
    rcases hown.2 with ⟨rfl, rfl⟩ | ⟨g, cap, cur, rfl, _, _, hnc, _⟩
    · cases A <;> simp [Builtin.append_, run_underlying ht, sizeOf, typeInfo, h1, Builtin.lenOf, Builtin.firstCells, loadCells, loadCellsFrom]
    · cases A <;> simp [Builtin.append_, run_underlying ht, sizeOf, typeInfo, h1, Builtin.lenOf, Builtin.firstCells, loadCells, loadCellsFrom, hnc, storeCells]
theorem wp_append_sl {o : Oper} {a : Act} {K : Act → World → Prop} {Q : Exit → Act → World → Prop} (s x : Operand) (t : TypeId)
    (ho : o.op = .call { callee := .builtin .append, args := #[s, x], argTypes := #[t, t] })
    (base : Nat) (e : TypeId) {z : Value} {k bytes : Nat} (ht : P.underlying t = some (.slice e)) (hi : (P.info? e).map (fun i => (i.zero, i.size, i.bytes)) = some (some z, k, bytes)) (hzs : z.cells.size = k) (hk : 0 < k)
    (v : Value) (n : Nat) (zs : List Int) (hs : a.eval s = v) (hown : Own w base e k v n zs) (A : Option Addr) (m c lo hi' : Nat) (ys : List Int) (hx : a.eval x = .slice A m c) (hr : Sl w lo hi' k A m c ys)
    (h63 : n + m ≤ 17179869184) (hb : bytes ≤ 4096) (hbase : base ≤ w.heap.size)
    (h : ∀ v' w', Own w' base e k v' (n + m) (zs ++ ys) → w.grownBy w' v.ownBlock → (v'.ownBlock = v.ownBlock ∨ v'.ownBlock = some w.heap.size) → K (a.put o.dst v') w') : o.wp P a w K Q := by
  obtain ⟨v', w', hrun, h2, h3, h4⟩ := run_append_sl (P := P) w base t o.type e ht hi hzs hk v n zs hown A m c lo hi' ys hr h63 hb hbase
  unfold Oper.wp execOp
  simp only [ho, resolve, invoke, builtin, Sem.run_bind, Sem.run_pure, Result.andThen_ok, List.map_toArray, List.map_cons, List.map_nil, hs, hx, hrun]
  exact h v' w' h2 h3 h4
theorem wpList_append_sl {ops : Array Oper} {rest : List Oper} {o : Oper} {a : Act} {Q : Exit → Act → World → Prop} (hgd : o.guard = none) (s x : Operand) (t : TypeId)
    (ho : o.op = .call { callee := .builtin .append, args := #[s, x], argTypes := #[t, t] })
    (base : Nat) (e : TypeId) {z : Value} {k bytes : Nat} (ht : P.underlying t = some (.slice e)) (hi : (P.info? e).map (fun i => (i.zero, i.size, i.bytes)) = some (some z, k, bytes)) (hzs : z.cells.size = k) (hk : 0 < k)
    (v : Value) (n : Nat) (zs : List Int) (hs : a.eval s = v) (hown : Own w base e k v n zs) (A : Option Addr) (m c lo hi' : Nat) (ys : List Int) (hx : a.eval x = .slice A m c) (hr : Sl w lo hi' k A m c ys)
    (h63 : n + m ≤ 17179869184) (hb : bytes ≤ 4096) (hbase : base ≤ w.heap.size)
    (h : ∀ v' w', Own w' base e k v' (n + m) (zs ++ ys) → w.grownBy w' v.ownBlock → (v'.ownBlock = v.ownBlock ∨ v'.ownBlock = some w.heap.size) → wpList P ops Q rest (a.put o.dst v') w') : wpList P ops Q (o :: rest) a w :=
  wpList_plain hgd fun _ hK => wp_append_sl w s x t ho base e ht hi hzs hk v n zs hs hown A m c lo hi' ys hx hr h63 hb hbase fun v' w' h2 h3 h4 => hK _ _ (h v' w' h2 h3 h4)
theorem step_append_sl {ops : Array Oper} {o : Oper} {a : Act} {K : Act → World → Prop} {Q : Exit → Act → World → Prop} {E : Prop} (hgd : o.guard = none) (s x : Operand) (t : TypeId)
    (ho : o.op = .call { callee := .builtin .append, args := #[s, x], argTypes := #[t, t] })
    (base : Nat) (e : TypeId) {z : Value} {k bytes : Nat} (ht : P.underlying t = some (.slice e)) (hi : (P.info? e).map (fun i => (i.zero, i.size, i.bytes)) = some (some z, k, bytes)) (hzs : z.cells.size = k) (hk : 0 < k)
    (v : Value) (n : Nat) (zs : List Int) (hs : a.eval s = v) (hown : Own w base e k v n zs) (A : Option Addr) (m c lo hi' : Nat) (ys : List Int) (hx : a.eval x = .slice A m c) (hr : Sl w lo hi' k A m c ys)
    (h63 : n + m ≤ 17179869184) (hb : bytes ≤ 4096) (hbase : base ≤ w.heap.size)
    (h : ∀ v' w', Own w' base e k v' (n + m) (zs ++ ys) → w.grownBy w' v.ownBlock → (v'.ownBlock = v.ownBlock ∨ v'.ownBlock = some w.heap.size) → K (a.put o.dst v') w') :
    if Region.wanted o (yielded ops a.tmps) = true then Oper.wp P o a w K Q else E := by
  have hw : Region.wanted o (yielded ops a.tmps) = true := by simp [Region.wanted, hgd]
  rw [if_pos hw]
  exact wp_append_sl w s x t ho base e ht hi hzs hk v n zs hs hown A m c lo hi' ys hx hr h63 hb hbase h
end
theorem grown_below {w w' : World} {v : Value} {base : Nat} (hg : w.grownBy w' v.ownBlock) (hb : base ≤ w.heap.size) (h : ∀ g, v.ownBlock = some g → base ≤ g) : Below base w w' :=
  (Below.refl base w).grown hg hb h
end Go.Proofs.Ytgnilmdaegnaaaa
