/- Disks: rows of values that grow by append; copies of rows. No conditions. -/
import Derived.Test.YtgnilmdaegnaaaaZDk4
import Derived.Test.YtgnilmdaegnaaaaZApp
set_option linter.unusedSimpArgs false
set_option linter.unusedVariables false
namespace Go.Proofs.Ytgnilmdaegnaaaa
open Go.RowKit
/-- The value v is a row of the call's own that holds the values vs. -/
def OwnV (w : World) (base e k : Nat) (v : Value) (n : Nat) (vs : List Value) : Prop := w.ownsRow base e k v n vs
theorem OwnV.nil (w : World) (base e k : Nat) : OwnV w base e k (.slice none 0 0) 0 [] := World.ownsRow_nil w base e k
theorem OwnV.made (w : World) {base : Nat} (e k : Nat) (cur : Array Value) (cap : Nat) (hb : base ≤ w.heap.size) (hm : cap ≤ 1048576) (hs : cur.size = cap * k) :
    OwnV (w.alloc (.cells cur e)) base e k (.slice (some ⟨w.heap.size, 0, none⟩) 0 cap) 0 [] := by
  refine ⟨by simp, .inr ⟨w.heap.size, cap, cur, rfl, hb, heap_alloc_new w _, Nat.zero_le _, by unfold maxLen; omega, hs, by simp⟩⟩
theorem OwnV.lt {w : World} {base e k : Nat} {v : Value} {n : Nat} {vs : List Value} (h : OwnV w base e k v n vs) : ∀ g, v.ownBlock = some g → base ≤ g ∧ g < w.heap.size := World.ownsRow.lt h
theorem OwnV.kept {w w' : World} {base e k : Nat} {v : Value} {n : Nat} {vs : List Value} (h : OwnV w base e k v n vs) (hb : Below w.heap.size w w') : OwnV w' base e k v n vs := by
  refine ⟨h.1, ?_⟩
  rcases h.2 with hn | ⟨g, cap, cur, hv, hg, hh, r⟩
  · exact .inl hn
  · exact .inr ⟨g, cap, cur, hv, hg, by rw [hb.block g (Array.getElem?_eq_some_iff.1 hh).1]; exact hh, r⟩
theorem OwnV.upd {w w' : World} {lo hi base e k : Nat} {v : Value} {n : Nat} {vs : List Value} (h : OwnV w base e k v n vs) (hu : Upd lo hi w w') (ho : ∀ g, v.ownBlock = some g → g < lo ∨ hi ≤ g) : OwnV w' base e k v n vs := by
  refine ⟨h.1, ?_⟩
  rcases h.2 with hn | ⟨g, cap, cur, hv, hg, hh, r⟩
  · exact .inl hn
  · exact .inr ⟨g, cap, cur, hv, hg, by rw [hu.block g (Array.getElem?_eq_some_iff.1 hh).1 (ho g (by rw [hv]; rfl))]; exact hh, r⟩
section
variable {P : Program} (w : World)
theorem run_append_v (base : Nat) (t ty e : TypeId) {z : Value} {k bytes : Nat} (ht : P.underlying t = some (.slice e)) (hi : (P.info? e).map (fun i => (i.zero, i.size, i.bytes)) = some (some z, k, bytes)) (hzs : z.cells.size = k) (hk : 0 < k)
    (v : Value) (n : Nat) (vs : List Value) (hown : OwnV w base e k v n vs) (g off : Nat) (m c : Nat) (us : List Value) (hl : us.length = m * k) (hr : ∀ (j : Nat) u, us[j]? = some u → w.cell? ⟨g, off + j, none⟩ = some u) (h1 : ∀ u ∈ us, u.oneCell' = true)
    (h63 : n + m ≤ 17179869184) (hb : bytes ≤ 4096) (hbase : base ≤ w.heap.size) :
    ∃ v' w', (Builtin.append_ #[t, t] ty #[v, .slice (some ⟨g, off, none⟩) m c]).run P w = .ok v' w' ∧ OwnV w' base e k v' (n + m) (vs ++ us) ∧ w.grownBy w' v.ownBlock ∧ (v'.ownBlock = v.ownBlock ∨ v'.ownBlock = some w.heap.size) := by
  obtain ⟨i, q1, q2, q3, q4⟩ := info_parts hi
  have hbytes : (n + m) * bytes ≤ 140737488355328 := by
    have := Nat.mul_le_mul h63 hb
    omega
  have hcells : ∀ j u, us[j]? = some u → w.cell? ((⟨g, off, none⟩ : Addr).add j) = some u := fun j u hu => by
    rw [Addr.add_mid]
    exact hr j u hu
  obtain ⟨v', w', hrun, ho, hg, _, hat⟩ := run_append_own_at (P := P) w base t ty e i z k bytes ht q1 q2 q3 q4 hzs hk v n vs hown ⟨g, off, none⟩ m c us hl hcells h1 (by unfold maxLen; omega) hbytes hbase
  exact ⟨v', w', hrun, ho, hg, hat⟩
theorem wp_append_v {o : Oper} {a : Act} {K : Act → World → Prop} {Q : Exit → Act → World → Prop} (s x : Operand) (t : TypeId)
    (ho : o.op = .call { callee := .builtin .append, args := #[s, x], argTypes := #[t, t] })
    (base : Nat) (e : TypeId) {z : Value} {k bytes : Nat} (ht : P.underlying t = some (.slice e)) (hi : (P.info? e).map (fun i => (i.zero, i.size, i.bytes)) = some (some z, k, bytes)) (hzs : z.cells.size = k) (hk : 0 < k)
    (v : Value) (n : Nat) (vs : List Value) (hs : a.eval s = v) (hown : OwnV w base e k v n vs) (g off : Nat) (m c : Nat) (us : List Value) (hx : a.eval x = .slice (some ⟨g, off, none⟩) m c) (hl : us.length = m * k) (hr : ∀ (j : Nat) u, us[j]? = some u → w.cell? ⟨g, off + j, none⟩ = some u) (h1 : ∀ u ∈ us, u.oneCell' = true)
    (h63 : n + m ≤ 17179869184) (hb : bytes ≤ 4096) (hbase : base ≤ w.heap.size)
    (h : ∀ v' w', OwnV w' base e k v' (n + m) (vs ++ us) → w.grownBy w' v.ownBlock → (v'.ownBlock = v.ownBlock ∨ v'.ownBlock = some w.heap.size) → K (a.put o.dst v') w') : o.wp P a w K Q := by
  obtain ⟨v', w', hrun, h2, h3, h4⟩ := run_append_v (P := P) w base t o.type e ht hi hzs hk v n vs hown g off m c us hl hr h1 h63 hb hbase
  unfold Oper.wp execOp
  simp only [ho, resolve, invoke, builtin, Sem.run_bind, Sem.run_pure, Result.andThen_ok, List.map_toArray, List.map_cons, List.map_nil, hs, hx, hrun]
  exact h v' w' h2 h3 h4
theorem wpList_append_v {ops : Array Oper} {rest : List Oper} {o : Oper} {a : Act} {Q : Exit → Act → World → Prop} (hgd : o.guard = none) (s x : Operand) (t : TypeId)
    (ho : o.op = .call { callee := .builtin .append, args := #[s, x], argTypes := #[t, t] })
    (base : Nat) (e : TypeId) {z : Value} {k bytes : Nat} (ht : P.underlying t = some (.slice e)) (hi : (P.info? e).map (fun i => (i.zero, i.size, i.bytes)) = some (some z, k, bytes)) (hzs : z.cells.size = k) (hk : 0 < k)
    (v : Value) (n : Nat) (vs : List Value) (hs : a.eval s = v) (hown : OwnV w base e k v n vs) (g off : Nat) (m c : Nat) (us : List Value) (hx : a.eval x = .slice (some ⟨g, off, none⟩) m c) (hl : us.length = m * k) (hr : ∀ (j : Nat) u, us[j]? = some u → w.cell? ⟨g, off + j, none⟩ = some u) (h1 : ∀ u ∈ us, u.oneCell' = true)
    (h63 : n + m ≤ 17179869184) (hb : bytes ≤ 4096) (hbase : base ≤ w.heap.size)
    (h : ∀ v' w', OwnV w' base e k v' (n + m) (vs ++ us) → w.grownBy w' v.ownBlock → (v'.ownBlock = v.ownBlock ∨ v'.ownBlock = some w.heap.size) → wpList P ops Q rest (a.put o.dst v') w') : wpList P ops Q (o :: rest) a w :=
  wpList_plain hgd fun _ hK => wp_append_v w s x t ho base e ht hi hzs hk v n vs hs hown g off m c us hx hl hr h1 h63 hb hbase fun v' w' h2 h3 h4 => hK _ _ (h v' w' h2 h3 h4)
theorem step_append_v {ops : Array Oper} {o : Oper} {a : Act} {K : Act → World → Prop} {Q : Exit → Act → World → Prop} {E : Prop} (hgd : o.guard = none) (s x : Operand) (t : TypeId)
    (ho : o.op = .call { callee := .builtin .append, args := #[s, x], argTypes := #[t, t] })
    (base : Nat) (e : TypeId) {z : Value} {k bytes : Nat} (ht : P.underlying t = some (.slice e)) (hi : (P.info? e).map (fun i => (i.zero, i.size, i.bytes)) = some (some z, k, bytes)) (hzs : z.cells.size = k) (hk : 0 < k)
    (v : Value) (n : Nat) (vs : List Value) (hs : a.eval s = v) (hown : OwnV w base e k v n vs) (g off : Nat) (m c : Nat) (us : List Value) (hx : a.eval x = .slice (some ⟨g, off, none⟩) m c) (hl : us.length = m * k) (hr : ∀ (j : Nat) u, us[j]? = some u → w.cell? ⟨g, off + j, none⟩ = some u) (h1 : ∀ u ∈ us, u.oneCell' = true)
    (h63 : n + m ≤ 17179869184) (hb : bytes ≤ 4096) (hbase : base ≤ w.heap.size)
    (h : ∀ v' w', OwnV w' base e k v' (n + m) (vs ++ us) → w.grownBy w' v.ownBlock → (v'.ownBlock = v.ownBlock ∨ v'.ownBlock = some w.heap.size) → K (a.put o.dst v') w') :
    if Region.wanted o (yielded ops a.tmps) = true then Oper.wp P o a w K Q else E := by
  have hw : Region.wanted o (yielded ops a.tmps) = true := by simp [Region.wanted, hgd]
  rw [if_pos hw]
  exact wp_append_v w s x t ho base e ht hi hzs hk v n vs hs hown g off m c us hx hl hr h1 h63 hb hbase h
end
theorem grown_belowV {w w' : World} {v : Value} {base : Nat} (hg : w.grownBy w' v.ownBlock) (hb : base ≤ w.heap.size) (h : ∀ g, v.ownBlock = some g → base ≤ g) : Below base w w' := grown_below hg hb h
/-- the cells of a block that was just laid -/
theorem src_cells (w : World) (e : Nat) (vs : List Value) : ∀ (j : Nat) u, vs[j]? = some u → (w.alloc (.cells vs.toArray e)).cell? ⟨w.heap.size, 0 + j, none⟩ = some u := fun j u hu => by
  rw [Nat.zero_add]
  simp [hu]
/-- The values vs are slices of numbers, which lie in blocks from lo up to hi, none of it in block x. -/
def VRow (w : World) (lo hi : Nat) (x : Option Nat) (vs : List Value) (rows : List (List Int)) : Prop :=
  vs.length = rows.length ∧ ∀ (j : Nat) (r : List Int), rows[j]? = some r → ∃ (Aj : Option Addr) (nj cj : Nat), vs[j]? = some (.slice Aj nj cj) ∧ Sl w lo hi 1 Aj nj cj r ∧ (0 < nj → ∀ a, Aj = some a → some a.block ≠ x)
def VWr (w : World) (lo hi : Nat) (x : Option Nat) (vs : List Value) (ws : List WriteD) : Prop :=
  vs.length = ws.length * 2 ∧ ∀ (j : Nat) (r : WriteD), ws[j]? = some r → ∃ (Aj : Option Addr) (nj cj : Nat), vs[j * 2]? = some (.int .i64 r.at_) ∧ vs[j * 2 + 1]? = some (.slice Aj nj cj) ∧ Sl w lo hi 1 Aj nj cj r.row ∧ (0 < nj → ∀ a, Aj = some a → some a.block ≠ x)
theorem VRow.nil (w : World) (lo hi : Nat) (x : Option Nat) : VRow w lo hi x [] [] := ⟨rfl, fun j r h => by simp at h⟩
theorem VWr.nil (w : World) (lo hi : Nat) (x : Option Nat) : VWr w lo hi x [] [] := ⟨rfl, fun j r h => by simp at h⟩
theorem Sl.grown {w w' : World} {lo hi k : Nat} {x : Option Nat} {A : Option Addr} {n c : Nat} {zs : List Int} (h : Sl w lo hi k A n c zs) (hg : w.grownBy w' x) (hhi : hi ≤ w.heap.size) (hx : 0 < n → ∀ a, A = some a → some a.block ≠ x) : Sl w' lo hi k A n c zs :=
  ⟨h.len, h.cap, h.big, fun hn => by
    obtain ⟨g, off, e, h1, h2, h3⟩ := h.lie hn
    exact ⟨g, off, e, h1, h2, h3.same (hg.block g (by omega) (hx hn _ e))⟩⟩
section
variable {w w' : World} {lo hi lo' hi' : Nat} {x x' : Option Nat} {vs : List Value}
theorem VRow.below {B : Nat} {rows : List (List Int)} (h : VRow w lo hi x vs rows) (hb : Below B w w') (hB : hi ≤ B) : VRow w' lo hi x vs rows :=
  ⟨h.1, fun j r hr => by
    obtain ⟨Aj, nj, cj, h1, h2, h3⟩ := h.2 j r hr
    exact ⟨Aj, nj, cj, h1, h2.below hb hB, h3⟩⟩
theorem VWr.below {B : Nat} {ws : List WriteD} (h : VWr w lo hi x vs ws) (hb : Below B w w') (hB : hi ≤ B) : VWr w' lo hi x vs ws :=
  ⟨h.1, fun j r hr => by
    obtain ⟨Aj, nj, cj, h1, h0, h2, h3⟩ := h.2 j r hr
    exact ⟨Aj, nj, cj, h1, h0, h2.below hb hB, h3⟩⟩
theorem VRow.upd {rows : List (List Int)} (h : VRow w lo hi x vs rows) (hu : Upd lo' hi' w w') (ho : hi ≤ lo' ∨ hi' ≤ lo) : VRow w' lo hi x vs rows :=
  ⟨h.1, fun j r hr => by
    obtain ⟨Aj, nj, cj, h1, h2, h3⟩ := h.2 j r hr
    exact ⟨Aj, nj, cj, h1, h2.upd hu ho, h3⟩⟩
theorem VWr.upd {ws : List WriteD} (h : VWr w lo hi x vs ws) (hu : Upd lo' hi' w w') (ho : hi ≤ lo' ∨ hi' ≤ lo) : VWr w' lo hi x vs ws :=
  ⟨h.1, fun j r hr => by
    obtain ⟨Aj, nj, cj, h1, h0, h2, h3⟩ := h.2 j r hr
    exact ⟨Aj, nj, cj, h1, h0, h2.upd hu ho, h3⟩⟩
theorem VRow.mono {rows : List (List Int)} (h : VRow w lo hi x vs rows) (h1 : lo' ≤ lo) (h2 : hi ≤ hi') : VRow w lo' hi' x vs rows :=
  ⟨h.1, fun j r hr => by
    obtain ⟨Aj, nj, cj, q1, q2, q3⟩ := h.2 j r hr
    exact ⟨Aj, nj, cj, q1, q2.mono h1 h2, q3⟩⟩
theorem VWr.mono {ws : List WriteD} (h : VWr w lo hi x vs ws) (h1 : lo' ≤ lo) (h2 : hi ≤ hi') : VWr w lo' hi' x vs ws :=
  ⟨h.1, fun j r hr => by
    obtain ⟨Aj, nj, cj, q1, q0, q2, q3⟩ := h.2 j r hr
    exact ⟨Aj, nj, cj, q1, q0, q2.mono h1 h2, q3⟩⟩
theorem Sl.block_lt {k : Nat} {A : Option Addr} {n c : Nat} {zs : List Int} (h : Sl w lo hi k A n c zs) (hn : 0 < n) {a : Addr} (e : A = some a) : lo ≤ a.block ∧ a.block < hi := by
  obtain ⟨g, off, e2, h1, h2, -⟩ := h.lie hn
  rw [e] at e2
  injection e2 with e2
  subst e2
  exact ⟨h1, h2⟩
/-- an append onto the row that lies in block x, if any, leaves the slices alone -/
theorem VRow.grown {rows : List (List Int)} (h : VRow w lo hi x vs rows) (hg : w.grownBy w' x) (hhi : hi ≤ w.heap.size) (hx : x' = x ∨ x' = some w.heap.size) : VRow w' lo hi x' vs rows :=
  ⟨h.1, fun j r hr => by
    obtain ⟨Aj, nj, cj, q1, q2, q3⟩ := h.2 j r hr
    refine ⟨Aj, nj, cj, q1, q2.grown hg hhi q3, fun hn a e => ?_⟩
    rcases hx with rfl | rfl
    · exact q3 hn a e
    · intro e9
      injection e9 with e9
      have := (q2.block_lt hn e).2
      omega⟩
theorem VWr.grown {ws : List WriteD} (h : VWr w lo hi x vs ws) (hg : w.grownBy w' x) (hhi : hi ≤ w.heap.size) (hx : x' = x ∨ x' = some w.heap.size) : VWr w' lo hi x' vs ws :=
  ⟨h.1, fun j r hr => by
    obtain ⟨Aj, nj, cj, q1, q0, q2, q3⟩ := h.2 j r hr
    refine ⟨Aj, nj, cj, q1, q0, q2.grown hg hhi q3, fun hn a e => ?_⟩
    rcases hx with rfl | rfl
    · exact q3 hn a e
    · intro e9
      injection e9 with e9
      have := (q2.block_lt hn e).2
      omega⟩
theorem VRow.snoc {rows : List (List Int)} (h : VRow w lo hi x vs rows) {A : Option Addr} {n c : Nat} {r : List Int} (hs : Sl w lo hi 1 A n c r) (hx : 0 < n → ∀ a, A = some a → some a.block ≠ x) : VRow w lo hi x (vs ++ [.slice A n c]) (rows ++ [r]) := by
  refine ⟨by simp [h.1], fun j r' hr => ?_⟩
  rcases Nat.lt_or_ge j rows.length with hj | hj
  · rw [List.getElem?_append_left hj] at hr
    obtain ⟨Aj, nj, cj, q1, q2, q3⟩ := h.2 j r' hr
    exact ⟨Aj, nj, cj, by rw [List.getElem?_append_left (by rw [h.1]; exact hj)]; exact q1, q2, q3⟩
  · have hj2 := (List.getElem?_eq_some_iff.1 hr).1
    simp only [List.length_append, List.length_singleton] at hj2
    obtain rfl : j = rows.length := by omega
    simp at hr
    subst hr
    refine ⟨A, n, c, ?_, hs, hx⟩
    rw [← h.1]
    simp
theorem VWr.snoc {ws : List WriteD} (h : VWr w lo hi x vs ws) {A : Option Addr} {n c : Nat} {q : Int} {r : List Int} (hs : Sl w lo hi 1 A n c r) (hx : 0 < n → ∀ a, A = some a → some a.block ≠ x) : VWr w lo hi x (vs ++ [.int .i64 q, .slice A n c]) (ws ++ [⟨q, r⟩]) := by
  refine ⟨by simp [h.1]; omega, fun j r' hr => ?_⟩
  rcases Nat.lt_or_ge j ws.length with hj | hj
  · rw [List.getElem?_append_left hj] at hr
    obtain ⟨Aj, nj, cj, q1, q0, q2, q3⟩ := h.2 j r' hr
    exact ⟨Aj, nj, cj, by rw [List.getElem?_append_left (by rw [h.1]; omega)]; exact q1, by rw [List.getElem?_append_left (by rw [h.1]; omega)]; exact q0, q2, q3⟩
  · have hj2 := (List.getElem?_eq_some_iff.1 hr).1
    simp only [List.length_append, List.length_singleton] at hj2
    obtain rfl : j = ws.length := by omega
    simp at hr
    subst hr
    refine ⟨A, n, c, ?_, ?_, hs, hx⟩
    · rw [List.getElem?_append_right (by rw [h.1]; omega), h.1]
      simp
    · rw [List.getElem?_append_right (by rw [h.1]; omega), h.1]
      simp
end
theorem VRow.last {w : World} {lo hi n : Nat} {x : Option Nat} {vs : List Value} {rows : List (List Int)} {m : Nat} {r : List Int} {A : Option Addr} {c : Nat} (h : VRow w lo hi x vs (rows.take m)) (hr : rows[m]? = some r) (hs : Sl w lo hi 1 A n c r) (hx : 0 < n → ∀ a, A = some a → some a.block ≠ x) : VRow w lo hi x (vs ++ [.slice A n c]) (rows.take (m + 1)) := by
  have e : rows.take (m + 1) = rows.take m ++ [r] := by
    rw [List.take_add_one, hr]
    rfl
  rw [e]
  exact h.snoc hs hx
theorem VWr.last {w : World} {lo hi n : Nat} {x : Option Nat} {vs : List Value} {ws : List WriteD} {m : Nat} {r : WriteD} {A : Option Addr} {c : Nat} (h : VWr w lo hi x vs (ws.take m)) (hr : ws[m]? = some r) (hs : Sl w lo hi 1 A n c r.row) (hx : 0 < n → ∀ a, A = some a → some a.block ≠ x) : VWr w lo hi x (vs ++ [.int .i64 r.at_, .slice A n c]) (ws.take (m + 1)) := by
  have e : ws.take (m + 1) = ws.take m ++ [r] := by
    rw [List.take_add_one, hr]
    rfl
  rw [e]
  exact h.snoc hs hx
theorem SlR.of_own {w : World} {base lo hi e n : Nat} {x : Option Nat} {v : Value} {vs : List Value} {rows : List (List Int)} (h : OwnV w base e 1 v n vs) (hv : VRow w lo hi x vs rows) (h1 : base ≤ lo) (h2 : hi ≤ w.heap.size) : ∃ A c, v = .slice A n c ∧ (∀ a, A = some a → some a.block = v.ownBlock) ∧ SlR w base w.heap.size A n c rows := by
  have hl : rows.length = n := by
    have := h.1
    rw [hv.1] at this
    omega
  rcases h.2 with ⟨rfl, rfl⟩ | ⟨g, cap, cur, rfl, hb, hg, h3, h4, h5, h6⟩
  · obtain rfl : rows = [] := List.eq_nil_of_length_eq_zero hl
    exact ⟨none, 0, rfl, fun a ha => by simp at ha, rfl, Nat.le_refl _, by omega, fun j r hr => by simp at hr⟩
  · refine ⟨_, cap, rfl, fun a ha => by injection ha with ha; subst ha; rfl, hl, h3, by unfold maxLen at h4; omega, fun j r hr => ?_⟩
    obtain ⟨Aj, nj, cj, q1, q2, -⟩ := hv.2 j r hr
    have hj : j < n := by rw [← hl]; exact (List.getElem?_eq_some_iff.1 hr).1
    refine ⟨g, 0, Aj, nj, cj, rfl, hb, (Array.getElem?_eq_some_iff.1 hg).1, ?_, q2.mono h1 h2⟩
    rw [Nat.zero_add]
    have := World.ownsRow.cellAt h j (by omega)
    rw [this]
    exact q1
theorem SlW.of_own {w : World} {base lo hi e n : Nat} {x : Option Nat} {v : Value} {vs : List Value} {ws : List WriteD} (h : OwnV w base e 2 v n vs) (hv : VWr w lo hi x vs ws) (h1 : base ≤ lo) (h2 : hi ≤ w.heap.size) : ∃ A c, v = .slice A n c ∧ SlW w base w.heap.size A n c ws := by
  have hl : ws.length = n := by
    have := h.1
    rw [hv.1] at this
    omega
  rcases h.2 with ⟨rfl, rfl⟩ | ⟨g, cap, cur, rfl, hb, hg, h3, h4, h5, h6⟩
  · obtain rfl : ws = [] := List.eq_nil_of_length_eq_zero hl
    exact ⟨none, 0, rfl, rfl, Nat.le_refl _, by omega, fun j r hr => by simp at hr⟩
  · refine ⟨_, cap, rfl, hl, h3, by unfold maxLen at h4; omega, fun j r hr => ?_⟩
    obtain ⟨Aj, nj, cj, q1, q0, q2, -⟩ := hv.2 j r hr
    have hj : j < n := by rw [← hl]; exact (List.getElem?_eq_some_iff.1 hr).1
    refine ⟨g, 0, Aj, nj, cj, rfl, hb, (Array.getElem?_eq_some_iff.1 hg).1, ?_, ?_, q2.mono h1 h2⟩
    · rw [Nat.zero_add]
      have := World.ownsRow.cellAt h (j * 2) (by omega)
      rw [this]
      exact q1
    · rw [Nat.zero_add]
      have := World.ownsRow.cellAt h (j * 2 + 1) (by omega)
      rw [this]
      exact q0
set_option maxRecDepth 100000 in
set_option maxHeartbeats 1000000 in
theorem copyRow_any (A : Option Addr) (n c lo hi : Nat) (zs : List Int) (w : World) (h : Sl w lo hi 1 A n c zs) (hn : n ≤ 1000000) :
    Calls Try.prog 112 #[.slice A n c] w (SlRes w 1 n zs) := by
  have o1 : Own (w.alloc (.cells #[] 2)) w.heap.size 2 1 (.slice (some ⟨w.heap.size, 0, none⟩) 0 0) 0 [] := Own.new w 2 1 [] rfl (Nat.le_refl _) (by omega)
  have O1 := Lib.hid o1
  have hb1 : Below (min hi w.heap.size) w (w.alloc (.cells #[] 2)) := (Below.refl _ _).alloc (Nat.min_le_right _ _) _
  have H := Lib.hid ((h.fit (by omega)).below hb1 (Nat.le_refl _))
  clear h o1
  go_enter Try.func112, Try.ntmps112
  go_wp2_with (at_builtin; go_loud (refine wpList_append_sl _ rfl (.tmp 3) (.tmp 4) 28 rfl w.heap.size 2 Try.underlying28 info64 rfl (by omega) _ _ _ rfl O1.out _ n c _ _ _ rfl H.out (by omega) (by omega) (by (try simp only [World.heap_size_alloc, World.heap_size_drew, World.heap_size_setCell]); omega) ?_); intro v2 w2 o2 g2 a2)
  have hb2 : Below w.heap.size w w2 := ((Below.refl w.heap.size w).alloc (Nat.le_refl _) _).trans (grown_below g2 (by (try simp only [World.heap_size_alloc, World.heap_size_drew, World.heap_size_setCell]); omega) (fun g hg => (Own.lt O1.out g hg).1))
  have O2 := Lib.hid o2
  clear o2 g2 a2
  go_ret
  obtain ⟨A2, c2, rfl, s2⟩ := O2.out.sl
  rw [Nat.zero_add, List.nil_append] at s2
  rw [Nat.zero_add]
  exact ⟨A2, c2, rfl, s2, hb2⟩
end Go.Proofs.Ytgnilmdaegnaaaa
