/- From the walk of a law to its row: the answer is true and the arguments read as before; arguments that are numbers, structs and slices of numbers, opened. No conditions. -/
import Derived.Test.YtgnilmdaegnaaaaBase
import Derived.ProofKit
import Derived.Deep.Slices
set_option linter.unusedSimpArgs false
set_option linter.unusedVariables false
namespace Go.Proofs.Ytgnilmdaegnaaaa
open Go.ChangeShapes Go.WideShapes Go.ChangeAt Go.RowKit

section
variable {H : Type} {enc : TypeId × Value → H} {P : Program}

theorem trodAll_below (hl : laidOutB P = true) {W W' : World} (hb : Below W.heap.size W W') : ∀ (ts : List TypeId) (vs : List Value) (ds : List (DataW H)) (ps : List MemPlace),
    ts.all (fun t => P.readableRec t && decide (t < P.types.size)) = true → (∀ p ∈ ps, p.block < W.heap.size) →
    DataW.TrodAll enc P W 0 (fun _ => true) true ts vs ds ps → DataW.TrodAll enc P W' 0 (fun b => decide (b < W.heap.size)) true ts vs ds ps
  | [], [], [], ps, _, _, h => h
  | t :: ts, v :: vs, d :: ds, ps, hr, hp, h => by
    obtain ⟨p, q, h1, h2, rfl⟩ := h
    simp only [List.all_cons, Bool.and_eq_true, decide_eq_true_eq] at hr
    exact ⟨p, q, Below.trod hl hr.1.1 hr.1.2 h1 hb (fun x hx => hp x (List.mem_append_left _ hx)), trodAll_below hl hb ts vs ds q hr.2 (fun x hx => hp x (List.mem_append_right _ hx)) h2, rfl⟩
  | [], _ :: _, _, _, _, _, h => h.elim
  | [], [], _ :: _, _, _, _, h => h.elim
  | _ :: _, [], _, _, _, _, h => h.elim
  | _ :: _, _ :: _, [], _, _, _, h => h.elim

theorem law_post {f : Func} {s : ChangeSpec} {T : TypeId} (hl : laidOutB P = true) (hr : f.params.toList.all (fun t => P.readableRec t && decide (t < P.types.size)) = true)
    (hres : f.resultTypes = #[T]) (hT : P.underlying T = some .bool) (hvars : s.vars = []) {W W' : World} {args : Array Value} {ds gs : List (DataW H)} {before : List MemPlace}
    (hW : DataW.Whole enc P f.params.toList s.vars false W args.toList ds gs before) (hb : Below W.heap.size W W')
    (hs1 : (s.fn H (ds ++ gs)).results = [.lit (.bool true)]) (hs2 : (s.fn H (ds ++ gs)).args = ds) (hs3 : (s.fn H (ds ++ gs)).vars = []) :
    s.post enc P f false true false false W args (.bool true) W' := by
  have hlt : ∀ p ∈ before, p.block < W.heap.size := fun p hp => hW.lt p hp
  have hW' := hW
  obtain ⟨p, q, hA, hV, rfl, hz, hn⟩ := hW
  refine ⟨ds, gs, _, [], p, [], hW', ?_, ?_, ?_, World.keptBut_mono (fun x hx => ⟨hx, .inr (.inl ?_)⟩) (hb.frame (· ∈ p ++ q)), fun h => by cases h⟩
  · rw [hs1, hres]
    exact trodAll_mk1 (shut_bool hT _)
  · rw [hs2]
    exact trodAll_below hl hb _ _ _ _ hr (fun x hx => hlt x (List.mem_append_left _ hx)) hA
  · rw [hs3, hvars]
    rfl
  · rw [hvars] at hV
    obtain ⟨_, rfl⟩ := trodVars_none hV
    simpa using hx

def tileB (P : Program) (q : TypeId → Bool) : Nat → List Field → Bool
  | _, [] => true
  | o, f :: fs => decide (f.offset = o) && q f.type && tileB P q (o + P.cellsOf f.type) fs
/-- A type whose cells are all of them int64: a number, or a struct of such. -/
def flatB (P : Program) : Nat → TypeId → Bool
  | 0, _ => false
  | n + 1, t =>
    match P.underlying t with
    | some (.int .i64) => decide (P.cellsOf t = 1)
    | some (.struct fs) => tileB P (flatB P n) 0 fs.toList && decide (P.cellsOf t = (fs.toList.map fun f => P.cellsOf f.type).sum)
    | _ => false

theorem flat_tile {cs : List Value} {Q : TypeId → Prop} {R : TypeId → List Value → Prop} (hR : ∀ t c, Q t → R t c → ∃ zs : List Int, c = zs.map (.int .i64)) :
    ∀ (fs : List Field) (o : Nat), (∀ i f, fs[i]? = some f → f.offset = o + ((fs.take i).map fun f => P.cellsOf f.type).sum ∧ Q f.type ∧ R f.type ((cs.drop f.offset).take (P.cellsOf f.type))) →
      cs.length = o + (fs.map fun f => P.cellsOf f.type).sum → ∃ zs : List Int, cs.drop o = zs.map (.int .i64)
  | [], o, _, hl => ⟨[], by simp at hl; simp [List.drop_of_length_le (Nat.le_of_eq hl)]⟩
  | f :: fs, o, h, hl => by
    obtain ⟨h1, h2, h3⟩ := h 0 f rfl
    obtain ⟨z1, hz1⟩ := hR _ _ h2 h3
    obtain ⟨z2, hz2⟩ := flat_tile hR fs (o + P.cellsOf f.type) (fun i g hg => by
      obtain ⟨a, b, c⟩ := h (i + 1) g (by simpa using hg)
      refine ⟨?_, b, c⟩
      rw [a]
      simp only [List.take_succ_cons, List.map_cons, List.sum_cons]
      omega) (by simp only [List.map_cons, List.sum_cons] at hl; omega)
    refine ⟨z1 ++ z2, ?_⟩
    simp at h1
    rw [h1] at hz1
    rw [List.map_append, ← hz1, ← hz2, ← List.drop_drop, List.take_append_drop]

theorem flat_ints {w : World} {base : Nat} {sp : Nat → Bool} {held : Bool} : ∀ (n : Nat) {t : TypeId} {fuel : Nat} {cs : List Value} {x : DataW H × List MemPlace}, flatB P n t = true →
    DataW.trod enc P w base sp held fuel t cs = some x → ∃ zs : List Int, cs = zs.map (.int .i64) ∧ zs.length = P.cellsOf t
  | 0, _, _, _, _, h, _ => by simp [flatB] at h
  | n + 1, t, fuel, cs, x, h, ht => by
    unfold flatB at h
    split at h
    · rename_i hu
      obtain ⟨z, rfl, _, _⟩ := DataW.trod_int hu ht
      exact ⟨[z], rfl, by simpa using (of_decide_eq_true h).symm⟩
    · rename_i fs hu
      simp only [Bool.and_eq_true, decide_eq_true_eq] at h
      obtain ⟨xs, m, hm, hx, hlen, hxl, hf⟩ := DataW.trod_struct hu ht
      have key : ∀ (l : List Field) (o : Nat), tileB P (flatB P n) o l = true → ∀ i f, l[i]? = some f → f.offset = o + ((l.take i).map fun f => P.cellsOf f.type).sum ∧ flatB P n f.type = true := by
        intro l
        induction l with
        | nil => intro o _ i f hi; simp at hi
        | cons g l ih =>
          intro o ho i f hi
          simp only [tileB, Bool.and_eq_true, decide_eq_true_eq] at ho
          cases i with
          | zero => simp at hi; subst hi; exact ⟨by simp [ho.1.1], ho.1.2⟩
          | succ i =>
            obtain ⟨a, b⟩ := ih _ ho.2 i f (by simpa using hi)
            refine ⟨?_, b⟩
            rw [a]
            simp only [List.take_succ_cons, List.map_cons, List.sum_cons]
            omega
      obtain ⟨zs, hzs⟩ := flat_tile (P := P) (cs := cs) (Q := fun t => flatB P n t = true) (R := fun t c => ∃ y, DataW.trod enc P w base sp held m t c = some y)
        (fun t c h1 ⟨y, h2⟩ => by
          obtain ⟨zs, e, _⟩ := flat_ints n h1 h2
          exact ⟨zs, e⟩) fs.toList 0 (fun i f hi => by
          obtain ⟨a, b⟩ := key _ 0 h.1 i f hi
          have hi' : fs[i]? = some f := by simpa using hi
          have hlt : i < xs.length := by rw [hxl]; exact (Array.getElem?_eq_some_iff.1 hi').1
          exact ⟨a, b, xs[i], by rw [hf i f hi', List.getElem?_eq_getElem hlt]⟩) (by rw [hlen, h.2]; simp)
      rw [List.drop_zero] at hzs
      exact ⟨zs, hzs, by rw [← hlen, hzs, List.length_map]⟩
    · cases h

/-- An argument that is a struct of numbers, by value. -/
theorem open_flat {w : World} {base : Nat} {sp : Nat → Bool} {held : Bool} {r : Reach} {b0 n : Nat} {t : TypeId} {fs : Array Field} {v : Value} {d : DataW H} {p : List MemPlace} (hu : P.underlying t = some (.struct fs)) (hf : flatB P n t = true)
    (hv : Value.okWide P w r b0 t v) (h : DataW.Trod enc P w base sp held t v d p) : ∃ zs : List Int, v = .agg (zs.map (Value.int .i64)).toArray ∧ zs.length = P.cellsOf t := by
  obtain ⟨cs, rfl, hsz⟩ := okWide_struct hu hv
  obtain ⟨fuel, ht⟩ := h
  obtain ⟨zs, e, hl⟩ := flat_ints n hf ht
  refine ⟨zs, ?_, hl⟩
  congr 1
  simp only [Value.cells] at e
  rw [← e]

/-- The slice '.slice A n c' that came in: n elements of k numbers each; it holds zs. -/
structure ArgSl (w : World) (k : Nat) (A : Option Addr) (n c : Nat) (zs : List Int) : Prop where
  len : zs.length = n * k
  cap : n ≤ c
  big : c ≤ 9223372036854775807
  lie : 0 < n → ∃ a : Addr, A = some a ∧ a.block < w.heap.size ∧ ∀ j z, zs[j]? = some z → w.cell? (a.add j) = some (.int .i64 z)

theorem add_block (a : Addr) (j : Nat) : (a.add j).block = a.block := by unfold Addr.add; split <;> rfl
theorem add_of_add (a : Addr) (i j : Nat) : (a.add i).add j = a.add (i + j) := by
  unfold Addr.add
  by_cases hi : i = 0 <;> by_cases hj : j = 0 <;> simp [hi, hj, Nat.add_assoc]

theorem ArgSl.below {w w' : World} {k : Nat} {A : Option Addr} {n c : Nat} {zs : List Int} (h : ArgSl w k A n c zs) (hb : Below w.heap.size w w') : ArgSl w' k A n c zs :=
  ⟨h.len, h.cap, h.big, fun hn => by
    obtain ⟨a, e, h1, h2⟩ := h.lie hn
    exact ⟨a, e, Nat.lt_of_lt_of_le h1 hb.size, fun j z hz => (hb.cell (p := a.add j) (by rw [add_block]; exact h1)).trans (h2 j z hz)⟩⟩

theorem cells_lists {k : Nat} {g : Nat → List Int} (hk : ∀ i, (g i).length = k) : ∀ n : Nat, ∀ j z, ((List.range n).flatMap g)[j]? = some z → ∃ i r, i < n ∧ r < k ∧ j = i * k + r ∧ (g i)[r]? = some z := by
  intro n
  induction n with
  | zero => intro j z h; simp at h
  | succ n ih =>
    intro j z h
    have hl : ∀ m, ((List.range m).flatMap g).length = m * k := by
      intro m
      induction m with
      | zero => simp
      | succ m ihm => rw [List.range_succ, List.flatMap_append, List.length_append, ihm]; simp [hk, Nat.add_mul]
    rw [List.range_succ, List.flatMap_append] at h
    by_cases hj : j < n * k
    · rw [List.getElem?_append_left (by rw [hl]; exact hj)] at h
      obtain ⟨i, r, a, b, c, d⟩ := ih j z h
      exact ⟨i, r, by omega, b, c, d⟩
    · rw [List.getElem?_append_right (by rw [hl]; omega), hl] at h
      simp only [List.flatMap_cons, List.flatMap_nil, List.append_nil] at h
      have hr : j - n * k < k := by have hlt := (List.getElem?_eq_some_iff.1 h).1; rw [hk] at hlt; exact hlt
      exact ⟨n, j - n * k, by omega, hr, by omega, h⟩

theorem open_slc {w : World} {sp : Nat → Bool} {held : Bool} {m : Nat} {t e : TypeId} {k fuel : Nat} {cs : List Value} {x : DataW H × List MemPlace} (hu : P.underlying t = some (.slice e)) (hf : flatB P m e = true) (hk : P.cellsOf e = k) (hk0 : 0 < k)
    (ht : DataW.trod enc P w 0 sp held fuel t cs = some x) : ∃ A n c zs, cs = [.slice A n c] ∧ ArgSl w k A n c zs := by
  rcases Deep.open_slice hu ht with ⟨rfl, _⟩ | ⟨a, len, cap, mm, fu, D, Pl, rfl, _, hlc, hcm, hmm, hx, hel⟩
  · exact ⟨none, 0, 0, [], rfl, by simp, Nat.le_refl _, by omega, fun h => absurd h (by omega)⟩
  · have hle : len ≤ mm := by rw [hmm]; split <;> omega
    have each : ∀ i, i < len → ∃ zs : List Int, zs.length = k ∧ w.cells? 0 (a.add (i * k)) k = some (zs.map (Value.int .i64)) := fun i hi => by
      obtain ⟨cs', h1, h2⟩ := hel i (by omega)
      obtain ⟨zs, e1, e2⟩ := flat_ints m hf h2
      rw [hk] at h1 e2
      exact ⟨zs, e2, by rw [h1, e1]⟩
    obtain ⟨g, hg⟩ := Deep.choose_lt (α := List Int) (p := fun i zs => zs.length = k ∧ w.cells? 0 (a.add (i * k)) k = some (zs.map (Value.int .i64))) each
    let g' : Nat → List Int := fun i => if i < len then g i else List.replicate k 0
    have hg' : ∀ i, (g' i).length = k := fun i => by
      show (if i < len then g i else List.replicate k 0).length = k
      split
      · rename_i hi; exact (hg i hi).1
      · simp
    have hlen : ∀ n, ((List.range n).flatMap g').length = n * k := by
      intro n
      induction n with
      | zero => simp
      | succ n ih => rw [List.range_succ, List.flatMap_append, List.length_append, ih]; simp [hg', Nat.add_mul]
    refine ⟨some a, len, cap, (List.range len).flatMap g', rfl, hlen len, hlc, by unfold maxLen at hcm; omega, fun hn => ⟨a, rfl, ?_, fun j z hz => ?_⟩⟩
    · obtain ⟨h1, h2⟩ := hg 0 hn
      obtain ⟨_, hcl, hat⟩ := World.cells?_some h2
      have := hat 0 hk0
      have hv : ((g 0).map (Value.int .i64))[0]? = some ((g 0).map (Value.int .i64))[0] := List.getElem?_eq_getElem (by simp; omega)
      rw [hv] at this
      have hb := World.block_lt_of_cell? w _ this
      rwa [add_block, add_block] at hb
    · obtain ⟨i, r, hi, hr, rfl, hzz⟩ := cells_lists hg' len j z hz
      have hgi : g' i = g i := if_pos hi
      rw [hgi] at hzz
      obtain ⟨h1, h2⟩ := hg i hi
      obtain ⟨_, hcl, hat⟩ := World.cells?_some h2
      have := hat r hr
      rw [← add_of_add, this]
      simp [hzz]
/-- An argument that is a slice of numbers, or of structs of numbers. -/
theorem open_slv {w : World} {sp : Nat → Bool} {held : Bool} {r : Reach} {b0 m : Nat} {t e : TypeId} {k : Nat} {v : Value} {d : DataW H} {p : List MemPlace} (hu : P.underlying t = some (.slice e)) (hf : flatB P m e = true) (hk : P.cellsOf e = k) (hk0 : 0 < k)
    (hv : Value.okWide P w r b0 t v) (h : DataW.Trod enc P w 0 sp held t v d p) : ∃ A n c zs, v = .slice A n c ∧ ArgSl w k A n c zs := by
  obtain ⟨A0, n0, c0, rfl⟩ := okWide_slice hu hv
  obtain ⟨fuel, ht⟩ := h
  obtain ⟨A, n, c, zs, e1, h1⟩ := open_slc hu hf hk hk0 ht
  simp [Value.cells] at e1
  obtain ⟨rfl, rfl, rfl⟩ := e1
  exact ⟨_, _, _, zs, rfl, h1⟩
end

theorem ArgSl.row2 {w wr : World} {A : Option Addr} {n c : Nat} {zs : List Int} (h : ArgSl w 2 A n c zs) (hb : Below w.heap.size w wr) {m : Nat} (hm : m < n) :
    ∃ (a : Addr) (x0 x1 : Int), A = some a ∧ (zs.drop (m * 2)).take 2 = [x0, x1] ∧ wr.cell? (a.add (m * 2)) = some (.int .i64 x0) ∧ wr.cell? ⟨(a.add (m * 2)).block, (a.add (m * 2)).off + 1, none⟩ = some (.int .i64 x1) := by
  obtain ⟨a, e, hab, hac⟩ := h.lie (by omega)
  have hzl := h.len
  have hl : ((zs.drop (m * 2)).take 2).length = 2 := by simp; omega
  obtain ⟨x0, x1, hx⟩ : ∃ x0 x1 : Int, (zs.drop (m * 2)).take 2 = [x0, x1] := by
    match (zs.drop (m * 2)).take 2, hl with
    | [x0, x1], _ => exact ⟨x0, x1, rfl⟩
  have hget : ∀ j z, [x0, x1][j]? = some z → wr.cell? ((a.add (m * 2)).add j) = some (.int .i64 z) := fun j z hj => by
    rw [← hx, List.getElem?_take] at hj
    split at hj
    · rw [List.getElem?_drop] at hj
      rw [add_of_add]
      exact (hb.cell (p := a.add (m * 2 + j)) (by rw [add_block]; exact hab)).trans (hac _ z hj)
    · cases hj
  exact ⟨a, x0, x1, e, hx, by simpa [Addr.add] using hget 0 x0 rfl, hget 1 _ rfl⟩
theorem ArgSl.row3 {w wr : World} {A : Option Addr} {n c : Nat} {zs : List Int} (h : ArgSl w 3 A n c zs) (hb : Below w.heap.size w wr) {m : Nat} (hm : m < n) :
    ∃ (a : Addr) (x0 x1 x2 : Int), A = some a ∧ (zs.drop (m * 3)).take 3 = [x0, x1, x2] ∧ wr.cell? (a.add (m * 3)) = some (.int .i64 x0) ∧ wr.cell? ⟨(a.add (m * 3)).block, (a.add (m * 3)).off + 1, none⟩ = some (.int .i64 x1) ∧ wr.cell? ⟨(a.add (m * 3)).block, (a.add (m * 3)).off + 2, none⟩ = some (.int .i64 x2) := by
  obtain ⟨a, e, hab, hac⟩ := h.lie (by omega)
  have hzl := h.len
  have hl : ((zs.drop (m * 3)).take 3).length = 3 := by simp; omega
  obtain ⟨x0, x1, x2, hx⟩ : ∃ x0 x1 x2 : Int, (zs.drop (m * 3)).take 3 = [x0, x1, x2] := by
    match (zs.drop (m * 3)).take 3, hl with
    | [x0, x1, x2], _ => exact ⟨x0, x1, x2, rfl⟩
  have hget : ∀ j z, [x0, x1, x2][j]? = some z → wr.cell? ((a.add (m * 3)).add j) = some (.int .i64 z) := fun j z hj => by
    rw [← hx, List.getElem?_take] at hj
    split at hj
    · rw [List.getElem?_drop] at hj
      rw [add_of_add]
      exact (hb.cell (p := a.add (m * 3 + j)) (by rw [add_block]; exact hab)).trans (hac _ z hj)
    · cases hj
  exact ⟨a, x0, x1, x2, e, hx, by simpa [Addr.add] using hget 0 x0 rfl, hget 1 _ rfl, hget 2 _ rfl⟩
theorem ArgSl.row9 {w wr : World} {A : Option Addr} {n c : Nat} {zs : List Int} (h : ArgSl w 9 A n c zs) (hb : Below w.heap.size w wr) {m : Nat} (hm : m < n) :
    ∃ (a : Addr) (x0 x1 x2 x3 x4 x5 x6 x7 x8 : Int), A = some a ∧ (zs.drop (m * 9)).take 9 = [x0, x1, x2, x3, x4, x5, x6, x7, x8] ∧ wr.cell? (a.add (m * 9)) = some (.int .i64 x0) ∧ wr.cell? ⟨(a.add (m * 9)).block, (a.add (m * 9)).off + 1, none⟩ = some (.int .i64 x1) ∧ wr.cell? ⟨(a.add (m * 9)).block, (a.add (m * 9)).off + 2, none⟩ = some (.int .i64 x2) ∧ wr.cell? ⟨(a.add (m * 9)).block, (a.add (m * 9)).off + 3, none⟩ = some (.int .i64 x3) ∧ wr.cell? ⟨(a.add (m * 9)).block, (a.add (m * 9)).off + 4, none⟩ = some (.int .i64 x4) ∧ wr.cell? ⟨(a.add (m * 9)).block, (a.add (m * 9)).off + 5, none⟩ = some (.int .i64 x5) ∧ wr.cell? ⟨(a.add (m * 9)).block, (a.add (m * 9)).off + 6, none⟩ = some (.int .i64 x6) ∧ wr.cell? ⟨(a.add (m * 9)).block, (a.add (m * 9)).off + 7, none⟩ = some (.int .i64 x7) ∧ wr.cell? ⟨(a.add (m * 9)).block, (a.add (m * 9)).off + 8, none⟩ = some (.int .i64 x8) := by
  obtain ⟨a, e, hab, hac⟩ := h.lie (by omega)
  have hzl := h.len
  have hl : ((zs.drop (m * 9)).take 9).length = 9 := by simp; omega
  obtain ⟨x0, x1, x2, x3, x4, x5, x6, x7, x8, hx⟩ : ∃ x0 x1 x2 x3 x4 x5 x6 x7 x8 : Int, (zs.drop (m * 9)).take 9 = [x0, x1, x2, x3, x4, x5, x6, x7, x8] := by
    match (zs.drop (m * 9)).take 9, hl with
    | [x0, x1, x2, x3, x4, x5, x6, x7, x8], _ => exact ⟨x0, x1, x2, x3, x4, x5, x6, x7, x8, rfl⟩
  have hget : ∀ j z, [x0, x1, x2, x3, x4, x5, x6, x7, x8][j]? = some z → wr.cell? ((a.add (m * 9)).add j) = some (.int .i64 z) := fun j z hj => by
    rw [← hx, List.getElem?_take] at hj
    split at hj
    · rw [List.getElem?_drop] at hj
      rw [add_of_add]
      exact (hb.cell (p := a.add (m * 9 + j)) (by rw [add_block]; exact hab)).trans (hac _ z hj)
    · cases hj
  exact ⟨a, x0, x1, x2, x3, x4, x5, x6, x7, x8, e, hx, by simpa [Addr.add] using hget 0 x0 rfl, hget 1 _ rfl, hget 2 _ rfl, hget 3 _ rfl, hget 4 _ rfl, hget 5 _ rfl, hget 6 _ rfl, hget 7 _ rfl, hget 8 _ rfl⟩
theorem ArgSl.row1 {w wr : World} {A : Option Addr} {n c : Nat} {zs : List Int} (h : ArgSl w 1 A n c zs) (hb : Below w.heap.size w wr) {m : Nat} (hm : m < n) :
    ∃ (a : Addr) (x0 : Int), A = some a ∧ zs[m]? = some x0 ∧ wr.cell? (a.add m) = some (.int .i64 x0) := by
  obtain ⟨a, e, hab, hac⟩ := h.lie (by omega)
  have hzl := h.len
  have hx : zs[m]? = some zs[m] := List.getElem?_eq_getElem (by omega)
  exact ⟨a, zs[m], e, hx, (hb.cell (p := a.add m) (by rw [add_block]; exact hab)).trans (hac _ _ hx)⟩

theorem list5 {α : Type} : ∀ {l : List α}, l.length = 5 → ∃ a b c d e, l = [a, b, c, d, e]
  | [a, b, c, d, e], _ => ⟨a, b, c, d, e, rfl⟩
theorem list9 {α : Type} : ∀ {l : List α}, l.length = 9 → ∃ a b c d e f g h i, l = [a, b, c, d, e, f, g, h, i]
  | [a, b, c, d, e, f, g, h, i], _ => ⟨a, b, c, d, e, f, g, h, i, rfl⟩

/-- Numbers in groups of k are the numbers of records. -/
theorem unflat {α : Type} {f : α → List Int} {k : Nat} (mk : ∀ l : List Int, l.length = k → ∃ x, f x = l) : ∀ (n : Nat) (zs : List Int), zs.length = n * k → ∃ es : List α, es.flatMap f = zs
  | 0, zs, h => ⟨[], by have : zs = [] := List.eq_nil_of_length_eq_zero (by simpa using h); subst this; rfl⟩
  | n + 1, zs, h => by
    have e : (n + 1) * k = k + n * k := by rw [Nat.add_mul]; omega
    obtain ⟨x, hx⟩ := mk (zs.take k) (by simp; omega)
    obtain ⟨es, hes⟩ := unflat mk n (zs.drop k) (by simp; omega)
    exact ⟨x :: es, by rw [List.flatMap_cons, hx, hes, List.take_append_drop]⟩

theorem ints_oneCells (zs : List Int) : ((zs.map (Value.int .i64)).toArray).all (·.oneCell') = true :=
  all_oneCell_toArray (fun v hv => by
    obtain ⟨z, _, rfl⟩ := List.mem_map.1 hv
    rfl)
theorem wpList_store_ints {P : Program} {ops : Array Oper} {rest : List Oper} {op : Oper} {a : Act} {w : World} {Q : Exit → Act → World → Prop} (hgd : op.guard = none) (ty : TypeId) (x y : Operand) (ho : op.op = .store ty x y)
    (b o : Nat) (zs : List Int) (hx : a.eval x = .pointer (some ⟨b, o, none⟩)) (hy : a.eval y = .agg (zs.map (Value.int .i64)).toArray) (hi : (P.info? ty).map (·.size) = some zs.length) (ht : w.there b o zs.length)
    (h : wpList P ops Q rest (a.put op.dst undef) (w.setCells b o (zs.map (Value.int .i64)))) : wpList P ops Q (op :: rest) a w := by
  refine wpList_store_mid hgd ty x y ho b o (zs.map (Value.int .i64)).toArray hx hy (by simpa using ht) (by simpa using hi) (ints_oneCells zs) ?_
  simpa using h

/-- A call's answer is a slice in new memory that holds zs. -/
def SlRes (w : World) (k n : Nat) (zs : List Int) (e : Ending) (w' : World) : Prop :=
  ∃ A c, e = .returned (.slice A n c) ∧ Sl w' w.heap.size w'.heap.size k A n c zs ∧ Below w.heap.size w w'

/-- A new row of m zeros. -/
def zeroRow (m : Nat) : Array Value := ((List.replicate m (0 : Int)).map (.int .i64)).toArray
theorem made_zero (m : Nat) (z : Array Value) (hz : ∀ j, j < z.size → z[j]! = .int .i64 0) (hk : 0 < z.size) : madeCells z m = zeroRow m := by
  apply Array.ext'
  apply List.ext_getElem
  · simp [madeCells, zeroRow]
  · intro i h1 h2
    simp [madeCells, zeroRow]
    exact hz _ (Nat.mod_lt _ hk)
theorem ints_zeroRow (w : World) (E m : Nat) : Ints (w.alloc (.cells (zeroRow m) E)) w.heap.size 0 (List.replicate m 0) := by
  intro j x hx
  refine ⟨?_, by simp⟩
  rw [World.cell?_alloc_new, Nat.zero_add]
  rw [zeroRow, List.getElem?_toArray, List.getElem?_map, hx]
  rfl
theorem run_make_n {P : Program} {t e : TypeId} {z : Value} {k bytes : Nat} (ht : P.underlying t = some (.slice e)) (hi : (P.info? e).map (fun i => (i.zero, i.size, i.bytes)) = some (some z, k, bytes))
    (hz : z.cells = ((List.replicate k (0 : Int)).map (Value.int .i64)).toArray) (hz0 : 0 < k) (n : Nat) (hb : bytes * n ≤ 281474976710656) (hn : n ≤ 9223372036854775807) (w : World) :
    (Instr.makeSlice t (.int .i64 (n : Int)) (.int .i64 (n : Int))).run P w = .ok (.slice (some ⟨w.heap.size, 0, none⟩) n n) (w.alloc (.cells (zeroRow (n * k)) e)) := by
  obtain ⟨i, h1, h2, h3, h4⟩ := info_parts hi
  have hb' : (i.bytes : Int) * (n : Int) ≤ 281474976710656 := by
    have h : ((i.bytes * n : Nat) : Int) ≤ 281474976710656 := by rw [h4]; omega
    rwa [Int.natCast_mul] at h
  have hr := run_make (P := P) w t e i z ht h1 h2 .i64 .i64 n n (by omega) (by omega) hb' (by omega)
  simp only [Int.toNat_natCast] at hr
  rw [hr, h3, made_zero _ _ (fun j hj => by
    rw [hz] at hj ⊢
    simp at hj
    simp [hj]) (by rw [hz]; simpa using hz0)]

def ToRel (w : World) (g k n : Nat) (zs : List Int) (i : Value) (wr : World) : Prop :=
  ∃ m ys, m ≤ n ∧ i = .int .i64 (m : Nat) ∧ ys.length = n * k ∧ Ints wr g 0 ys ∧ (∀ j, j < m * k → ys[j]? = zs[j]?) ∧ Below w.heap.size w wr ∧ g < wr.heap.size


theorem ToRel.step {w wr w1 : World} {g k n m : Nat} {zs ys new : List Int} (hlt : m < n) (hy : ys.length = n * k) (hI : Ints wr g 0 ys) (hz : ∀ j, j < m * k → ys[j]? = zs[j]?) (hb : Below w.heap.size w wr) (hg : g < wr.heap.size)
    (hw : w.heap.size ≤ g) (b1 : Below wr.heap.size wr w1) (hx : (zs.drop (m * k)).take k = new) (hn : new.length = k) {i : Value} (hi : i = .int .i64 ((m + 1 : Nat) : Int)) :
    ToRel w g k n zs i (w1.setCells g (m * k) (new.map (Value.int .i64))) := by
  have hmk : m * k + k ≤ n * k := by
    have h := Nat.mul_le_mul_right k (show m + 1 ≤ n from hlt)
    rw [Nat.add_mul] at h
    omega
  have hI1 := hI.below b1 hg
  have hs := hI1.sets (m * k) new (by omega)
  rw [Nat.zero_add] at hs
  refine ⟨m + 1, _, hlt, hi, ?_, hs, fun j hj => ?_, ?_, ?_⟩
  · simp only [List.length_append, List.length_take, List.length_drop]; omega
  · rw [Nat.add_mul, Nat.one_mul] at hj
    have hlen : (ys.take (m * k)).length = m * k := by rw [List.length_take]; omega
    by_cases h1 : j < m * k
    · rw [List.append_assoc, List.getElem?_append_left (by omega), List.getElem?_take, if_pos h1]
      exact hz j h1
    · rw [List.append_assoc, List.getElem?_append_right (by omega), List.getElem?_append_left (by omega), ← hx, List.getElem?_take, if_pos (by omega), List.getElem?_drop]
      congr 1
      omega
  · have hk : ∀ (vs : List Value) (o : Nat) (u : World), w.heap.size ≤ u.heap.size → Below w.heap.size u (u.setCells g o vs) := by
      intro vs
      induction vs with
      | nil => intro o u _; exact Below.refl _ _
      | cons v vs ih =>
        intro o u hu
        show Below _ u ((u.setCell ⟨g, o, none⟩ v).setCells g (o + 1) vs)
        exact ((Below.refl _ _).setCell hw v).trans (ih _ _ (by rw [World.heap_size_setCell]; exact hu))
    exact (hb.trans (b1.mono hb.size)).trans (hk _ _ _ (Nat.le_trans hb.size b1.size))
  · have hk : ∀ (vs : List Value) (o : Nat) (u : World), (u.setCells g o vs).heap.size = u.heap.size := by
      intro vs
      induction vs with
      | nil => intro o u; rfl
      | cons v vs ih =>
        intro o u
        show ((u.setCell ⟨g, o, none⟩ v).setCells g (o + 1) vs).heap.size = _
        rw [ih, World.heap_size_setCell]
    rw [hk]
    exact Nat.lt_of_lt_of_le hg b1.size

theorem ToRel.done {w wr : World} {g k n m : Nat} {zs ys : List Int} (hge : ¬ m < n) (hm : m ≤ n) (hzl : zs.length = n * k) (hy : ys.length = n * k) (hI : Ints wr g 0 ys) (hz : ∀ j, j < m * k → ys[j]? = zs[j]?) (hb : Below w.heap.size w wr) (hg : g < wr.heap.size)
    (hw : w.heap.size ≤ g) (hn : n ≤ 1048576) : SlRes w k n zs (.returned (.slice (some ⟨g, 0, none⟩) n n)) wr := by
  obtain rfl : m = n := by omega
  have e : ys = zs := by
    apply List.ext_getElem?
    intro j
    by_cases hj : j < m * k
    · exact hz j hj
    · rw [List.getElem?_eq_none (by omega), List.getElem?_eq_none (by omega)]
  subst e
  exact ⟨_, _, rfl, ⟨hy, Nat.le_refl _, by omega, fun _ => ⟨g, 0, rfl, hw, hg, hI⟩⟩, hb⟩

theorem setCells_size (g : Nat) : ∀ (vs : List Value) (o : Nat) (u : World), (u.setCells g o vs).heap.size = u.heap.size
  | [], o, u => rfl
  | v :: vs, o, u => by
    show ((u.setCell ⟨g, o, none⟩ v).setCells g (o + 1) vs).heap.size = _
    rw [setCells_size g vs, World.heap_size_setCell]
theorem setCells_upd {lo hi g : Nat} (h1 : lo ≤ g) (h2 : g < hi) : ∀ (vs : List Value) (o : Nat) (u : World), Upd lo hi u (u.setCells g o vs)
  | [], o, u => Upd.refl _ _ _
  | v :: vs, o, u => ((Upd.refl lo hi u).setCell (p := ⟨g, o, none⟩) h1 h2 v).trans (setCells_upd h1 h2 vs (o + 1) _)

theorem setCells_2 (w : World) (g o : Nat) (z0 z1 : Int) : w.setCells g o ([z0, z1].map (Value.int .i64)) = (w.setCell ⟨g, o, none⟩ (.int .i64 z0)).setCell ⟨g, o + 1, none⟩ (.int .i64 z1) := rfl
theorem setCells_3 (w : World) (g o : Nat) (z0 z1 z2 : Int) : w.setCells g o ([z0, z1, z2].map (Value.int .i64)) = ((w.setCell ⟨g, o, none⟩ (.int .i64 z0)).setCell ⟨g, o + 1, none⟩ (.int .i64 z1)).setCell ⟨g, o + 2, none⟩ (.int .i64 z2) := rfl
theorem setCells_9 (w : World) (g o : Nat) (z0 z1 z2 z3 z4 z5 z6 z7 z8 : Int) : w.setCells g o ([z0, z1, z2, z3, z4, z5, z6, z7, z8].map (Value.int .i64)) = ((((((((w.setCell ⟨g, o, none⟩ (.int .i64 z0)).setCell ⟨g, o + 1, none⟩ (.int .i64 z1)).setCell ⟨g, o + 2, none⟩ (.int .i64 z2)).setCell ⟨g, o + 3, none⟩ (.int .i64 z3)).setCell ⟨g, o + 4, none⟩ (.int .i64 z4)).setCell ⟨g, o + 5, none⟩ (.int .i64 z5)).setCell ⟨g, o + 6, none⟩ (.int .i64 z6)).setCell ⟨g, o + 7, none⟩ (.int .i64 z7)).setCell ⟨g, o + 8, none⟩ (.int .i64 z8) := rfl

/-- The first m rows of a slice bear the numbers from k on. -/
def MarkRel (w : World) (lo hi g off k n : Nat) (q0 : Int) (q i : Value) (wr : World) : Prop :=
  ∃ (m : Nat) (x : Int) (ys : List Int), m ≤ n ∧ i = .int .i64 (m : Nat) ∧ q = .int .i64 x ∧ x = q0 + ((m * k : Nat) : Int) ∧ ys.length = n * k ∧ Ints wr g off ys ∧ (∀ j, j < m * k → ys[j]? = some (q0 + (j : Nat))) ∧ Upd lo hi w wr
theorem MarkRel.step {w wr : World} {lo hi g off k n m : Nat} {q0 x : Int} {ys new : List Int} (hlt : m < n) (hx : x = q0 + ((m * k : Nat) : Int)) (hy : ys.length = n * k) (hI : Ints wr g off ys) (hz : ∀ j, j < m * k → ys[j]? = some (q0 + (j : Nat)))
    (hu : Upd lo hi w wr) (h1 : lo ≤ g) (h2 : g < hi) (hn : new.length = k) (hnew : ∀ r z, new[r]? = some z → z = x + (r : Nat)) {q i : Value} (hii : i = .int .i64 ((m + 1 : Nat) : Int)) (hq : q = .int .i64 (x + (k : Nat))) :
    MarkRel w lo hi g off k n q0 q i (wr.setCells g (off + m * k) (new.map (Value.int .i64))) := by
  have hmk : m * k + k ≤ n * k := by
    have h := Nat.mul_le_mul_right k (show m + 1 ≤ n from hlt)
    rw [Nat.add_mul] at h
    omega
  have hs := hI.sets (m * k) new (by omega)
  refine ⟨m + 1, x + (k : Nat), _, hlt, hii, hq, ?_, ?_, hs, fun j hj => ?_, hu.trans (setCells_upd h1 h2 _ _ _)⟩
  · rw [hx, Nat.add_mul, Nat.one_mul, Int.natCast_add, Int.add_assoc]
  · simp only [List.length_append, List.length_take, List.length_drop]; omega
  · rw [Nat.add_mul, Nat.one_mul] at hj
    have hlen : (ys.take (m * k)).length = m * k := by rw [List.length_take]; omega
    by_cases hj1 : j < m * k
    · rw [List.append_assoc, List.getElem?_append_left (by omega), List.getElem?_take, if_pos hj1]
      exact hz j hj1
    · rw [List.append_assoc, List.getElem?_append_right (by omega), List.getElem?_append_left (by omega), hlen, List.getElem?_eq_getElem (by omega)]
      have h3 := hnew (j - m * k) _ (List.getElem?_eq_getElem (by omega))
      rw [h3, hx]
      congr 1
      omega
/-- Numbers that count up from q0. -/
def countUp (q0 : Int) (n : Nat) : List Int := (List.range n).map fun j => q0 + ((j : Nat) : Int)
theorem countUp_len (q0 : Int) (n : Nat) : (countUp q0 n).length = n := by simp [countUp]
theorem countUp_get (q0 : Int) (n : Nat) {j : Nat} (hj : j < n) : (countUp q0 n)[j]? = some (q0 + (j : Nat)) := by simp [countUp, hj]
/-- What marking a slice leaves. -/
def MarkRes (w : World) (lo hi k : Nat) (A : Option Addr) (n c : Nat) (q0 : Int) (e : Ending) (w' : World) : Prop :=
  e = .returned (.int .i64 (q0 + ((n * k : Nat) : Int))) ∧ Sl w' lo hi k A n c (countUp q0 (n * k)) ∧ Upd lo hi w w'
/-- What a look at a marked slice answers. -/
def HeldRes (w : World) (k n : Nat) (q0 : Int) (e : Ending) (w' : World) : Prop := e = .returned (.int .i64 (q0 + ((n * k : Nat) : Int))) ∧ w = w'
theorem MarkRel.done {w wr : World} {lo hi g off k n m c : Nat} {q0 x : Int} {ys : List Int} (hge : ¬ m < n) (hm : m ≤ n) (hx : x = q0 + ((m * k : Nat) : Int)) (hy : ys.length = n * k) (hI : Ints wr g off ys) (hz : ∀ j, j < m * k → ys[j]? = some (q0 + (j : Nat)))
    (hu : Upd lo hi w wr) (h1 : lo ≤ g) (h2 : g < hi) (hc : n ≤ c) (hb : c ≤ 9223372036854775807) : MarkRes w lo hi k (some ⟨g, off, none⟩) n c q0 (.returned (.int .i64 x)) wr := by
  obtain rfl : m = n := by omega
  have e : ys = countUp q0 (m * k) := by
    apply List.ext_getElem?
    intro j
    by_cases hj : j < m * k
    · rw [hz j hj, countUp_get _ _ hj]
    · rw [List.getElem?_eq_none (by omega), List.getElem?_eq_none (by rw [countUp_len]; omega)]
  subst e
  exact ⟨by rw [hx], ⟨hy, hc, hb, fun _ => ⟨g, off, rfl, h1, h2, hI⟩⟩, hu⟩

theorem ints_new (w : World) (E : TypeId) (zs : List Int) : Ints (w.alloc (.cells (zs.map (Value.int .i64)).toArray E)) w.heap.size 0 zs := by
  intro j x hx
  refine ⟨?_, by simp⟩
  rw [World.cell?_alloc_new, Nat.zero_add, List.getElem?_toArray, List.getElem?_map, hx]
  rfl
theorem SlRes.new {w w0 : World} {g n : Nat} (hb : Below w.heap.size w w0) (hg : g = w0.heap.size) (zs : List Int) (E : TypeId) (hn : zs.length = n) (hn1 : n ≤ 1048576) :
    SlRes w 1 n zs (.returned (.slice (some ⟨g, 0, none⟩) n n)) (w0.alloc (.cells (zs.map (Value.int .i64)).toArray E)) := by
  subst hg
  exact ⟨_, _, rfl, ⟨by omega, Nat.le_refl _, by omega, fun _ => ⟨_, 0, rfl, hb.size, by simp, ints_new w0 E zs⟩⟩, hb.alloc hb.size _⟩
theorem SlRes.none {w w' : World} (hb : Below w.heap.size w w') (k : Nat) (A : Option Addr) (c : Nat) (hc : c ≤ 9223372036854775807) : SlRes w k 0 [] (.returned (.slice A 0 c)) w' :=
  ⟨A, c, rfl, Sl.nil _ _ _ _ _ _ hc, hb⟩

end Go.Proofs.Ytgnilmdaegnaaaa
