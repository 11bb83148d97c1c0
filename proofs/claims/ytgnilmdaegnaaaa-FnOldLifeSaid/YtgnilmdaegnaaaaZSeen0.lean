/- Marks in plain words: which lists are valid, what a client's mark is, what recording does. No conditions. -/
import Derived.Test.YtgnilmdaegnaaaaZData
set_option linter.unusedSimpArgs false
set_option linter.unusedVariables false
namespace Go.Proofs.Ytgnilmdaegnaaaa
def markOk (m : MarkD) : Bool := btw m.client 2 5 && (btw m.seq 1 2000 && btw m.index 1 2000)
/-- The mark at place i is valid and fits those before it. -/
def seenStep (l : List MarkD) (i : Nat) : Bool :=
  match l[i]? with
  | none => true
  | some e => markOk e && ((match i with
    | 0 => true
    | j + 1 => match l[j]? with
      | none => true
      | some p => decide (p.client < e.client)) && (l.take i).all (fun p => p.index != e.index))
def seenOk (l : List MarkD) : Bool := l.all markOk && (decide (l.Pairwise (fun a b => a.client < b.client)) && decide (l.Pairwise (fun a b => a.index ≠ b.index)))
theorem seenOk_iff {l : List MarkD} : seenOk l = true ↔ (∀ m ∈ l, markOk m = true) ∧ l.Pairwise (fun a b => a.client < b.client) ∧ l.Pairwise (fun a b => a.index ≠ b.index) := by
  simp [seenOk]
theorem seenOk_of {l : List MarkD} (h : ∀ j, j < l.length → seenStep l j = true) : seenOk l = true := by
  have hs : ∀ j (hj : j < l.length), markOk l[j] = true ∧ (∀ q (hq : q + 1 = j), (l[q]'(by omega)).client < l[j].client) ∧ ∀ p ∈ l.take j, p.index ≠ l[j].index := by
    intro j hj
    have h1 := h j hj
    unfold seenStep at h1
    rw [List.getElem?_eq_getElem hj] at h1
    simp only [Bool.and_eq_true, List.all_eq_true] at h1
    refine ⟨h1.1, fun q hq => ?_, fun p hp => by simpa using h1.2.2 p hp⟩
    subst hq
    have h2 := h1.2.1
    simp only at h2
    rw [List.getElem?_eq_getElem (show q < l.length by omega)] at h2
    simpa using h2
  refine seenOk_iff.2 ⟨fun m hm => ?_, ?_, ?_⟩
  · obtain ⟨j, hj, rfl⟩ := List.getElem_of_mem hm
    exact (hs j hj).1
  · refine List.pairwise_iff_getElem.2 fun i j hi hj hij => ?_
    induction j with
    | zero => omega
    | succ q ih =>
      have h1 := (hs (q + 1) hj).2.1 q rfl
      by_cases e : i = q
      · subst e; exact h1
      · exact Int.lt_trans (ih (by omega) (by omega)) h1
  · refine List.pairwise_iff_getElem.2 fun i j hi hj hij => (hs j hj).2.2 _ ?_
    rw [List.mem_take_iff_getElem]
    exact ⟨i, by omega, rfl⟩
theorem seenStep_of {l : List MarkD} (h : seenOk l = true) (j : Nat) : seenStep l j = true := by
  obtain ⟨h1, h2, h3⟩ := seenOk_iff.1 h
  unfold seenStep
  cases hj : l[j]? with
  | none => rfl
  | some e =>
    obtain ⟨hl, rfl⟩ := List.getElem?_eq_some_iff.1 hj
    simp only [Bool.and_eq_true, List.all_eq_true]
    refine ⟨h1 _ (List.getElem_mem hl), ?_, fun p hp => ?_⟩
    · cases j with
      | zero => rfl
      | succ q =>
        simp only
        rw [List.getElem?_eq_getElem (show q < l.length by omega)]
        simpa using List.pairwise_iff_getElem.1 h2 q (q + 1) (by omega) hl (by omega)
    · rw [List.mem_take_iff_getElem] at hp
      obtain ⟨i, hi, rfl⟩ := hp
      simpa using List.pairwise_iff_getElem.1 h3 i j (by omega) hl (by omega)
theorem seenOk_not {l : List MarkD} {j : Nat} (h : seenStep l j = false) : seenOk l = false := by
  cases hs : seenOk l with
  | false => rfl
  | true => rw [seenStep_of hs j] at h; cases h
theorem client_ge {l : List MarkD} (h : seenOk l = true) : ∀ i (hi : i < l.length), (i : Int) + 2 ≤ l[i].client := by
  obtain ⟨h1, h2, _⟩ := seenOk_iff.1 h
  intro i
  induction i with
  | zero =>
    intro hi
    have := h1 _ (List.getElem_mem hi)
    simp only [markOk, Bool.and_eq_true, btw_iff] at this
    omega
  | succ q ih =>
    intro hi
    have h4 := ih (by omega)
    have h5 := List.pairwise_iff_getElem.1 h2 q (q + 1) (by omega) hi (by omega)
    omega
theorem seenOk_len {l : List MarkD} (h : seenOk l = true) : l.length ≤ 4 := by
  rcases Nat.lt_or_ge 4 l.length with h4 | h4
  · have h5 := client_ge h 4 h4
    have h6 := (seenOk_iff.1 h).1 _ (List.getElem_mem h4)
    simp only [markOk, Bool.and_eq_true, btw_iff] at h6
    omega
  · exact h4
theorem seenStep_take {l : List MarkD} {m j : Nat} (h : j < m) : seenStep (l.take m) j = seenStep l j := by
  unfold seenStep
  rw [List.getElem?_take, if_pos h, List.take_take, Nat.min_eq_left (by omega)]
  cases l[j]? with
  | none => rfl
  | some e =>
    cases j with
    | zero => rfl
    | succ q => simp only; rw [List.getElem?_take, if_pos (by omega)]
theorem steps_len {l : List MarkD} {m : Nat} (hm : m ≤ l.length) (h : ∀ j, j < m → seenStep l j = true) : m ≤ 4 := by
  have h1 : seenOk (l.take m) = true := seenOk_of fun j hj => by
    have hj' : j < m := by simp at hj; omega
    rw [seenStep_take hj']
    exact h j hj'
  have h2 := seenOk_len h1
  simp at h2
  omega
theorem seenOk_markOk {l : List MarkD} (h : seenOk l = true) {m : MarkD} (hm : m ∈ l) : (2 ≤ m.client ∧ m.client ≤ 5) ∧ (1 ≤ m.seq ∧ m.seq ≤ 2000) ∧ 1 ≤ m.index ∧ m.index ≤ 2000 := by
  have h6 := (seenOk_iff.1 h).1 _ hm
  simpa only [markOk, Bool.and_eq_true, btw_iff] using h6
def atClient (l : List MarkD) (c : Int) : Option MarkD := l.find? (fun m => m.client == c)
def zeroMark : MarkD := ⟨0, 0, 0⟩
def markAt (l : List MarkD) (c : Int) : MarkD := (atClient l c).getD zeroMark
def lastIdx (l : List MarkD) : Int := l.foldl (fun a m => max a m.index) 0
def lastSeen (l : List MarkD) : Int := if seenOk l then lastIdx l else 0
def gather (g : Int → Option MarkD) : List MarkD := [2, 3, 4, 5].filterMap g
theorem atClient_none {l : List MarkD} {c : Int} (h : ∀ m ∈ l, m.client ≠ c) : atClient l c = none :=
  List.find?_eq_none.2 fun m hm => by simpa using h m hm
theorem filterMap_same {α β : Type} {f g : α → Option β} : ∀ {l : List α}, (∀ x ∈ l, f x = g x) → l.filterMap f = l.filterMap g
  | [], _ => rfl
  | x :: l, h => by
    have ih := filterMap_same (l := l) fun y hy => h y (List.mem_cons_of_mem _ hy)
    rw [List.filterMap_cons, List.filterMap_cons, h x List.mem_cons_self, ih]
theorem gather_keys : ∀ (ks : List Int), ks.Pairwise (· < ·) → ∀ l : List MarkD, l.Pairwise (fun a b => a.client < b.client) → (∀ m ∈ l, m.client ∈ ks) → ks.filterMap (atClient l) = l
  | [], _, l, _, h => by
    cases l with
    | nil => rfl
    | cons m l => exact absurd (h m List.mem_cons_self) (by simp)
  | k :: ks, hk, l, hl, h => by
    rw [List.pairwise_cons] at hk
    cases l with
    | nil =>
      have : ∀ x : Int, atClient [] x = none := fun _ => rfl
      simp [this]
    | cons m l =>
      have hl' := List.pairwise_cons.1 hl
      by_cases e : m.client = k
      · have h1 : atClient (m :: l) k = some m := by simp [atClient, e]
        rw [List.filterMap_cons_some h1]
        congr 1
        have h2 : ks.filterMap (atClient (m :: l)) = ks.filterMap (atClient l) := by
          refine filterMap_same fun x hx => ?_
          have := hk.1 x hx
          have : (m.client == x) = false := by simp; omega
          simp [atClient, List.find?_cons, this]
        rw [h2]
        refine gather_keys ks hk.2 l hl'.2 fun y hy => ?_
        have h3 := h y (List.mem_cons_of_mem _ hy)
        rcases List.mem_cons.1 h3 with h4 | h4
        · have := hl'.1 y hy
          omega
        · exact h4
      · have hm : m.client ∈ ks := by
          rcases List.mem_cons.1 (h m List.mem_cons_self) with h4 | h4
          · exact absurd h4 e
          · exact h4
        have hmk := hk.1 _ hm
        have h1 : atClient (m :: l) k = none := atClient_none fun y hy => by
          rcases List.mem_cons.1 hy with rfl | hy
          · omega
          · have := hl'.1 y hy
            omega
        rw [List.filterMap_cons_none h1]
        refine gather_keys ks hk.2 (m :: l) hl fun y hy => ?_
        rcases List.mem_cons.1 (h y hy) with h4 | h4
        · rcases List.mem_cons.1 hy with rfl | hy
          · omega
          · have := hl'.1 y hy
            omega
        · exact h4
theorem gather_at {l : List MarkD} (h : seenOk l = true) : gather (atClient l) = l := by
  refine gather_keys [2, 3, 4, 5] (by decide) l (seenOk_iff.1 h).2.1 fun m hm => ?_
  have := (seenOk_markOk h hm).1
  simp
  omega
theorem atClient_mem {l : List MarkD} {c : Int} {m : MarkD} (h : atClient l c = some m) : m ∈ l ∧ m.client = c := by
  unfold atClient at h
  exact ⟨List.mem_of_find?_eq_some h, by simpa using List.find?_some h⟩
theorem atClient_of_mem {l : List MarkD} (hl : l.Pairwise (fun a b => a.client < b.client)) {m : MarkD} (hm : m ∈ l) : atClient l m.client = some m := by
  induction l with
  | nil => cases hm
  | cons x l ih =>
    rw [List.pairwise_cons] at hl
    rcases List.mem_cons.1 hm with rfl | hm
    · simp [atClient]
    · have := hl.1 m hm
      have : (x.client == m.client) = false := by simp; omega
      have h2 := ih hl.2 hm
      simpa [atClient, List.find?_cons, this] using h2
theorem atClient_append (a : List MarkD) (x : MarkD) (y : Int) : atClient (a ++ [x]) y = (atClient a y).or (if x.client = y then some x else none) := by
  unfold atClient
  rw [List.find?_append]
  congr 1
  by_cases h : x.client = y <;> simp [h]
theorem atClient_take {l : List MarkD} {m : Nat} {e : MarkD} (hl : l.Pairwise (fun a b => a.client < b.client)) (he : l[m]? = some e) (y : Int) :
    atClient (l.take (m + 1)) y = if y = e.client then some e else atClient (l.take m) y := by
  obtain ⟨h1, rfl⟩ := List.getElem?_eq_some_iff.1 he
  have ht : l.take (m + 1) = l.take m ++ [l[m]] := List.take_succ_eq_append_getElem h1
  rw [ht, atClient_append]
  by_cases e : y = l[m].client
  · subst e
    have h2 : atClient (l.take m) l[m].client = none := atClient_none fun x hx => by
      rw [List.mem_take_iff_getElem] at hx
      obtain ⟨i, hi, rfl⟩ := hx
      have := List.pairwise_iff_getElem.1 hl i m (by omega) h1 (by omega)
      omega
    rw [h2]
    simp
  · rw [if_neg e, if_neg (fun h => e h.symm), Option.or_none]
theorem lastIdx_fold (l : List MarkD) : ∀ a : Int, (∀ m ∈ l, m.index ≤ l.foldl (fun a m => max a m.index) a) ∧ a ≤ l.foldl (fun a m => max a m.index) a ∧ (l.foldl (fun a m => max a m.index) a = a ∨ ∃ m ∈ l, l.foldl (fun a m => max a m.index) a = m.index) := by
  induction l with
  | nil => intro a; simp
  | cons x l ih =>
    intro a
    obtain ⟨h1, h2, h3⟩ := ih (max a x.index)
    simp only [List.foldl_cons]
    refine ⟨fun m hm => ?_, by omega, ?_⟩
    · rcases List.mem_cons.1 hm with rfl | hm
      · omega
      · exact h1 m hm
    · rcases h3 with h3 | ⟨m, hm, h3⟩
      · rw [h3]
        by_cases hx : x.index ≤ a
        · left; omega
        · right; exact ⟨x, List.mem_cons_self, by omega⟩
      · right; exact ⟨m, List.mem_cons_of_mem _ hm, h3⟩
theorem lastIdx_ge {l : List MarkD} {m : MarkD} (h : m ∈ l) : m.index ≤ lastIdx l := (lastIdx_fold l 0).1 m h
theorem lastIdx_nonneg (l : List MarkD) : 0 ≤ lastIdx l := (lastIdx_fold l 0).2.1
theorem lastIdx_is (l : List MarkD) : lastIdx l = 0 ∨ ∃ m ∈ l, lastIdx l = m.index := (lastIdx_fold l 0).2.2
theorem lastIdx_of {l : List MarkD} {x : MarkD} (hx : x ∈ l) (h : ∀ m ∈ l, m.index ≤ x.index) (h0 : 0 ≤ x.index) : lastIdx l = x.index := by
  have h1 := lastIdx_ge hx
  rcases lastIdx_is l with h2 | ⟨m, hm, h2⟩
  · omega
  · have := h m hm
    omega
theorem lastIdx_append (a : List MarkD) (x : MarkD) : lastIdx (a ++ [x]) = max (lastIdx a) x.index := by simp [lastIdx]
theorem lastIdx_take {l : List MarkD} {m : Nat} {e : MarkD} (he : l[m]? = some e) : lastIdx (l.take (m + 1)) = max (lastIdx (l.take m)) e.index := by
  obtain ⟨h1, rfl⟩ := List.getElem?_eq_some_iff.1 he
  rw [List.take_succ_eq_append_getElem h1]
  exact lastIdx_append _ _
def EntryD.mark (e : EntryD) : MarkD := ⟨e.client, e.seq, e.index⟩
/-- x into the rest of a list of rising clients; whether it has been laid already. -/
def ins (x : MarkD) : Bool → List MarkD → List MarkD
  | d, [] => if d then [] else [x]
  | d, m :: l => (if !d && decide (x.client ≤ m.client) then [x] else []) ++ ((if m.client != x.client then [m] else []) ++ ins x (d || decide (x.client ≤ m.client)) l)
theorem ins_true (x : MarkD) : ∀ l, ins x true l = l.filter (fun m => m.client != x.client)
  | [] => rfl
  | m :: l => by
    simp only [ins, Bool.not_true, Bool.false_and, Bool.true_or, ins_true x l]
    by_cases e : m.client = x.client <;> simp [List.filter_cons, e]
theorem mem_ins {x : MarkD} : ∀ {d : Bool} {l : List MarkD} {m : MarkD}, m ∈ ins x d l → m = x ∨ (m ∈ l ∧ m.client ≠ x.client)
  | d, [], m, h => by
    cases d <;> simp [ins] at h
    exact .inl h
  | d, y :: l, m, h => by
    simp only [ins, List.mem_append] at h
    rcases h with h | h | h
    · split at h
      · simp at h; exact .inl h
      · cases h
    · split at h
      · rename_i hy
        simp at h
        subst h
        exact .inr ⟨List.mem_cons_self, by simpa using hy⟩
      · cases h
    · rcases mem_ins h with h | ⟨h1, h2⟩
      · exact .inl h
      · exact .inr ⟨List.mem_cons_of_mem _ h1, h2⟩
theorem ins_mem {x : MarkD} : ∀ {d : Bool} {l : List MarkD} {m : MarkD}, m ∈ l → m.client ≠ x.client → m ∈ ins x d l
  | d, y :: l, m, h, hn => by
    simp only [ins, List.mem_append]
    rcases List.mem_cons.1 h with rfl | h
    · right; left
      rw [if_pos (by simpa using hn)]
      exact List.mem_singleton.2 rfl
    · exact .inr (.inr (ins_mem h hn))
theorem mem_ins_self (x : MarkD) : ∀ l : List MarkD, x ∈ ins x false l
  | [] => by simp [ins]
  | y :: l => by
    simp only [ins, List.mem_append]
    by_cases h : x.client ≤ y.client
    · left; simp [h]
    · right; right
      simp only [h, decide_false, Bool.or_false]
      exact mem_ins_self x l
theorem ins_sorted {x : MarkD} : ∀ {l : List MarkD}, l.Pairwise (fun a b => a.client < b.client) → (ins x false l).Pairwise (fun a b => a.client < b.client)
  | [], _ => by simp [ins]
  | y :: l, h => by
    have h' := List.pairwise_cons.1 h
    by_cases hc : x.client ≤ y.client
    · have e : ins x false (y :: l) = x :: ((y :: l).filter (fun m => m.client != x.client)) := by
        rw [← ins_true]
        simp [ins, hc]
      rw [e, List.pairwise_cons]
      refine ⟨fun m hm => ?_, h.sublist List.filter_sublist⟩
      obtain ⟨h1, h2⟩ := List.mem_filter.1 hm
      have h2 : m.client ≠ x.client := by simpa using h2
      rcases List.mem_cons.1 h1 with rfl | h1
      · omega
      · have := h'.1 m h1
        omega
    · have hne : (y.client != x.client) = true := by simp; omega
      have e : ins x false (y :: l) = y :: ins x false l := by simp [ins, hc, hne]
      rw [e, List.pairwise_cons]
      refine ⟨fun m hm => ?_, ins_sorted h'.2⟩
      rcases mem_ins hm with rfl | ⟨h1, _⟩
      · omega
      · exact h'.1 m h1
theorem ins_apart {x : MarkD} {l : List MarkD} (hs : l.Pairwise (fun a b => a.client < b.client)) (h : l.Pairwise (fun a b => a.index ≠ b.index)) (hx : ∀ m ∈ l, m.index < x.index) : (ins x false l).Pairwise (fun a b => a.index ≠ b.index) := by
  -- no two of the list are of one client: places with one index would be one mark
  have h2 := ins_sorted (x := x) hs
  have key : ∀ a ∈ ins x false l, ∀ b ∈ ins x false l, a.client ≠ b.client → a.index ≠ b.index := by
    intro a ha b hb hab
    rcases mem_ins ha with rfl | ⟨ha1, ha2⟩
    · rcases mem_ins hb with rfl | ⟨hb1, hb2⟩
      · exact absurd rfl hab
      · have := hx b hb1; omega
    · rcases mem_ins hb with rfl | ⟨hb1, hb2⟩
      · have := hx a ha1; omega
      · intro e
        have inj : ∀ (l : List MarkD), l.Pairwise (fun a b => a.index ≠ b.index) → ∀ a ∈ l, ∀ b ∈ l, a.index = b.index → a = b := by
          intro l
          induction l with
          | nil => intro _ a ha; cases ha
          | cons y l ih =>
            intro hp a ha b hb e
            rw [List.pairwise_cons] at hp
            rcases List.mem_cons.1 ha with h1 | h1
            · rcases List.mem_cons.1 hb with h2 | h2
              · rw [h1, h2]
              · rw [h1] at e; exact absurd e (hp.1 b h2)
            · rcases List.mem_cons.1 hb with h2 | h2
              · rw [h2] at e; exact absurd e.symm (hp.1 a h1)
              · exact ih hp.2 a h1 b h2 e
        exact hab (by rw [inj l h a ha1 b hb1 e])
  rw [List.pairwise_iff_getElem] at h2 ⊢
  intro i j hi hj hij
  exact key _ (List.getElem_mem hi) _ (List.getElem_mem hj) (by have := h2 i j hi hj hij; omega)
theorem seenOk_ins {x : MarkD} {l : List MarkD} (h : seenOk l = true) (hx : markOk x = true) (hl : lastIdx l < x.index) : seenOk (ins x false l) = true := by
  obtain ⟨h1, h2, h3⟩ := seenOk_iff.1 h
  refine seenOk_iff.2 ⟨fun m hm => ?_, ins_sorted h2, ins_apart h2 h3 fun m hm => by have := lastIdx_ge hm; omega⟩
  rcases mem_ins hm with rfl | ⟨hm, _⟩
  · exact hx
  · exact h1 m hm
theorem atClient_ins {x : MarkD} {l : List MarkD} (h : l.Pairwise (fun a b => a.client < b.client)) (c : Int) : atClient (ins x false l) c = if c = x.client then some x else atClient l c := by
  by_cases e : c = x.client
  · subst e
    rw [if_pos rfl]
    exact atClient_of_mem (ins_sorted h) (mem_ins_self x l)
  · rw [if_neg e]
    cases ha : atClient l c with
    | none =>
      refine atClient_none fun m hm => ?_
      rcases mem_ins hm with rfl | ⟨hm, _⟩
      · exact fun e' => e e'.symm
      · unfold atClient at ha
        simpa using List.find?_eq_none.1 ha m hm
    | some m =>
      obtain ⟨hm, rfl⟩ := atClient_mem ha
      exact atClient_of_mem (ins_sorted h) (ins_mem hm e)
theorem lastIdx_ins {x : MarkD} {l : List MarkD} (hl : lastIdx l < x.index) : lastIdx (ins x false l) = x.index :=
  lastIdx_of (mem_ins_self x l) (fun m hm => by
    rcases mem_ins hm with rfl | ⟨hm, _⟩
    · exact Int.le_refl _
    · have := lastIdx_ge hm; omega) (by have := lastIdx_nonneg l; omega)
/-- May e be recorded behind the valid marks l? -/
def markable (l : List MarkD) (e : EntryD) : Bool := entryOk e && (decide ((markAt l e.client).seq < e.seq) && decide (lastIdx l < e.index))
theorem markable_iff {l : List MarkD} {e : EntryD} : markable l e = true ↔ entryOk e = true ∧ (markAt l e.client).seq < e.seq ∧ lastIdx l < e.index := by simp [markable]
def marked (l : List MarkD) (e : EntryD) : List MarkD × Bool := if seenOk l then if markable l e then (ins e.mark false l, true) else (l, false) else ([], false)
theorem entryOk_mark {e : EntryD} (h : entryOk e = true) : markOk e.mark = true := by
  simp only [entryOk, Bool.and_eq_true] at h
  simp only [markOk, EntryD.mark, Bool.and_eq_true]
  exact ⟨h.1.1.2, h.1.2, h.1.1.1.1⟩
theorem seenOk_mark {l : List MarkD} {e : EntryD} (h : seenOk l = true) (hm : markable l e = true) : seenOk (ins e.mark false l) = true := by
  obtain ⟨h1, _, h3⟩ := markable_iff.1 hm
  exact seenOk_ins h (entryOk_mark h1) h3
def overGo : List MarkD → List EntryD → Option (List MarkD)
  | s, [] => some s
  | s, e :: t => if markable s e then overGo (ins e.mark false s) t else none
def seenOver (s : List MarkD) (l : List EntryD) : List MarkD × Bool :=
  if seenOk s then if l.length ≤ 2000 then match overGo s l with
    | some r => (r, true)
    | none => (s, false)
  else (s, false) else ([], false)
theorem marked_over (s : List MarkD) (e : EntryD) : marked s e = seenOver s [e] := by
  unfold marked seenOver
  simp only [overGo]
  by_cases h : seenOk s = true <;> by_cases h2 : markable s e = true <;> simp [h, h2]
theorem drop_cons {α : Type} {l : List α} {m : Nat} {e : α} (h : l[m]? = some e) : l.drop m = e :: l.drop (m + 1) := by
  obtain ⟨h1, rfl⟩ := List.getElem?_eq_some_iff.1 h
  exact List.drop_eq_getElem_cons h1
end Go.Proofs.Ytgnilmdaegnaaaa
