/- Timers in order: slices.SortFunc at timers, and what an insertion is. No conditions. -/
import Derived.Test.YtkianeknbfahgaaTim6
import Derived.Shelf.SlSortCmp.NoneTotal
set_option linter.unusedSimpArgs false
set_option linter.unusedVariables false
namespace Go.Proofs.Ytkianeknbfahgaa
open Go.RowKit Go.Shelf Go.Lib Go.Sort

def sortTimer_ren : Go.Shelf.Ren := ⟨fun | 6 => 68 | 15 => 72 | 14 => 71 | 28 => 81 | 29 => 82 | 20 => 73 | 21 => 74 | 22 => 75 | 23 => 76 | 24 => 77 | 25 => 78 | 26 => 79 | 27 => 80 | 46 => 83 | 47 => 84 | 48 => 85 | 49 => 86 | 50 => 87 | 57 => 88 | n => n, fun | 22 => 40 | 24 => 60 | 25 => 67 | 3 => 3 | 39 => 57 | 0 => 0 | 53 => 84 | 55 => 35 | 4 => 4 | 46 => 77 | 45 => 76 | 50 => 81 | 5 => 5 | 9 => 9 | 66 => 86 | 70 => 90 | 76 => 92 | 77 => 93 | n => n, fun | n => n⟩
theorem sortTimer : SlLaysF0.n6 Try.prog sortTimer_ren := {
  mixed := by kernel_rfl
  f6 := ⟨Try.f68.name, by decide, Try.func68.trans (congrArg some (by kernel_rfl))⟩
  f14 := ⟨Try.f71.name, by decide, Try.func71.trans (congrArg some (by kernel_rfl))⟩
  f15 := Try.func72.trans (congrArg some (by kernel_rfl))
  f20 := ⟨Try.f73.name, by decide, Try.func73.trans (congrArg some (by kernel_rfl))⟩
  f21 := ⟨Try.f74.name, by decide, Try.func74.trans (congrArg some (by kernel_rfl))⟩
  f22 := ⟨Try.f75.name, by decide, Try.func75.trans (congrArg some (by kernel_rfl))⟩
  f23 := ⟨Try.f76.name, by decide, Try.func76.trans (congrArg some (by kernel_rfl))⟩
  f24 := ⟨Try.f77.name, by decide, Try.func77.trans (congrArg some (by kernel_rfl))⟩
  f25 := ⟨Try.f78.name, by decide, Try.func78.trans (congrArg some (by kernel_rfl))⟩
  f26 := ⟨Try.f79.name, by decide, Try.func79.trans (congrArg some (by kernel_rfl))⟩
  f27 := ⟨Try.f80.name, by decide, Try.func80.trans (congrArg some (by kernel_rfl))⟩
  f28 := Try.func81.trans (congrArg some (by kernel_rfl))
  f29 := Try.func82.trans (congrArg some (by kernel_rfl))
  f46 := ⟨Try.f83.name, by decide, Try.func83.trans (congrArg some (by kernel_rfl))⟩
  f47 := Try.func84.trans (congrArg some (by kernel_rfl))
  f48 := Try.func85.trans (congrArg some (by kernel_rfl))
  f49 := ⟨Try.f86.name, by decide, Try.func86.trans (congrArg some (by kernel_rfl))⟩
  f50 := ⟨Try.f87.name, by decide, Try.func87.trans (congrArg some (by kernel_rfl))⟩
  f57 := ⟨Try.f88.name, by decide, Try.func88.trans (congrArg some (by kernel_rfl))⟩
  t0 := Try.underlying0
  a0 := Try.isAgg0
  z0 := Try.sizeOf0
  v0 := Try.zeroValue0
  t3 := Try.underlying3
  a3 := Try.isAgg3
  z3 := Try.sizeOf3
  v3 := Try.zeroValue3
  t4 := Try.underlying4
  a4 := Try.isAgg4
  z4 := Try.sizeOf4
  v4 := Try.zeroValue4
  t5 := Try.underlying5
  a5 := Try.isAgg5
  z5 := Try.sizeOf5
  v5 := Try.zeroValue5
  t9 := Try.underlying9
  a9 := Try.isAgg9
  z9 := Try.sizeOf9
  v9 := Try.zeroValue9
  t22 := Try.underlying40
  a22 := Try.isAgg40
  z22 := Try.sizeOf40
  v22 := Try.zeroValue40
  t25 := Try.underlying67
  a25 := Try.isAgg67
  z25 := Try.sizeOf67
  v25 := Try.zeroValue67
  t39 := Try.underlying57
  a39 := Try.isAgg57
  z39 := Try.sizeOf57
  v39 := Try.zeroValue57
  t45 := Try.underlying76
  a45 := Try.isAgg76
  z45 := Try.sizeOf76
  v45 := Try.zeroValue76
  t46 := Try.underlying77
  a46 := Try.isAgg77
  z46 := Try.sizeOf77
  v46 := Try.zeroValue77
  t50 := Try.underlying81
  a50 := Try.isAgg81
  z50 := Try.sizeOf81
  v50 := Try.zeroValue81
  t53 := Try.underlying84
  a53 := Try.isAgg84
  z53 := Try.sizeOf84
  v53 := Try.zeroValue84
  t55 := Try.underlying35
  a55 := Try.isAgg35
  z55 := Try.sizeOf35
  v55 := Try.zeroValue35
  t66 := Try.underlying86
  a66 := Try.isAgg86
  z66 := Try.sizeOf86
  v66 := Try.zeroValue86
  t70 := Try.underlying90
  a70 := Try.isAgg90
  z70 := Try.sizeOf90
  v70 := Try.zeroValue90
  t76 := Try.underlying92
  a76 := Try.isAgg92
  z76 := Try.sizeOf92
  v76 := Try.zeroValue92
  t77 := Try.underlying93
  a77 := Try.isAgg93
  z77 := Try.sizeOf93
  v77 := Try.zeroValue93 }

instance : Inhabited TimerD := ⟨⟨0, 0⟩⟩
def encT (x : TimerD) : List Value := [.int .i64 x.id, .int .i64 x.due]
theorem timerLess_iff (a b : TimerD) : timerLess a b = true ↔ a.due < b.due ∨ (a.due = b.due ∧ a.id < b.id) := by simp [timerLess]
theorem timerLess_not (a b : TimerD) : timerLess a b = false ↔ ¬ (a.due < b.due ∨ (a.due = b.due ∧ a.id < b.id)) := by rw [← timerLess_iff]; simp
theorem ltOf_ord (x y : TimerD) : ltOf timerOrd x y = timerLess x y := by
  unfold ltOf timerOrd
  cases h : timerLess x y with
  | true => simp
  | false => by_cases hxy : x = y <;> simp [hxy]
theorem swo_ord : SWO (ltOf timerOrd) where
  irrefl x := by rw [ltOf_ord, timerLess_not]; omega
  trans x y z h1 h2 := by rw [ltOf_ord, timerLess_iff] at *; omega
  ntrans x y z h1 h2 := by rw [ltOf_ord, timerLess_not] at *; omega
theorem total_ord (x y : TimerD) (h1 : ltOf timerOrd x y = false) (h2 : ltOf timerOrd y x = false) : x = y := by
  rw [ltOf_ord, timerLess_not] at h1 h2
  cases x
  cases y
  simp at *
  omega
theorem flatT_at (l : List TimerD) (j : Nat) (z : Int) (hz : (l.flatMap TimerD.ints)[j]? = some z) : (flatK encT 2 l.toArray)[j]! = .int .i64 z := by
  have hj : j < l.length * 2 := by
    have := (List.getElem?_eq_some_iff.1 hz).1
    rw [flat_len TimerD.ints_len] at this
    exact this
  have hm : j / 2 < l.length := by omega
  have h2 := flat_get TimerD.ints_len l (j / 2) l[j / 2] (List.getElem?_eq_getElem hm) (j % 2) (Nat.mod_lt _ (by omega))
  rw [Nat.div_add_mod' j 2, hz] at h2
  unfold flatK
  rw [getElem!_pos _ j (by simpa using hj)]
  simp only [Array.getElem_map, Array.getElem_range]
  rw [getElem!_pos l.toArray (j / 2) (by simpa using hm)]
  simp only [List.getElem_toArray]
  rcases Nat.mod_two_eq_zero_or_one j with h | h
  · rw [h] at h2 ⊢
    simp only [TimerD.ints, List.getElem?_cons_zero] at h2
    injection h2 with h2
    rw [h2]
    rfl
  · rw [h] at h2 ⊢
    simp [TimerD.ints] at h2
    rw [h2]
    rfl
theorem flatT_size (l : List TimerD) : (flatK encT 2 l.toArray).size = l.length * 2 := by simp [flatK]
theorem holds_of_ints {w : World} {g off : Nat} {l : List TimerD} (h : Ints w g off (l.flatMap TimerD.ints)) : HoldsK encT 2 w g off l.toArray := fun j hj => by
  rw [flatT_size] at hj
  have hz := List.getElem?_eq_getElem (l := l.flatMap TimerD.ints) (i := j) (by rw [flat_len TimerD.ints_len]; exact hj)
  rw [flatT_at l j _ hz]
  exact h j _ hz
theorem ints_of_holds {w : World} {g off : Nat} {l : List TimerD} (h : HoldsK encT 2 w g off l.toArray) : Ints w g off (l.flatMap TimerD.ints) := fun j z hz => by
  have h2 := h j (by
    have := (List.getElem?_eq_some_iff.1 hz).1
    rw [flat_len TimerD.ints_len] at this
    rw [flatT_size]
    exact this)
  rw [flatT_at l j z hz] at h2
  exact h2
theorem sortWorld_upd {w : World} {g off n : Nat} {d : Array TimerD} {os : Array Obj} : Upd g (g + 1) w (sortWorldK encT 2 w g off n d os) := by
  refine ⟨rfl, rfl, rfl, ?_, fun b hb ho => ?_⟩
  · simp [sortWorldK, Sort.grow, putRowK, putRow, mapBlock, Sort.ahead]
  · have hne : g ≠ b := by omega
    simp only [sortWorldK, Sort.grow, putRowK, putRow, mapBlock, Sort.ahead]
    rw [Array.getElem?_append_left (by simpa using hb), Array.getElem?_modify]
    simp [hne]

set_option maxHeartbeats 1000000 in
theorem timerOrder_lays (a b c d : Int) (w : World) : Calls Try.prog 64 #[.agg #[.int .i64 a, .int .i64 b], .agg #[.int .i64 c, .int .i64 d]] w fun e w' => e = .returned (.int .i64 (timerOrd ⟨a, b⟩ ⟨c, d⟩)) ∧ ∃ q os', w' = Sort.grow (w.drewN q) os' := by
  have fin : ∀ x y : Obj, ∃ q os', (w.alloc x).alloc y = Sort.grow (w.drewN q) os' := fun x y => ⟨0, _, by rw [alloc_eq_grow, alloc_eq_grow, grow_grow]; rfl⟩
  by_cases h1 : b < d
  · have e : timerOrd ⟨a, b⟩ ⟨c, d⟩ = -1 := by simp [timerOrd, timerLess, h1]
    rw [e]
    clear e
    go_enter Try.func64, Try.ntmps64
    go_wp2
    go_ret
    exact ⟨rfl, fin _ _⟩
  by_cases h2 : b = d
  · subst h2
    by_cases h3 : a < c
    · have e : timerOrd ⟨a, b⟩ ⟨c, b⟩ = -1 := by simp [timerOrd, timerLess, h3]
      rw [e]
      clear e
      have h4 : (b == b) = true := by simp
      go_enter Try.func64, Try.ntmps64
      go_wp2
      go_ret
      exact ⟨rfl, fin _ _⟩
    · by_cases h4 : a = c
      · subst h4
        have e : timerOrd ⟨a, b⟩ ⟨a, b⟩ = 0 := by simp [timerOrd, timerLess]
        rw [e]
        clear e
        go_enter Try.func64, Try.ntmps64
        go_wp2
        go_ret
        exact ⟨rfl, fin _ _⟩
      · have e : timerOrd ⟨a, b⟩ ⟨c, b⟩ = 1 := by simp [timerOrd, timerLess, h3, h4]
        rw [e]
        clear e
        have h5 : (a == c) = false := by simpa using h4
        go_enter Try.func64, Try.ntmps64
        go_wp2
        go_ret
        exact ⟨rfl, fin _ _⟩
  · have e : timerOrd ⟨a, b⟩ ⟨c, d⟩ = 1 := by simp [timerOrd, timerLess, h1, h2]
    rw [e]
    clear e
    have h5 : (b == d) = false := by simpa using h2
    go_enter Try.func64, Try.ntmps64
    go_wp2
    go_ret
    exact ⟨rfl, fin _ _⟩
/-- The timers of a list, in order. -/
def sortT (l : List TimerD) : List TimerD := l.mergeSort fun x y => !timerLess y x
set_option maxHeartbeats 2000000 in
theorem sortTimers_any (g off cap : Nat) (l : List TimerD) (w : World) (hI : Ints w g off (l.flatMap TimerD.ints)) (hg : g < w.heap.size) (hsz : l.length < 4611686018427387904) :
    Calls Try.prog 68 #[.slice (some ⟨g, off, none⟩) l.length cap, .func (.func 64) #[] #[]] w fun e w' => e = .returned (.tuple #[]) ∧ Ints w' g off ((sortT l).flatMap TimerD.ints) ∧ Upd g (g + 1) w w' := by
  have eg : ∀ args w, (callFunc 64 args).run Try.prog w = .ok (.enter 64 args) w := enters_of Try.func64 (by kernel_rfl) rfl
  have hcmp : CmpLays Try.prog 64 #[] encT 2 timerOrd g off l.toArray.size w := fun m os dk _ x y => timerOrder_lays x.id x.due y.id y.due _
  have hH := holds_of_ints hI
  have hcon := AnyQ.slices_SortFunc_total sortTimer 2 Try.isAgg60 Try.sizeOf60 encT (fun _ => rfl) (fun x v hv => by simp [encT] at hv; rcases hv with rfl | rfl <;> rfl) timerOrd swo_ord 64 #[] g off cap l.toArray w eg hcmp hH hg (by simpa using hsz) total_ord
  change Calls Try.prog 68 _ _ _ at hcon
  rw [List.size_toArray] at hcon
  refine hcon.mono ?_
  rintro e w' ⟨he, n, os, hw⟩
  have hs : (l.toArray.toList.mergeSort fun x y => !(ltOf timerOrd) y x) = sortT l := by
    unfold sortT
    simp only [ltOf_ord]
  rw [hs] at hw
  subst hw
  refine ⟨he, ints_of_holds ?_, sortWorld_upd⟩
  refine holdsK_sortWorldK_c encT 2 w g off l.toArray (sortT l).toArray n os hH hg ?_
  simp [sortT, List.length_mergeSort]

/-- A timer put into a list in order. -/
def insT (l : List TimerD) (x : TimerD) : List TimerD := l.takeWhile (fun t => timerLess t x) ++ x :: l.dropWhile (fun t => timerLess t x)
theorem insT_len (l : List TimerD) (x : TimerD) : (insT l x).length = l.length + 1 := by
  have := congrArg List.length (List.takeWhile_append_dropWhile (p := fun t => timerLess t x) (l := l))
  rw [List.length_append] at this
  unfold insT
  rw [List.length_append, List.length_cons]
  omega
theorem insT_perm (l : List TimerD) (x : TimerD) : (insT l x).Perm (l ++ [x]) := by
  have h : (l.takeWhile (fun t => timerLess t x) ++ x :: l.dropWhile (fun t => timerLess t x)).Perm (x :: (l.takeWhile (fun t => timerLess t x) ++ l.dropWhile (fun t => timerLess t x))) := List.perm_middle
  rw [List.takeWhile_append_dropWhile] at h
  exact h.trans (List.perm_append_comm (l₁ := [x]) (l₂ := l))
theorem timersOk_pairwise {l : List TimerD} (h : timersOk l = true) : l.Pairwise (fun a b => timerLess a b = true) := by
  have hs : ∀ j, j < l.length → tStepOk l j = true := fun j hj => by
    simp only [timersOk, Bool.and_eq_true, List.all_eq_true, List.mem_range] at h
    exact h.2 j hj
  rw [List.pairwise_iff_getElem]
  intro i j hi hj hij
  induction j with
  | zero => omega
  | succ q ih =>
    have h1 := hs (q + 1) hj
    rw [tStep_succ (List.getElem?_eq_getElem hj) (List.getElem?_eq_getElem (show q < l.length by omega)), Bool.and_eq_true] at h1
    rcases Nat.lt_succ_iff_lt_or_eq.1 hij with h2 | rfl
    · have h3 := ih (by omega) h2
      rw [timerLess_iff] at *
      omega
    · exact h1.2
theorem insT_pairwise {l : List TimerD} {x : TimerD} (h : l.Pairwise (fun a b => timerLess a b = true)) (hx : ∀ t ∈ l, t.id ≠ x.id) : (insT l x).Pairwise (fun a b => timerLess a b = true) := by
  have e := List.takeWhile_append_dropWhile (p := fun t => timerLess t x) (l := l)
  have hp := h
  rw [← e, List.pairwise_append] at hp
  have hxd : ∀ t ∈ l.dropWhile (fun t => timerLess t x), timerLess x t = true := by
    intro t ht
    cases hd : l.dropWhile (fun t => timerLess t x) with
    | nil => rw [hd] at ht; simp at ht
    | cons y ys =>
      have hy : timerLess y x = false := by
        have := List.head?_dropWhile_not (fun t => timerLess t x) l
        rw [hd] at this
        simpa using this
      have hyl : y ∈ l := by rw [← e, hd]; simp
      have hxy : timerLess x y = true := by
        have := hx y hyl
        rw [timerLess_not] at hy
        rw [timerLess_iff]
        omega
      rw [hd] at ht
      rcases List.mem_cons.1 ht with rfl | ht
      · exact hxy
      · have h5 := hp.2.1
        rw [hd, List.pairwise_cons] at h5
        have h6 := h5.1 t ht
        rw [timerLess_iff] at *
        omega
  have htx : ∀ t ∈ l.takeWhile (fun t => timerLess t x), timerLess t x = true := fun t ht => by
    have := List.all_takeWhile (p := fun t => timerLess t x) (l := l)
    rw [List.all_eq_true] at this
    exact this t ht
  unfold insT
  rw [List.pairwise_append, List.pairwise_cons]
  refine ⟨hp.1, ⟨hxd, hp.2.1⟩, fun a ha b hb => ?_⟩
  rcases List.mem_cons.1 hb with rfl | hb
  · exact htx a ha
  · exact hp.2.2 a ha b hb
theorem sort_ins {l : List TimerD} {q d : Int} (h : timersOk l = true) : sortT (without l q ++ [⟨q, d⟩]) = insT (without l q) ⟨q, d⟩ := by
  have hp : (without l q).Pairwise (fun a b => timerLess a b = true) := (timersOk_pairwise h).filter _
  have hi := insT_pairwise (x := ⟨q, d⟩) hp (fun t ht => by
    have := (List.mem_filter.1 ht).2
    simpa using this)
  have hs : (sortT (without l q ++ [⟨q, d⟩])).Pairwise (fun a b => (!timerLess b a) = true) := by
    unfold sortT
    refine List.pairwise_mergeSort (fun a b c h1 h2 => ?_) (fun a b => ?_) _
    · simp only [Bool.not_eq_true', timerLess_not] at *
      omega
    · simp only [Bool.or_eq_true, Bool.not_eq_true', timerLess_not]
      omega
  refine List.Perm.eq_of_pairwise (le := fun a b => (!timerLess b a) = true) (fun a b _ _ h1 h2 => ?_) hs (hi.imp fun {a b} h1 => ?_) ((List.mergeSort_perm _ _).trans (insT_perm _ _).symm)
  · simp only [Bool.not_eq_true', timerLess_not] at *
    cases a
    cases b
    simp at *
    omega
  · simp only [Bool.not_eq_true', timerLess_not]
    rw [timerLess_iff] at h1
    omega
def timerSet (l : List TimerD) (q d : Int) : List TimerD × Bool := if timersOk l then (if timersOk (insT (without l q) ⟨q, d⟩) then (insT (without l q) ⟨q, d⟩, true) else (l, false)) else ([], false)
theorem timerSet_len (l : List TimerD) (q d : Int) : (timerSet l q d).1.length ≤ 16 := by
  unfold timerSet
  split
  · split
    · exact timersOk_len ‹_›
    · exact timersOk_len ‹_›
  · simp

end Go.Proofs.Ytkianeknbfahgaa
