/- Marks: recording one entry, the reference's way. No conditions. -/
import Derived.Test.YtgnilmdaegnaaaaSeen4
set_option linter.unusedSimpArgs false
set_option linter.unusedVariables false
namespace Go.Proofs.Ytgnilmdaegnaaaa
open Go.RowKit

/-- A fresh slice and a truth. -/
def SlBRes (w : World) (k n : Nat) (r : List Int × Bool) (e : Ending) (w' : World) : Prop :=
  ∃ A c, e = .returned (.tuple #[.slice A n c, .bool r.2]) ∧ Sl w' w.heap.size w'.heap.size k A n c r.1 ∧ Below w.heap.size w w'
theorem SlBRes.none {w w' : World} (hb : Below w.heap.size w w') (k : Nat) (A : Option Addr) (c : Nat) (hc : c ≤ 9223372036854775807) {b : Bool} : SlBRes w k 0 ([], b) (.returned (.tuple #[.slice A 0 c, .bool b])) w' :=
  ⟨A, c, rfl, Sl.nil _ _ _ _ _ _ hc, hb⟩
theorem src_new (W : World) (E k : Nat) (zs : List Int) (h : zs.length = k) : Sl (W.alloc (.cells (zs.map (Value.int .i64)).toArray E)) W.heap.size (W.heap.size + 1) k (some ⟨W.heap.size, 0, none⟩) 1 1 zs :=
  ⟨by omega, by omega, by omega, fun _ => ⟨_, 0, rfl, Nat.le_refl _, by omega, ints_new W E zs⟩⟩
theorem freshIn_valid {l : List MarkD} {e : EntryD} (h : seenOk l = true) (he : entryOk e = true) : freshIn l e.client e.seq = decide ((markAt l e.client).seq < e.seq) := by
  simp only [entryOk, Bool.and_eq_true] at he
  have h1 := he.1.1.2
  have h2 := he.1.2
  simp [freshIn, markOf, h, h1, h2]
theorem ins_len (x : MarkD) : ∀ (d : Bool) (l : List MarkD), (ins x d l).length ≤ 2 * l.length + 1
  | d, [] => by cases d <;> simp [ins]
  | d, m :: l => by
    have ih := ins_len x (d || decide (x.client ≤ m.client)) l
    simp only [ins, List.length_append, List.length_cons]
    split <;> split <;> simp <;> omega
/-- What the reference has laid after m rounds. -/
def InsRel (W : World) (base E n : Nat) (l : List MarkD) (x : MarkD) (v d i : Value) (wr : World) : Prop :=
  ∃ (m : Nat) (dd : Bool) (u : Value) (ys : List MarkD), m ≤ n ∧ i = .int .i64 (m : Nat) ∧ d = .bool dd ∧ v = u ∧ ys.length ≤ 2 * m ∧ ys ++ ins x dd (l.drop m) = ins x false l ∧ Own wr base E 3 u ys.length (ys.flatMap MarkD.ints) ∧ Below base W wr
section
variable {l ys r : List MarkD} {x p : MarkD} {m : Nat} {d : Bool}
theorem ins_step1 (hp : l[m]? = some p) (hy : ys ++ ins x false (l.drop m) = r) (hge : x.client ≤ p.client) (hpx : p.client = x.client) : (ys ++ [x]) ++ ins x true (l.drop (m + 1)) = r := by
  rw [← hy, drop_cons hp]
  simp [ins, hge, hpx]
theorem ins_step2 (hp : l[m]? = some p) (hy : ys ++ ins x true (l.drop m) = r) (hpx : p.client = x.client) : ys ++ ins x true (l.drop (m + 1)) = r := by
  rw [← hy, drop_cons hp]
  simp [ins, hpx]
theorem ins_step3 (hp : l[m]? = some p) (hy : ys ++ ins x false (l.drop m) = r) (hge : x.client ≤ p.client) (hpx : ¬ p.client = x.client) : (ys ++ [x] ++ [p]) ++ ins x true (l.drop (m + 1)) = r := by
  rw [← hy, drop_cons hp]
  simp [ins, hge, hpx]
theorem ins_step4 (hp : l[m]? = some p) (hy : ys ++ ins x true (l.drop m) = r) (hpx : ¬ p.client = x.client) : (ys ++ [p]) ++ ins x true (l.drop (m + 1)) = r := by
  rw [← hy, drop_cons hp]
  simp [ins, hpx]
theorem ins_step5 (hp : l[m]? = some p) (hy : ys ++ ins x false (l.drop m) = r) (hge : ¬ x.client ≤ p.client) : (ys ++ [p]) ++ ins x false (l.drop (m + 1)) = r := by
  have hpx : ¬ p.client = x.client := by omega
  rw [← hy, drop_cons hp]
  simp [ins, hge, hpx]
end
set_option maxRecDepth 100000 in
set_option maxHeartbeats 1000000 in
theorem l9Copy_any (A : Option Addr) (n c lo hi : Nat) (l : List MarkD) (w : World) (h : Sl w lo hi 3 A n c (l.flatMap MarkD.ints)) (hn : n ≤ 1000000) :
    Calls Try.prog 151 #[.slice A n c] w (SlRes w 3 n (l.flatMap MarkD.ints)) := by
  have o1 : Own (w.alloc (.cells #[] 117)) w.heap.size 117 3 (.slice (some ⟨w.heap.size, 0, none⟩) 0 0) 0 [] := Own.new w 117 3 [] rfl (Nat.le_refl _) (by omega)
  have O1 := Lib.hid o1
  have hb1 : Below (min hi w.heap.size) w (w.alloc (.cells #[] 117)) := (Below.refl _ _).alloc (Nat.min_le_right _ _) _
  have H := Lib.hid ((h.fit (by omega)).below hb1 (Nat.le_refl _))
  clear h o1
  go_enter Try.func151, Try.ntmps151
  go_wp2_with (at_builtin; go_loud (refine wpList_append_sl _ rfl (.tmp 3) (.tmp 4) 47 rfl w.heap.size 117 Try.underlying47 infoMark rfl (by omega) _ _ _ rfl O1.out _ n c _ _ _ rfl H.out (by omega) (by omega) (by (try simp only [World.heap_size_alloc, World.heap_size_drew, World.heap_size_setCell]); omega) ?_); intro v2 w2 o2 g2 a2)
  have hb2 : Below w.heap.size w w2 := ((Below.refl w.heap.size w).alloc (Nat.le_refl _) _).trans (grown_below g2 (by (try simp only [World.heap_size_alloc, World.heap_size_drew, World.heap_size_setCell]); omega) (fun g hg => (Own.lt O1.out g hg).1))
  have O2 := Lib.hid o2
  clear o2 g2 a2
  go_ret
  obtain ⟨A2, c2, rfl, s2⟩ := O2.out.sl
  rw [Nat.zero_add, List.nil_append] at s2
  rw [Nat.zero_add]
  exact ⟨A2, c2, rfl, s2, hb2⟩
set_option maxRecDepth 100000 in
set_option maxHeartbeats 1000000 in
theorem copySeen_any (A : Option Addr) (n c lo hi : Nat) (l : List MarkD) (w : World) (h : Sl w lo hi 3 A n c (l.flatMap MarkD.ints)) (hn : n ≤ 1000000) :
    Calls Try.prog 185 #[.slice A n c] w (SlRes w 3 n (l.flatMap MarkD.ints)) := by
  have o1 : Own (w.alloc (.cells #[] 117)) w.heap.size 117 3 (.slice (some ⟨w.heap.size, 0, none⟩) 0 0) 0 [] := Own.new w 117 3 [] rfl (Nat.le_refl _) (by omega)
  have O1 := Lib.hid o1
  have hb1 : Below (min hi w.heap.size) w (w.alloc (.cells #[] 117)) := (Below.refl _ _).alloc (Nat.min_le_right _ _) _
  have H := Lib.hid ((h.fit (by omega)).below hb1 (Nat.le_refl _))
  clear h o1
  go_enter Try.func185, Try.ntmps185
  go_wp2_with (at_builtin; go_loud (refine wpList_append_sl _ rfl (.tmp 3) (.tmp 4) 47 rfl w.heap.size 117 Try.underlying47 infoMark rfl (by omega) _ _ _ rfl O1.out _ n c _ _ _ rfl H.out (by omega) (by omega) (by (try simp only [World.heap_size_alloc, World.heap_size_drew, World.heap_size_setCell]); omega) ?_); intro v2 w2 o2 g2 a2)
  have hb2 : Below w.heap.size w w2 := ((Below.refl w.heap.size w).alloc (Nat.le_refl _) _).trans (grown_below g2 (by (try simp only [World.heap_size_alloc, World.heap_size_drew, World.heap_size_setCell]); omega) (fun g hg => (Own.lt O1.out g hg).1))
  have O2 := Lib.hid o2
  clear o2 g2 a2
  go_ret
  obtain ⟨A2, c2, rfl, s2⟩ := O2.out.sl
  rw [Nat.zero_add, List.nil_append] at s2
  rw [Nat.zero_add]
  exact ⟨A2, c2, rfl, s2, hb2⟩
set_option maxRecDepth 100000 in
set_option maxHeartbeats 8000000 in
theorem sMarked_any (A : Option Addr) (n c lo hi : Nat) (l : List MarkD) (e : EntryD) (w : World) (h : Sl w lo hi 3 A n c (l.flatMap MarkD.ints)) :
    Calls Try.prog 152 #[.slice A n c, .agg #[.int .i64 e.index, .int .i64 e.time, .int .i64 e.client, .int .i64 e.seq, .int .i64 e.op.kind, .int .i64 e.op.a, .int .i64 e.op.b, .int .i64 e.op.c, .int .i64 e.op.d]] w (SlBRes w 3 (marked l e).1.length ((marked l e).1.flatMap MarkD.ints, (marked l e).2)) := by
  have hn : n ≤ 9223372036854775807 := Nat.le_trans h.cap h.big
  have HL := Lib.hid (h.count MarkD.ints_len (by omega) : l.length = n)
  replace h := h.fit (by omega)
  have hhi : min hi w.heap.size ≤ w.heap.size := Nat.min_le_right _ _
  generalize min hi w.heap.size = hi at h hhi
  cases hok : seenOk l with
  | false =>
    have e0 : marked l e = ([], false) := by simp [marked, hok]
    rw [e0]
    clear e0
    have CO : ∀ W, Sl W lo hi 3 A n c (l.flatMap MarkD.ints) → Calls Try.prog 83 #[.slice A n c] W fun x w' => x = .returned (.bool false) ∧ Below W.heap.size W w' := fun W s => by
      have h7 := sSeenOk_any A n c lo hi l W s
      rw [hok] at h7
      exact h7
    have HO := Lib.hid CO
    clear CO
    clear hok
    go_enter Try.func152, Try.ntmps152
    go_wp2_with fail
    (with_reducible refine (HO.out _ (h.below (B := w.heap.size) (by (repeat' (first | with_reducible exact Below.refl _ _ | with_reducible assumption | with_reducible refine Below.drew ?_ | with_reducible refine Below.alloc ?_ ?_ _ | with_reducible refine Below.setCell ?_ ?_ _ | with_reducible refine Below.trans ?_ (Below.mono (by assumption) ?_) | ((try simp only [World.heap_size_alloc, World.heap_size_drew, World.heap_size_setCell]); omega)))) hhi)).mono ?_); rintro _ w1 ⟨rfl, b1⟩
    have y1 := b1.size
    simp only [World.heap_size_alloc] at y1
    go_wp2_with fail
    go_ret2
    exact SlBRes.none (by (repeat' (first | with_reducible exact Below.refl _ _ | with_reducible assumption | with_reducible refine Below.drew ?_ | with_reducible refine Below.alloc ?_ ?_ _ | with_reducible refine Below.setCell ?_ ?_ _ | with_reducible refine Below.trans ?_ (Below.mono (by assumption) ?_) | ((try simp only [World.heap_size_alloc, World.heap_size_drew, World.heap_size_setCell]); omega)))) _ _ _ (by omega)
  | true =>
    have hn4 : n ≤ 4 := by rw [← HL.out]; exact seenOk_len hok
    have CO : ∀ W, Sl W lo hi 3 A n c (l.flatMap MarkD.ints) → Calls Try.prog 83 #[.slice A n c] W fun x w' => x = .returned (.bool true) ∧ Below W.heap.size W w' := fun W s => by
      have h7 := sSeenOk_any A n c lo hi l W s
      rw [hok] at h7
      exact h7
    have HO := Lib.hid CO
    clear CO
    cases hE : entryOk e with
    | false =>
      have e0 : marked l e = (l, false) := by simp [marked, hok, markable, hE]
      rw [e0]
      clear e0
      have HE9 := hE
      have HC := Lib.hid (fun W s => l9Copy_any A n c lo hi l W s (by omega))
      have CE : ∀ W, Calls Try.prog 72 #[.agg #[.int .i64 e.index, .int .i64 e.time, .int .i64 e.client, .int .i64 e.seq, .int .i64 e.op.kind, .int .i64 e.op.a, .int .i64 e.op.b, .int .i64 e.op.c, .int .i64 e.op.d]] W fun x w' => x = .returned (.bool false) ∧ Below W.heap.size W w' := fun W => by
        have h7 := sEntryOk_any e.index e.time e.client e.seq e.op.kind e.op.a e.op.b e.op.c e.op.d W
        rw [show entryOk ⟨e.index, e.time, e.client, e.seq, ⟨e.op.kind, e.op.a, e.op.b, e.op.c, e.op.d⟩⟩ = false from hE] at h7
        exact h7
      have HCE := Lib.hid CE
      clear CE
      clear hE
      clear hok HE9
      go_enter Try.func152, Try.ntmps152
      go_wp2_with fail
      (with_reducible refine (HO.out _ (h.below (B := w.heap.size) (by (repeat' (first | with_reducible exact Below.refl _ _ | with_reducible assumption | with_reducible refine Below.drew ?_ | with_reducible refine Below.alloc ?_ ?_ _ | with_reducible refine Below.setCell ?_ ?_ _ | with_reducible refine Below.trans ?_ (Below.mono (by assumption) ?_) | ((try simp only [World.heap_size_alloc, World.heap_size_drew, World.heap_size_setCell]); omega)))) hhi)).mono ?_); rintro _ w1 ⟨rfl, b1⟩
      have y1 := b1.size
      simp only [World.heap_size_alloc] at y1
      have hz1 : w.heap.size < w1.heap.size := by omega
      have hw1 : Below w.heap.size w w1 := by (repeat' (first | with_reducible exact Below.refl _ _ | with_reducible assumption | with_reducible refine Below.drew ?_ | with_reducible refine Below.alloc ?_ ?_ _ | with_reducible refine Below.setCell ?_ ?_ _ | with_reducible refine Below.trans ?_ (Below.mono (by assumption) ?_) | ((try simp only [World.heap_size_alloc, World.heap_size_drew, World.heap_size_setCell]); omega)))
      have v0 : w1.cell? ⟨w.heap.size, 0, none⟩ = some (.int .i64 e.index) := (b1.cell (p := ⟨w.heap.size, 0, none⟩) (by (try simp only [World.heap_size_alloc, World.heap_size_drew, World.heap_size_setCell]); omega)).trans (by simp)
      have fv0 := fun d os => cell_regrown v0 d os
      have v1 : w1.cell? ⟨w.heap.size, 1, none⟩ = some (.int .i64 e.time) := (b1.cell (p := ⟨w.heap.size, 1, none⟩) (by (try simp only [World.heap_size_alloc, World.heap_size_drew, World.heap_size_setCell]); omega)).trans (by simp)
      have fv1 := fun d os => cell_regrown v1 d os
      have v2 : w1.cell? ⟨w.heap.size, 2, none⟩ = some (.int .i64 e.client) := (b1.cell (p := ⟨w.heap.size, 2, none⟩) (by (try simp only [World.heap_size_alloc, World.heap_size_drew, World.heap_size_setCell]); omega)).trans (by simp)
      have fv2 := fun d os => cell_regrown v2 d os
      have v3 : w1.cell? ⟨w.heap.size, 3, none⟩ = some (.int .i64 e.seq) := (b1.cell (p := ⟨w.heap.size, 3, none⟩) (by (try simp only [World.heap_size_alloc, World.heap_size_drew, World.heap_size_setCell]); omega)).trans (by simp)
      have fv3 := fun d os => cell_regrown v3 d os
      have v4 : w1.cell? ⟨w.heap.size, 4, none⟩ = some (.int .i64 e.op.kind) := (b1.cell (p := ⟨w.heap.size, 4, none⟩) (by (try simp only [World.heap_size_alloc, World.heap_size_drew, World.heap_size_setCell]); omega)).trans (by simp)
      have fv4 := fun d os => cell_regrown v4 d os
      have v5 : w1.cell? ⟨w.heap.size, 5, none⟩ = some (.int .i64 e.op.a) := (b1.cell (p := ⟨w.heap.size, 5, none⟩) (by (try simp only [World.heap_size_alloc, World.heap_size_drew, World.heap_size_setCell]); omega)).trans (by simp)
      have fv5 := fun d os => cell_regrown v5 d os
      have v6 : w1.cell? ⟨w.heap.size, 6, none⟩ = some (.int .i64 e.op.b) := (b1.cell (p := ⟨w.heap.size, 6, none⟩) (by (try simp only [World.heap_size_alloc, World.heap_size_drew, World.heap_size_setCell]); omega)).trans (by simp)
      have fv6 := fun d os => cell_regrown v6 d os
      have v7 : w1.cell? ⟨w.heap.size, 7, none⟩ = some (.int .i64 e.op.c) := (b1.cell (p := ⟨w.heap.size, 7, none⟩) (by (try simp only [World.heap_size_alloc, World.heap_size_drew, World.heap_size_setCell]); omega)).trans (by simp)
      have fv7 := fun d os => cell_regrown v7 d os
      have v8 : w1.cell? ⟨w.heap.size, 8, none⟩ = some (.int .i64 e.op.d) := (b1.cell (p := ⟨w.heap.size, 8, none⟩) (by (try simp only [World.heap_size_alloc, World.heap_size_drew, World.heap_size_setCell]); omega)).trans (by simp)
      have fv8 := fun d os => cell_regrown v8 d os
      have S1 := Lib.hid (h.below hw1 hhi)
      go_wp2_with fail
      refine wp_region_quiet_below (by kernel_rfl) (by kernel_rfl) ?_; (repeat (first | go_big_quiet_step ((go_at_call 72; exact Calls.regrown_of (HCE.out _))) | quiet_step ((go_at_call 72; exact Calls.regrown_of (HCE.out _))))); refine wpQuiet_nil ?_; intro _ hw'; obtain ⟨⟨nq, osq⟩, hw''⟩ := hw'; subst hw''; have hq := below_regrown w1 nq osq; generalize Sort.grow (redrawn w1 nq) osq = w2 at *
      have y2 := hq.size
      have hz2 : w.heap.size < w2.heap.size := by omega
      have hw2 : Below w.heap.size w w2 := hw1.trans (hq.mono (by omega))
      clear fv0 fv1 fv2 fv3 fv4 fv5 fv6 fv7 fv8
      go_wp2_with fail
      (with_reducible refine (HC.out _ (h.below hw2 hhi)).mono ?_); rintro _ w3 ⟨A3, c3, rfl, s3, b3⟩
      go_wp2_with fail
      go_ret2
      rw [HL.out]
      exact ⟨A3, c3, rfl, s3.mono (by omega) (Nat.le_refl _), hw2.trans (b3.mono (by omega))⟩
    | true =>
      have hfr : freshIn l e.client e.seq = decide ((markAt l e.client).seq < e.seq) := freshIn_valid hok hE
      by_cases hF : (markAt l e.client).seq < e.seq
      · have hF1 : freshIn l e.client e.seq = true := by rw [hfr]; simpa using hF
        by_cases hX : e.index ≤ lastIdx l
        · have e0 : marked l e = (l, false) := by
            have : decide (lastIdx l < e.index) = false := by simpa using hX
            simp [marked, hok, markable, hE, this]
          rw [e0]
          have HE9 := hX
          have hx1 : decide (e.index ≤ lastIdx l) = true := by simpa using hX
          clear e0
          have HC := Lib.hid (fun W s => l9Copy_any A n c lo hi l W s (by omega))
          have CE : ∀ W, Calls Try.prog 72 #[.agg #[.int .i64 e.index, .int .i64 e.time, .int .i64 e.client, .int .i64 e.seq, .int .i64 e.op.kind, .int .i64 e.op.a, .int .i64 e.op.b, .int .i64 e.op.c, .int .i64 e.op.d]] W fun x w' => x = .returned (.bool true) ∧ Below W.heap.size W w' := fun W => by
            have h7 := sEntryOk_any e.index e.time e.client e.seq e.op.kind e.op.a e.op.b e.op.c e.op.d W
            rw [show entryOk ⟨e.index, e.time, e.client, e.seq, ⟨e.op.kind, e.op.a, e.op.b, e.op.c, e.op.d⟩⟩ = true from hE] at h7
            exact h7
          have HCE := Lib.hid CE
          clear CE
          have CF : ∀ W, Sl W lo hi 3 A n c (l.flatMap MarkD.ints) → Calls Try.prog 177 #[.slice A n c, .int .i64 e.client, .int .i64 e.seq] W fun x w' => x = .returned (.bool true) ∧ Below W.heap.size W w' := fun W s => by
            have h7 := sFreshIn_any A n c lo hi l e.client e.seq W s
            rw [hF1] at h7
            exact h7
          have HCF := Lib.hid CF
          clear CF
          have CL : ∀ W, Sl W lo hi 3 A n c (l.flatMap MarkD.ints) → Calls Try.prog 84 #[.slice A n c] W fun x w' => x = .returned (.int .i64 (lastIdx l)) ∧ Below W.heap.size W w' := fun W s => by
            have h7 := sLastSeen_any A n c lo hi l W s
            rw [show lastSeen l = lastIdx l by simp [lastSeen, hok]] at h7
            exact h7
          have HCL := Lib.hid CL
          clear CL
          clear hE hfr hF hF1 hX
          clear hok HE9
          go_enter Try.func152, Try.ntmps152
          go_wp2_with fail
          (with_reducible refine (HO.out _ (h.below (B := w.heap.size) (by (repeat' (first | with_reducible exact Below.refl _ _ | with_reducible assumption | with_reducible refine Below.drew ?_ | with_reducible refine Below.alloc ?_ ?_ _ | with_reducible refine Below.setCell ?_ ?_ _ | with_reducible refine Below.trans ?_ (Below.mono (by assumption) ?_) | ((try simp only [World.heap_size_alloc, World.heap_size_drew, World.heap_size_setCell]); omega)))) hhi)).mono ?_); rintro _ w1 ⟨rfl, b1⟩
          have y1 := b1.size
          simp only [World.heap_size_alloc] at y1
          have hz1 : w.heap.size < w1.heap.size := by omega
          have hw1 : Below w.heap.size w w1 := by (repeat' (first | with_reducible exact Below.refl _ _ | with_reducible assumption | with_reducible refine Below.drew ?_ | with_reducible refine Below.alloc ?_ ?_ _ | with_reducible refine Below.setCell ?_ ?_ _ | with_reducible refine Below.trans ?_ (Below.mono (by assumption) ?_) | ((try simp only [World.heap_size_alloc, World.heap_size_drew, World.heap_size_setCell]); omega)))
          have v0 : w1.cell? ⟨w.heap.size, 0, none⟩ = some (.int .i64 e.index) := (b1.cell (p := ⟨w.heap.size, 0, none⟩) (by (try simp only [World.heap_size_alloc, World.heap_size_drew, World.heap_size_setCell]); omega)).trans (by simp)
          have fv0 := fun d os => cell_regrown v0 d os
          have v1 : w1.cell? ⟨w.heap.size, 1, none⟩ = some (.int .i64 e.time) := (b1.cell (p := ⟨w.heap.size, 1, none⟩) (by (try simp only [World.heap_size_alloc, World.heap_size_drew, World.heap_size_setCell]); omega)).trans (by simp)
          have fv1 := fun d os => cell_regrown v1 d os
          have v2 : w1.cell? ⟨w.heap.size, 2, none⟩ = some (.int .i64 e.client) := (b1.cell (p := ⟨w.heap.size, 2, none⟩) (by (try simp only [World.heap_size_alloc, World.heap_size_drew, World.heap_size_setCell]); omega)).trans (by simp)
          have fv2 := fun d os => cell_regrown v2 d os
          have v3 : w1.cell? ⟨w.heap.size, 3, none⟩ = some (.int .i64 e.seq) := (b1.cell (p := ⟨w.heap.size, 3, none⟩) (by (try simp only [World.heap_size_alloc, World.heap_size_drew, World.heap_size_setCell]); omega)).trans (by simp)
          have fv3 := fun d os => cell_regrown v3 d os
          have v4 : w1.cell? ⟨w.heap.size, 4, none⟩ = some (.int .i64 e.op.kind) := (b1.cell (p := ⟨w.heap.size, 4, none⟩) (by (try simp only [World.heap_size_alloc, World.heap_size_drew, World.heap_size_setCell]); omega)).trans (by simp)
          have fv4 := fun d os => cell_regrown v4 d os
          have v5 : w1.cell? ⟨w.heap.size, 5, none⟩ = some (.int .i64 e.op.a) := (b1.cell (p := ⟨w.heap.size, 5, none⟩) (by (try simp only [World.heap_size_alloc, World.heap_size_drew, World.heap_size_setCell]); omega)).trans (by simp)
          have fv5 := fun d os => cell_regrown v5 d os
          have v6 : w1.cell? ⟨w.heap.size, 6, none⟩ = some (.int .i64 e.op.b) := (b1.cell (p := ⟨w.heap.size, 6, none⟩) (by (try simp only [World.heap_size_alloc, World.heap_size_drew, World.heap_size_setCell]); omega)).trans (by simp)
          have fv6 := fun d os => cell_regrown v6 d os
          have v7 : w1.cell? ⟨w.heap.size, 7, none⟩ = some (.int .i64 e.op.c) := (b1.cell (p := ⟨w.heap.size, 7, none⟩) (by (try simp only [World.heap_size_alloc, World.heap_size_drew, World.heap_size_setCell]); omega)).trans (by simp)
          have fv7 := fun d os => cell_regrown v7 d os
          have v8 : w1.cell? ⟨w.heap.size, 8, none⟩ = some (.int .i64 e.op.d) := (b1.cell (p := ⟨w.heap.size, 8, none⟩) (by (try simp only [World.heap_size_alloc, World.heap_size_drew, World.heap_size_setCell]); omega)).trans (by simp)
          have fv8 := fun d os => cell_regrown v8 d os
          have S1 := Lib.hid (h.below hw1 hhi)
          go_wp2_with fail
          refine wp_region_quiet_below (by kernel_rfl) (by kernel_rfl) ?_; (repeat (first | go_big_quiet_step ((first | (go_at_call 72; exact Calls.regrown_of (HCE.out _)) | (go_at_call 177; exact Calls.regrown_of (HCF.out _ (S1.out.below (below_regrown _ _ _) (by omega)))) | (go_at_call 84; exact Calls.regrown_of (HCL.out _ (S1.out.below (below_regrown _ _ _) (by omega)))))) | quiet_step ((first | (go_at_call 72; exact Calls.regrown_of (HCE.out _)) | (go_at_call 177; exact Calls.regrown_of (HCF.out _ (S1.out.below (below_regrown _ _ _) (by omega)))) | (go_at_call 84; exact Calls.regrown_of (HCL.out _ (S1.out.below (below_regrown _ _ _) (by omega)))))))); refine wpQuiet_nil ?_; intro _ hw'; obtain ⟨⟨nq, osq⟩, hw''⟩ := hw'; subst hw''; have hq := below_regrown w1 nq osq; generalize Sort.grow (redrawn w1 nq) osq = w2 at *
          have y2 := hq.size
          have hz2 : w.heap.size < w2.heap.size := by omega
          have hw2 : Below w.heap.size w w2 := hw1.trans (hq.mono (by omega))
          clear fv0 fv1 fv2 fv3 fv4 fv5 fv6 fv7 fv8
          go_wp2_with fail
          (with_reducible refine (HC.out _ (h.below hw2 hhi)).mono ?_); rintro _ w3 ⟨A3, c3, rfl, s3, b3⟩
          go_wp2_with fail
          go_ret2
          rw [HL.out]
          exact ⟨A3, c3, rfl, s3.mono (by omega) (Nat.le_refl _), hw2.trans (b3.mono (by omega))⟩
        · have HM9 : Hid (marked l e = (ins e.mark false l, true)) := Lib.hid (by
            have h1 : markable l e = true := markable_iff.2 ⟨hE, hF, by omega⟩
            simp [marked, hok, h1])
          have hml : (ins e.mark false l).length ≤ 9 := by
            have := ins_len e.mark false l
            have := HL.out
            omega
          rw [HM9.out]
          have HE9 := hX
          have hx1 : decide (e.index ≤ lastIdx l) = false := by simpa using hX
          have CE : ∀ W, Calls Try.prog 72 #[.agg #[.int .i64 e.index, .int .i64 e.time, .int .i64 e.client, .int .i64 e.seq, .int .i64 e.op.kind, .int .i64 e.op.a, .int .i64 e.op.b, .int .i64 e.op.c, .int .i64 e.op.d]] W fun x w' => x = .returned (.bool true) ∧ Below W.heap.size W w' := fun W => by
            have h7 := sEntryOk_any e.index e.time e.client e.seq e.op.kind e.op.a e.op.b e.op.c e.op.d W
            rw [show entryOk ⟨e.index, e.time, e.client, e.seq, ⟨e.op.kind, e.op.a, e.op.b, e.op.c, e.op.d⟩⟩ = true from hE] at h7
            exact h7
          have HCE := Lib.hid CE
          clear CE
          have CF : ∀ W, Sl W lo hi 3 A n c (l.flatMap MarkD.ints) → Calls Try.prog 177 #[.slice A n c, .int .i64 e.client, .int .i64 e.seq] W fun x w' => x = .returned (.bool true) ∧ Below W.heap.size W w' := fun W s => by
            have h7 := sFreshIn_any A n c lo hi l e.client e.seq W s
            rw [hF1] at h7
            exact h7
          have HCF := Lib.hid CF
          clear CF
          have CL : ∀ W, Sl W lo hi 3 A n c (l.flatMap MarkD.ints) → Calls Try.prog 84 #[.slice A n c] W fun x w' => x = .returned (.int .i64 (lastIdx l)) ∧ Below W.heap.size W w' := fun W s => by
            have h7 := sLastSeen_any A n c lo hi l W s
            rw [show lastSeen l = lastIdx l by simp [lastSeen, hok]] at h7
            exact h7
          have HCL := Lib.hid CL
          clear CL
          clear hE hfr hF hF1 hX
          clear hok HE9
          go_enter Try.func152, Try.ntmps152
          go_wp2_with fail
          (with_reducible refine (HO.out _ (h.below (B := w.heap.size) (by (repeat' (first | with_reducible exact Below.refl _ _ | with_reducible assumption | with_reducible refine Below.drew ?_ | with_reducible refine Below.alloc ?_ ?_ _ | with_reducible refine Below.setCell ?_ ?_ _ | with_reducible refine Below.trans ?_ (Below.mono (by assumption) ?_) | ((try simp only [World.heap_size_alloc, World.heap_size_drew, World.heap_size_setCell]); omega)))) hhi)).mono ?_); rintro _ w1 ⟨rfl, b1⟩
          have y1 := b1.size
          simp only [World.heap_size_alloc] at y1
          have hz1 : w.heap.size < w1.heap.size := by omega
          have hw1 : Below w.heap.size w w1 := by (repeat' (first | with_reducible exact Below.refl _ _ | with_reducible assumption | with_reducible refine Below.drew ?_ | with_reducible refine Below.alloc ?_ ?_ _ | with_reducible refine Below.setCell ?_ ?_ _ | with_reducible refine Below.trans ?_ (Below.mono (by assumption) ?_) | ((try simp only [World.heap_size_alloc, World.heap_size_drew, World.heap_size_setCell]); omega)))
          have v0 : w1.cell? ⟨w.heap.size, 0, none⟩ = some (.int .i64 e.index) := (b1.cell (p := ⟨w.heap.size, 0, none⟩) (by (try simp only [World.heap_size_alloc, World.heap_size_drew, World.heap_size_setCell]); omega)).trans (by simp)
          have fv0 := fun d os => cell_regrown v0 d os
          have v1 : w1.cell? ⟨w.heap.size, 1, none⟩ = some (.int .i64 e.time) := (b1.cell (p := ⟨w.heap.size, 1, none⟩) (by (try simp only [World.heap_size_alloc, World.heap_size_drew, World.heap_size_setCell]); omega)).trans (by simp)
          have fv1 := fun d os => cell_regrown v1 d os
          have v2 : w1.cell? ⟨w.heap.size, 2, none⟩ = some (.int .i64 e.client) := (b1.cell (p := ⟨w.heap.size, 2, none⟩) (by (try simp only [World.heap_size_alloc, World.heap_size_drew, World.heap_size_setCell]); omega)).trans (by simp)
          have fv2 := fun d os => cell_regrown v2 d os
          have v3 : w1.cell? ⟨w.heap.size, 3, none⟩ = some (.int .i64 e.seq) := (b1.cell (p := ⟨w.heap.size, 3, none⟩) (by (try simp only [World.heap_size_alloc, World.heap_size_drew, World.heap_size_setCell]); omega)).trans (by simp)
          have fv3 := fun d os => cell_regrown v3 d os
          have v4 : w1.cell? ⟨w.heap.size, 4, none⟩ = some (.int .i64 e.op.kind) := (b1.cell (p := ⟨w.heap.size, 4, none⟩) (by (try simp only [World.heap_size_alloc, World.heap_size_drew, World.heap_size_setCell]); omega)).trans (by simp)
          have fv4 := fun d os => cell_regrown v4 d os
          have v5 : w1.cell? ⟨w.heap.size, 5, none⟩ = some (.int .i64 e.op.a) := (b1.cell (p := ⟨w.heap.size, 5, none⟩) (by (try simp only [World.heap_size_alloc, World.heap_size_drew, World.heap_size_setCell]); omega)).trans (by simp)
          have fv5 := fun d os => cell_regrown v5 d os
          have v6 : w1.cell? ⟨w.heap.size, 6, none⟩ = some (.int .i64 e.op.b) := (b1.cell (p := ⟨w.heap.size, 6, none⟩) (by (try simp only [World.heap_size_alloc, World.heap_size_drew, World.heap_size_setCell]); omega)).trans (by simp)
          have fv6 := fun d os => cell_regrown v6 d os
          have v7 : w1.cell? ⟨w.heap.size, 7, none⟩ = some (.int .i64 e.op.c) := (b1.cell (p := ⟨w.heap.size, 7, none⟩) (by (try simp only [World.heap_size_alloc, World.heap_size_drew, World.heap_size_setCell]); omega)).trans (by simp)
          have fv7 := fun d os => cell_regrown v7 d os
          have v8 : w1.cell? ⟨w.heap.size, 8, none⟩ = some (.int .i64 e.op.d) := (b1.cell (p := ⟨w.heap.size, 8, none⟩) (by (try simp only [World.heap_size_alloc, World.heap_size_drew, World.heap_size_setCell]); omega)).trans (by simp)
          have fv8 := fun d os => cell_regrown v8 d os
          have S1 := Lib.hid (h.below hw1 hhi)
          go_wp2_with fail
          refine wp_region_quiet_below (by kernel_rfl) (by kernel_rfl) ?_; (repeat (first | go_big_quiet_step ((first | (go_at_call 72; exact Calls.regrown_of (HCE.out _)) | (go_at_call 177; exact Calls.regrown_of (HCF.out _ (S1.out.below (below_regrown _ _ _) (by omega)))) | (go_at_call 84; exact Calls.regrown_of (HCL.out _ (S1.out.below (below_regrown _ _ _) (by omega)))))) | quiet_step ((first | (go_at_call 72; exact Calls.regrown_of (HCE.out _)) | (go_at_call 177; exact Calls.regrown_of (HCF.out _ (S1.out.below (below_regrown _ _ _) (by omega)))) | (go_at_call 84; exact Calls.regrown_of (HCL.out _ (S1.out.below (below_regrown _ _ _) (by omega)))))))); refine wpQuiet_nil ?_; intro _ hw'; obtain ⟨⟨nq, osq⟩, hw''⟩ := hw'; subst hw''; have hq := below_regrown w1 nq osq; generalize Sort.grow (redrawn w1 nq) osq = w2 at *
          have y2 := hq.size
          have hz2 : w.heap.size < w2.heap.size := by omega
          have hw2 : Below w.heap.size w w2 := hw1.trans (hq.mono (by omega))
          clear fv0 fv1 fv2 fv3 fv4 fv5 fv6 fv7 fv8
          have u0 : w2.cell? ⟨w.heap.size, 0, none⟩ = some (.int .i64 e.index) := (hq.cell (p := ⟨w.heap.size, 0, none⟩) hz1).trans v0
          have u2 : w2.cell? ⟨w.heap.size, 2, none⟩ = some (.int .i64 e.client) := (hq.cell (p := ⟨w.heap.size, 2, none⟩) hz1).trans v2
          have u3 : w2.cell? ⟨w.heap.size, 3, none⟩ = some (.int .i64 e.seq) := (hq.cell (p := ⟨w.heap.size, 3, none⟩) hz1).trans v3
          clear v0 v1 v2 v3 v4 v5 v6 v7 v8
          have B2 : Hid ((w2.alloc (.cells #[.int .i64 e.client, .int .i64 e.seq, .int .i64 e.index] 117)).cell? ⟨w.heap.size, 2, none⟩ = some (.int .i64 e.client)) := Lib.hid ((World.cell?_alloc_lt _ _ _ hz2).trans u2)
          have M0 : Hid ((w2.alloc (.cells #[.int .i64 e.client, .int .i64 e.seq, .int .i64 e.index] 117)).cell? ⟨w2.heap.size, 0, none⟩ = some (.int .i64 e.client)) := Lib.hid (by simp)
          have M1 : Hid ((w2.alloc (.cells #[.int .i64 e.client, .int .i64 e.seq, .int .i64 e.index] 117)).cell? ⟨w2.heap.size, 1, none⟩ = some (.int .i64 e.seq)) := Lib.hid (by simp)
          have M2 : Hid ((w2.alloc (.cells #[.int .i64 e.client, .int .i64 e.seq, .int .i64 e.index] 117)).cell? ⟨w2.heap.size, 2, none⟩ = some (.int .i64 e.index)) := Lib.hid (by simp)
          have hwW : Below w.heap.size w (w2.alloc (.cells #[.int .i64 e.client, .int .i64 e.seq, .int .i64 e.index] 117)) := hw2.alloc (by omega) _
          have HWW := Lib.hid hwW
          have O0 : Hid (Own ((w2.alloc (.cells #[.int .i64 e.client, .int .i64 e.seq, .int .i64 e.index] 117)).alloc (.cells #[] 117)) (w2.heap.size + 1) 117 3 (.slice (some ⟨w2.heap.size + 1, 0, none⟩) 0 0) 0 []) := Lib.hid (by
            have h9 := Own.new (w2.alloc (.cells #[.int .i64 e.client, .int .i64 e.seq, .int .i64 e.index] 117)) 117 3 [] (base := w2.heap.size + 1) (n := 0) rfl (by (try simp only [World.heap_size_alloc, World.heap_size_drew, World.heap_size_setCell]); omega) (by omega)
            rw [World.heap_size_alloc] at h9
            exact h9)
          have H := Lib.hid h
          clear h hwW hq hw2 hw1 b1 S1
          go_wp2
          go_loopw [7, 8, 9] (fun v d i wr => InsRel (w2.alloc (.cells #[.int .i64 e.client, .int .i64 e.seq, .int .i64 e.index] 117)) (w2.heap.size + 1) 117 n l e.mark v d i wr) (fun _ _ i _ => n - (intOf i).toNat)
          case atStart => exact ⟨0, false, _, [], Nat.zero_le _, rfl, rfl, rfl, by simp, rfl, O0.out, by (repeat' (first | with_reducible exact Below.refl _ _ | with_reducible assumption | with_reducible refine Below.drew ?_ | with_reducible refine Below.alloc ?_ ?_ _ | with_reducible refine Below.setCell ?_ ?_ _ | with_reducible refine Below.trans ?_ (Below.mono (by assumption) ?_) | ((try simp only [World.heap_size_alloc, World.heap_size_drew, World.heap_size_setCell]); omega)))⟩
          case round =>
            obtain ⟨m, d, u, ys, hm, rfl, rfl, rfl, hyn, hy, ho, hb⟩ := hrel
            have hbz := hb.size
            simp only [World.heap_size_alloc] at hbz
            by_cases hlt : m < n
            · obtain ⟨g, off, p, rfl, _, hg, hp, p0, p1, p2⟩ := H.out.mark hlt
              have hgw : g < w.heap.size := by omega
              have HP := Lib.hid hp
              have P0 : Hid ((w2.alloc (.cells #[.int .i64 e.client, .int .i64 e.seq, .int .i64 e.index] 117)).cell? ⟨g, off + m * 3, none⟩ = some (.int .i64 p.client)) := Lib.hid ((HWW.out.cell (p := ⟨g, off + m * 3, none⟩) hgw).trans p0)
              have P1 : Hid ((w2.alloc (.cells #[.int .i64 e.client, .int .i64 e.seq, .int .i64 e.index] 117)).cell? ⟨g, off + m * 3 + 1, none⟩ = some (.int .i64 p.seq)) := Lib.hid ((HWW.out.cell (p := ⟨g, off + m * 3 + 1, none⟩) hgw).trans p1)
              have P2 : Hid ((w2.alloc (.cells #[.int .i64 e.client, .int .i64 e.seq, .int .i64 e.index] 117)).cell? ⟨g, off + m * 3 + 2, none⟩ = some (.int .i64 p.index)) := Lib.hid ((HWW.out.cell (p := ⟨g, off + m * 3 + 2, none⟩) hgw).trans p2)
              clear hp p0 p1 p2
              have ab := (hb.cell (p := ⟨w.heap.size, 2, none⟩) (show w.heap.size < w2.heap.size + 1 by omega)).trans B2.out
              have am0 := (hb.cell (p := ⟨w2.heap.size, 0, none⟩) (show w2.heap.size < w2.heap.size + 1 by omega)).trans M0.out
              have am1 := (hb.cell (p := ⟨w2.heap.size, 1, none⟩) (show w2.heap.size < w2.heap.size + 1 by omega)).trans M1.out
              have am2 := (hb.cell (p := ⟨w2.heap.size, 2, none⟩) (show w2.heap.size < w2.heap.size + 1 by omega)).trans M2.out
              have ap0 := (hb.cell (p := ⟨g, off + m * 3, none⟩) (show g < w2.heap.size + 1 by omega)).trans P0.out
              have ap1 := (hb.cell (p := ⟨g, off + m * 3 + 1, none⟩) (show g < w2.heap.size + 1 by omega)).trans P1.out
              have ap2 := (hb.cell (p := ⟨g, off + m * 3 + 2, none⟩) (show g < w2.heap.size + 1 by omega)).trans P2.out
              have fab := fun dd os => cell_regrown ab dd os
              have fam0 := fun dd os => cell_regrown am0 dd os
              have fam1 := fun dd os => cell_regrown am1 dd os
              have fam2 := fun dd os => cell_regrown am2 dd os
              have fap0 := fun dd os => cell_regrown ap0 dd os
              have fap1 := fun dd os => cell_regrown ap1 dd os
              have fap2 := fun dd os => cell_regrown ap2 dd os
              have HO := Lib.hid ho
              have HY := Lib.hid hy
              have HB := Lib.hid hb
              clear ho hy
              cases d with
              | true =>
                by_cases hpx : p.client = e.client
                · have hpx1 : (p.client != e.client) = false := by simp [hpx]
                  have HPX := Lib.hid hpx
                  clear hpx
                  go_wp2
                  refine wp_region_quiet_below (by kernel_rfl) (by kernel_rfl) ?_; (repeat (first | go_big_quiet_step (fail) | quiet_step (fail))); refine wpQuiet_nil ?_; intro _ hw'; obtain ⟨⟨nq, osq⟩, hw''⟩ := hw'; subst hw''; have hq := below_regrown wr nq osq; generalize Sort.grow (redrawn wr nq) osq = w4 at *
                  have hz4 := hq.size
                  have hb4 : Below (w2.heap.size + 1) (w2.alloc (.cells #[.int .i64 e.client, .int .i64 e.seq, .int .i64 e.index] 117)) w4 := hb.trans (hq.mono (by omega))
                  have HO4 := Lib.hid (HO.out.kept hq)
                  clear fab fam0 fam1 fam2 fap0 fap1 fap2 ab am0 am1 am2 ap0 ap1 ap2
                  clear hq hb
                  have cb := (hb4.cell (p := ⟨w.heap.size, 2, none⟩) (show w.heap.size < w2.heap.size + 1 by omega)).trans B2.out
                  have cm0 := (hb4.cell (p := ⟨w2.heap.size, 0, none⟩) (show w2.heap.size < w2.heap.size + 1 by omega)).trans M0.out
                  have cm1 := (hb4.cell (p := ⟨w2.heap.size, 1, none⟩) (show w2.heap.size < w2.heap.size + 1 by omega)).trans M1.out
                  have cm2 := (hb4.cell (p := ⟨w2.heap.size, 2, none⟩) (show w2.heap.size < w2.heap.size + 1 by omega)).trans M2.out
                  have cp0 := (hb4.cell (p := ⟨g, off + m * 3, none⟩) (show g < w2.heap.size + 1 by omega)).trans P0.out
                  have cp1 := (hb4.cell (p := ⟨g, off + m * 3 + 1, none⟩) (show g < w2.heap.size + 1 by omega)).trans P1.out
                  have cp2 := (hb4.cell (p := ⟨g, off + m * 3 + 2, none⟩) (show g < w2.heap.size + 1 by omega)).trans P2.out
                  have fcb := fun dd os => cell_regrown cb dd os
                  have fcm0 := fun dd os => cell_regrown cm0 dd os
                  have fcm1 := fun dd os => cell_regrown cm1 dd os
                  have fcm2 := fun dd os => cell_regrown cm2 dd os
                  have fcp0 := fun dd os => cell_regrown cp0 dd os
                  have fcp1 := fun dd os => cell_regrown cp1 dd os
                  have fcp2 := fun dd os => cell_regrown cp2 dd os
                  have hb := hb4
                  clear hb4
                  go_wp2
                  refine wp_region_quiet_below (by kernel_rfl) (by kernel_rfl) ?_; (repeat (first | go_big_quiet_step (fail) | quiet_step (fail))); refine wpQuiet_nil ?_; intro _ hw'; obtain ⟨⟨nq, osq⟩, hw''⟩ := hw'; subst hw''; have hq := below_regrown w4 nq osq; generalize Sort.grow (redrawn w4 nq) osq = w6 at *
                  have hz6 := hq.size
                  have hb6 : Below (w2.heap.size + 1) (w2.alloc (.cells #[.int .i64 e.client, .int .i64 e.seq, .int .i64 e.index] 117)) w6 := hb.trans (hq.mono (by omega))
                  have HO6 := Lib.hid (HO4.out.kept hq)
                  clear fcb fcm0 fcm1 fcm2 fcp0 fcp1 fcp2 cb cm0 cm1 cm2 cp0 cp1 cp2
                  clear hq hb
                  have kb := (hb6.cell (p := ⟨w.heap.size, 2, none⟩) (show w.heap.size < w2.heap.size + 1 by omega)).trans B2.out
                  have km0 := (hb6.cell (p := ⟨w2.heap.size, 0, none⟩) (show w2.heap.size < w2.heap.size + 1 by omega)).trans M0.out
                  have km1 := (hb6.cell (p := ⟨w2.heap.size, 1, none⟩) (show w2.heap.size < w2.heap.size + 1 by omega)).trans M1.out
                  have km2 := (hb6.cell (p := ⟨w2.heap.size, 2, none⟩) (show w2.heap.size < w2.heap.size + 1 by omega)).trans M2.out
                  have kp0 := (hb6.cell (p := ⟨g, off + m * 3, none⟩) (show g < w2.heap.size + 1 by omega)).trans P0.out
                  have kp1 := (hb6.cell (p := ⟨g, off + m * 3 + 1, none⟩) (show g < w2.heap.size + 1 by omega)).trans P1.out
                  have kp2 := (hb6.cell (p := ⟨g, off + m * 3 + 2, none⟩) (show g < w2.heap.size + 1 by omega)).trans P2.out
                  have hb := hb6
                  clear hb6
                  go_wp2
                  go_roundw
                  case rel => exact ⟨m + 1, true, _, ys, hlt, by go_num, rfl, rfl, by omega, ins_step2 HP.out HY.out HPX.out, HO6.out, hb⟩
                  case measure => simp [intOf]; omega
                · have hpx1 : (p.client != e.client) = true := by simpa using hpx
                  have HPX := Lib.hid hpx
                  clear hpx
                  go_wp2
                  refine wp_region_quiet_below (by kernel_rfl) (by kernel_rfl) ?_; (repeat (first | go_big_quiet_step (fail) | quiet_step (fail))); refine wpQuiet_nil ?_; intro _ hw'; obtain ⟨⟨nq, osq⟩, hw''⟩ := hw'; subst hw''; have hq := below_regrown wr nq osq; generalize Sort.grow (redrawn wr nq) osq = w4 at *
                  have hz4 := hq.size
                  have hb4 : Below (w2.heap.size + 1) (w2.alloc (.cells #[.int .i64 e.client, .int .i64 e.seq, .int .i64 e.index] 117)) w4 := hb.trans (hq.mono (by omega))
                  have HO4 := Lib.hid (HO.out.kept hq)
                  clear fab fam0 fam1 fam2 fap0 fap1 fap2 ab am0 am1 am2 ap0 ap1 ap2
                  clear hq hb
                  have cb := (hb4.cell (p := ⟨w.heap.size, 2, none⟩) (show w.heap.size < w2.heap.size + 1 by omega)).trans B2.out
                  have cm0 := (hb4.cell (p := ⟨w2.heap.size, 0, none⟩) (show w2.heap.size < w2.heap.size + 1 by omega)).trans M0.out
                  have cm1 := (hb4.cell (p := ⟨w2.heap.size, 1, none⟩) (show w2.heap.size < w2.heap.size + 1 by omega)).trans M1.out
                  have cm2 := (hb4.cell (p := ⟨w2.heap.size, 2, none⟩) (show w2.heap.size < w2.heap.size + 1 by omega)).trans M2.out
                  have cp0 := (hb4.cell (p := ⟨g, off + m * 3, none⟩) (show g < w2.heap.size + 1 by omega)).trans P0.out
                  have cp1 := (hb4.cell (p := ⟨g, off + m * 3 + 1, none⟩) (show g < w2.heap.size + 1 by omega)).trans P1.out
                  have cp2 := (hb4.cell (p := ⟨g, off + m * 3 + 2, none⟩) (show g < w2.heap.size + 1 by omega)).trans P2.out
                  have fcb := fun dd os => cell_regrown cb dd os
                  have fcm0 := fun dd os => cell_regrown cm0 dd os
                  have fcm1 := fun dd os => cell_regrown cm1 dd os
                  have fcm2 := fun dd os => cell_regrown cm2 dd os
                  have fcp0 := fun dd os => cell_regrown cp0 dd os
                  have fcp1 := fun dd os => cell_regrown cp1 dd os
                  have fcp2 := fun dd os => cell_regrown cp2 dd os
                  have hb := hb4
                  clear hb4
                  go_wp2
                  refine wp_region_quiet_below (by kernel_rfl) (by kernel_rfl) ?_; (repeat (first | go_big_quiet_step (fail) | quiet_step (fail))); refine wpQuiet_nil ?_; intro _ hw'; obtain ⟨⟨nq, osq⟩, hw''⟩ := hw'; subst hw''; have hq := below_regrown w4 nq osq; generalize Sort.grow (redrawn w4 nq) osq = w6 at *
                  have hz6 := hq.size
                  have hb6 : Below (w2.heap.size + 1) (w2.alloc (.cells #[.int .i64 e.client, .int .i64 e.seq, .int .i64 e.index] 117)) w6 := hb.trans (hq.mono (by omega))
                  have HO6 := Lib.hid (HO4.out.kept hq)
                  clear fcb fcm0 fcm1 fcm2 fcp0 fcp1 fcp2 cb cm0 cm1 cm2 cp0 cp1 cp2
                  clear hq hb
                  have kb := (hb6.cell (p := ⟨w.heap.size, 2, none⟩) (show w.heap.size < w2.heap.size + 1 by omega)).trans B2.out
                  have km0 := (hb6.cell (p := ⟨w2.heap.size, 0, none⟩) (show w2.heap.size < w2.heap.size + 1 by omega)).trans M0.out
                  have km1 := (hb6.cell (p := ⟨w2.heap.size, 1, none⟩) (show w2.heap.size < w2.heap.size + 1 by omega)).trans M1.out
                  have km2 := (hb6.cell (p := ⟨w2.heap.size, 2, none⟩) (show w2.heap.size < w2.heap.size + 1 by omega)).trans M2.out
                  have kp0 := (hb6.cell (p := ⟨g, off + m * 3, none⟩) (show g < w2.heap.size + 1 by omega)).trans P0.out
                  have kp1 := (hb6.cell (p := ⟨g, off + m * 3 + 1, none⟩) (show g < w2.heap.size + 1 by omega)).trans P1.out
                  have kp2 := (hb6.cell (p := ⟨g, off + m * 3 + 2, none⟩) (show g < w2.heap.size + 1 by omega)).trans P2.out
                  have hb := hb6
                  clear hb6
                  go_wp2_with (at_builtin; go_loud (refine wpList_append_sl _ rfl (.tmp 73) (.tmp 78) 47 rfl (w2.heap.size + 1) 117 Try.underlying47 infoMark rfl (by omega) _ _ _ rfl (HO6.out.kept ((Below.refl _ _).alloc (Nat.le_refl _) _)) _ 1 1 _ _ [p.client, p.seq, p.index] rfl (src_new w6 117 3 [p.client, p.seq, p.index] rfl) (by omega) (by omega) (by (try simp only [World.heap_size_alloc, World.heap_size_drew, World.heap_size_setCell]); omega) ?_); intro v7 w7 o5 g5 a5)
                  have hb5 : Below (w2.heap.size + 1) (w2.alloc (.cells #[.int .i64 e.client, .int .i64 e.seq, .int .i64 e.index] 117)) w7 := (hb.alloc (by omega) _).trans (grown_below g5 (by (try simp only [World.heap_size_alloc, World.heap_size_drew, World.heap_size_setCell]); omega) (fun b hb => (Own.lt HO6.out b hb).1))
                  have hz7 := g5.size
                  (try simp only [World.heap_size_alloc] at hz7)
                  have HO7 := Lib.hid o5
                  clear o5 g5 a5
                  go_roundw
                  case rel => exact ⟨m + 1, true, _, ys ++ [p], hlt, by go_num, rfl, rfl, by simp only [List.length_append, List.length_singleton]; omega, ins_step4 HP.out HY.out HPX.out, by rw [List.length_append, List.flatMap_append]; exact HO7.out, hb5⟩
                  case measure => simp [intOf]; omega
              | false =>
                by_cases hge : e.client ≤ p.client
                · have hge1 : decide (e.client ≤ p.client) = true := by simpa using hge
                  have HGE := Lib.hid hge
                  clear hge
                  by_cases hpx : p.client = e.client
                  · have hpx1 : (p.client != e.client) = false := by simp [hpx]
                    have HPX := Lib.hid hpx
                    clear hpx
                    go_wp2
                    refine wp_region_quiet_below (by kernel_rfl) (by kernel_rfl) ?_; (repeat (first | go_big_quiet_step (fail) | quiet_step (fail))); refine wpQuiet_nil ?_; intro _ hw'; obtain ⟨⟨nq, osq⟩, hw''⟩ := hw'; subst hw''; have hq := below_regrown wr nq osq; generalize Sort.grow (redrawn wr nq) osq = w4 at *
                    have hz4 := hq.size
                    have hb4 : Below (w2.heap.size + 1) (w2.alloc (.cells #[.int .i64 e.client, .int .i64 e.seq, .int .i64 e.index] 117)) w4 := hb.trans (hq.mono (by omega))
                    have HO4 := Lib.hid (HO.out.kept hq)
                    clear fab fam0 fam1 fam2 fap0 fap1 fap2 ab am0 am1 am2 ap0 ap1 ap2
                    clear hq hb
                    have cb := (hb4.cell (p := ⟨w.heap.size, 2, none⟩) (show w.heap.size < w2.heap.size + 1 by omega)).trans B2.out
                    have cm0 := (hb4.cell (p := ⟨w2.heap.size, 0, none⟩) (show w2.heap.size < w2.heap.size + 1 by omega)).trans M0.out
                    have cm1 := (hb4.cell (p := ⟨w2.heap.size, 1, none⟩) (show w2.heap.size < w2.heap.size + 1 by omega)).trans M1.out
                    have cm2 := (hb4.cell (p := ⟨w2.heap.size, 2, none⟩) (show w2.heap.size < w2.heap.size + 1 by omega)).trans M2.out
                    have cp0 := (hb4.cell (p := ⟨g, off + m * 3, none⟩) (show g < w2.heap.size + 1 by omega)).trans P0.out
                    have cp1 := (hb4.cell (p := ⟨g, off + m * 3 + 1, none⟩) (show g < w2.heap.size + 1 by omega)).trans P1.out
                    have cp2 := (hb4.cell (p := ⟨g, off + m * 3 + 2, none⟩) (show g < w2.heap.size + 1 by omega)).trans P2.out
                    have fcb := fun dd os => cell_regrown cb dd os
                    have fcm0 := fun dd os => cell_regrown cm0 dd os
                    have fcm1 := fun dd os => cell_regrown cm1 dd os
                    have fcm2 := fun dd os => cell_regrown cm2 dd os
                    have fcp0 := fun dd os => cell_regrown cp0 dd os
                    have fcp1 := fun dd os => cell_regrown cp1 dd os
                    have fcp2 := fun dd os => cell_regrown cp2 dd os
                    have hb := hb4
                    clear hb4
                    go_wp2_with (at_builtin; go_loud (refine wpList_append_sl _ rfl (.tmp 61) (.tmp 63) 47 rfl (w2.heap.size + 1) 117 Try.underlying47 infoMark rfl (by omega) _ _ _ rfl (HO4.out.kept ((Below.refl _ _).alloc (Nat.le_refl _) _)) _ 1 1 _ _ [e.client, e.seq, e.index] rfl (src_new w4 117 3 [e.client, e.seq, e.index] rfl) (by omega) (by omega) (by (try simp only [World.heap_size_alloc, World.heap_size_drew, World.heap_size_setCell]); omega) ?_); intro v5 w5 o5 g5 a5)
                    have hb5 : Below (w2.heap.size + 1) (w2.alloc (.cells #[.int .i64 e.client, .int .i64 e.seq, .int .i64 e.index] 117)) w5 := (hb.alloc (by omega) _).trans (grown_below g5 (by (try simp only [World.heap_size_alloc, World.heap_size_drew, World.heap_size_setCell]); omega) (fun b hb => (Own.lt HO4.out b hb).1))
                    have hz5 := g5.size
                    (try simp only [World.heap_size_alloc] at hz5)
                    have HO5 := Lib.hid o5
                    clear o5 g5 a5
                    clear fcb fcm0 fcm1 fcm2 fcp0 fcp1 fcp2 cb cm0 cm1 cm2 cp0 cp1 cp2
                    clear hb
                    have hb := hb5
                    clear hb5
                    have db := (hb.cell (p := ⟨w.heap.size, 2, none⟩) (show w.heap.size < w2.heap.size + 1 by omega)).trans B2.out
                    have dm0 := (hb.cell (p := ⟨w2.heap.size, 0, none⟩) (show w2.heap.size < w2.heap.size + 1 by omega)).trans M0.out
                    have dm1 := (hb.cell (p := ⟨w2.heap.size, 1, none⟩) (show w2.heap.size < w2.heap.size + 1 by omega)).trans M1.out
                    have dm2 := (hb.cell (p := ⟨w2.heap.size, 2, none⟩) (show w2.heap.size < w2.heap.size + 1 by omega)).trans M2.out
                    have dp0 := (hb.cell (p := ⟨g, off + m * 3, none⟩) (show g < w2.heap.size + 1 by omega)).trans P0.out
                    have dp1 := (hb.cell (p := ⟨g, off + m * 3 + 1, none⟩) (show g < w2.heap.size + 1 by omega)).trans P1.out
                    have dp2 := (hb.cell (p := ⟨g, off + m * 3 + 2, none⟩) (show g < w2.heap.size + 1 by omega)).trans P2.out
                    have fdb := fun dd os => cell_regrown db dd os
                    have fdm0 := fun dd os => cell_regrown dm0 dd os
                    have fdm1 := fun dd os => cell_regrown dm1 dd os
                    have fdm2 := fun dd os => cell_regrown dm2 dd os
                    have fdp0 := fun dd os => cell_regrown dp0 dd os
                    have fdp1 := fun dd os => cell_regrown dp1 dd os
                    have fdp2 := fun dd os => cell_regrown dp2 dd os
                    go_wp2
                    refine wp_region_quiet_below (by kernel_rfl) (by kernel_rfl) ?_; (repeat (first | go_big_quiet_step (fail) | quiet_step (fail))); refine wpQuiet_nil ?_; intro _ hw'; obtain ⟨⟨nq, osq⟩, hw''⟩ := hw'; subst hw''; have hq := below_regrown w5 nq osq; generalize Sort.grow (redrawn w5 nq) osq = w6 at *
                    have hz6 := hq.size
                    have hb6 : Below (w2.heap.size + 1) (w2.alloc (.cells #[.int .i64 e.client, .int .i64 e.seq, .int .i64 e.index] 117)) w6 := hb.trans (hq.mono (by omega))
                    have HO6 := Lib.hid (HO5.out.kept hq)
                    clear fdb fdm0 fdm1 fdm2 fdp0 fdp1 fdp2 db dm0 dm1 dm2 dp0 dp1 dp2
                    clear hq hb
                    have kb := (hb6.cell (p := ⟨w.heap.size, 2, none⟩) (show w.heap.size < w2.heap.size + 1 by omega)).trans B2.out
                    have km0 := (hb6.cell (p := ⟨w2.heap.size, 0, none⟩) (show w2.heap.size < w2.heap.size + 1 by omega)).trans M0.out
                    have km1 := (hb6.cell (p := ⟨w2.heap.size, 1, none⟩) (show w2.heap.size < w2.heap.size + 1 by omega)).trans M1.out
                    have km2 := (hb6.cell (p := ⟨w2.heap.size, 2, none⟩) (show w2.heap.size < w2.heap.size + 1 by omega)).trans M2.out
                    have kp0 := (hb6.cell (p := ⟨g, off + m * 3, none⟩) (show g < w2.heap.size + 1 by omega)).trans P0.out
                    have kp1 := (hb6.cell (p := ⟨g, off + m * 3 + 1, none⟩) (show g < w2.heap.size + 1 by omega)).trans P1.out
                    have kp2 := (hb6.cell (p := ⟨g, off + m * 3 + 2, none⟩) (show g < w2.heap.size + 1 by omega)).trans P2.out
                    have hb := hb6
                    clear hb6
                    go_wp2
                    go_roundw
                    case rel => exact ⟨m + 1, true, _, ys ++ [e.mark], hlt, by go_num, rfl, rfl, by rw [List.length_append]; simp only [List.length_singleton]; omega, ins_step1 HP.out HY.out HGE.out HPX.out, by rw [List.length_append, List.flatMap_append]; exact HO6.out, hb⟩
                    case measure => simp [intOf]; omega
                  · have hpx1 : (p.client != e.client) = true := by simpa using hpx
                    have HPX := Lib.hid hpx
                    clear hpx
                    go_wp2
                    refine wp_region_quiet_below (by kernel_rfl) (by kernel_rfl) ?_; (repeat (first | go_big_quiet_step (fail) | quiet_step (fail))); refine wpQuiet_nil ?_; intro _ hw'; obtain ⟨⟨nq, osq⟩, hw''⟩ := hw'; subst hw''; have hq := below_regrown wr nq osq; generalize Sort.grow (redrawn wr nq) osq = w4 at *
                    have hz4 := hq.size
                    have hb4 : Below (w2.heap.size + 1) (w2.alloc (.cells #[.int .i64 e.client, .int .i64 e.seq, .int .i64 e.index] 117)) w4 := hb.trans (hq.mono (by omega))
                    have HO4 := Lib.hid (HO.out.kept hq)
                    clear fab fam0 fam1 fam2 fap0 fap1 fap2 ab am0 am1 am2 ap0 ap1 ap2
                    clear hq hb
                    have cb := (hb4.cell (p := ⟨w.heap.size, 2, none⟩) (show w.heap.size < w2.heap.size + 1 by omega)).trans B2.out
                    have cm0 := (hb4.cell (p := ⟨w2.heap.size, 0, none⟩) (show w2.heap.size < w2.heap.size + 1 by omega)).trans M0.out
                    have cm1 := (hb4.cell (p := ⟨w2.heap.size, 1, none⟩) (show w2.heap.size < w2.heap.size + 1 by omega)).trans M1.out
                    have cm2 := (hb4.cell (p := ⟨w2.heap.size, 2, none⟩) (show w2.heap.size < w2.heap.size + 1 by omega)).trans M2.out
                    have cp0 := (hb4.cell (p := ⟨g, off + m * 3, none⟩) (show g < w2.heap.size + 1 by omega)).trans P0.out
                    have cp1 := (hb4.cell (p := ⟨g, off + m * 3 + 1, none⟩) (show g < w2.heap.size + 1 by omega)).trans P1.out
                    have cp2 := (hb4.cell (p := ⟨g, off + m * 3 + 2, none⟩) (show g < w2.heap.size + 1 by omega)).trans P2.out
                    have fcb := fun dd os => cell_regrown cb dd os
                    have fcm0 := fun dd os => cell_regrown cm0 dd os
                    have fcm1 := fun dd os => cell_regrown cm1 dd os
                    have fcm2 := fun dd os => cell_regrown cm2 dd os
                    have fcp0 := fun dd os => cell_regrown cp0 dd os
                    have fcp1 := fun dd os => cell_regrown cp1 dd os
                    have fcp2 := fun dd os => cell_regrown cp2 dd os
                    have hb := hb4
                    clear hb4
                    go_wp2_with (at_builtin; go_loud (refine wpList_append_sl _ rfl (.tmp 61) (.tmp 63) 47 rfl (w2.heap.size + 1) 117 Try.underlying47 infoMark rfl (by omega) _ _ _ rfl (HO4.out.kept ((Below.refl _ _).alloc (Nat.le_refl _) _)) _ 1 1 _ _ [e.client, e.seq, e.index] rfl (src_new w4 117 3 [e.client, e.seq, e.index] rfl) (by omega) (by omega) (by (try simp only [World.heap_size_alloc, World.heap_size_drew, World.heap_size_setCell]); omega) ?_); intro v5 w5 o5 g5 a5)
                    have hb5 : Below (w2.heap.size + 1) (w2.alloc (.cells #[.int .i64 e.client, .int .i64 e.seq, .int .i64 e.index] 117)) w5 := (hb.alloc (by omega) _).trans (grown_below g5 (by (try simp only [World.heap_size_alloc, World.heap_size_drew, World.heap_size_setCell]); omega) (fun b hb => (Own.lt HO4.out b hb).1))
                    have hz5 := g5.size
                    (try simp only [World.heap_size_alloc] at hz5)
                    have HO5 := Lib.hid o5
                    clear o5 g5 a5
                    clear fcb fcm0 fcm1 fcm2 fcp0 fcp1 fcp2 cb cm0 cm1 cm2 cp0 cp1 cp2
                    clear hb
                    have hb := hb5
                    clear hb5
                    have db := (hb.cell (p := ⟨w.heap.size, 2, none⟩) (show w.heap.size < w2.heap.size + 1 by omega)).trans B2.out
                    have dm0 := (hb.cell (p := ⟨w2.heap.size, 0, none⟩) (show w2.heap.size < w2.heap.size + 1 by omega)).trans M0.out
                    have dm1 := (hb.cell (p := ⟨w2.heap.size, 1, none⟩) (show w2.heap.size < w2.heap.size + 1 by omega)).trans M1.out
                    have dm2 := (hb.cell (p := ⟨w2.heap.size, 2, none⟩) (show w2.heap.size < w2.heap.size + 1 by omega)).trans M2.out
                    have dp0 := (hb.cell (p := ⟨g, off + m * 3, none⟩) (show g < w2.heap.size + 1 by omega)).trans P0.out
                    have dp1 := (hb.cell (p := ⟨g, off + m * 3 + 1, none⟩) (show g < w2.heap.size + 1 by omega)).trans P1.out
                    have dp2 := (hb.cell (p := ⟨g, off + m * 3 + 2, none⟩) (show g < w2.heap.size + 1 by omega)).trans P2.out
                    have fdb := fun dd os => cell_regrown db dd os
                    have fdm0 := fun dd os => cell_regrown dm0 dd os
                    have fdm1 := fun dd os => cell_regrown dm1 dd os
                    have fdm2 := fun dd os => cell_regrown dm2 dd os
                    have fdp0 := fun dd os => cell_regrown dp0 dd os
                    have fdp1 := fun dd os => cell_regrown dp1 dd os
                    have fdp2 := fun dd os => cell_regrown dp2 dd os
                    go_wp2
                    refine wp_region_quiet_below (by kernel_rfl) (by kernel_rfl) ?_; (repeat (first | go_big_quiet_step (fail) | quiet_step (fail))); refine wpQuiet_nil ?_; intro _ hw'; obtain ⟨⟨nq, osq⟩, hw''⟩ := hw'; subst hw''; have hq := below_regrown w5 nq osq; generalize Sort.grow (redrawn w5 nq) osq = w6 at *
                    have hz6 := hq.size
                    have hb6 : Below (w2.heap.size + 1) (w2.alloc (.cells #[.int .i64 e.client, .int .i64 e.seq, .int .i64 e.index] 117)) w6 := hb.trans (hq.mono (by omega))
                    have HO6 := Lib.hid (HO5.out.kept hq)
                    clear fdb fdm0 fdm1 fdm2 fdp0 fdp1 fdp2 db dm0 dm1 dm2 dp0 dp1 dp2
                    clear hq hb
                    have kb := (hb6.cell (p := ⟨w.heap.size, 2, none⟩) (show w.heap.size < w2.heap.size + 1 by omega)).trans B2.out
                    have km0 := (hb6.cell (p := ⟨w2.heap.size, 0, none⟩) (show w2.heap.size < w2.heap.size + 1 by omega)).trans M0.out
                    have km1 := (hb6.cell (p := ⟨w2.heap.size, 1, none⟩) (show w2.heap.size < w2.heap.size + 1 by omega)).trans M1.out
                    have km2 := (hb6.cell (p := ⟨w2.heap.size, 2, none⟩) (show w2.heap.size < w2.heap.size + 1 by omega)).trans M2.out
                    have kp0 := (hb6.cell (p := ⟨g, off + m * 3, none⟩) (show g < w2.heap.size + 1 by omega)).trans P0.out
                    have kp1 := (hb6.cell (p := ⟨g, off + m * 3 + 1, none⟩) (show g < w2.heap.size + 1 by omega)).trans P1.out
                    have kp2 := (hb6.cell (p := ⟨g, off + m * 3 + 2, none⟩) (show g < w2.heap.size + 1 by omega)).trans P2.out
                    have hb := hb6
                    clear hb6
                    go_wp2_with (at_builtin; go_loud (refine wpList_append_sl _ rfl (.tmp 73) (.tmp 78) 47 rfl (w2.heap.size + 1) 117 Try.underlying47 infoMark rfl (by omega) _ _ _ rfl (HO6.out.kept ((Below.refl _ _).alloc (Nat.le_refl _) _)) _ 1 1 _ _ [p.client, p.seq, p.index] rfl (src_new w6 117 3 [p.client, p.seq, p.index] rfl) (by omega) (by omega) (by (try simp only [World.heap_size_alloc, World.heap_size_drew, World.heap_size_setCell]); omega) ?_); intro v7 w7 o5 g5 a5)
                    have hb5 : Below (w2.heap.size + 1) (w2.alloc (.cells #[.int .i64 e.client, .int .i64 e.seq, .int .i64 e.index] 117)) w7 := (hb.alloc (by omega) _).trans (grown_below g5 (by (try simp only [World.heap_size_alloc, World.heap_size_drew, World.heap_size_setCell]); omega) (fun b hb => (Own.lt HO6.out b hb).1))
                    have hz7 := g5.size
                    (try simp only [World.heap_size_alloc] at hz7)
                    have HO7 := Lib.hid o5
                    clear o5 g5 a5
                    go_roundw
                    case rel => exact ⟨m + 1, true, _, (ys ++ [e.mark]) ++ [p], hlt, by go_num, rfl, rfl, by simp only [List.length_append, List.length_singleton]; omega, ins_step3 HP.out HY.out HGE.out HPX.out, by rw [List.length_append, List.flatMap_append, List.length_append, List.flatMap_append]; exact HO7.out, hb5⟩
                    case measure => simp [intOf]; omega
                · have hge1 : decide (e.client ≤ p.client) = false := by simpa using hge
                  have hpx1 : (p.client != e.client) = true := by simp; omega
                  have HGE := Lib.hid hge
                  clear hge
                  go_wp2
                  refine wp_region_quiet_below (by kernel_rfl) (by kernel_rfl) ?_; (repeat (first | go_big_quiet_step (fail) | quiet_step (fail))); refine wpQuiet_nil ?_; intro _ hw'; obtain ⟨⟨nq, osq⟩, hw''⟩ := hw'; subst hw''; have hq := below_regrown wr nq osq; generalize Sort.grow (redrawn wr nq) osq = w4 at *
                  have hz4 := hq.size
                  have hb4 : Below (w2.heap.size + 1) (w2.alloc (.cells #[.int .i64 e.client, .int .i64 e.seq, .int .i64 e.index] 117)) w4 := hb.trans (hq.mono (by omega))
                  have HO4 := Lib.hid (HO.out.kept hq)
                  clear fab fam0 fam1 fam2 fap0 fap1 fap2 ab am0 am1 am2 ap0 ap1 ap2
                  clear hq hb
                  have cb := (hb4.cell (p := ⟨w.heap.size, 2, none⟩) (show w.heap.size < w2.heap.size + 1 by omega)).trans B2.out
                  have cm0 := (hb4.cell (p := ⟨w2.heap.size, 0, none⟩) (show w2.heap.size < w2.heap.size + 1 by omega)).trans M0.out
                  have cm1 := (hb4.cell (p := ⟨w2.heap.size, 1, none⟩) (show w2.heap.size < w2.heap.size + 1 by omega)).trans M1.out
                  have cm2 := (hb4.cell (p := ⟨w2.heap.size, 2, none⟩) (show w2.heap.size < w2.heap.size + 1 by omega)).trans M2.out
                  have cp0 := (hb4.cell (p := ⟨g, off + m * 3, none⟩) (show g < w2.heap.size + 1 by omega)).trans P0.out
                  have cp1 := (hb4.cell (p := ⟨g, off + m * 3 + 1, none⟩) (show g < w2.heap.size + 1 by omega)).trans P1.out
                  have cp2 := (hb4.cell (p := ⟨g, off + m * 3 + 2, none⟩) (show g < w2.heap.size + 1 by omega)).trans P2.out
                  have fcb := fun dd os => cell_regrown cb dd os
                  have fcm0 := fun dd os => cell_regrown cm0 dd os
                  have fcm1 := fun dd os => cell_regrown cm1 dd os
                  have fcm2 := fun dd os => cell_regrown cm2 dd os
                  have fcp0 := fun dd os => cell_regrown cp0 dd os
                  have fcp1 := fun dd os => cell_regrown cp1 dd os
                  have fcp2 := fun dd os => cell_regrown cp2 dd os
                  have hb := hb4
                  clear hb4
                  go_wp2
                  refine wp_region_quiet_below (by kernel_rfl) (by kernel_rfl) ?_; (repeat (first | go_big_quiet_step (fail) | quiet_step (fail))); refine wpQuiet_nil ?_; intro _ hw'; obtain ⟨⟨nq, osq⟩, hw''⟩ := hw'; subst hw''; have hq := below_regrown w4 nq osq; generalize Sort.grow (redrawn w4 nq) osq = w6 at *
                  have hz6 := hq.size
                  have hb6 : Below (w2.heap.size + 1) (w2.alloc (.cells #[.int .i64 e.client, .int .i64 e.seq, .int .i64 e.index] 117)) w6 := hb.trans (hq.mono (by omega))
                  have HO6 := Lib.hid (HO4.out.kept hq)
                  clear fcb fcm0 fcm1 fcm2 fcp0 fcp1 fcp2 cb cm0 cm1 cm2 cp0 cp1 cp2
                  clear hq hb
                  have kb := (hb6.cell (p := ⟨w.heap.size, 2, none⟩) (show w.heap.size < w2.heap.size + 1 by omega)).trans B2.out
                  have km0 := (hb6.cell (p := ⟨w2.heap.size, 0, none⟩) (show w2.heap.size < w2.heap.size + 1 by omega)).trans M0.out
                  have km1 := (hb6.cell (p := ⟨w2.heap.size, 1, none⟩) (show w2.heap.size < w2.heap.size + 1 by omega)).trans M1.out
                  have km2 := (hb6.cell (p := ⟨w2.heap.size, 2, none⟩) (show w2.heap.size < w2.heap.size + 1 by omega)).trans M2.out
                  have kp0 := (hb6.cell (p := ⟨g, off + m * 3, none⟩) (show g < w2.heap.size + 1 by omega)).trans P0.out
                  have kp1 := (hb6.cell (p := ⟨g, off + m * 3 + 1, none⟩) (show g < w2.heap.size + 1 by omega)).trans P1.out
                  have kp2 := (hb6.cell (p := ⟨g, off + m * 3 + 2, none⟩) (show g < w2.heap.size + 1 by omega)).trans P2.out
                  have hb := hb6
                  clear hb6
                  go_wp2_with (at_builtin; go_loud (refine wpList_append_sl _ rfl (.tmp 73) (.tmp 78) 47 rfl (w2.heap.size + 1) 117 Try.underlying47 infoMark rfl (by omega) _ _ _ rfl (HO6.out.kept ((Below.refl _ _).alloc (Nat.le_refl _) _)) _ 1 1 _ _ [p.client, p.seq, p.index] rfl (src_new w6 117 3 [p.client, p.seq, p.index] rfl) (by omega) (by omega) (by (try simp only [World.heap_size_alloc, World.heap_size_drew, World.heap_size_setCell]); omega) ?_); intro v7 w7 o5 g5 a5)
                  have hb5 : Below (w2.heap.size + 1) (w2.alloc (.cells #[.int .i64 e.client, .int .i64 e.seq, .int .i64 e.index] 117)) w7 := (hb.alloc (by omega) _).trans (grown_below g5 (by (try simp only [World.heap_size_alloc, World.heap_size_drew, World.heap_size_setCell]); omega) (fun b hb => (Own.lt HO6.out b hb).1))
                  have hz7 := g5.size
                  (try simp only [World.heap_size_alloc] at hz7)
                  have HO7 := Lib.hid o5
                  clear o5 g5 a5
                  go_roundw
                  case rel => exact ⟨m + 1, false, _, ys ++ [p], hlt, by go_num, rfl, rfl, by simp only [List.length_append, List.length_singleton]; omega, ins_step5 HP.out HY.out (by have h6 := HGE.out; show ¬ e.client ≤ p.client; omega), by rw [List.length_append, List.flatMap_append]; exact HO7.out, hb5⟩
                  case measure => simp [intOf]; omega
            · have hmn : m = n := by omega
              subst hmn
              have HO := Lib.hid ho
              have hy2 : ys ++ ins e.mark d [] = ins e.mark false l := by
                have h9 := hy
                rw [List.drop_of_length_le (by rw [HL.out]; omega)] at h9
                exact h9
              have HY := Lib.hid hy2
              clear ho hy hy2
              have ab := (hb.cell (p := ⟨w.heap.size, 2, none⟩) (show w.heap.size < w2.heap.size + 1 by omega)).trans B2.out
              have am0 := (hb.cell (p := ⟨w2.heap.size, 0, none⟩) (show w2.heap.size < w2.heap.size + 1 by omega)).trans M0.out
              have am1 := (hb.cell (p := ⟨w2.heap.size, 1, none⟩) (show w2.heap.size < w2.heap.size + 1 by omega)).trans M1.out
              have am2 := (hb.cell (p := ⟨w2.heap.size, 2, none⟩) (show w2.heap.size < w2.heap.size + 1 by omega)).trans M2.out
              have HB := Lib.hid hb
              cases d with
              | true =>
                go_wp2
                go_ret2
                obtain ⟨A9, c9, rfl, s9⟩ := HO.out.sl
                rw [← HY.out]
                have e9 : ys ++ ins e.mark true [] = ys := by simp [ins]
                rw [e9]
                exact ⟨A9, c9, rfl, s9.mono (by omega) (Nat.le_refl _), HWW.out.trans (HB.out.mono (by omega))⟩
              | false =>
                go_wp2_with (at_builtin; go_loud (refine wpList_append_sl _ rfl (.tmp 82) (.tmp 84) 47 rfl (w2.heap.size + 1) 117 Try.underlying47 infoMark rfl (by omega) _ _ _ rfl (HO.out.kept ((Below.refl _ _).alloc (Nat.le_refl _) _)) _ 1 1 _ _ [e.client, e.seq, e.index] rfl (src_new wr 117 3 [e.client, e.seq, e.index] rfl) (by omega) (by omega) (by (try simp only [World.heap_size_alloc, World.heap_size_drew, World.heap_size_setCell]); omega) ?_); intro v7 w7 o5 g5 a5)
                have hb5 : Below (w2.heap.size + 1) (w2.alloc (.cells #[.int .i64 e.client, .int .i64 e.seq, .int .i64 e.index] 117)) w7 := (hb.alloc (by omega) _).trans (grown_below g5 (by (try simp only [World.heap_size_alloc, World.heap_size_drew, World.heap_size_setCell]); omega) (fun b hb => (Own.lt HO.out b hb).1))
                have hz5 := g5.size
                (try simp only [World.heap_size_alloc] at hz5)
                have HO5 := Lib.hid o5
                clear o5 g5 a5
                go_wp2
                go_ret2
                obtain ⟨A9, c9, rfl, s9⟩ := HO5.out.sl
                rw [← HY.out]
                have e9 : ys ++ ins e.mark false [] = ys ++ [e.mark] := by simp [ins]
                rw [e9]
                rw [List.length_append, List.flatMap_append]
                exact ⟨A9, c9, rfl, s9.mono (by omega) (Nat.le_refl _), HWW.out.trans (hb5.mono (by omega))⟩
      · have hF1 : freshIn l e.client e.seq = false := by rw [hfr]; simpa using hF
        have e0 : marked l e = (l, false) := by
          have : decide ((markAt l e.client).seq < e.seq) = false := by simpa using hF
          simp [marked, hok, markable, hE, this]
        rw [e0]
        have HE9 := hF1
        clear e0
        have HC := Lib.hid (fun W s => l9Copy_any A n c lo hi l W s (by omega))
        have CE : ∀ W, Calls Try.prog 72 #[.agg #[.int .i64 e.index, .int .i64 e.time, .int .i64 e.client, .int .i64 e.seq, .int .i64 e.op.kind, .int .i64 e.op.a, .int .i64 e.op.b, .int .i64 e.op.c, .int .i64 e.op.d]] W fun x w' => x = .returned (.bool true) ∧ Below W.heap.size W w' := fun W => by
          have h7 := sEntryOk_any e.index e.time e.client e.seq e.op.kind e.op.a e.op.b e.op.c e.op.d W
          rw [show entryOk ⟨e.index, e.time, e.client, e.seq, ⟨e.op.kind, e.op.a, e.op.b, e.op.c, e.op.d⟩⟩ = true from hE] at h7
          exact h7
        have HCE := Lib.hid CE
        clear CE
        have CF : ∀ W, Sl W lo hi 3 A n c (l.flatMap MarkD.ints) → Calls Try.prog 177 #[.slice A n c, .int .i64 e.client, .int .i64 e.seq] W fun x w' => x = .returned (.bool false) ∧ Below W.heap.size W w' := fun W s => by
          have h7 := sFreshIn_any A n c lo hi l e.client e.seq W s
          rw [hF1] at h7
          exact h7
        have HCF := Lib.hid CF
        clear CF
        clear hE hfr hF hF1
        clear hok HE9
        go_enter Try.func152, Try.ntmps152
        go_wp2_with fail
        (with_reducible refine (HO.out _ (h.below (B := w.heap.size) (by (repeat' (first | with_reducible exact Below.refl _ _ | with_reducible assumption | with_reducible refine Below.drew ?_ | with_reducible refine Below.alloc ?_ ?_ _ | with_reducible refine Below.setCell ?_ ?_ _ | with_reducible refine Below.trans ?_ (Below.mono (by assumption) ?_) | ((try simp only [World.heap_size_alloc, World.heap_size_drew, World.heap_size_setCell]); omega)))) hhi)).mono ?_); rintro _ w1 ⟨rfl, b1⟩
        have y1 := b1.size
        simp only [World.heap_size_alloc] at y1
        have hz1 : w.heap.size < w1.heap.size := by omega
        have hw1 : Below w.heap.size w w1 := by (repeat' (first | with_reducible exact Below.refl _ _ | with_reducible assumption | with_reducible refine Below.drew ?_ | with_reducible refine Below.alloc ?_ ?_ _ | with_reducible refine Below.setCell ?_ ?_ _ | with_reducible refine Below.trans ?_ (Below.mono (by assumption) ?_) | ((try simp only [World.heap_size_alloc, World.heap_size_drew, World.heap_size_setCell]); omega)))
        have v0 : w1.cell? ⟨w.heap.size, 0, none⟩ = some (.int .i64 e.index) := (b1.cell (p := ⟨w.heap.size, 0, none⟩) (by (try simp only [World.heap_size_alloc, World.heap_size_drew, World.heap_size_setCell]); omega)).trans (by simp)
        have fv0 := fun d os => cell_regrown v0 d os
        have v1 : w1.cell? ⟨w.heap.size, 1, none⟩ = some (.int .i64 e.time) := (b1.cell (p := ⟨w.heap.size, 1, none⟩) (by (try simp only [World.heap_size_alloc, World.heap_size_drew, World.heap_size_setCell]); omega)).trans (by simp)
        have fv1 := fun d os => cell_regrown v1 d os
        have v2 : w1.cell? ⟨w.heap.size, 2, none⟩ = some (.int .i64 e.client) := (b1.cell (p := ⟨w.heap.size, 2, none⟩) (by (try simp only [World.heap_size_alloc, World.heap_size_drew, World.heap_size_setCell]); omega)).trans (by simp)
        have fv2 := fun d os => cell_regrown v2 d os
        have v3 : w1.cell? ⟨w.heap.size, 3, none⟩ = some (.int .i64 e.seq) := (b1.cell (p := ⟨w.heap.size, 3, none⟩) (by (try simp only [World.heap_size_alloc, World.heap_size_drew, World.heap_size_setCell]); omega)).trans (by simp)
        have fv3 := fun d os => cell_regrown v3 d os
        have v4 : w1.cell? ⟨w.heap.size, 4, none⟩ = some (.int .i64 e.op.kind) := (b1.cell (p := ⟨w.heap.size, 4, none⟩) (by (try simp only [World.heap_size_alloc, World.heap_size_drew, World.heap_size_setCell]); omega)).trans (by simp)
        have fv4 := fun d os => cell_regrown v4 d os
        have v5 : w1.cell? ⟨w.heap.size, 5, none⟩ = some (.int .i64 e.op.a) := (b1.cell (p := ⟨w.heap.size, 5, none⟩) (by (try simp only [World.heap_size_alloc, World.heap_size_drew, World.heap_size_setCell]); omega)).trans (by simp)
        have fv5 := fun d os => cell_regrown v5 d os
        have v6 : w1.cell? ⟨w.heap.size, 6, none⟩ = some (.int .i64 e.op.b) := (b1.cell (p := ⟨w.heap.size, 6, none⟩) (by (try simp only [World.heap_size_alloc, World.heap_size_drew, World.heap_size_setCell]); omega)).trans (by simp)
        have fv6 := fun d os => cell_regrown v6 d os
        have v7 : w1.cell? ⟨w.heap.size, 7, none⟩ = some (.int .i64 e.op.c) := (b1.cell (p := ⟨w.heap.size, 7, none⟩) (by (try simp only [World.heap_size_alloc, World.heap_size_drew, World.heap_size_setCell]); omega)).trans (by simp)
        have fv7 := fun d os => cell_regrown v7 d os
        have v8 : w1.cell? ⟨w.heap.size, 8, none⟩ = some (.int .i64 e.op.d) := (b1.cell (p := ⟨w.heap.size, 8, none⟩) (by (try simp only [World.heap_size_alloc, World.heap_size_drew, World.heap_size_setCell]); omega)).trans (by simp)
        have fv8 := fun d os => cell_regrown v8 d os
        have S1 := Lib.hid (h.below hw1 hhi)
        go_wp2_with fail
        refine wp_region_quiet_below (by kernel_rfl) (by kernel_rfl) ?_; (repeat (first | go_big_quiet_step ((first | (go_at_call 72; exact Calls.regrown_of (HCE.out _)) | (go_at_call 177; exact Calls.regrown_of (HCF.out _ (S1.out.below (below_regrown _ _ _) (by omega)))))) | quiet_step ((first | (go_at_call 72; exact Calls.regrown_of (HCE.out _)) | (go_at_call 177; exact Calls.regrown_of (HCF.out _ (S1.out.below (below_regrown _ _ _) (by omega)))))))); refine wpQuiet_nil ?_; intro _ hw'; obtain ⟨⟨nq, osq⟩, hw''⟩ := hw'; subst hw''; have hq := below_regrown w1 nq osq; generalize Sort.grow (redrawn w1 nq) osq = w2 at *
        have y2 := hq.size
        have hz2 : w.heap.size < w2.heap.size := by omega
        have hw2 : Below w.heap.size w w2 := hw1.trans (hq.mono (by omega))
        clear fv0 fv1 fv2 fv3 fv4 fv5 fv6 fv7 fv8
        go_wp2_with fail
        (with_reducible refine (HC.out _ (h.below hw2 hhi)).mono ?_); rintro _ w3 ⟨A3, c3, rfl, s3, b3⟩
        go_wp2_with fail
        go_ret2
        rw [HL.out]
        exact ⟨A3, c3, rfl, s3.mono (by omega) (Nat.le_refl _), hw2.trans (b3.mono (by omega))⟩

end Go.Proofs.Ytgnilmdaegnaaaa
