/- The laws' random entries: the contract of w9List. No conditions. -/
import Derived.Test.YtgnilmdaegnaaaaZW9
import Derived.Test.YtgnilmdaegnaaaaZW9p
import Derived.StillTailTactics
import Derived.Deep.RegionLaw
set_option linter.unusedSimpArgs false
set_option linter.unusedVariables false
namespace Go.Proofs.Ytgnilmdaegnaaaa
open Go.RowKit
theorem Own.upd2 {w w' : World} {base e k lo up : Nat} {v : Value} {n : Nat} {zs : List Int} (h : Own w base e k v n zs) (hu : Upd lo up w w') (ho : ∀ b, v.ownBlock = some b → b < lo ∨ up ≤ b) : Own w' base e k v n zs := by
  refine ⟨h.1, ?_⟩
  rcases h.2 with hn | ⟨g, cap, cur, hv, hg, hh, r⟩
  · exact .inl hn
  · exact .inr ⟨g, cap, cur, hv, hg, by rw [hu.block g (Array.getElem?_eq_some_iff.1 hh).1 (ho g (by rw [hv]; rfl))]; exact hh, r⟩
/-- What an entry ahead must be. -/
def aheadOk (e : EntryD) : Prop := 0 ≤ e.client ∧ e.client ≤ 5 ∧ 0 ≤ e.seq ∧ e.seq ≤ 1000000 ∧ 0 ≤ e.index ∧ e.index ≤ 1000000 ∧ 0 ≤ e.time ∧ e.time ≤ 1000000
def st0 : StE := ⟨[0, 0, 0, 0, 0, 0], 0, 0⟩
def stA (l : List EntryD) : StE := l.foldl aheadE st0
theorem stA_append (l : List EntryD) (e : EntryD) : stA (l ++ [e]) = aheadE (stA l) e := by simp [stA]
theorem StOk.ahead {s : StE} (h : StOk s 1000000 1000000 1000000) {e : EntryD} (he : aheadOk e) : StOk (aheadE s e) 1000000 1000000 1000000 := by
  obtain ⟨h1, h2, h3, h4, h5, h6, h7, h8⟩ := he
  refine ⟨by simp [aheadE, h.len], fun j x hx => ?_, h5, h6, h7, h8⟩
  simp only [aheadE] at hx
  rw [List.getElem?_set] at hx
  split at hx
  · split at hx
    · injection hx with hx; omega
    · cases hx
  · exact h.seq j x hx
theorem st0_ok : StOk st0 1000000 1000000 1000000 := ⟨rfl, fun j x hx => by
  match j, hx with
  | 0, hx | 1, hx | 2, hx | 3, hx | 4, hx | 5, hx => simp [st0] at hx; omega
  | j + 6, hx => simp [st0] at hx, by decide, by decide, by decide, by decide⟩
theorem StOk.mono {s : StE} {S I T S' I' T' : Int} (h : StOk s S I T) (h1 : S ≤ S') (h2 : I ≤ I') (h3 : T ≤ T') : StOk s S' I' T' :=
  ⟨h.len, fun j x hx => by have := h.seq j x hx; omega, h.i0, by have := h.i1; omega, h.t0, by have := h.t1; omega⟩
theorem Upd.after {lo up : Nat} {w wK w' : World} (h : Upd lo up w wK) (hb : Below w.heap.size wK w') (hs : wK.heap.size ≤ w'.heap.size) : Upd lo up w w' :=
  ⟨hb.os.trans h.os, hb.tape.trans h.tape, hb.output.trans h.output, Nat.le_trans h.size hs, fun b hl ho => (hb.block b hl).trans (h.block b hl ho)⟩
theorem Ints.grown {w w' : World} {g off : Nat} {zs : List Int} {r : Option Nat} (h : Ints w g off zs) (hg : w.grownBy w' r) (hl : g < w.heap.size) (hr : r ≠ some g) : Ints w' g off zs := h.same (hg.block g hl (fun e => hr e.symm))
theorem src_new (W : World) (E k : Nat) (zs : List Int) (h : zs.length = k) : Sl (W.alloc (.cells (zs.map (Value.int .i64)).toArray E)) W.heap.size (W.heap.size + 1) k (some ⟨W.heap.size, 0, none⟩) 1 1 zs :=
  ⟨by omega, by omega, by omega, fun _ => ⟨_, 0, rfl, Nat.le_refl _, by omega, ints_new W E zs⟩⟩
def AheadRel (w : World) (na : Nat) (la : List EntryD) (E : Nat) (ix nw i : Value) (wr : World) : Prop :=
  ∃ (m : Nat) (s : StE), m ≤ na ∧ i = .int .i64 (m : Nat) ∧ ix = .int .i64 s.index ∧ nw = .int .i64 s.now ∧ Hid (s = stA (la.take m)) ∧ StOk s 1000000 1000000 1000000 ∧ Ints wr (w.heap.size + 1) 0 s.seqs ∧ Own wr w.heap.size E 9 (.slice (some ⟨w.heap.size, 0, none⟩) 0 0) 0 [] ∧ Below w.heap.size w wr
/-- What the second loop has made after m rounds. -/
def GenRel (w : World) (g many : Nat) (s0 : StE) (hi : Nat) (A : Option Addr) (n c E : Nat) (k v ix nw : Value) (wr : World) : Prop :=
  ∃ (m : Nat) (K : Int) (s : StE) (ds : List DrawE) (u : Value), Hid (ds.length = m) ∧ m ≤ many ∧ Hid (K = (many : Int) - m) ∧ 0 ≤ K ∧ K ≤ 1000 ∧ k = .int .i64 K ∧ v = u ∧ ix = .int .i64 s.index ∧ nw = .int .i64 s.now ∧ Hid (s = stE s0 ds) ∧
    StOk s (1000000 + 2 * m) (1000000 + m) (1000000 + 5 * m) ∧ Hid (∀ d ∈ ds, drawOk d) ∧ Ints wr (w.heap.size + 1) 0 s.seqs ∧ Own wr w.heap.size E 9 u m ((genE s0 ds).flatMap EntryD.ints) ∧ Hid (∀ b, u.ownBlock = some b → b ≠ w.heap.size + 1) ∧ DiceAt wr hi g A n c ∧ w.heap.size + 1 < wr.heap.size ∧ Upd g (g + 1) w wr
/-- What w9List leaves. -/
def W9Res (w : World) (g hi : Nat) (A : Option Addr) (n c : Nat) (s0 : StE) (many : Nat) (e : Ending) (w' : World) : Prop :=
  ∃ (ds : List DrawE) (B : Option Addr) (q : Nat), ds.length = many ∧ (∀ d ∈ ds, drawOk d) ∧ e = .returned (.slice B many q) ∧ Sl w' w.heap.size w'.heap.size 9 B many q ((genE s0 ds).flatMap EntryD.ints) ∧ DiceAt w' hi g A n c ∧ Upd g (g + 1) w w'
set_option maxRecDepth 100000 in
set_option maxHeartbeats 4000000 in
theorem w9List_any (A : Option Addr) (n c hi g : Nat) (B : Option Addr) (na ca lo' hi' : Nat) (la : List EntryD) (many : Nat) (w : World) (hd : DiceAt w hi g A n c) (h : Sl w lo' hi' 9 B na ca (la.flatMap EntryD.ints)) (hla : ∀ e ∈ la, aheadOk e) (hm0 : many ≤ 1000) :
    Calls Try.prog 48 #[.pointer (some ⟨g, 0, none⟩), .slice B na ca, .int .i64 (many : Nat)] w (W9Res w g hi A n c (stA la) many) := by
  have hg : g < w.heap.size := World.block_lt_of_cell? w _ hd.c0
  have hnb : na ≤ 9223372036854775807 := Nat.le_trans h.cap h.big
  have HL := Lib.hid (h.count EntryD.ints_len (by omega) : la.length = na)
  have H := Lib.hid (h.fit (by omega))
  have HLA := Lib.hid hla
  have HD := Lib.hid hd
  clear h hla hd
  have hmk : ∀ W, (Instr.makeSlice 28 (.int .i64 6) (.int .i64 6)).run Try.prog W = .ok (.slice (some ⟨W.heap.size, 0, none⟩) 6 6) (W.alloc (.cells (zeroRow (6 * 1)) 2)) := fun W => run_make_n (P := Try.prog) Try.underlying28 info64 rfl (by omega) 6 (by omega) (by omega) W
  go_enter Try.func48, Try.ntmps48
  go_wp2
  go_loopw [9, 10, 11] (fun ix nw i wr => AheadRel w na la 32 ix nw i wr) (fun _ _ i _ => na - (intOf i).toNat)
  case atStart =>
    refine ⟨0, st0, Nat.zero_le _, rfl, rfl, rfl, (by simp [stA] : st0 = stA (la.take 0)), st0_ok, ?_, ?_, by (repeat' (first | with_reducible exact Below.refl _ _ | with_reducible assumption | with_reducible refine Below.drew ?_ | with_reducible refine Below.alloc ?_ ?_ _ | with_reducible refine Below.setCell ?_ ?_ _ | with_reducible refine Below.trans ?_ (Below.mono (by assumption) ?_) | ((try simp only [World.heap_size_alloc, World.heap_size_drew, World.heap_size_setCell]); omega)))⟩
    · have h9 := ints_zeroRow (w.alloc (.cells #[] 32)) 2 (6 * 1)
      rw [World.heap_size_alloc] at h9
      exact h9
    · exact (Own.new w 32 9 [] rfl (Nat.le_refl _) (by omega)).kept ((Below.refl _ _).alloc (Nat.le_refl _) _)
  case round =>
    clear hmk
    obtain ⟨m, s, hm, rfl, rfl, rfl, hs, hok, hI, ho, hb⟩ := hrel
    by_cases hlt : m < na
    · obtain ⟨ga, off, e, rfl, _, hga, he, p0, p1, p2, p3, _⟩ := H.out.entry hlt
      have hg1 := Nat.lt_of_lt_of_le hga (Nat.min_le_right _ _)
      have r0 := (hb.cell (p := ⟨ga, off + m * 9, none⟩) hg1).trans p0
      have r1 := (hb.cell (p := ⟨ga, off + m * 9 + 1, none⟩) hg1).trans p1
      have r2 := (hb.cell (p := ⟨ga, off + m * 9 + 2, none⟩) hg1).trans p2
      have r3 := (hb.cell (p := ⟨ga, off + m * 9 + 3, none⟩) hg1).trans p3
      clear p0 p1 p2 p3
      have hmem : e ∈ la := List.mem_of_getElem? he
      obtain ⟨a0, a1, a2, a3, a4, a5, a6, a7⟩ := HLA.out e hmem
      obtain ⟨q, hq⟩ := Int.eq_ofNat_of_zero_le a0
      rw [hq] at r2
      have hq5 : q < 6 := by omega
      have hq6 : (q : Int) < 6 := by omega
      have hq7 : (0 : Int) ≤ (q : Int) := by omega
      have hl6 := hok.len
      obtain ⟨o1, f1⟩ := hI.getD (j := q) (by omega)
      rw [Nat.zero_add] at o1 f1
      have HQ := Lib.hid hq
      have HE := Lib.hid he
      have HMEM := Lib.hid (HLA.out e hmem)
      have HOK := Lib.hid hok
      have HO := Lib.hid ho
      have HI := Lib.hid hI
      clear hq he hok hl6 ho hI hmem
      go_wp2
      refine wp_region_still_tail 12 (by kernel_rfl) (by kernel_rfl) ?_; simp only [List.take_succ_cons, List.take_zero, List.drop_succ_cons, List.drop_zero]; change wpStill _ _ (World.drew wr) _ _ _; (repeat still_step); refine wpStill_nil ?_; change wpList _ _ _ _ _ (World.drew wr)
      go_wp2_with fail
      go_roundw
      case rel =>
        refine ⟨m + 1, aheadE s e, hlt, by go_num, rfl, rfl, ?_, HOK.out.ahead HMEM.out, ?_, ?_, by (repeat' (first | with_reducible exact Below.refl _ _ | with_reducible assumption | with_reducible refine Below.drew ?_ | with_reducible refine Below.alloc ?_ ?_ _ | with_reducible refine Below.setCell ?_ ?_ _ | with_reducible refine Below.trans ?_ (Below.mono (by assumption) ?_) | ((try simp only [World.heap_size_alloc, World.heap_size_drew, World.heap_size_setCell]); omega)))⟩
        · obtain ⟨h1, rfl⟩ := List.getElem?_eq_some_iff.1 HE.out
          show aheadE s la[m] = stA (la.take (m + 1))
          rw [List.take_succ_eq_append_getElem h1, stA_append, ← hs.out]
        · have h9 := HI.out.set q e.seq
          rw [Nat.zero_add] at h9
          rw [show (aheadE s e).seqs = s.seqs.set q e.seq by simp [aheadE, HQ.out]]
          exact h9
        · exact HO.out.upd2 (lo := w.heap.size + 1) (up := w.heap.size + 2) (((Upd.refl _ _ _).setCell (p := ⟨w.heap.size + 1, q, none⟩) (Nat.le_refl _) (show w.heap.size + 1 < w.heap.size + 2 by omega) _).drew) (fun b hb => by simp [Value.ownBlock] at hb; omega)
      case measure => simp [intOf]; omega
    · have hmn : m = na := by omega
      have HS : Hid (s = stA la) := Lib.hid (by rw [hs.out, List.take_of_length_le (by rw [HL.out]; omega)])
      have hbz := World.block_lt_of_cell? wr _ (hI.getD (j := 0) (by have := hok.len; omega)).1
      simp only at hbz
      have HI := Lib.hid hI
      have HO := Lib.hid ho
      have HOK := Lib.hid hok
      have HDR := Lib.hid (HD.out.below hb hg)
      have HUR : Hid (Upd g (g + 1) w wr) := Lib.hid (Upd.of_below hb)
      clear hs hI ho hok hb hmn
      go_wp2
      go_loopw [2, 7, 9, 10, 12] (fun k v ix nw _ wr => GenRel w g many s hi A n c 32 k v ix nw wr) (fun k _ _ _ _ _ => (intOf k).toNat)
      case atStart =>
        exact ⟨0, (many : Int), s, [], _, rfl, Nat.zero_le _, (by simp : (many : Int) = (many : Int) - (0 : Nat)), by omega, by omega, rfl, rfl, rfl, rfl, rfl, ⟨HOK.out.len, fun j x hx => by have := HOK.out.seq j x hx; omega, HOK.out.i0, by have := HOK.out.i1; omega, HOK.out.t0, by have := HOK.out.t1; omega⟩, (fun d hd => by cases hd), HI.out, HO.out, (fun b hb => by simp [Value.ownBlock] at hb; omega), HDR.out, hbz, HUR.out⟩
      case round =>
        clear HI HO HOK HDR HUR hbz
        obtain ⟨m2, K, s2, ds, v, hds, hm2, hK, hK0, hK1, rfl, rfl, rfl, rfl, hs2, hok2, hall, hI2, ho2, hbl, hd2, hz2, hu2⟩ := hrel
        by_cases hlt2 : 0 < K
        · have hmm : m2 < many := by have := hK.out; omega
          have HI2 := Lib.hid hI2
          have HO2 := Lib.hid ho2
          have HOK2 := Lib.hid hok2
          have hu3 := hu2.size
          clear hI2 ho2 hok2
          go_wp2_with fail
          (with_reducible refine (below_any _ _ _ _ _ 4 _ (by omega) (by omega) hd2).mono ?_); rintro _ w1 ⟨x, rfl, x0, x1, hd3, hv3⟩
          obtain ⟨q, rfl⟩ := Int.eq_ofNat_of_zero_le x0
          have hq5 : q < 4 := by omega
          have hq6 : (2 : Int) + q < 6 := by omega
          have hq7 : (0 : Int) ≤ 2 + (q : Int) := by omega
          have hI3 := HI2.out.upd hv3 (.inr (by omega))
          have hl6 := HOK2.out.len
          obtain ⟨o1, f1⟩ := hI3.getD (j := 2 + q) (by omega)
          rw [Nat.zero_add] at o1 f1
          have hseq := HOK2.out.seq (2 + q) _ (List.getElem?_eq_getElem (by omega))
          have hqn : (2 + (q : Int)).toNat = 2 + q := by omega
          have HL6 := Lib.hid hl6
          have HI3 := Lib.hid hI3
          obtain ⟨y, hy⟩ : ∃ y, y = s2.seqs.getD (2 + q) 0 := ⟨_, rfl⟩
          rw [← hy] at o1
          have HY := Lib.hid hy
          have hy0 : 0 ≤ y ∧ y ≤ 1100000 := by
            rw [hy]
            simp only [List.getD, List.getElem?_eq_getElem (show 2 + q < s2.seqs.length by omega), Option.getD_some]
            omega
          obtain ⟨hy1, hy2⟩ := hy0
          clear hl6 hI3 hseq hy HI2
          go_wp2_with fail
          have hz3 : w.heap.size + 1 < w1.heap.size := by have := hv3.size; omega
          have hgz3 : g < w1.heap.size := by omega
          have hd3d : DiceAt w1.drew hi g A n c := hd3.below (B := w1.heap.size) ((Below.refl _ _).drew) hgz3
          go_region_law (first | (go_simp; go_at_call 49; (with_reducible refine (below_any _ _ _ _ _ 2 _ (by omega) (by omega) hd3d).mono ?_); rintro _ w2 ⟨x2, rfl, x20, x21, hd4, hv4⟩; obtain ⟨k4, f4⟩ := ucell hv4 (b := w.heap.size + 1) hz3 (.inr (by omega))))
          all_goals
            have hwr : IntKind.i64.wrap (IntKind.i64.wrap (y + 1) + x2) = y + 1 + x2 := by rw [IntWalk.i64_in (y + 1) (by omega), IntWalk.i64_in _ (by omega)]
            rw [hwr]
            have y4 := hv4.size
            have y4' : w1.heap.size ≤ w2.heap.size := y4
            obtain ⟨V, hV⟩ : ∃ V, V = w2.setCell ⟨w.heap.size + 1, 2 + q, none⟩ (.int .i64 (y + 1 + x2)) := ⟨_, rfl⟩
            have yV : V.heap.size = w2.heap.size := by rw [hV, World.heap_size_setCell]
            have hset : Upd (w.heap.size + 1) (w.heap.size + 2) w2 V := by rw [hV]; exact (Upd.refl _ _ _).setCell (p := ⟨w.heap.size + 1, 2 + q, none⟩) (Nat.le_refl _) (show w.heap.size + 1 < w.heap.size + 2 by omega) _
            have hIV : Ints V (w.heap.size + 1) 0 (s2.seqs.set (2 + q) (y + 1 + x2)) := by
              have h9 := (Ints.upd (w := w1.drew) (HI3.out.same rfl) hv4 (.inr (by omega))).set (2 + q) (y + 1 + x2)
              rw [Nat.zero_add] at h9
              rw [hV]
              exact h9
            have hOV : Own V w.heap.size 32 9 u7 m2 ((genE s ds).flatMap EntryD.ints) := by
              have hlt9 : ∀ b, u7.ownBlock = some b → b < g ∨ g + 1 ≤ b := fun b hb => by have := (Own.lt HO2.out b hb).1; omega
              have h1 : Own w1.drew w.heap.size 32 9 u7 m2 ((genE s ds).flatMap EntryD.ints) := (HO2.out.upd2 hv3 hlt9).kept (Below.drew (Below.refl _ _))
              exact (h1.upd2 hv4 hlt9).upd2 hset (fun b hb => by have := hbl.out b hb; omega)
            have hdV : DiceAt V hi g A n c := hd4.upd hset (.inl (by omega))
            have huV : Upd g (g + 1) w V := Upd.past (((hu2.trans hv3).trans (Upd.drew (Upd.refl _ _ _))).trans hv4) (show Upd (w.heap.size + 1) (w.heap.size + 1 + 1) w2 V from hset) (by omega)
            rw [← hV]
            obtain ⟨e1, e2⟩ := hIV.getD (j := 2 + q) (by rw [List.length_set, HL6.out]; omega)
            rw [Nat.zero_add] at e1 e2
            have e3 : (s2.seqs.set (2 + q) (y + 1 + x2)).getD (2 + q) 0 = y + 1 + x2 := by
              have := HL6.out
              simp [show 2 + q < s2.seqs.length by omega]
            rw [e3] at e1
            have hi0 := HOK2.out.i0
            have hi1 := HOK2.out.i1
            have hn0 := HOK2.out.t0
            have hn1 := HOK2.out.t1
            have hi2 : s2.index ≤ 2000000 := by omega
            have hn2 : s2.now ≤ 2000000 := by omega
            have HIV := Lib.hid hIV
            have HOV := Lib.hid hOV
            have HYV := Lib.hid yV
            clear hwr hV hset hIV hOV k4 f4 hd4 e3 hi1 hn1 y4 o1 f1 hd3 hd3d yV
            go_wp2_with fail
            (with_reducible refine (below_any _ _ _ _ _ 6 _ (by omega) (by omega) hdV).mono ?_); rintro _ w3 ⟨x3, rfl, x30, x31, hd5, hv5⟩
            have y5 := hv5.size
            have hz5 : w.heap.size + 1 < w3.heap.size := by have := HYV.out; omega
            have hgz5 : g < w3.heap.size := by omega
            have hd5d : DiceAt w3.drew hi g A n c := hd5.below (B := w3.heap.size) ((Below.refl _ _).drew) hgz5
            obtain ⟨k5, f5⟩ := ucell hv5 (b := w.heap.size + 1) (by have := HYV.out; omega) (.inr (by omega))
            have e5 := (k5 (2 + q)).trans e1
            have hlt9 : Hid (∀ b, u7.ownBlock = some b → b < g ∨ g + 1 ≤ b) := Lib.hid (fun b hb => by have := (Own.lt HOV.out b hb).1; omega)
            have HOG : Hid (∀ W, Upd g (g + 1) w3.drew W → Own W w.heap.size 32 9 u7 m2 ((genE s ds).flatMap EntryD.ints)) := Lib.hid (fun W hW => ((HOV.out.upd2 hv5 hlt9.out).kept (Below.drew (Below.refl _ _))).upd2 hW hlt9.out)
            have HIG : Hid (∀ W, Upd g (g + 1) w3.drew W → Ints W (w.heap.size + 1) 0 (s2.seqs.set (2 + q) (y + 1 + x2))) := Lib.hid (fun W hW => Ints.upd (w := w3.drew) ((HIV.out.upd hv5 (.inr (by omega))).same rfl) hW (.inr (by omega)))
            have HUG : Hid (∀ W, Upd g (g + 1) w3.drew W → Upd g (g + 1) w W) := Lib.hid (fun W hW => ((huV.trans hv5).trans (Upd.drew (Upd.refl _ _ _))).trans hW)
            have hw1 : IntKind.i64.wrap (s2.index + 1) = s2.index + 1 := IntWalk.i64_in _ (by omega)
            clear hd5 k5 f5 e1 e2 HIV HOV huV
            go_wp2_with fail
            go_region_law (first | (go_simp; go_at_call 106; (with_reducible refine (w9Op_any _ _ _ _ _ _ hd5d).mono ?_); rintro _ w4 ⟨o, rfl, hop, hd6, hv6⟩; obtain ⟨k6, f6⟩ := ucell hv6 (b := w.heap.size + 1) hz5 (.inr (by omega)); have y6 : w3.heap.size ≤ w4.heap.size := hv6.size) | (refine step_append_sl _ rfl (.tmp 67) (.tmp 78) 81 rfl w.heap.size 32 Try.underlying81 infoEntry0 rfl (by omega) _ _ _ rfl ((HOG.out _ hv6).kept ((Below.refl _ _).alloc (Nat.le_refl _) _)) _ 1 1 _ _ _ rfl (src_new w4 32 9 [s2.index + 1, s2.now + x3, 2 + (q : Int), y + 1 + x2, o.kind, o.a, o.b, o.c, o.d] rfl) (by omega) (by omega) (by rw [World.heap_size_alloc]; omega) ?_; intro v2 w5 o5 g5 a5))
            all_goals
              have y7 : w.heap.size + 1 < w4.heap.size := by omega
              have hbk : Below w.heap.size w4 w5 := ((Below.refl w.heap.size w4).alloc (by omega) _).trans (grown_below g5 (by rw [World.heap_size_alloc]; omega) (fun b hb => (Own.lt (HOG.out _ hv6) b hb).1))
              have y8 : w4.heap.size ≤ w5.heap.size := by
                have h9 := g5.size
                rw [World.heap_size_alloc] at h9
                omega
              have HD6 := Lib.hid (hd6.below hbk hg)
              have HU6 : Hid (Upd g (g + 1) w w5) := Lib.hid ((HUG.out _ hv6).after hbk y8)
              have HI6 : Hid (Ints w5 (w.heap.size + 1) 0 (s2.seqs.set (2 + q) (y + 1 + x2))) := Lib.hid (Ints.grown (w := w4.alloc _) ((HIG.out _ hv6).below (B := w4.heap.size) ((Below.refl _ _).alloc (Nat.le_refl _) _) y7) g5 (by rw [World.heap_size_alloc]; omega) (fun e => hbl.out _ e rfl))
              have HO6 := Lib.hid o5
              have HB6 : Hid (∀ b, v2.ownBlock = some b → b ≠ w.heap.size + 1) := Lib.hid (fun b hb => by
                rcases a5 with a5 | a5
                · rw [a5] at hb
                  exact hbl.out b hb
                · rw [a5, World.heap_size_alloc] at hb
                  injection hb with hb
                  omega)
              have hdok : drawOk ⟨2 + (q : Int), x2, x3, o⟩ := ⟨by simp only []; omega, by simp only []; omega, x20, by simp only []; omega, x30, by simp only []; omega, hop⟩
              have HDOK := Lib.hid hdok
              have HQN := Lib.hid hqn
              clear o5 g5 a5 hd6 hv6 hdok k6 f6 hop hbk hqn HOG HIG HUG
              go_wp2_with fail
              go_roundw
              case rel =>
                have e7 : (stepE s2 ⟨2 + (q : Int), x2, x3, o⟩).seqs = s2.seqs.set (2 + q) (y + 1 + x2) := by simp only [stepE, seqE, HQN.out, ← HY.out]
                have e8 : entE s2 ⟨2 + (q : Int), x2, x3, o⟩ = ⟨s2.index + 1, s2.now + x3, 2 + (q : Int), y + 1 + x2, o⟩ := by simp only [entE, seqE, HQN.out, ← HY.out]
                refine ⟨m2 + 1, K - 1, stepE s2 ⟨2 + (q : Int), x2, x3, o⟩, ds ++ [⟨2 + (q : Int), x2, x3, o⟩], v2, ?_, hmm, ?_, by omega, by omega, rfl, rfl, rfl, rfl, ?_, (HOK2.out.step HDOK.out).mono (by omega) (by omega) (by omega), ?_, ?_, ?_, HB6.out, HD6.out, by omega, HU6.out⟩
                · show (ds ++ [_]).length = m2 + 1
                  rw [List.length_append, hds.out]
                  rfl
                · show K - 1 = (many : Int) - ((m2 + 1 : Nat) : Int)
                  have := hK.out
                  omega
                · show stepE s2 _ = stE s (ds ++ [_])
                  rw [stE_append, ← hs2.out]
                · intro d hd
                  rcases List.mem_append.1 hd with h1 | h1
                  · exact hall.out d h1
                  · rw [List.mem_singleton.1 h1]; exact HDOK.out
                · rw [e7]; exact HI6.out
                · rw [genE_append, List.flatMap_append, ← hs2.out, e8]
                  exact HO6.out
              case measure => simp [intOf]; omega
        · have hmn : m2 = many := by have := hK.out; omega
          have HI2 := Lib.hid hI2
          have HO2 := Lib.hid ho2
          have HOK2 := Lib.hid hok2
          have HD2 := Lib.hid hd2
          clear hI2 ho2 hok2 hd2
          subst hmn
          go_wp2
          go_ret
          obtain ⟨A2, c2, rfl, s9⟩ := HO2.out.sl
          rw [HS.out] at s9
          exact ⟨ds, A2, c2, hds.out, hall.out, rfl, s9, HD2.out, hu2⟩
end Go.Proofs.Ytgnilmdaegnaaaa
