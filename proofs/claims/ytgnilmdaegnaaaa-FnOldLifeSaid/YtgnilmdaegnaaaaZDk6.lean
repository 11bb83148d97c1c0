/- Disks: checksums, copies of disks. No conditions. -/
import Derived.Test.YtgnilmdaegnaaaaZDk5
set_option linter.unusedSimpArgs false
set_option linter.unusedVariables false
namespace Go.Proofs.Ytgnilmdaegnaaaa
open Go.RowKit
theorem make0 {P : Program} {t e : TypeId} {z : Value} {k bytes : Nat} (ht : P.underlying t = some (.slice e)) (hi : (P.info? e).map (fun i => (i.zero, i.size, i.bytes)) = some (some z, k, bytes)) (n : Nat) (hb : bytes * n ≤ 281474976710656) (hn : n ≤ 9223372036854775807) :
    ∃ arr : Array Value, arr.size = n * k ∧ ∀ w : World, (Instr.makeSlice t (.int .i64 0) (.int .i64 (n : Int))).run P w = .ok (.slice (some ⟨w.heap.size, 0, none⟩) 0 n) (w.alloc (.cells arr e)) := by
  obtain ⟨i, h1, h2, h3, h4⟩ := info_parts hi
  have hb' : (i.bytes : Int) * (n : Int) ≤ 281474976710656 := by
    have h : ((i.bytes * n : Nat) : Int) ≤ 281474976710656 := by rw [h4]; omega
    rwa [Int.natCast_mul] at h
  refine ⟨madeCells z.cells (n * k), by simp [madeCells], fun w => ?_⟩
  have hr := run_make (P := P) w t e i z ht h1 h2 .i64 .i64 0 n (by omega) (by omega) hb' (by omega)
  simp only [Int.toNat_natCast, Int.toNat_zero] at hr
  rw [hr, h3]
/-- The checksum of numbers. -/
def sumM (zs : List Int) : Int := zs.foldl (fun s x => (131 * s + x + 1) % 999999937) 7
theorem sumM_snoc (zs : List Int) (x : Int) : sumM (zs ++ [x]) = (131 * sumM zs + x + 1) % 999999937 := by simp [sumM]
theorem sumM_take {zs : List Int} {m : Nat} {x : Int} (h : zs[m]? = some x) : sumM (zs.take (m + 1)) = (131 * sumM (zs.take m) + x + 1) % 999999937 := by
  rw [List.take_add_one, h]
  exact sumM_snoc _ _
theorem sumM_btw : ∀ zs : List Int, 0 ≤ sumM zs ∧ sumM zs < 999999937 := by
  intro zs
  rcases List.eq_nil_or_concat zs with rfl | ⟨l, x, rfl⟩
  · exact ⟨by decide, by decide⟩
  · rw [List.concat_eq_append, sumM_snoc]
    omega
theorem rowOk_get {zs : List Int} (h : rowOk zs = true) {j : Nat} {x : Int} (hx : zs[j]? = some x) : 0 ≤ x ∧ x ≤ 1000000000 := by
  simp only [rowOk, Bool.and_eq_true, decide_eq_true_eq, List.all_eq_true] at h
  exact btw_iff.1 (h.2 x (List.mem_of_getElem? hx))
theorem rowOk_len {zs : List Int} (h : rowOk zs = true) : zs.length ≤ 48 := by
  simp only [rowOk, Bool.and_eq_true, decide_eq_true_eq, List.all_eq_true] at h
  exact h.1
set_option maxRecDepth 100000 in
set_option maxHeartbeats 1000000 in
theorem checksum_any (A : Option Addr) (n c lo hi : Nat) (zs : List Int) (w : World) (h : Sl w lo hi 1 A n c zs) (hz : ∀ (j : Nat) x, zs[j]? = some x → 0 ≤ x ∧ x ≤ 1000000000) :
    Calls Try.prog 113 #[.slice A n c] w fun e w' => e = .returned (.int .i64 (sumM zs)) ∧ w = w' := by
  have hn : n ≤ 9223372036854775807 := Nat.le_trans h.cap h.big
  have HL : Hid (zs.length = n) := Lib.hid (by have := h.len; omega)
  have HB : Hid (∀ (j : Nat) x, zs[j]? = some x → 0 ≤ x ∧ x ≤ 1000000000) := Lib.hid (fun j x hx => hz j x hx)
  have H := Lib.hid h
  clear h hz
  go_enter Try.func113, Try.ntmps113
  go_wp2_with fail
  go_loop [3, 5, 8] (fun s _ i => ∃ (m : Nat) (q : Int), m ≤ n ∧ i = .int .i64 m ∧ s = .int .i64 q ∧ Hid (q = sumM (zs.take m)) ∧ 0 ≤ q ∧ q < 999999937) (fun _ _ i => n - (intOf i).toNat)
  case atStart => exact ⟨0, 7, Nat.zero_le _, rfl, rfl, Lib.hid rfl, by omega, by omega⟩
  case round =>
    obtain ⟨m, q, hm, rfl, rfl, HQ, hq0, hq1⟩ := hrel
    by_cases hlt : m < n
    · obtain ⟨g, off, x, rfl, _, _, hx, p0⟩ := H.out.int hlt
      obtain ⟨hx0, hx1⟩ := HB.out m x hx
      have HX := Lib.hid hx
      clear hx
      go_wp2
      go_round
      case rel => exact ⟨m + 1, _, hlt, by go_num, rfl, Lib.hid (by rw [sumM_take HX.out, ← HQ.out]), by omega, by omega⟩
      case measure => simp [intOf]; omega
    · go_wp2
      go_ret
      have hmn : m = n := by omega
      subst hmn
      have e9 : q = sumM zs := by rw [HQ.out, ← HL.out, List.take_length]
      rw [← e9]
      exact ⟨rfl, rfl⟩
def OwnResK (w : World) (t k n : Nat) (zs : List Int) (e : Ending) (w' : World) : Prop := ∃ v, e = .returned v ∧ Own w' w.heap.size t k v n zs ∧ Below w.heap.size w w'
theorem src_one (W : World) (E : Nat) (q : Int) : Sl (W.alloc (.cells #[.int .i64 q] E)) W.heap.size (W.heap.size + 1) 1 (some ⟨W.heap.size, 0, none⟩) 1 1 [q] :=
  ⟨rfl, by omega, by omega, fun _ => ⟨_, 0, rfl, Nat.le_refl _, by omega, ints_new W E [q]⟩⟩
set_option maxRecDepth 100000 in
set_option maxHeartbeats 1000000 in
theorem copyRowOwn_any (A : Option Addr) (n c lo hi : Nat) (zs : List Int) (w : World) (h : Sl w lo hi 1 A n c zs) (hn : n ≤ 1000000) :
    Calls Try.prog 112 #[.slice A n c] w (OwnResK w 2 1 n zs) := by
  have o1 : Own (w.alloc (.cells #[] 2)) w.heap.size 2 1 (.slice (some ⟨w.heap.size, 0, none⟩) 0 0) 0 [] := Own.new w 2 1 [] rfl (Nat.le_refl _) (by omega)
  have O1 := Lib.hid o1
  have hb1 : Below (min hi w.heap.size) w (w.alloc (.cells #[] 2)) := (Below.refl _ _).alloc (Nat.min_le_right _ _) _
  have H := Lib.hid ((h.fit (by omega)).below hb1 (Nat.le_refl _))
  clear h o1
  go_enter Try.func112, Try.ntmps112
  go_wp2_with (at_builtin; go_loud (refine wpList_append_sl _ rfl (.tmp 3) (.tmp 4) 28 rfl w.heap.size 2 Try.underlying28 info64 rfl (by omega) _ _ _ rfl O1.out _ n c _ _ _ rfl H.out (by omega) (by omega) (by (try simp only [World.heap_size_alloc, World.heap_size_drew, World.heap_size_setCell]); omega) ?_); intro v2 w2 o2 g2 a2)
  have hb2 : Below w.heap.size w w2 := ((Below.refl w.heap.size w).alloc (Nat.le_refl _) _).trans (grown_below g2 (by (try simp only [World.heap_size_alloc, World.heap_size_drew, World.heap_size_setCell]); omega) (fun g hg => (Own.lt O1.out g hg).1))
  have O2 := Lib.hid o2
  clear o2 g2 a2
  go_ret
  have O3 := O2.out
  rw [Nat.zero_add, List.nil_append] at O3
  exact ⟨v2, rfl, O3, hb2⟩
set_option maxRecDepth 100000 in
set_option maxHeartbeats 1000000 in
theorem withSum_any (A : Option Addr) (n c lo hi : Nat) (zs : List Int) (w : World) (h : Sl w lo hi 1 A n c zs) (hhi : hi ≤ w.heap.size) (hz : rowOk zs = true) (hn : n < 48) :
    Calls Try.prog 53 #[.slice A n c] w (SlRes w 1 (n + 1) (zs ++ [sumM zs])) := by
  have CK : Calls Try.prog 111 #[.slice A n c] w fun e w' => e = .returned (.bool true) ∧ w = w' := by
    have h7 := rowOk_any A n c lo hi zs w h
    rw [hz] at h7
    exact h7
  have CS : ∀ W, Below w.heap.size w W → Calls Try.prog 113 #[.slice A n c] W fun e w' => e = .returned (.int .i64 (sumM zs)) ∧ W = w' := fun W hW => checksum_any A n c lo hi zs W (h.below hW hhi) (fun j x hx => rowOk_get hz hx)
  have HCK := Lib.hid CK
  have HCS := Lib.hid CS
  have H := Lib.hid h
  clear CK CS h hz
  go_enter Try.func53, Try.ntmps53
  go_wp2_with fail
  (with_reducible refine (HCK.out).mono ?_); rintro _ _ ⟨rfl, rfl⟩
  go_wp2_with fail
  (with_reducible refine (copyRowOwn_any A n c lo hi zs _ (H.out.below (B := w.heap.size) (by (repeat' (first | with_reducible exact Below.refl _ _ | with_reducible assumption | with_reducible refine Below.drew ?_ | with_reducible refine Below.alloc ?_ ?_ _ | with_reducible refine Below.setCell ?_ ?_ _ | with_reducible refine Below.trans ?_ (Below.mono (by assumption) ?_) | ((try simp only [World.heap_size_alloc, World.heap_size_drew, World.heap_size_setCell]); omega)))) hhi) (by omega)).mono ?_); rintro _ w1 ⟨v1, rfl, o1, b1⟩
  have y1 := b1.size
  have hb1 : Below w.heap.size w w1 := by (repeat' (first | with_reducible exact Below.refl _ _ | with_reducible assumption | with_reducible refine Below.drew ?_ | with_reducible refine Below.alloc ?_ ?_ _ | with_reducible refine Below.setCell ?_ ?_ _ | with_reducible refine Below.trans ?_ (Below.mono (by assumption) ?_) | ((try simp only [World.heap_size_alloc, World.heap_size_drew, World.heap_size_setCell]); omega)))
  have HB1 := Lib.hid hb1
  have O1 := Lib.hid (o1.kept ((Below.refl _ _).alloc (Nat.le_refl _) (.cells #[.int .i64 (sumM zs)] 2)))
  have LT1 := Lib.hid o1.lt
  clear b1 o1
  go_wp2_with fail
  (with_reducible refine (HCS.out _ hb1).mono ?_); rintro _ _ ⟨rfl, rfl⟩
  go_wp2_with (at_builtin; go_loud (refine wpList_append_sl _ rfl (.tmp 12) (.tmp 15) 28 rfl w.heap.size 2 Try.underlying28 info64 rfl (by omega) v1 n zs rfl O1.out _ 1 1 _ _ [sumM zs] rfl (src_one w1 2 (sumM zs)) (by omega) (by omega) (by (try simp only [World.heap_size_alloc, World.heap_size_drew, World.heap_size_setCell]); omega) ?_); intro v2 w2 o2 g2 a2)
  have hb2 : Below w.heap.size w w2 := (HB1.out.alloc (by omega) _).trans (grown_below g2 (by (try simp only [World.heap_size_alloc, World.heap_size_drew, World.heap_size_setCell]); omega) (fun g hg => (LT1.out g hg).1))
  have O2 := Lib.hid o2
  clear o2 g2 a2
  go_ret
  obtain ⟨A2, c2, rfl, s2⟩ := O2.out.sl
  exact ⟨A2, c2, rfl, s2, hb2⟩
theorem VRow.push {w3 wr w2 W : World} {B m : Nat} {v v3 : Value} {vs : List Value} {rows : List (List Int)} {r : List Int} {A2 : Option Addr} {n2 c2 : Nat} (V : VRow wr B wr.heap.size v.ownBlock vs (rows.take m)) (hlt : ∀ g, v.ownBlock = some g → g < wr.heap.size) (b : Below wr.heap.size wr w2) (hB : B ≤ wr.heap.size) (s2 : Sl w2 wr.heap.size w2.heap.size 1 A2 n2 c2 r) (hr : rows[m]? = some r) (bW : Below w2.heap.size w2 W) (g3 : W.grownBy w3 v.ownBlock) (a3 : v3.ownBlock = v.ownBlock ∨ v3.ownBlock = some W.heap.size) :
    VRow w3 B w3.heap.size v3.ownBlock (vs ++ [.slice A2 n2 c2]) (rows.take (m + 1)) := by
  have hy := b.size
  have hy2 := bW.size
  have hy3 := g3.size
  have V2 := ((V.below b (Nat.le_refl _)).mono (lo' := B) (Nat.le_refl _) hy).below bW (Nat.le_refl _)
  have V3 := V2.last hr ((s2.below bW (Nat.le_refl _)).mono hB (Nat.le_refl _)) (fun hn a e e9 => by
    have h1 := (s2.block_lt hn e).1
    have h2 := hlt _ e9.symm
    omega)
  exact (V3.grown g3 hy2 a3).mono (Nat.le_refl _) (by omega)
theorem VWr.push {w3 wr w2 W : World} {B m lo : Nat} {v v3 : Value} {vs : List Value} {ws : List WriteD} {r : WriteD} {A2 : Option Addr} {n2 c2 : Nat} (V : VWr wr B wr.heap.size v.ownBlock vs (ws.take m)) (hlt : ∀ g, v.ownBlock = some g → g < wr.heap.size) (b : Below wr.heap.size wr w2) (hB : B ≤ wr.heap.size) (hlo : wr.heap.size ≤ lo) (s2 : Sl w2 lo w2.heap.size 1 A2 n2 c2 r.row) (hr : ws[m]? = some r) (bW : Below w2.heap.size w2 W) (g3 : W.grownBy w3 v.ownBlock) (a3 : v3.ownBlock = v.ownBlock ∨ v3.ownBlock = some W.heap.size) :
    VWr w3 B w3.heap.size v3.ownBlock (vs ++ [.int .i64 r.at_, .slice A2 n2 c2]) (ws.take (m + 1)) := by
  have hy := b.size
  have hy2 := bW.size
  have hy3 := g3.size
  have V2 := ((V.below b (Nat.le_refl _)).mono (lo' := B) (Nat.le_refl _) hy).below bW (Nat.le_refl _)
  have V3 := V2.last hr ((s2.below bW (Nat.le_refl _)).mono (by omega) (Nat.le_refl _)) (fun hn a e e9 => by
    have h1 := (s2.block_lt hn e).1
    have h2 := hlt _ e9.symm
    omega)
  exact (V3.grown g3 hy2 a3).mono (Nat.le_refl _) (by omega)
theorem OwnV.lt2 {w : World} {base e k : Nat} {v : Value} {n : Nat} {vs : List Value} (h : OwnV w base e k v n vs) : ∀ g, v.ownBlock = some g → g < w.heap.size := fun g hg => (h.lt g hg).2
theorem one_slice (A : Option Addr) (n c : Nat) : ∀ u ∈ [Value.slice A n c], u.oneCell' = true := by simp [Value.oneCell']
theorem one_write (q : Int) (A : Option Addr) (n c : Nat) : ∀ u ∈ [Value.int .i64 q, Value.slice A n c], u.oneCell' = true := by simp [Value.oneCell']
/-- The array of a slice lies in blocks from lo up to mid, and may be written. -/
def KF (w : World) (lo mid : Nat) (A : Option Addr) : Prop := ∀ g off, A = some ⟨g, off, none⟩ → lo ≤ g ∧ g < mid ∧ ∀ q, w.frozen? ⟨g, q, none⟩ = false
theorem KF.of_own {w : World} {base e k n c : Nat} {A : Option Addr} {vs : List Value} (h : OwnV w base e k (.slice A n c) n vs) : KF w base w.heap.size A := fun g off e => by
  subst e
  rcases h.2 with ⟨h1, -⟩ | ⟨g', cap, cur, h1, hb, hg, _⟩
  · cases h1
  · injection h1 with h1 h2 h3
    injection h1 with h1
    injection h1 with h1 h4
    subst h1 h3
    subst h4
    exact ⟨hb, (Array.getElem?_eq_some_iff.1 hg).1, fun q => World.ownsRow.frozenAt h q⟩
theorem KF.nil (w : World) (lo mid : Nat) : KF w lo mid none := fun g off e => by cases e
theorem KF.below {w w' : World} {lo mid B : Nat} {A : Option Addr} (h : KF w lo mid A) (hb : Below B w w') (hB : mid ≤ B) : KF w' lo mid A := fun g off e => by
  obtain ⟨h1, h2, h3⟩ := h g off e
  exact ⟨h1, h2, fun q => (hb.frozen (p := ⟨g, q, none⟩) (show g < B by omega)).trans (h3 q)⟩
theorem KF.mono {w : World} {lo mid lo' mid' : Nat} {A : Option Addr} (h : KF w lo mid A) (h1 : lo' ≤ lo) (h2 : mid ≤ mid') : KF w lo' mid' A := fun g off e => by
  obtain ⟨q1, q2, q3⟩ := h g off e
  exact ⟨by omega, by omega, q3⟩
theorem KF.setCell {w : World} {lo mid : Nat} {A : Option Addr} (h : KF w lo mid A) (p : Addr) (v : Value) : KF (w.setCell p v) lo mid A := fun g off e => by
  obtain ⟨q1, q2, q3⟩ := h g off e
  exact ⟨q1, q2, fun q => by rw [World.frozen?_setCell]; exact q3 q⟩
theorem KF.upd {w w' : World} {lo mid lo' hi' : Nat} {A : Option Addr} (h : KF w lo mid A) (hu : Upd lo' hi' w w') (hm : mid ≤ w.heap.size) (ho : mid ≤ lo' ∨ hi' ≤ lo) : KF w' lo mid A := fun g off e => by
  obtain ⟨q1, q2, q3⟩ := h g off e
  exact ⟨q1, q2, fun q => (World.frozen?_of_block (w := w) (a := ⟨g, q, none⟩) (hu.block g (by omega) (by omega))).trans (q3 q)⟩
def RResF (w : World) (n : Nat) (rows : List (List Int)) (e : Ending) (w' : World) : Prop := ∃ A c, e = .returned (.slice A n c) ∧ SlR w' w.heap.size w'.heap.size A n c rows ∧ KF w' w.heap.size w'.heap.size A ∧ Below w.heap.size w w'
set_option maxRecDepth 100000 in
set_option maxHeartbeats 2000000 in
theorem copyRows_any (A : Option Addr) (n c lo hi : Nat) (rows : List (List Int)) (w : World) (h : SlR w lo hi A n c rows) (hhi : hi ≤ w.heap.size) (hn : n ≤ 1000) (hrow : ∀ (j : Nat) r, rows[j]? = some r → r.length ≤ 1000) :
    Calls Try.prog 153 #[.slice A n c] w (RResF w n rows) := by
  have L := Lib.hid h.len
  have H := Lib.hid h
  have HR := Lib.hid hrow
  obtain ⟨arr, harr, hmk⟩ := make0 (P := Try.prog) Try.underlying57 infoI64S n (by omega) (by omega)
  have o1 : OwnV (w.alloc (.cells arr 28)) w.heap.size 28 1 (.slice (some ⟨w.heap.size, 0, none⟩) 0 n) 0 [] := OwnV.made w 28 1 arr n (Nat.le_refl _) (by omega) harr
  have O1 := Lib.hid o1
  clear h hrow o1 harr
  go_enter Try.func153, Try.ntmps153
  go_wp2_with fail
  go_loopw [3, 5, 11] (fun v _ i wr => ∃ (m : Nat) (vs : List Value), m ≤ n ∧ i = .int .i64 m ∧ Hid (OwnV wr w.heap.size 28 1 v m vs) ∧ Hid (VRow wr w.heap.size wr.heap.size v.ownBlock vs (rows.take m)) ∧ Below w.heap.size w wr) (fun _ _ i _ => n - (intOf i).toNat)
  case atStart => exact ⟨0, [], Nat.zero_le _, rfl, O1, Lib.hid (VRow.nil _ _ _ _), by (repeat' (first | with_reducible exact Below.refl _ _ | with_reducible assumption | with_reducible refine Below.drew ?_ | with_reducible refine Below.alloc ?_ ?_ _ | with_reducible refine Below.setCell ?_ ?_ _ | with_reducible refine Below.trans ?_ (Below.mono (by assumption) ?_) | ((try simp only [World.heap_size_alloc, World.heap_size_drew, World.heap_size_setCell]); omega)))⟩
  case round =>
    clear hmk O1
    obtain ⟨m, vs, hm, rfl, O, V, hb⟩ := hrel
    have hbz := hb.size
    by_cases hlt : m < n
    · obtain ⟨r, hr⟩ : ∃ r, rows[m]? = some r := ⟨rows[m]'(by rw [L.out]; exact hlt), List.getElem?_eq_getElem _⟩
      obtain ⟨g, off, Aj, nj, cj, rfl, _, hg, p0, hs⟩ := H.out.lie m r hr
      have r0 := (hb.cell (p := ⟨g, off + m, none⟩) (show g < w.heap.size by omega)).trans p0
      have hnj : nj ≤ 1000000 := by
        have h8 := HR.out m r hr
        have h9 := hs.len
        omega
      have HS := Lib.hid (hs.below hb hhi)
      have HX := Lib.hid hr
      have HB := Lib.hid hb
      clear p0 hs hr hb
      go_wp2_with fail
      (with_reducible refine (copyRow_any _ _ _ _ _ r _ HS.out hnj).mono ?_); rintro _ w2 ⟨A2, c2, rfl, s2, b2⟩
      have y2 := b2.size
      have S2 := Lib.hid s2
      have B2 := Lib.hid b2
      have bW : Below w2.heap.size w2 (w2.alloc (.cells #[.slice A2 nj c2] 28)) := (Below.refl _ _).alloc (Nat.le_refl _) _
      have BW := Lib.hid bW
      have OK := Lib.hid (O.out.kept (b2.trans (bW.mono y2)))
      clear s2 b2 bW
      go_wp2_with (at_builtin; go_loud (refine wpList_append_v _ rfl (.tmp 15) (.tmp 18) 57 rfl w.heap.size 28 Try.underlying57 infoI64S rfl (by omega) _ m vs rfl OK.out _ 0 1 1 [.slice A2 nj c2] rfl rfl (src_cells w2 28 [.slice A2 nj c2]) (one_slice _ _ _) (by omega) (by omega) (by (try simp only [World.heap_size_alloc, World.heap_size_drew, World.heap_size_setCell]); omega) ?_); intro v3 w3 o3 g3 a3)
      have hb3 : Below w.heap.size w w3 := HB.out.trans ((B2.out.trans (BW.out.mono y2)).mono hbz |>.trans (grown_below g3 (by (try simp only [World.heap_size_alloc, World.heap_size_drew, World.heap_size_setCell]); omega) (fun g hg => (O.out.lt g hg).1)))
      have O3 := Lib.hid o3
      have V3 := Lib.hid (V.out.push O.out.lt2 B2.out hbz S2.out HX.out BW.out g3 a3)
      clear o3 g3 a3
      go_wp2_with fail
      go_roundw
      case rel => exact ⟨m + 1, _, hlt, by go_num, O3, V3, hb3⟩
      case measure => simp [intOf]; omega
    · go_wp2
      go_ret
      have hmn : m = n := by omega
      subst hmn
      obtain ⟨A9, c9, rfl, -, s9⟩ := SlR.of_own O.out V.out (Nat.le_refl _) (Nat.le_refl _)
      refine ⟨A9, c9, rfl, ?_, KF.of_own O.out, hb⟩
      rw [← L.out, List.take_length] at s9
      rw [← L.out]
      exact s9
end Go.Proofs.Ytgnilmdaegnaaaa
