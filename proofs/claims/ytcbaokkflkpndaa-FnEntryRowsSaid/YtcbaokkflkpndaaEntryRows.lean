/- The law FnEntryRows returns true for every input. No conditions. -/
import Derived.Test.YtcbaokkflkpndaaGen0
import Derived.Test.YtcbaokkflkpndaaNum3
set_option linter.unusedSimpArgs false
set_option linter.unusedVariables false
namespace Go.Proofs.Ytcbaokkflkpndaa
open Go.ChangeShapes Go.WideShapes Go.ChangeAt Go.RowKit
namespace EntryRows
theorem ok_small {e : EntryD} (h : entryOk e = true) : ∀ z ∈ e.ints, 0 ≤ z ∧ z ≤ 1000000000 := by
  simp only [entryOk, Bool.and_eq_true, btw_iff] at h
  obtain ⟨⟨⟨⟨h1, h2⟩, h3⟩, h4⟩, h5⟩ := h
  have hop : (0 ≤ e.op.kind ∧ e.op.kind ≤ 5) ∧ (0 ≤ e.op.a ∧ e.op.a ≤ 1000) ∧ (0 ≤ e.op.b ∧ e.op.b ≤ 1000000) ∧ (0 ≤ e.op.c ∧ e.op.c ≤ 9) ∧ 0 ≤ e.op.d ∧ e.op.d ≤ 999 := by
    unfold opOk at h5
    split at h5
    · simp [btw] at h5; omega
    split at h5
    · simp [btw] at h5; omega
    split at h5
    · simp [btw] at h5; omega
    split at h5
    · simp [btw] at h5; omega
    split at h5
    · simp [btw] at h5; omega
    · cases h5
  intro z hz
  simp only [EntryD.ints, List.mem_cons, List.not_mem_nil, or_false] at hz
  omega
theorem rowEntry_ints (y : EntryD) : rowEntry y.ints = if entryOk y then (y, true) else (entryNone, false) := rfl
set_option maxHeartbeats 1000000 in
theorem rowOk_true (A : Option Addr) (n c lo hi : Nat) (zs : List Int) (w : World) (h : Sl w lo hi 1 A n c zs) (hn : n ≤ 48) (hz : ∀ z ∈ zs, 0 ≤ z ∧ z ≤ 1000000000) :
    Calls Try.prog 52 #[.slice A n c] w fun e w' => e = .returned (.bool true) ∧ w = w' := by
  have H := Lib.hid h
  have HZ := Lib.hid hz
  clear h hz
  go_enter Try.func52, Try.ntmps52
  go_wp2
  go_loop [4, 10] (fun _ i => ∃ m : Nat, m ≤ n ∧ i = .int .i64 m) (fun _ i => n - (intOf i).toNat)
  case atStart => exact ⟨0, Nat.zero_le _, rfl⟩
  case round =>
    obtain ⟨m, hm, rfl⟩ := hrel
    by_cases hlt : m < n
    · obtain ⟨g, off, x, rfl, _, _, hx, p0⟩ := H.out.int hlt
      have hb := btw_iff.2 (HZ.out x (List.mem_of_getElem? hx))
      clear hx
      go_wp2_with (go_at_call 55; refine (between_any _ _ _ _).mono ?_; rintro e2 w2 ⟨rfl, rfl⟩)
      go_round
      case rel => exact ⟨m + 1, hlt, by go_num⟩
      case measure => simp [intOf]; omega
    · go_wp2
      go_ret
      exact ⟨rfl, rfl⟩
set_option maxRecDepth 100000 in
set_option maxHeartbeats 8000000 in
theorem law_any (A : Option Addr) (n c : Nat) (w : World) (h : ArgB w A n c) : Calls Try.prog 14 #[.slice A n c] w fun e w' => e = .returned (.bool true) ∧ Below w.heap.size w w' := by
  rcases Nat.lt_or_ge 4096 n with hn0 | hn0
  · have hbg : decide (4096 < n) = true := by simpa using hn0
    clear h
    go_enter Try.func14, Try.ntmps14
    go_wp2_with fail
    (with_reducible refine (big_any _ _ _ _).mono ?_); rintro _ _ ⟨rfl, rfl⟩
    rw [hbg]
    go_wp2_with fail
    go_ret
    exact ⟨rfl, Below.refl _ _⟩
  have hc := h.code hn0
  have hbg : decide (4096 < n) = false := by simp; omega
  clear h
  go_enter Try.func14, Try.ntmps14
  go_wp2_with fail
  (with_reducible refine (big_any _ _ _ _).mono ?_); rintro _ _ ⟨rfl, rfl⟩
  rw [hbg]
  go_wp2_with fail
  (with_reducible refine (roll_any _ _ _ _ 907 _ hc (Nat.le_refl _) (by omega) (by omega)).mono ?_); rintro _ w1 ⟨rfl, z1, d1, b1⟩
  have d2 : DiceAt (w1.alloc (.cells #[] 34)) w.heap.size w.heap.size A n c := d1.below (B := w1.heap.size) (by (repeat' (first | with_reducible exact Below.refl _ _ | with_reducible assumption | with_reducible refine Below.drew ?_ | with_reducible refine Below.alloc ?_ ?_ _ | with_reducible refine Below.setCell ?_ ?_ _ | with_reducible refine Below.trans ?_ (Below.mono (by assumption) ?_) | ((try simp only [World.heap_size_alloc, World.heap_size_drew, World.heap_size_setCell]); omega)))) z1
  go_wp2_with fail
  have hw9 := w9List_any A n c _ _ (some ⟨w1.heap.size, 0, none⟩) 0 0 0 0 [] 3 _ d2 (Sl.nil _ _ _ _ _ _ (by omega)) (fun e he => absurd he (by simp)) (by omega)
  rw [show ((3 : Nat) : Int) = 3 from rfl] at hw9
  (with_reducible refine hw9.mono ?_); rintro _ w3 ⟨ds, B, q, hds, hdr, rfl, s3, d3, u3⟩
  have y3 := u3.size
  simp only [World.heap_size_alloc] at y3
  have e0 : stA [] = st0 := rfl
  rw [e0] at s3
  obtain ⟨g, off, e, rfl, _, hg, he, p0, p1, p2, p3, p4, p5, p6, p7, p8⟩ := s3.entry (show 2 < 3 by omega)
  have hok := gen0_entryOk hdr (by omega) he
  have hb3 : Below w.heap.size w w3 := by
    have h1 : Below w.heap.size w (w1.alloc (.cells #[] 34)) := by (repeat' (first | with_reducible exact Below.refl _ _ | with_reducible assumption | with_reducible refine Below.drew ?_ | with_reducible refine Below.alloc ?_ ?_ _ | with_reducible refine Below.setCell ?_ ?_ _ | with_reducible refine Below.trans ?_ (Below.mono (by assumption) ?_) | ((try simp only [World.heap_size_alloc, World.heap_size_drew, World.heap_size_setCell]); omega)))
    exact h1.trans (u3.below (Nat.le_refl _) (by (try simp only [World.heap_size_alloc, World.heap_size_drew, World.heap_size_setCell]); omega))
  have CR : ∀ W, Calls Try.prog 35 #[.agg #[.int .i64 e.index, .int .i64 e.time, .int .i64 e.client, .int .i64 e.seq, .int .i64 e.op.kind, .int .i64 e.op.a, .int .i64 e.op.b, .int .i64 e.op.c, .int .i64 e.op.d]] W (SlRes W 1 9 e.ints) := fun W => by
    have h7 := entryRow_any e.index e.time e.client e.seq e.op.kind e.op.a e.op.b e.op.c e.op.d W
    rw [show entryRow ⟨e.index, e.time, e.client, e.seq, ⟨e.op.kind, e.op.a, e.op.b, e.op.c, e.op.d⟩⟩ = e.ints from if_pos hok] at h7
    exact h7
  have CE : ∀ W A c lo hi, Sl W lo hi 1 A 9 c e.ints → Calls Try.prog 37 #[.slice A 9 c] W (EntryBRes W (e, true)) := fun W A c lo hi s => by
    have h7 := rowEntry_any A 9 c lo hi e.ints W s
    rw [rowEntry_ints, if_pos hok] at h7
    exact h7
  have CK : ∀ W A c lo hi, Sl W lo hi 1 A 9 c e.ints → Calls Try.prog 52 #[.slice A 9 c] W fun x w' => x = .returned (.bool true) ∧ W = w' := fun W A c lo hi s => rowOk_true A 9 c lo hi e.ints W s (by omega) (ok_small hok)
  have hlen : e.ints.length = 9 := rfl
  have HR := Lib.hid CR
  have HE := Lib.hid CE
  have HK := Lib.hid CK
  have HLEN := Lib.hid hlen
  have HB3 := Lib.hid hb3
  have HD3 := Lib.hid d3
  have hgw : g < w3.heap.size := World.block_lt_of_cell? w3 _ p0
  clear CR CE CK hlen hb3 d3 d1 d2 s3 u3 he hok hdr hds e0
  go_wp2_with fail
  (with_reducible refine (HR.out _).mono ?_); rintro _ w4 ⟨A4, c4, rfl, s4, b4⟩
  have y4 := b4.size
  simp only [World.heap_size_alloc] at y4
  replace s4 := s4.mono (lo' := w3.heap.size) (by (try simp only [World.heap_size_alloc, World.heap_size_drew, World.heap_size_setCell]); omega) (Nat.le_refl _)
  have v0 : w4.cell? ⟨w3.heap.size, 0, none⟩ = some (.int .i64 e.index) := (b4.cell (p := ⟨w3.heap.size, 0, none⟩) (by (try simp only [World.heap_size_alloc, World.heap_size_drew, World.heap_size_setCell]); omega)).trans (by simp)
  have v1 : w4.cell? ⟨w3.heap.size, 1, none⟩ = some (.int .i64 e.time) := (b4.cell (p := ⟨w3.heap.size, 1, none⟩) (by (try simp only [World.heap_size_alloc, World.heap_size_drew, World.heap_size_setCell]); omega)).trans (by simp)
  have v2 : w4.cell? ⟨w3.heap.size, 2, none⟩ = some (.int .i64 e.client) := (b4.cell (p := ⟨w3.heap.size, 2, none⟩) (by (try simp only [World.heap_size_alloc, World.heap_size_drew, World.heap_size_setCell]); omega)).trans (by simp)
  have v3 : w4.cell? ⟨w3.heap.size, 3, none⟩ = some (.int .i64 e.seq) := (b4.cell (p := ⟨w3.heap.size, 3, none⟩) (by (try simp only [World.heap_size_alloc, World.heap_size_drew, World.heap_size_setCell]); omega)).trans (by simp)
  have v4 : w4.cell? ⟨w3.heap.size, 4, none⟩ = some (.int .i64 e.op.kind) := (b4.cell (p := ⟨w3.heap.size, 4, none⟩) (by (try simp only [World.heap_size_alloc, World.heap_size_drew, World.heap_size_setCell]); omega)).trans (by simp)
  have v5 : w4.cell? ⟨w3.heap.size, 5, none⟩ = some (.int .i64 e.op.a) := (b4.cell (p := ⟨w3.heap.size, 5, none⟩) (by (try simp only [World.heap_size_alloc, World.heap_size_drew, World.heap_size_setCell]); omega)).trans (by simp)
  have v6 : w4.cell? ⟨w3.heap.size, 6, none⟩ = some (.int .i64 e.op.b) := (b4.cell (p := ⟨w3.heap.size, 6, none⟩) (by (try simp only [World.heap_size_alloc, World.heap_size_drew, World.heap_size_setCell]); omega)).trans (by simp)
  have v7 : w4.cell? ⟨w3.heap.size, 7, none⟩ = some (.int .i64 e.op.c) := (b4.cell (p := ⟨w3.heap.size, 7, none⟩) (by (try simp only [World.heap_size_alloc, World.heap_size_drew, World.heap_size_setCell]); omega)).trans (by simp)
  have v8 : w4.cell? ⟨w3.heap.size, 8, none⟩ = some (.int .i64 e.op.d) := (b4.cell (p := ⟨w3.heap.size, 8, none⟩) (by (try simp only [World.heap_size_alloc, World.heap_size_drew, World.heap_size_setCell]); omega)).trans (by simp)
  clear p0 p1 p2 p3 p4 p5 p6 p7 p8
  go_wp2_with fail
  (with_reducible refine (HE.out _ _ _ _ _ s4).mono ?_); rintro _ w5 ⟨rfl, b5⟩
  have y5 := b5.size
  have z4 : w3.heap.size < w4.heap.size := by omega
  have x0_ : w5.cell? ⟨w3.heap.size, 0, none⟩ = some (.int .i64 e.index) := (b5.cell (p := ⟨w3.heap.size, 0, none⟩) z4).trans v0
  have x1_ : w5.cell? ⟨w3.heap.size, 1, none⟩ = some (.int .i64 e.time) := (b5.cell (p := ⟨w3.heap.size, 1, none⟩) z4).trans v1
  have x2_ : w5.cell? ⟨w3.heap.size, 2, none⟩ = some (.int .i64 e.client) := (b5.cell (p := ⟨w3.heap.size, 2, none⟩) z4).trans v2
  have x3_ : w5.cell? ⟨w3.heap.size, 3, none⟩ = some (.int .i64 e.seq) := (b5.cell (p := ⟨w3.heap.size, 3, none⟩) z4).trans v3
  have x4_ : w5.cell? ⟨w3.heap.size, 4, none⟩ = some (.int .i64 e.op.kind) := (b5.cell (p := ⟨w3.heap.size, 4, none⟩) z4).trans v4
  have x5_ : w5.cell? ⟨w3.heap.size, 5, none⟩ = some (.int .i64 e.op.a) := (b5.cell (p := ⟨w3.heap.size, 5, none⟩) z4).trans v5
  have x6_ : w5.cell? ⟨w3.heap.size, 6, none⟩ = some (.int .i64 e.op.b) := (b5.cell (p := ⟨w3.heap.size, 6, none⟩) z4).trans v6
  have x7_ : w5.cell? ⟨w3.heap.size, 7, none⟩ = some (.int .i64 e.op.c) := (b5.cell (p := ⟨w3.heap.size, 7, none⟩) z4).trans v7
  have x8_ : w5.cell? ⟨w3.heap.size, 8, none⟩ = some (.int .i64 e.op.d) := (b5.cell (p := ⟨w3.heap.size, 8, none⟩) z4).trans v8
  have z5 : w3.heap.size < w5.heap.size := by omega
  clear v0 v1 v2 v3 v4 v5 v6 v7 v8
  have s5 := s4.below b5 (Nat.le_refl _)
  have hb5 : Below w3.heap.size w3 w5 := by (repeat' (first | with_reducible exact Below.refl _ _ | with_reducible assumption | with_reducible refine Below.drew ?_ | with_reducible refine Below.alloc ?_ ?_ _ | with_reducible refine Below.setCell ?_ ?_ _ | with_reducible refine Below.trans ?_ (Below.mono (by assumption) ?_) | ((try simp only [World.heap_size_alloc, World.heap_size_drew, World.heap_size_setCell]); omega)))
  have s6 : Sl (w5.alloc (.cells #[.int .i64 e.index, .int .i64 e.time, .int .i64 e.client, .int .i64 e.seq, .int .i64 e.op.kind, .int .i64 e.op.a, .int .i64 e.op.b, .int .i64 e.op.c, .int .i64 e.op.d] 34)) _ _ 1 A4 9 c4 e.ints := s5.below (B := w5.heap.size) (by (repeat' (first | with_reducible exact Below.refl _ _ | with_reducible assumption | with_reducible refine Below.drew ?_ | with_reducible refine Below.alloc ?_ ?_ _ | with_reducible refine Below.setCell ?_ ?_ _ | with_reducible refine Below.trans ?_ (Below.mono (by assumption) ?_) | ((try simp only [World.heap_size_alloc, World.heap_size_drew, World.heap_size_setCell]); omega)))) (by omega)
  have hd6 : DiceAt (w5.alloc (.cells #[.int .i64 e.index, .int .i64 e.time, .int .i64 e.client, .int .i64 e.seq, .int .i64 e.op.kind, .int .i64 e.op.a, .int .i64 e.op.b, .int .i64 e.op.c, .int .i64 e.op.d] 34)) w.heap.size w.heap.size A n c := HD3.out.below (B := w3.heap.size) (by (repeat' (first | with_reducible exact Below.refl _ _ | with_reducible assumption | with_reducible refine Below.drew ?_ | with_reducible refine Below.alloc ?_ ?_ _ | with_reducible refine Below.setCell ?_ ?_ _ | with_reducible refine Below.trans ?_ (Below.mono (by assumption) ?_) | ((try simp only [World.heap_size_alloc, World.heap_size_drew, World.heap_size_setCell]); omega)))) (by omega)
  have hb6 : Below w.heap.size w (w5.alloc (.cells #[.int .i64 e.index, .int .i64 e.time, .int .i64 e.client, .int .i64 e.seq, .int .i64 e.op.kind, .int .i64 e.op.a, .int .i64 e.op.b, .int .i64 e.op.c, .int .i64 e.op.d] 34)) := by
    have h1 := HB3.out
    (repeat' (first | with_reducible exact Below.refl _ _ | with_reducible assumption | with_reducible refine Below.drew ?_ | with_reducible refine Below.alloc ?_ ?_ _ | with_reducible refine Below.setCell ?_ ?_ _ | with_reducible refine Below.trans ?_ (Below.mono (by assumption) ?_) | ((try simp only [World.heap_size_alloc, World.heap_size_drew, World.heap_size_setCell]); omega)))
  have HB6 := Lib.hid hb6
  clear hb6 s4 s5
  go_wp2_with fail
  (with_reducible refine (HK.out _ _ _ _ _ s6).mono ?_); rintro _ _ ⟨rfl, rfl⟩
  obtain ⟨g6, o6, rfl, hg61, hg62, hI6⟩ := s6.lie (by omega)
  have hgn : w.heap.size < g6 := by omega
  go_wp2_with fail
  (with_reducible refine (below_any _ _ _ _ _ 9 _ (by omega) (by omega) hd6).mono ?_); rintro _ w7 ⟨j, rfl, j0, j1, hd7, u7⟩
  have y7 := u7.size
  simp only [World.heap_size_alloc] at y7
  have hI7 := hI6.upd u7 (.inr (by omega))
  go_wp2_with fail
  (with_reducible refine (below_any _ _ _ _ _ 2100 _ (by omega) (by omega) hd7).mono ?_); rintro _ w8 ⟨x, rfl, x0, x1, hd8, u8⟩
  have y8 := u8.size
  have hI8 := hI7.upd u8 (.inr (by omega))
  obtain ⟨k, rfl⟩ := Int.eq_ofNat_of_zero_le j0
  have hk9 : k < 9 := by omega
  obtain ⟨r0, f0⟩ := hI8.getD (j := k) (by rw [HLEN.out]; exact hk9)
  have hI9 := hI8.set k x
  obtain ⟨y, hy⟩ := EntryD.mk_ints (e.ints.set k x) (by rw [List.length_set]; rfl)
  rw [← hy] at hI9
  have S9 : Hid (Sl (w8.setCell ⟨g6, o6 + k, none⟩ (.int .i64 x)) (w.heap.size + 1) w8.heap.size 1 (some ⟨g6, o6, none⟩) 9 c4 y.ints) := Lib.hid ⟨rfl, s6.cap, s6.big, fun _ => ⟨g6, o6, rfl, hgn, by omega, hI9⟩⟩
  have HB8 : Hid (Below w.heap.size w w8) := Lib.hid (HB6.out.trans ((u7.below (Nat.le_refl _) (by (try simp only [World.heap_size_alloc, World.heap_size_drew, World.heap_size_setCell]); omega)).trans (u8.below (Nat.le_refl _) (by omega))))
  clear hI9 hI6 hI7 hI8 hd6 hd7 hd8 u7 u8 s6 hy b4 b5 hb5
  have hset : Below w.heap.size w8 (w8.setCell ⟨g6, o6 + k, none⟩ (.int .i64 x)) := (Below.refl _ _).setCell (p := ⟨g6, o6 + k, none⟩) (show w.heap.size ≤ g6 by omega) _
  have HS := Lib.hid (HB8.out.trans hset)
  clear hset
  have y9 : w.heap.size + 1 < w8.heap.size := by omega
  cases hok : entryOk y with
  | false =>
    have CE : ∀ W A c lo hi, Sl W lo hi 1 A 9 c y.ints → Calls Try.prog 37 #[.slice A 9 c] W (EntryBRes W (entryNone, false)) := fun W A c lo hi s => by
      have h7 := rowEntry_any A 9 c lo hi y.ints W s
      rw [rowEntry_ints, hok] at h7
      exact h7
    have HY := Lib.hid CE
    clear CE hok
    go_wp2_with fail
    (with_reducible refine (HY.out _ _ _ _ _ S9.out).mono ?_); rintro _ w10 ⟨rfl, b10⟩
    go_wp2_with fail
    go_ret
    have hs := HS.out
    have b11 : Below w.heap.size (w8.setCell ⟨g6, o6 + k, none⟩ (.int .i64 x)) w10 := b10.mono (by rw [World.heap_size_setCell]; omega)
    have y10 := b11.size
    rw [World.heap_size_setCell] at y10
    exact ⟨rfl, (hs.trans b11).alloc (by omega) _⟩
  | true =>
    have CE : ∀ W A c lo hi, Sl W lo hi 1 A 9 c y.ints → Calls Try.prog 37 #[.slice A 9 c] W (EntryBRes W (y, true)) := fun W A c lo hi s => by
      have h7 := rowEntry_any A 9 c lo hi y.ints W s
      rw [rowEntry_ints, hok] at h7
      exact h7
    have CR2 : ∀ W, Calls Try.prog 35 #[.agg #[.int .i64 y.index, .int .i64 y.time, .int .i64 y.client, .int .i64 y.seq, .int .i64 y.op.kind, .int .i64 y.op.a, .int .i64 y.op.b, .int .i64 y.op.c, .int .i64 y.op.d]] W (SlRes W 1 9 y.ints) := fun W => by
      have h7 := entryRow_any y.index y.time y.client y.seq y.op.kind y.op.a y.op.b y.op.c y.op.d W
      rw [show entryRow ⟨y.index, y.time, y.client, y.seq, ⟨y.op.kind, y.op.a, y.op.b, y.op.c, y.op.d⟩⟩ = y.ints from if_pos hok] at h7
      exact h7
    have CO : ∀ W, Calls Try.prog 24 #[.agg #[.int .i64 y.index, .int .i64 y.time, .int .i64 y.client, .int .i64 y.seq, .int .i64 y.op.kind, .int .i64 y.op.a, .int .i64 y.op.b, .int .i64 y.op.c, .int .i64 y.op.d]] W fun x w' => x = .returned (.bool true) ∧ Below W.heap.size W w' := fun W => by
      have h7 := entryOk_any y.index y.time y.client y.seq y.op.kind y.op.a y.op.b y.op.c y.op.d W
      rw [show entryOk ⟨y.index, y.time, y.client, y.seq, ⟨y.op.kind, y.op.a, y.op.b, y.op.c, y.op.d⟩⟩ = true from hok] at h7
      exact h7
    have HY := Lib.hid CE
    have HR2 := Lib.hid CR2
    have HO2 := Lib.hid CO
    clear CE CR2 CO hok
    go_wp2_with fail
    (with_reducible refine (HY.out _ _ _ _ _ S9.out).mono ?_); rintro _ w10 ⟨rfl, b10⟩
    have y10 := b10.size
    rw [World.heap_size_setCell] at y10
    have s10 := S9.out.below (B := w8.heap.size) (by rw [World.heap_size_setCell] at b10; exact b10) (Nat.le_refl _)
    go_wp2_with fail
    (with_reducible refine (HR2.out _).mono ?_); rintro _ w11 ⟨A11, c11, rfl, s11, b11⟩
    have y11 := b11.size
    simp only [World.heap_size_alloc] at y11
    have t0 : w11.cell? ⟨w10.heap.size, 0, none⟩ = some (.int .i64 y.index) := (b11.cell (p := ⟨w10.heap.size, 0, none⟩) (by (try simp only [World.heap_size_alloc, World.heap_size_drew, World.heap_size_setCell]); omega)).trans (by simp)
    have t1 : w11.cell? ⟨w10.heap.size, 1, none⟩ = some (.int .i64 y.time) := (b11.cell (p := ⟨w10.heap.size, 1, none⟩) (by (try simp only [World.heap_size_alloc, World.heap_size_drew, World.heap_size_setCell]); omega)).trans (by simp)
    have t2 : w11.cell? ⟨w10.heap.size, 2, none⟩ = some (.int .i64 y.client) := (b11.cell (p := ⟨w10.heap.size, 2, none⟩) (by (try simp only [World.heap_size_alloc, World.heap_size_drew, World.heap_size_setCell]); omega)).trans (by simp)
    have t3 : w11.cell? ⟨w10.heap.size, 3, none⟩ = some (.int .i64 y.seq) := (b11.cell (p := ⟨w10.heap.size, 3, none⟩) (by (try simp only [World.heap_size_alloc, World.heap_size_drew, World.heap_size_setCell]); omega)).trans (by simp)
    have t4 : w11.cell? ⟨w10.heap.size, 4, none⟩ = some (.int .i64 y.op.kind) := (b11.cell (p := ⟨w10.heap.size, 4, none⟩) (by (try simp only [World.heap_size_alloc, World.heap_size_drew, World.heap_size_setCell]); omega)).trans (by simp)
    have t5 : w11.cell? ⟨w10.heap.size, 5, none⟩ = some (.int .i64 y.op.a) := (b11.cell (p := ⟨w10.heap.size, 5, none⟩) (by (try simp only [World.heap_size_alloc, World.heap_size_drew, World.heap_size_setCell]); omega)).trans (by simp)
    have t6 : w11.cell? ⟨w10.heap.size, 6, none⟩ = some (.int .i64 y.op.b) := (b11.cell (p := ⟨w10.heap.size, 6, none⟩) (by (try simp only [World.heap_size_alloc, World.heap_size_drew, World.heap_size_setCell]); omega)).trans (by simp)
    have t7 : w11.cell? ⟨w10.heap.size, 7, none⟩ = some (.int .i64 y.op.c) := (b11.cell (p := ⟨w10.heap.size, 7, none⟩) (by (try simp only [World.heap_size_alloc, World.heap_size_drew, World.heap_size_setCell]); omega)).trans (by simp)
    have t8 : w11.cell? ⟨w10.heap.size, 8, none⟩ = some (.int .i64 y.op.d) := (b11.cell (p := ⟨w10.heap.size, 8, none⟩) (by (try simp only [World.heap_size_alloc, World.heap_size_drew, World.heap_size_setCell]); omega)).trans (by simp)
    have s12 := s10.below (B := w10.heap.size) (w' := w11) (by (repeat' (first | with_reducible exact Below.refl _ _ | with_reducible assumption | with_reducible refine Below.drew ?_ | with_reducible refine Below.alloc ?_ ?_ _ | with_reducible refine Below.setCell ?_ ?_ _ | with_reducible refine Below.trans ?_ (Below.mono (by assumption) ?_) | ((try simp only [World.heap_size_alloc, World.heap_size_drew, World.heap_size_setCell]); omega)))) (by omega)
    go_wp2_with fail
    (with_reducible refine (likeInts_same _ _ _ _ _ _ _ _ _ _ _ s11 s12).mono ?_); rintro _ w12 ⟨rfl, b12⟩
    have y12 := b12.size
    have z11 : w10.heap.size < w11.heap.size := by omega
    have q0_ : w12.cell? ⟨w10.heap.size, 0, none⟩ = some (.int .i64 y.index) := (b12.cell (p := ⟨w10.heap.size, 0, none⟩) z11).trans t0
    have q1_ : w12.cell? ⟨w10.heap.size, 1, none⟩ = some (.int .i64 y.time) := (b12.cell (p := ⟨w10.heap.size, 1, none⟩) z11).trans t1
    have q2_ : w12.cell? ⟨w10.heap.size, 2, none⟩ = some (.int .i64 y.client) := (b12.cell (p := ⟨w10.heap.size, 2, none⟩) z11).trans t2
    have q3_ : w12.cell? ⟨w10.heap.size, 3, none⟩ = some (.int .i64 y.seq) := (b12.cell (p := ⟨w10.heap.size, 3, none⟩) z11).trans t3
    have q4_ : w12.cell? ⟨w10.heap.size, 4, none⟩ = some (.int .i64 y.op.kind) := (b12.cell (p := ⟨w10.heap.size, 4, none⟩) z11).trans t4
    have q5_ : w12.cell? ⟨w10.heap.size, 5, none⟩ = some (.int .i64 y.op.a) := (b12.cell (p := ⟨w10.heap.size, 5, none⟩) z11).trans t5
    have q6_ : w12.cell? ⟨w10.heap.size, 6, none⟩ = some (.int .i64 y.op.b) := (b12.cell (p := ⟨w10.heap.size, 6, none⟩) z11).trans t6
    have q7_ : w12.cell? ⟨w10.heap.size, 7, none⟩ = some (.int .i64 y.op.c) := (b12.cell (p := ⟨w10.heap.size, 7, none⟩) z11).trans t7
    have q8_ : w12.cell? ⟨w10.heap.size, 8, none⟩ = some (.int .i64 y.op.d) := (b12.cell (p := ⟨w10.heap.size, 8, none⟩) z11).trans t8
    clear t0 t1 t2 t3 t4 t5 t6 t7 t8
    go_wp2_with fail
    (with_reducible refine (HO2.out _).mono ?_); rintro _ w13 ⟨rfl, b13⟩
    go_wp2_with fail
    go_ret
    have hs := HS.out
    have c10 : Below w.heap.size (w8.setCell ⟨g6, o6 + k, none⟩ (.int .i64 x)) w10 := b10.mono (by rw [World.heap_size_setCell]; omega)
    have c11 : Below w.heap.size w10 w11 := ((Below.refl w.heap.size w10).alloc (by omega) _).trans (b11.mono (by (try simp only [World.heap_size_alloc, World.heap_size_drew, World.heap_size_setCell]); omega))
    exact ⟨rfl, ((hs.trans c10).trans c11).trans ((b12.mono (by omega)).trans (b13.mono (by omega)))⟩
theorem own : ownKnob Try.prog.godebug = none := by kernel_rfl
theorem laidOut : laidOutB Try.prog = true := by kernel_rfl
set_option maxRecDepth 100000 in
theorem lifted (os : Os) (started : os.Started) (H : Type) (enc : TypeId × Value → H) :
    ReturnsInHanded {} Try.checked os 14 .any (Rows.fnEntryRowsSpec.pre6 enc Try.prog Try.f14 Rows.fnEntryRowsRow.domain false) (Rows.fnEntryRowsSpec.post enc Try.prog Try.f14 false true false false) := by
  refine returnsInHanded_of_change (C := Try.checked) own started (by kernel_rfl) Try.func14
    (ChangeSpec.witness6 (enc := enc) (C := Try.checked) false ⟨#[], #[.slice none 0 0], []⟩ 8 (by kernel_rfl) (by kernel_rfl) (by kernel_rfl) (by kernel_rfl)) ?_
  intro W base args ds gs before hval0 hW hcnd _
  have hval : ∀ (j : Nat) t v, Try.f14.params[j]? = some t → args[j]? = some v → Value.okWide Try.prog W .any base t v := hval0
  have hW' := hW
  obtain ⟨p, q, hA0, hV, rfl, hfz, hnd⟩ := hW
  have hA : DataW.TrodAll enc Try.prog W 0 (fun _ => true) true Try.f14.params.toList args.toList ds p := hA0
  rw [Try.params14] at hA hval
  obtain ⟨v0, d0, rfl, rfl, h0⟩ := trodAll_one hA
  obtain ⟨rfl, rfl⟩ := trodVars_none hV
  obtain ⟨A0, n0, c0, rfl, hz0⟩ := open_bytes Try.underlying60 Try.underlying5 (by kernel_rfl) (hval 0 60 v0 rfl rfl) h0
  clear hA0 hval0
  refine (law_any A0 n0 c0 W hz0).mono fun e W' ⟨he, hb⟩ => ?_
  subst he
  exact ⟨_, rfl, law_post laidOut (by kernel_rfl) rfl Try.underlying4 rfl hW' hb rfl rfl rfl⟩
theorem holds : Rows.FnEntryRowsSaid :=
  OpenClaim.holds_of_wide 14 Try.f14 rfl rfl rfl rfl rfl rfl rfl ⟨rfl, rfl, rfl, rfl, rfl⟩ rfl rfl rfl rfl rfl (by kernel_rfl) Try.func14 (by kernel_rfl)
    (of_decide_eq_true (by kernel_rfl)) (by unfold Func.isWrapper; first | (rw [if_pos (by decide +kernel)]; kernel_rfl) | (rw [if_neg (by decide +kernel)]; exact ⟨rfl, rfl⟩))
    (fun os started H enc _ => lifted os started H enc)
#print axioms holds
end EntryRows
end Go.Proofs.Ytcbaokkflkpndaa
