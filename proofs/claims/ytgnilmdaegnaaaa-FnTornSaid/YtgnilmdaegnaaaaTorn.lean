/- The law FnTorn returns true for every input. No conditions. -/
import Derived.Test.YtgnilmdaegnaaaaTn1
import Derived.Deep.RegionHeld3
import Derived.Deep.RegionLaw
import Derived.Deep.DeepCutAuto
set_option linter.unusedSimpArgs false
set_option linter.unusedVariables false
namespace Go.Proofs.Ytgnilmdaegnaaaa
open Go.ChangeShapes Go.WideShapes Go.ChangeAt Go.RowKit
theorem diskOk_none {r : List Int} (h : rowOk r = true) : diskOk [r] [] = true := by simp [diskOk, h]
theorem diskOk_one {r s : List Int} (h : rowOk r = true) (k : rowOk s = true) : diskOk [r] [⟨0, s⟩] = true := by simp [diskOk, wrOk, h, k, btw]
namespace Torn
/-- Dice, and two rows. -/
structure TnR (v : World) (G : Nat) (A : Option Addr) (n c gr : Nat) (P0 P1 : Option Addr) (N e0 e1 : Nat) (r0 r1 : List Int) (hi : Nat) : Prop where
  dice : DiceAt v G G A n c
  c0 : v.cell? ⟨gr, 0, none⟩ = some (.slice P0 N e0)
  c1 : v.cell? ⟨gr, 1, none⟩ = some (.slice P1 N e1)
  s0 : Sl v (G + 1) hi 1 P0 N e0 r0
  s1 : Sl v (G + 1) hi 1 P1 N e1 r1
  hgr : G < gr
  hgh : gr < hi
  hhi : hi ≤ v.heap.size
section
variable {v v' : World} {G : Nat} {A : Option Addr} {n c gr : Nat} {P0 P1 : Option Addr} {N e0 e1 : Nat} {r0 r1 : List Int} {hi : Nat}
theorem TnR.below {B : Nat} (h : TnR v G A n c gr P0 P1 N e0 e1 r0 r1 hi) (hb : Below B v v') (hB : hi ≤ B) : TnR v' G A n c gr P0 P1 N e0 e1 r0 r1 hi := by
  have h1 := h.hgr
  have h2 := h.hgh
  exact ⟨h.dice.below hb (by omega), (hb.cell (p := ⟨gr, 0, none⟩) (show gr < B by omega)).trans h.c0, (hb.cell (p := ⟨gr, 1, none⟩) (show gr < B by omega)).trans h.c1, h.s0.below hb hB, h.s1.below hb hB, h1, h2, Nat.le_trans h.hhi hb.size⟩
theorem TnR.draw (h : TnR v G A n c gr P0 P1 N e0 e1 r0 r1 hi) (hd : DiceAt v' G G A n c) (hu : Upd G (G + 1) v v') : TnR v' G A n c gr P0 P1 N e0 e1 r0 r1 hi := by
  have h1 := h.hgr
  have h2 := h.hgh
  have h3 := h.hhi
  have hb : v'.heap[gr]? = v.heap[gr]? := hu.block gr (by omega) (.inr (by omega))
  exact ⟨hd, (World.cell?_of_block (w := v) (a := ⟨gr, 0, none⟩) hb).trans h.c0, (World.cell?_of_block (w := v) (a := ⟨gr, 1, none⟩) hb).trans h.c1, h.s0.upd hu (.inr (Nat.le_refl _)), h.s1.upd hu (.inr (Nat.le_refl _)), h1, h2, Nat.le_trans h.hhi hu.size⟩
theorem TnR.box (h : TnR v G A n c gr P0 P1 N e0 e1 r0 r1 hi) {b : Nat} (hb : hi ≤ b) (q : Nat) (x : Value) : TnR (v.setCell ⟨b, q, none⟩ x) G A n c gr P0 P1 N e0 e1 r0 r1 hi :=
  h.below (B := hi) ((Below.refl _ _).setCell (p := ⟨b, q, none⟩) hb x) (Nat.le_refl _)
end
theorem draw_box {w w' : World} {b lo hi : Nat} {v0 v1 : Value} (h : Box2 w b v0 v1) (hu : Upd lo hi w w') (ho : hi ≤ b) : Box2 w' b v0 v1 := h.upd hu (.inr ho)
set_option maxRecDepth 100000 in
set_option maxHeartbeats 32000000 in
theorem law_any (A : Option Addr) (n c : Nat) (w : World) (h : ArgB w A n c) : Calls Try.prog 11 #[.slice A n c] w fun e w' => e = .returned (.bool true) ∧ Below w.heap.size w w' := by
  rcases Nat.lt_or_ge 4096 n with hn0 | hn0
  · have hbg : decide (4096 < n) = true := by simpa using hn0
    clear h
    go_enter Try.func11, Try.ntmps11
    go_wp2_with fail
    (with_reducible refine (big_any _ _ _ _).mono ?_); rintro _ _ ⟨rfl, rfl⟩
    rw [hbg]
    go_wp2_with fail
    go_ret
    exact ⟨rfl, Below.refl _ _⟩
  have hc := h.code hn0
  have hbg : decide (4096 < n) = false := by simp; omega
  clear h
  go_enter Try.func11, Try.ntmps11
  go_wp2_with fail
  (with_reducible refine (big_any _ _ _ _).mono ?_); rintro _ _ ⟨rfl, rfl⟩
  rw [hbg]
  go_wp2_with fail
  (with_reducible refine (roll_any _ _ _ _ 916 _ hc (Nat.le_refl _) (by omega) (by omega)).mono ?_); rintro _ w1 ⟨rfl, z1, d1, b1⟩
  have d1' : DiceAt (w1.alloc (.cells #[] 32)) w.heap.size w.heap.size A n c := d1.below (B := w1.heap.size) (by (repeat' (first | with_reducible exact Below.refl _ _ | with_reducible assumption | with_reducible refine Below.drew ?_ | with_reducible refine Below.alloc ?_ ?_ _ | with_reducible refine Below.setCell ?_ ?_ _ | with_reducible refine Below.trans ?_ (Below.mono (by assumption) ?_) | ((try simp only [World.heap_size_alloc, World.heap_size_drew, World.heap_size_setCell]); omega)))) z1
  have CW : Hid (∀ W, DiceAt W w.heap.size w.heap.size A n c → Calls Try.prog 48 #[.pointer (some ⟨w.heap.size, 0, none⟩), .slice (some ⟨w1.heap.size, 0, none⟩) 0 0, .int .i64 22] W (W9Res W w.heap.size w.heap.size A n c (stA []) 22)) := Lib.hid (fun W hW => w9List_any A n c _ _ _ 0 0 0 0 [] 22 W hW (Sl.nil _ _ _ _ _ _ (by omega)) (fun e he => absurd he (by simp)) (by omega))
  go_wp2_with fail
  (with_reducible refine (CW.out _ d1').mono ?_); rintro _ w3 ⟨ds, B, q, hds, hdr, rfl, s3, d3, u3⟩
  have y3 := u3.size
  simp only [World.heap_size_alloc] at y3 s3
  have e0 : stA [] = st0 := rfl
  rw [e0] at s3
  have hll := genE_len ds st0
  have hat : Hid (∀ (j : Nat) (e : EntryD), (genE st0 ds)[j]? = some e → e.index = (j : Int) + 1 ∧ entryOk e = true) := Lib.hid (fun j e he => ⟨(gen0_at hdr he).1, gen0_entryOk hdr (by omega) he⟩)
  have hhd : Hid (∀ (num b : Nat), 1 ≤ b → b ≤ 22 → num ≤ b → headOk (num : Int) (b : Int) (w9Time (genE st0 ds) b) (w9Seen (genE st0 ds) b) = true ∧ seenOk (w9Seen (genE st0 ds) b) = true) := Lib.hid (fun num b h1 h2 h3 => w9_ok hdr (by omega) h1 (by omega) h3)
  generalize genE st0 ds = l at s3 hll hat hhd
  have hlm : l.length = 22 := by omega
  have hb3 : Below w.heap.size w w3 := by
    have h1 : Below w.heap.size w (w1.alloc (.cells #[] 32)) := by (repeat' (first | with_reducible exact Below.refl _ _ | with_reducible assumption | with_reducible refine Below.drew ?_ | with_reducible refine Below.alloc ?_ ?_ _ | with_reducible refine Below.setCell ?_ ?_ _ | with_reducible refine Below.trans ?_ (Below.mono (by assumption) ?_) | ((try simp only [World.heap_size_alloc, World.heap_size_drew, World.heap_size_setCell]); omega)))
    exact h1.trans (u3.below (Nat.le_refl _) (by (try simp only [World.heap_size_alloc, World.heap_size_drew, World.heap_size_setCell]); omega))
  clear hll hdr hds d1 d1' u3 e0 CW b1 hc
  have S3 := Lib.hid s3
  have HB3 := Lib.hid hb3
  have HL := Lib.hid hlm
  clear s3 hb3 hlm
  go_wp2_with fail
  (with_reducible refine (below_any _ _ _ _ _ 2 _ (by omega) (by omega) d3).mono ?_); rintro _ w4 ⟨x, rfl, x0, x1, d4, u4⟩
  obtain ⟨k, rfl⟩ := Int.eq_ofNat_of_zero_le x0
  have hk2 : k < 2 := by omega
  have y4 := u4.size
  have S4 := Lib.hid (S3.out.upd u4 (.inr (by omega)))
  have HB4 := Lib.hid (HB3.out.trans (u4.below (Nat.le_refl _) (by omega)))
  have D4 := Lib.hid d4
  clear d3 d4 u4 x0 x1 S3 HB3
  obtain ⟨g, off, ea, rfl, hgl, hg, hea, pa0, pa1, pa2, pa3, pa4, pa5, pa6, pa7, pa8⟩ := S4.out.entry (show k < 22 by omega)
  obtain ⟨k2, hk22⟩ : ∃ x, x = k + 20 := ⟨_, rfl⟩
  obtain ⟨g', off', eb, e9, _, hg', heb, pb0, pb1, pb2, pb3, pb4, pb5, pb6, pb7, pb8⟩ := S4.out.entry (show k2 < 22 by omega)
  injection e9 with e9
  injection e9 with e9 e8
  subst e9 e8
  have KA := Lib.hid (hat.out k ea hea)
  have KB := Lib.hid (hat.out k2 eb heb)
  clear hea heb
  have hwk : IntKind.i64.wrap ((k : Int) + 20) = (k2 : Int) := by
    rw [show (k : Int) + 20 = (k2 : Int) by omega]
    exact IntWalk.i64_in _ (by omega)
  have hik : (k : Int) < 22 := by omega
  have hik2 : (k2 : Int) < 22 := by omega
  have hik0 : (0 : Int) ≤ (k2 : Int) := by omega
  have hik1 : (0 : Int) ≤ (k : Int) := by omega
  have HK2 := Lib.hid hk22
  clear hk22
  have hgw : g < w4.heap.size := by omega
  have SK : ∀ W, Below w4.heap.size w4 W → (W.cell? ⟨g, off + k * 9, none⟩ = some (.int .i64 ea.index) ∧ W.cell? ⟨g, off + k * 9 + 1, none⟩ = some (.int .i64 ea.time) ∧ W.cell? ⟨g, off + k * 9 + 2, none⟩ = some (.int .i64 ea.client) ∧ W.cell? ⟨g, off + k * 9 + 3, none⟩ = some (.int .i64 ea.seq) ∧ W.cell? ⟨g, off + k * 9 + 4, none⟩ = some (.int .i64 ea.op.kind) ∧ W.cell? ⟨g, off + k * 9 + 5, none⟩ = some (.int .i64 ea.op.a) ∧ W.cell? ⟨g, off + k * 9 + 6, none⟩ = some (.int .i64 ea.op.b) ∧ W.cell? ⟨g, off + k * 9 + 7, none⟩ = some (.int .i64 ea.op.c) ∧ W.cell? ⟨g, off + k * 9 + 8, none⟩ = some (.int .i64 ea.op.d) ∧ W.cell? ⟨g, off + k2 * 9, none⟩ = some (.int .i64 eb.index) ∧ W.cell? ⟨g, off + k2 * 9 + 1, none⟩ = some (.int .i64 eb.time) ∧ W.cell? ⟨g, off + k2 * 9 + 2, none⟩ = some (.int .i64 eb.client) ∧ W.cell? ⟨g, off + k2 * 9 + 3, none⟩ = some (.int .i64 eb.seq) ∧ W.cell? ⟨g, off + k2 * 9 + 4, none⟩ = some (.int .i64 eb.op.kind) ∧ W.cell? ⟨g, off + k2 * 9 + 5, none⟩ = some (.int .i64 eb.op.a) ∧ W.cell? ⟨g, off + k2 * 9 + 6, none⟩ = some (.int .i64 eb.op.b) ∧ W.cell? ⟨g, off + k2 * 9 + 7, none⟩ = some (.int .i64 eb.op.c) ∧ W.cell? ⟨g, off + k2 * 9 + 8, none⟩ = some (.int .i64 eb.op.d) ∧ Below w4.heap.size w4 W) := fun W hbW => ⟨(hbW.cell (p := ⟨g, off + k * 9, none⟩) hgw).trans pa0, (hbW.cell (p := ⟨g, off + k * 9 + 1, none⟩) hgw).trans pa1, (hbW.cell (p := ⟨g, off + k * 9 + 2, none⟩) hgw).trans pa2, (hbW.cell (p := ⟨g, off + k * 9 + 3, none⟩) hgw).trans pa3, (hbW.cell (p := ⟨g, off + k * 9 + 4, none⟩) hgw).trans pa4, (hbW.cell (p := ⟨g, off + k * 9 + 5, none⟩) hgw).trans pa5, (hbW.cell (p := ⟨g, off + k * 9 + 6, none⟩) hgw).trans pa6, (hbW.cell (p := ⟨g, off + k * 9 + 7, none⟩) hgw).trans pa7, (hbW.cell (p := ⟨g, off + k * 9 + 8, none⟩) hgw).trans pa8, (hbW.cell (p := ⟨g, off + k2 * 9, none⟩) hgw).trans pb0, (hbW.cell (p := ⟨g, off + k2 * 9 + 1, none⟩) hgw).trans pb1, (hbW.cell (p := ⟨g, off + k2 * 9 + 2, none⟩) hgw).trans pb2, (hbW.cell (p := ⟨g, off + k2 * 9 + 3, none⟩) hgw).trans pb3, (hbW.cell (p := ⟨g, off + k2 * 9 + 4, none⟩) hgw).trans pb4, (hbW.cell (p := ⟨g, off + k2 * 9 + 5, none⟩) hgw).trans pb5, (hbW.cell (p := ⟨g, off + k2 * 9 + 6, none⟩) hgw).trans pb6, (hbW.cell (p := ⟨g, off + k2 * 9 + 7, none⟩) hgw).trans pb7, (hbW.cell (p := ⟨g, off + k2 * 9 + 8, none⟩) hgw).trans pb8, hbW⟩
  have HSK := Lib.hid SK
  obtain ⟨fx0, fx1, fx2, fx3, fx4, fx5, fx6, fx7, fx8, fx9, fx10, fx11, fx12, fx13, fx14, fx15, fx16, fx17, -⟩ := SK w4 (Below.refl _ _)
  have SLA := Lib.hid (slotRow_ok KA.out.2)
  have SLB := Lib.hid (slotRow_ok KB.out.2)
  have CA : Hid (∀ W, Calls Try.prog 18 #[.agg #[.int .i64 ea.index, .int .i64 ea.time, .int .i64 ea.client, .int .i64 ea.seq, .int .i64 ea.op.kind, .int .i64 ea.op.a, .int .i64 ea.op.b, .int .i64 ea.op.c, .int .i64 ea.op.d]] W (SlRes W 1 11 (slotRow ea))) := Lib.hid (fun W => by
    have h7 := slotRow_any ea.index ea.time ea.client ea.seq ea.op.kind ea.op.a ea.op.b ea.op.c ea.op.d W
    rw [show slotRow ⟨ea.index, ea.time, ea.client, ea.seq, ⟨ea.op.kind, ea.op.a, ea.op.b, ea.op.c, ea.op.d⟩⟩ = slotRow ea from rfl, SLA.out.1] at h7
    exact h7)
  have CB : Hid (∀ W, Calls Try.prog 18 #[.agg #[.int .i64 eb.index, .int .i64 eb.time, .int .i64 eb.client, .int .i64 eb.seq, .int .i64 eb.op.kind, .int .i64 eb.op.a, .int .i64 eb.op.b, .int .i64 eb.op.c, .int .i64 eb.op.d]] W (SlRes W 1 11 (slotRow eb))) := Lib.hid (fun W => by
    have h7 := slotRow_any eb.index eb.time eb.client eb.seq eb.op.kind eb.op.a eb.op.b eb.op.c eb.op.d W
    rw [show slotRow ⟨eb.index, eb.time, eb.client, eb.seq, ⟨eb.op.kind, eb.op.a, eb.op.b, eb.op.c, eb.op.d⟩⟩ = slotRow eb from rfl, SLB.out.1] at h7
    exact h7)
  clear SK pa0 pa1 pa2 pa3 pa4 pa5 pa6 pa7 pa8 pb0 pb1 pb2 pb3 pb4 pb5 pb6 pb7 pb8
  go_wp2_with fail
  go_region_held3 (fun w' => w'.cell? ⟨g, off + k * 9, none⟩ = some (.int .i64 ea.index) ∧ w'.cell? ⟨g, off + k * 9 + 1, none⟩ = some (.int .i64 ea.time) ∧ w'.cell? ⟨g, off + k * 9 + 2, none⟩ = some (.int .i64 ea.client) ∧ w'.cell? ⟨g, off + k * 9 + 3, none⟩ = some (.int .i64 ea.seq) ∧ w'.cell? ⟨g, off + k * 9 + 4, none⟩ = some (.int .i64 ea.op.kind) ∧ w'.cell? ⟨g, off + k * 9 + 5, none⟩ = some (.int .i64 ea.op.a) ∧ w'.cell? ⟨g, off + k * 9 + 6, none⟩ = some (.int .i64 ea.op.b) ∧ w'.cell? ⟨g, off + k * 9 + 7, none⟩ = some (.int .i64 ea.op.c) ∧ w'.cell? ⟨g, off + k * 9 + 8, none⟩ = some (.int .i64 ea.op.d) ∧ w'.cell? ⟨g, off + k2 * 9, none⟩ = some (.int .i64 eb.index) ∧ w'.cell? ⟨g, off + k2 * 9 + 1, none⟩ = some (.int .i64 eb.time) ∧ w'.cell? ⟨g, off + k2 * 9 + 2, none⟩ = some (.int .i64 eb.client) ∧ w'.cell? ⟨g, off + k2 * 9 + 3, none⟩ = some (.int .i64 eb.seq) ∧ w'.cell? ⟨g, off + k2 * 9 + 4, none⟩ = some (.int .i64 eb.op.kind) ∧ w'.cell? ⟨g, off + k2 * 9 + 5, none⟩ = some (.int .i64 eb.op.a) ∧ w'.cell? ⟨g, off + k2 * 9 + 6, none⟩ = some (.int .i64 eb.op.b) ∧ w'.cell? ⟨g, off + k2 * 9 + 7, none⟩ = some (.int .i64 eb.op.c) ∧ w'.cell? ⟨g, off + k2 * 9 + 8, none⟩ = some (.int .i64 eb.op.d) ∧ Below w4.heap.size w4 w')
    (first | (refine HSK.out _ ?_; (repeat' (first | with_reducible exact Below.refl _ _ | with_reducible assumption | with_reducible refine Below.drew ?_ | with_reducible refine Below.alloc ?_ ?_ _ | with_reducible refine Below.setCell ?_ ?_ _ | with_reducible refine Below.trans ?_ (Below.mono (by assumption) ?_) | ((try simp only [World.heap_size_alloc, World.heap_size_drew, World.heap_size_setCell]); omega)))) | (go_split_ands; refine HSK.out _ ?_; (repeat' (first | with_reducible exact Below.refl _ _ | with_reducible assumption | with_reducible refine Below.drew ?_ | with_reducible refine Below.alloc ?_ ?_ _ | with_reducible refine Below.setCell ?_ ?_ _ | with_reducible refine Below.trans ?_ (Below.mono (by assumption) ?_) | ((try simp only [World.heap_size_alloc, World.heap_size_drew, World.heap_size_setCell]); omega)))))
    (first | (go_at_call 18; (with_reducible refine (CA.out _).mono ?_); rintro _ w5 ⟨P0, e0, rfl, s5, b5⟩; have hb5 : Below w4.heap.size w4 w5 := (by (repeat' (first | with_reducible exact Below.refl _ _ | with_reducible assumption | with_reducible refine Below.drew ?_ | with_reducible refine Below.alloc ?_ ?_ _ | with_reducible refine Below.setCell ?_ ?_ _ | with_reducible refine Below.trans ?_ (Below.mono (by assumption) ?_) | ((try simp only [World.heap_size_alloc, World.heap_size_drew, World.heap_size_setCell]); omega)))); have y5 := hb5.size; have S5 := Lib.hid (s5.mono (lo' := w4.heap.size) (by (try simp only [World.heap_size_alloc, World.heap_size_drew, World.heap_size_setCell]); omega) (Nat.le_refl _)); clear s5 b5) | (go_at_call 18; (with_reducible refine (CB.out _).mono ?_); rintro _ w6 ⟨P1, e1, rfl, s6, b6⟩; have hb65 : Below w5.heap.size w5 w6 := (by (repeat' (first | with_reducible exact Below.refl _ _ | with_reducible assumption | with_reducible refine Below.drew ?_ | with_reducible refine Below.alloc ?_ ?_ _ | with_reducible refine Below.setCell ?_ ?_ _ | with_reducible refine Below.trans ?_ (Below.mono (by assumption) ?_) | ((try simp only [World.heap_size_alloc, World.heap_size_drew, World.heap_size_setCell]); omega)))); have hb6 : Below w4.heap.size w4 w6 := (hb5.trans (hb65.mono y5)); have y6 := hb65.size; have S6 := Lib.hid (s6.mono (lo' := w4.heap.size) (by (try simp only [World.heap_size_alloc, World.heap_size_drew, World.heap_size_setCell]); omega) (Nat.le_refl _)); have S56 := Lib.hid (S5.out.below hb65 (Nat.le_refl _)); clear s6 b6))
  have hb7 : Below w6.heap.size w6 (w6.alloc (.cells #[.slice P0 11 e0, .slice P1 11 e1] 28)) := (Below.refl _ _).alloc (Nat.le_refl _) _
  have hz7 : (w6.alloc (.cells #[.slice P0 11 e0, .slice P1 11 e1] 28)).heap.size = w6.heap.size + 1 := World.heap_size_alloc _ _
  obtain ⟨bx0, bx1, -, -⟩ := Box2.new w6 (.slice P0 11 e0) (.slice P1 11 e1) 28
  have T7 : Hid (TnR (w6.alloc (.cells #[.slice P0 11 e0, .slice P1 11 e1] 28)) w.heap.size A n c w6.heap.size P0 P1 11 e0 e1 (slotRow ea) (slotRow eb) (w6.heap.size + 1)) := Lib.hid ⟨(D4.out.below hb6 (by omega)).below hb7 (by omega), bx0, bx1, (S56.out.below hb7 (by omega)).mono (by omega) (by omega), (S6.out.below hb7 (Nat.le_refl _)).mono (by omega) (by omega), by omega, by omega, by omega⟩
  have S7 := Lib.hid ((S4.out.below (hb6.trans (hb7.mono hb6.size)) (by omega)))
  have HB7 := Lib.hid (HB4.out.trans ((hb6.trans (hb7.mono hb6.size)).mono (by omega)))
  clear fx0 fx1 fx2 fx3 fx4 fx5 fx6 fx7 fx8 fx9 fx10 fx11 fx12 fx13 fx14 fx15 fx16 fx17 bx0 bx1
  generalize hW7 : w6.alloc (.cells #[.slice P0 11 e0, .slice P1 11 e1] 28) = w7 at *
  have y67 : w6.heap.size + 1 ≤ w7.heap.size := by omega
  have d7 := T7.out.dice
  clear hW7 hb5 hb6 hb65 hb7 HSK S5 S6 S56
  go_wp2_with fail
  (with_reducible refine (below_any _ _ _ _ _ 2 _ (by omega) (by omega) d7).mono ?_); rintro _ w8 ⟨x, rfl, x0, x1, d8, u8⟩
  have y8 := u8.size
  have T8 := Lib.hid (T7.out.draw d8 u8)
  have S8 := Lib.hid (S7.out.upd u8 (.inr (by omega)))
  have HB8 := Lib.hid (HB7.out.trans (u8.below (Nat.le_refl _) (by omega)))
  clear d7 T7 S7 HB7 u8
  by_cases hx : x = 0
  · subst hx
    clear T8 CA CB SLA SLB KA KB S4 HB4 D4 hwk hik hik2 hik0 hat x0 x1 hz7
    go_wp2_with fail
    (with_reducible refine (below_any _ _ _ _ _ 3 _ (by omega) (by omega) d8).mono ?_); rintro _ wa ⟨y, rfl, y0, y1, da, ua⟩
    obtain ⟨nm, rfl⟩ := Int.eq_ofNat_of_zero_le y0
    have hnm : nm < 3 := by omega
    have za := ua.size
    have Sa := Lib.hid (S8.out.upd ua (.inr (by omega)))
    have HBa := Lib.hid (HB8.out.trans (ua.below (Nat.le_refl _) (by omega)))
    clear d8 ua y0 y1 S8 HB8
    obtain ⟨b1, hb1⟩ : ∃ x, x = nm + 1 := ⟨_, rfl⟩
    obtain ⟨n2, hn2⟩ : ∃ x, x = nm + 2 := ⟨_, rfl⟩
    obtain ⟨n6, hn6⟩ : ∃ x, x = nm + 6 := ⟨_, rfl⟩
    have kb1 : IntKind.i64.wrap ((nm : Int) + 1) = (b1 : Int) := by
      rw [show (nm : Int) + 1 = (b1 : Int) by omega]
      exact IntWalk.i64_in _ (by omega)
    have kn2 : IntKind.i64.wrap ((nm : Int) + 2) = (n2 : Int) := by
      rw [show (nm : Int) + 2 = (n2 : Int) by omega]
      exact IntWalk.i64_in _ (by omega)
    have kn6 : IntKind.i64.wrap ((nm : Int) + 6) = (n6 : Int) := by
      rw [show (nm : Int) + 6 = (n6 : Int) by omega]
      exact IntWalk.i64_in _ (by omega)
    have HN := Lib.hid (And.intro hb1 (And.intro hn2 hn6))
    have hb13 : b1 ≤ 3 := by omega
    have hn24 : n2 ≤ 4 := by omega
    have hn68 : n6 ≤ 8 := by omega
    clear hb1 hn2 hn6
    go_wp2_with fail
    (with_reducible refine (below_any _ _ _ _ _ 4 _ (by omega) (by omega) da).mono ?_); rintro _ wb0 ⟨y, rfl, y0, y1, db0, ub0⟩
    obtain ⟨a0, rfl⟩ := Int.eq_ofNat_of_zero_le y0
    have ha0 : a0 < 4 := by omega
    have zb0 := ub0.size
    have Sb0 := Lib.hid (Sa.out.upd ub0 (.inr (by omega)))
    have HBb0 := Lib.hid (HBa.out.trans (ub0.below (Nat.le_refl _) (by omega)))
    clear da ub0 y0 y1 Sa HBa
    obtain ⟨ba0, hba0⟩ : ∃ x, x = b1 + a0 := ⟨_, rfl⟩
    have k0 : IntKind.i64.wrap ((b1 : Int) + (a0 : Int)) = (ba0 : Int) := by
      rw [show (b1 : Int) + (a0 : Int) = (ba0 : Int) by omega]
      exact IntWalk.i64_in _ (by omega)
    have hba10 : 1 ≤ ba0 := by have := HN.out; omega
    have hba20 : ba0 ≤ 22 := by have := HN.out; omega
    have hba30 : nm ≤ ba0 := by have := HN.out; omega
    have HK0 := Lib.hid (hhd.out nm ba0 hba10 hba20 hba30)
    have CH0 : Hid _ := Lib.hid (w9Head_any _ _ _ _ _ l nm ba0 wb0 Sb0.out (by (try simp only [World.heap_size_alloc, World.heap_size_drew, World.heap_size_setCell]); omega) hba10 hba20 (by omega) (by omega))
    generalize w9Time l ba0 = t0 at *
    generalize w9Seen l ba0 = sn0 at *
    clear hba0 hba10 hba20 hba30
    go_wp2_with fail
    (with_reducible refine (CH0.out).mono ?_); rintro _ wc0 ⟨A0, c0, rfl, s0, b0⟩
    have zc0 := b0.size
    have HR0 := Lib.hid (headRow_ok HK0.out.1)
    have CR0 : Hid (Calls Try.prog 36 #[.agg #[.int .i64 (nm : Int), .int .i64 (ba0 : Int), .int .i64 t0, .slice A0 sn0.length c0]] wc0 (SlRes wc0 1 13 (headRow (nm : Int) (ba0 : Int) t0 sn0))) := Lib.hid (by
      have h7 := headRow_any (nm : Int) (ba0 : Int) t0 A0 sn0.length c0 _ _ sn0 wc0 s0
      rw [HR0.out.1] at h7
      exact h7)
    clear CH0 s0
    go_wp2_with fail
    (with_reducible refine (CR0.out).mono ?_); rintro _ wd0 ⟨P0, e0, rfl, sp0, bp0⟩
    have zd0 := bp0.size
    have bd0 : Below wb0.heap.size wb0 wd0 := b0.trans (bp0.mono zc0)
    have SP0 := Lib.hid (sp0.mono (lo' := wb0.heap.size) zc0 (Nat.le_refl _))
    have dd0 := db0.below bd0 (by omega)
    have Sd0 := Lib.hid (Sb0.out.below bd0 (by (try simp only [World.heap_size_alloc, World.heap_size_drew, World.heap_size_setCell]); omega))
    have HBd0 := Lib.hid (HBb0.out.trans (bd0.mono (by omega)))
    clear sp0 bp0 b0 CR0 bd0 db0 Sb0 HBb0
    go_wp2_with fail
    (with_reducible refine (below_any _ _ _ _ _ 4 _ (by omega) (by omega) dd0).mono ?_); rintro _ wb1 ⟨y, rfl, y0, y1, db1, ub1⟩
    obtain ⟨a1, rfl⟩ := Int.eq_ofNat_of_zero_le y0
    have ha1 : a1 < 4 := by omega
    have zb1 := ub1.size
    have Sb1 := Lib.hid (Sd0.out.upd ub1 (.inr (by omega)))
    have HBb1 := Lib.hid (HBd0.out.trans (ub1.below (Nat.le_refl _) (by omega)))
    have SP0b := Lib.hid (SP0.out.upd ub1 (.inr (by omega)))
    clear dd0 ub1 y0 y1 Sd0 HBd0
    obtain ⟨ba1, hba1⟩ : ∃ x, x = n6 + a1 := ⟨_, rfl⟩
    have k1 : IntKind.i64.wrap ((n6 : Int) + (a1 : Int)) = (ba1 : Int) := by
      rw [show (n6 : Int) + (a1 : Int) = (ba1 : Int) by omega]
      exact IntWalk.i64_in _ (by omega)
    have hba11 : 1 ≤ ba1 := by have := HN.out; omega
    have hba21 : ba1 ≤ 22 := by have := HN.out; omega
    have hba31 : n2 ≤ ba1 := by have := HN.out; omega
    have HK1 := Lib.hid (hhd.out n2 ba1 hba11 hba21 hba31)
    have CH1 : Hid _ := Lib.hid (w9Head_any _ _ _ _ _ l n2 ba1 wb1 Sb1.out (by (try simp only [World.heap_size_alloc, World.heap_size_drew, World.heap_size_setCell]); omega) hba11 hba21 (by omega) (by omega))
    generalize w9Time l ba1 = t1 at *
    generalize w9Seen l ba1 = sn1 at *
    clear hba1 hba11 hba21 hba31
    go_wp2_with fail
    (with_reducible refine (CH1.out).mono ?_); rintro _ wc1 ⟨A1, c1, rfl, s1, b1⟩
    have zc1 := b1.size
    have HR1 := Lib.hid (headRow_ok HK1.out.1)
    have CR1 : Hid (Calls Try.prog 36 #[.agg #[.int .i64 (n2 : Int), .int .i64 (ba1 : Int), .int .i64 t1, .slice A1 sn1.length c1]] wc1 (SlRes wc1 1 13 (headRow (n2 : Int) (ba1 : Int) t1 sn1))) := Lib.hid (by
      have h7 := headRow_any (n2 : Int) (ba1 : Int) t1 A1 sn1.length c1 _ _ sn1 wc1 s1
      rw [HR1.out.1] at h7
      exact h7)
    clear CH1 s1
    go_wp2_with fail
    (with_reducible refine (CR1.out).mono ?_); rintro _ wd1 ⟨P1, e1, rfl, sp1, bp1⟩
    have zd1 := bp1.size
    have bd1 : Below wb1.heap.size wb1 wd1 := b1.trans (bp1.mono zc1)
    have SP1 := Lib.hid (sp1.mono (lo' := wb1.heap.size) zc1 (Nat.le_refl _))
    have dd1 := db1.below bd1 (by omega)
    have Sd1 := Lib.hid (Sb1.out.below bd1 (by (try simp only [World.heap_size_alloc, World.heap_size_drew, World.heap_size_setCell]); omega))
    have HBd1 := Lib.hid (HBb1.out.trans (bd1.mono (by omega)))
    have SP0d := Lib.hid (SP0b.out.below bd1 (by (try simp only [World.heap_size_alloc, World.heap_size_drew, World.heap_size_setCell]); omega))
    clear sp1 bp1 b1 CR1 bd1 db1 Sb1 HBb1
    go_upto_region 10 with fail
    have hbz : Below wd1.heap.size wd1 (wd1.alloc (.cells #[.slice P0 13 e0, .slice P1 13 e1] 28)) := (Below.refl _ _).alloc (Nat.le_refl _) _
    have hzz : (wd1.alloc (.cells #[.slice P0 13 e0, .slice P1 13 e1] 28)).heap.size = wd1.heap.size + 1 := World.heap_size_alloc _ _
    obtain ⟨bx0, bx1, -, -⟩ := Box2.new wd1 (.slice P0 13 e0) (.slice P1 13 e1) 28
    have TR : Hid (TnR (wd1.alloc (.cells #[.slice P0 13 e0, .slice P1 13 e1] 28)) w.heap.size A n c wd1.heap.size P0 P1 13 e0 e1 (headRow (nm : Int) (ba0 : Int) t0 sn0) (headRow (n2 : Int) (ba1 : Int) t1 sn1) (wd1.heap.size + 1)) := Lib.hid ⟨dd1.below hbz (by omega), bx0, bx1, (SP0d.out.below hbz (by omega)).mono (by omega) (by omega), (SP1.out.below hbz (Nat.le_refl _)).mono (by omega) (by omega), by omega, by omega, by omega⟩
    have HW := Lib.hid (HBd1.out.trans (hbz.mono (by omega)))
    generalize hWz : wd1.alloc (.cells #[.slice P0 13 e0, .slice P1 13 e1] 28) = wr at *
    clear hWz hbz bx0 bx1
    have O0 := Lib.hid HR0.out.2.1
    have O1 := Lib.hid HR1.out.2.1
    have L0 := Lib.hid HR0.out.1
    have L1 := Lib.hid HR1.out.1
    have HT : Hid (∀ i x, (rowSlot (unsM (tornM (headRow (n2 : Int) (ba1 : Int) t1 sn1 ++ [sumM (headRow (n2 : Int) (ba1 : Int) t1 sn1)]) (rotM (headRow (nm : Int) (ba0 : Int) t0 sn0 ++ [sumM (headRow (nm : Int) (ba0 : Int) t0 sn0)]) i x)))).2 = false ∧ (rowHead (unsM (tornM (headRow (n2 : Int) (ba1 : Int) t1 sn1 ++ [sumM (headRow (n2 : Int) (ba1 : Int) t1 sn1)]) (rotM (headRow (nm : Int) (ba0 : Int) t0 sn0 ++ [sumM (headRow (nm : Int) (ba0 : Int) t0 sn0)]) i x)))).2.2.2.2 = false) := Lib.hid (fun i x => torn_none (N := 13) (.inr rfl) HR0.out.1 HR1.out.1 (show (nm : Int) ≠ (n2 : Int) by have := HN.out; omega) HR1.out.2.2.1 HR0.out.2.2.2.1 HR0.out.2.2.2.2)
    generalize headRow (nm : Int) (ba0 : Int) t0 sn0 = r0 at *
    generalize headRow (n2 : Int) (ba1 : Int) t1 sn1 = r1 at *
    have y7 := Nat.le_of_eq hzz.symm
    clear hzz
    clear HR0 HR1 HK0 HK1 dd1 k0 k1 kb1 kn2 kn6 HN hb13 hn24 hn68 hnm SP0 SP0b SP0d SP1 Sd1 HBd1 hhd
    generalize wd1.heap.size = gr at *
    generalize hhi : gr + 1 = hi at TR
    clear hhi
    have hrr0 := TR.out.hhi
    have hrg0 := TR.out.hgr
    have hrh0 := TR.out.hgh
    have CND : Hid (∀ W, Calls Try.prog 52 #[.int .i64 1] W (DkRes W 1 [[]] 0 [])) := Lib.hid (fun W => newDisk_any 1 W (by omega) (by omega))
    go_cut [8, 9] (fun s8 s9 wx => ∃ (b8 : Nat) (X0 X1 : Option Addr) (d0 d1 lo8 hi8 : Nat), s8 = .pointer (some ⟨b8, 0, none⟩) ∧ wr.heap.size ≤ b8 ∧ Box2 wx b8 (.slice X0 1 d0) (.slice X1 1 d1) ∧ SlR wx lo8 hi8 X0 1 d0 [[]] ∧ SlW wx lo8 hi8 X1 1 d1 [⟨0, r0 ++ [sumM r0]⟩] ∧ hi8 ≤ wx.heap.size ∧ wr.heap.size < wx.heap.size ∧ Below wr.heap.size wr wx)
    case first =>
      have c00 := TR.out.c0
      have HSK : Hid (∀ W, Below wr.heap.size wr W → (W.cell? ⟨gr, 0, none⟩ = some (.slice P0 13 e0) ∧ Below wr.heap.size wr W)) := Lib.hid (fun W hW => ⟨(hW.cell (p := ⟨gr, 0, none⟩) (show gr < wr.heap.size by omega)).trans c00, hW⟩)
      go_region_held3 (fun w' => w'.cell? ⟨gr, 0, none⟩ = some (.slice P0 13 e0) ∧ Below wr.heap.size wr w')
        (first | (refine HSK.out _ ?_; (repeat' (first | with_reducible exact Below.refl _ _ | with_reducible assumption | with_reducible refine Below.drew ?_ | with_reducible refine Below.alloc ?_ ?_ _ | with_reducible refine Below.setCell ?_ ?_ _ | with_reducible refine Below.trans ?_ (Below.mono (by assumption) ?_) | ((try simp only [World.heap_size_alloc, World.heap_size_drew, World.heap_size_setCell]); omega)))) | (go_split_ands; refine HSK.out _ ?_; (repeat' (first | with_reducible exact Below.refl _ _ | with_reducible assumption | with_reducible refine Below.drew ?_ | with_reducible refine Below.alloc ?_ ?_ _ | with_reducible refine Below.setCell ?_ ?_ _ | with_reducible refine Below.trans ?_ (Below.mono (by assumption) ?_) | ((try simp only [World.heap_size_alloc, World.heap_size_drew, World.heap_size_setCell]); omega)))))
        (first | (go_at_call 52; (with_reducible refine (CND.out _).mono ?_); rintro _ wa ⟨Xa, da, Ya, fa, rfl, ka, va, ba⟩; have hba : Below wr.heap.size wr wa := (by (repeat' (first | with_reducible exact Below.refl _ _ | with_reducible assumption | with_reducible refine Below.drew ?_ | with_reducible refine Below.alloc ?_ ?_ _ | with_reducible refine Below.setCell ?_ ?_ _ | with_reducible refine Below.trans ?_ (Below.mono (by assumption) ?_) | ((try simp only [World.heap_size_alloc, World.heap_size_drew, World.heap_size_setCell]); omega)))); have ya := ba.size; (try simp only [World.heap_size_alloc, World.heap_size_drew] at ya); have KA1 := Lib.hid (ka.mono (lo' := wr.heap.size) (by (try simp only [World.heap_size_alloc, World.heap_size_drew, World.heap_size_setCell]); omega) (Nat.le_refl _)); have VA1 := Lib.hid (va.mono (lo' := wr.heap.size) (by (try simp only [World.heap_size_alloc, World.heap_size_drew, World.heap_size_setCell]); omega) (Nat.le_refl _)); (try have kx := (Box2.new wr.drew (.slice none 0 0) (.slice none 0 0) 67).below ba (by (try simp only [World.heap_size_alloc, World.heap_size_drew, World.heap_size_setCell]); omega)); (try have kx := (Box2.new wr (.slice none 0 0) (.slice none 0 0) 67).below ba (by (try simp only [World.heap_size_alloc, World.heap_size_drew, World.heap_size_setCell]); omega)); (try simp only [World.heap_size_drew] at kx); (try obtain ⟨kx0, kx1, kx2, kx3⟩ := id kx); clear ka va ba) | (go_at_call 53; (with_reducible refine (withSum_any P0 13 e0 _ _ r0 _ (TR.out.s0.below (B := wr.heap.size) (by (repeat' (first | with_reducible exact Below.refl _ _ | with_reducible assumption | with_reducible refine Below.drew ?_ | with_reducible refine Below.alloc ?_ ?_ _ | with_reducible refine Below.setCell ?_ ?_ _ | with_reducible refine Below.trans ?_ (Below.mono (by assumption) ?_) | ((try simp only [World.heap_size_alloc, World.heap_size_drew, World.heap_size_setCell]); omega)))) (by omega)) (by (try simp only [World.heap_size_alloc, World.heap_size_drew, World.heap_size_setCell]); omega) O0.out (by omega)).mono ?_); rintro _ wb ⟨Ab, cb, rfl, sb, bb⟩; have hab : Below wa.heap.size wa wb := (by (repeat' (first | with_reducible exact Below.refl _ _ | with_reducible assumption | with_reducible refine Below.drew ?_ | with_reducible refine Below.alloc ?_ ?_ _ | with_reducible refine Below.setCell ?_ ?_ _ | with_reducible refine Below.trans ?_ (Below.mono (by assumption) ?_) | ((try simp only [World.heap_size_alloc, World.heap_size_drew, World.heap_size_setCell]); omega)))); have yb := bb.size; (try simp only [World.heap_size_alloc, World.heap_size_drew] at yb); have hbb : Below wr.heap.size wr wb := hba.trans (hab.mono (by omega)); have KB1 := Lib.hid (KA1.out.below hab (Nat.le_refl _)); have VB1 := Lib.hid (VA1.out.below hab (Nat.le_refl _)); have SB1 := Lib.hid (sb.mono (lo' := wr.heap.size) (by (try simp only [World.heap_size_alloc, World.heap_size_drew, World.heap_size_setCell]); omega) (Nat.le_refl _)); (try have ky := kx.below hab (by omega)); (try have ky := (Box2.new wa (.slice none 0 0) (.slice none 0 0) 67).below bb (by (try simp only [World.heap_size_alloc, World.heap_size_drew, World.heap_size_setCell]); omega)); (try obtain ⟨ky0, ky1, ky2, ky3⟩ := id ky); clear sb bb) | (go_at_call 51; (with_reducible refine (wrote_any Xa 1 da [[]] Ya 0 fa [] wr.heap.size wa.heap.size _ (KB1.out.below (B := wb.heap.size) (by (repeat' (first | with_reducible exact Below.refl _ _ | with_reducible assumption | with_reducible refine Below.drew ?_ | with_reducible refine Below.alloc ?_ ?_ _ | with_reducible refine Below.setCell ?_ ?_ _ | with_reducible refine Below.trans ?_ (Below.mono (by assumption) ?_) | ((try simp only [World.heap_size_alloc, World.heap_size_drew, World.heap_size_setCell]); omega)))) (by omega)) (VB1.out.below (B := wb.heap.size) (by (repeat' (first | with_reducible exact Below.refl _ _ | with_reducible assumption | with_reducible refine Below.drew ?_ | with_reducible refine Below.alloc ?_ ?_ _ | with_reducible refine Below.setCell ?_ ?_ _ | with_reducible refine Below.trans ?_ (Below.mono (by assumption) ?_) | ((try simp only [World.heap_size_alloc, World.heap_size_drew, World.heap_size_setCell]); omega)))) (by omega)) (by (try simp only [World.heap_size_alloc, World.heap_size_drew, World.heap_size_setCell]); omega) 0 Ab (13 + 1) cb wr.heap.size wb.heap.size (r0 ++ [sumM r0]) (SB1.out.below (B := wb.heap.size) (by (repeat' (first | with_reducible exact Below.refl _ _ | with_reducible assumption | with_reducible refine Below.drew ?_ | with_reducible refine Below.alloc ?_ ?_ _ | with_reducible refine Below.setCell ?_ ?_ _ | with_reducible refine Below.trans ?_ (Below.mono (by assumption) ?_) | ((try simp only [World.heap_size_alloc, World.heap_size_drew, World.heap_size_setCell]); omega)))) (Nat.le_refl _)) (by (try simp only [World.heap_size_alloc, World.heap_size_drew, World.heap_size_setCell]); omega) rfl rfl (rowOk_sum O0.out (by rw [L0.out]; omega)) (by omega)).mono ?_); rintro _ wc ⟨Xc, dc, Yc, fc, rfl, kc, vc, bc⟩; have hbcb : Below wb.heap.size wb wc := (by (repeat' (first | with_reducible exact Below.refl _ _ | with_reducible assumption | with_reducible refine Below.drew ?_ | with_reducible refine Below.alloc ?_ ?_ _ | with_reducible refine Below.setCell ?_ ?_ _ | with_reducible refine Below.trans ?_ (Below.mono (by assumption) ?_) | ((try simp only [World.heap_size_alloc, World.heap_size_drew, World.heap_size_setCell]); omega)))); have yc := bc.size; (try simp only [World.heap_size_alloc, World.heap_size_drew] at yc); have hbc : Below wr.heap.size wr wc := hbb.trans (hbcb.mono (by omega)); (try have kz := ky.below hbcb (by omega)); (try have kz := (Box2.new wb (.slice none 0 0) (.slice none 0 0) 67).below bc (by (try simp only [World.heap_size_alloc, World.heap_size_drew, World.heap_size_setCell]); omega)); (try obtain ⟨kz0, kz1, kz2, kz3⟩ := id kz); have KC1 := Lib.hid kc; have VC1 := Lib.hid vc; clear bc kc vc))
      all_goals
        go_wp2_with fail
        go_meet
        first
          | exact ⟨_, Xc, Yc, dc, fc, _, wc.heap.size, rfl, by first | exact Nat.le_refl _ | omega, Box2.new wc _ _ _, KC1.out.below (B := wc.heap.size) (by (repeat' (first | with_reducible exact Below.refl _ _ | with_reducible assumption | with_reducible refine Below.drew ?_ | with_reducible refine Below.alloc ?_ ?_ _ | with_reducible refine Below.setCell ?_ ?_ _ | with_reducible refine Below.trans ?_ (Below.mono (by assumption) ?_) | ((try simp only [World.heap_size_alloc, World.heap_size_drew, World.heap_size_setCell]); omega)))) (Nat.le_refl _), VC1.out.below (B := wc.heap.size) (by (repeat' (first | with_reducible exact Below.refl _ _ | with_reducible assumption | with_reducible refine Below.drew ?_ | with_reducible refine Below.alloc ?_ ?_ _ | with_reducible refine Below.setCell ?_ ?_ _ | with_reducible refine Below.trans ?_ (Below.mono (by assumption) ?_) | ((try simp only [World.heap_size_alloc, World.heap_size_drew, World.heap_size_setCell]); omega)))) (Nat.le_refl _), by (try simp only [World.heap_size_alloc, World.heap_size_drew, World.heap_size_setCell]); omega, by (try simp only [World.heap_size_alloc, World.heap_size_drew, World.heap_size_setCell]); omega, by (repeat' (first | with_reducible exact Below.refl _ _ | with_reducible assumption | with_reducible refine Below.drew ?_ | with_reducible refine Below.alloc ?_ ?_ _ | with_reducible refine Below.setCell ?_ ?_ _ | with_reducible refine Below.trans ?_ (Below.mono (by assumption) ?_) | ((try simp only [World.heap_size_alloc, World.heap_size_drew, World.heap_size_setCell]); omega)))⟩
          | exact ⟨_, Xc, Yc, dc, fc, _, wc.heap.size, rfl, by first | exact Nat.le_refl _ | omega, (kz.set0 _).set1 _, (KC1.out.upd Box2.upd1 (.inr (by simp only [World.heap_size_alloc]; omega))).upd Box2.upd1 (.inr (by simp only [World.heap_size_alloc]; omega)), (VC1.out.upd Box2.upd1 (.inr (by simp only [World.heap_size_alloc]; omega))).upd Box2.upd1 (.inr (by simp only [World.heap_size_alloc]; omega)), by simp only [World.heap_size_setCell]; exact Nat.le_refl _, by (try simp only [World.heap_size_alloc, World.heap_size_drew, World.heap_size_setCell]); omega, by (repeat' (first | with_reducible exact Below.refl _ _ | with_reducible assumption | with_reducible refine Below.drew ?_ | with_reducible refine Below.alloc ?_ ?_ _ | with_reducible refine Below.setCell ?_ ?_ _ | with_reducible refine Below.trans ?_ (Below.mono (by assumption) ?_) | ((try simp only [World.heap_size_alloc, World.heap_size_drew, World.heap_size_setCell]); omega)))⟩
          | exact ⟨_, Xc, Yc, dc, fc, _, wc.heap.size, rfl, by first | exact Nat.le_refl _ | omega, (kz.set0 _).set1 _, (KC1.out.upd Box2.upd1 (.inr (by omega))).upd Box2.upd1 (.inr (by omega)), (VC1.out.upd Box2.upd1 (.inr (by omega))).upd Box2.upd1 (.inr (by omega)), by simp only [World.heap_size_setCell]; exact Nat.le_refl _, by (try simp only [World.heap_size_alloc, World.heap_size_drew, World.heap_size_setCell]); omega, by (repeat' (first | with_reducible exact Below.refl _ _ | with_reducible assumption | with_reducible refine Below.drew ?_ | with_reducible refine Below.alloc ?_ ?_ _ | with_reducible refine Below.setCell ?_ ?_ _ | with_reducible refine Below.trans ?_ (Below.mono (by assumption) ?_) | ((try simp only [World.heap_size_alloc, World.heap_size_drew, World.heap_size_setCell]); omega)))⟩
    case rest =>
      obtain ⟨wA, rfl⟩ : ∃ x, x = wc := ⟨wc, rfl⟩
      obtain ⟨b8, X0, X1, d0, d1, lo8, hi8, rfl, hb8, bx, kx, vx, hh8, hwrA, bA⟩ := hcut
      have hrr := TR.out.hhi
      have hrg := TR.out.hgr
      have hrh := TR.out.hgh
      have hb8w := bx.lt
      have TA := Lib.hid (TR.out.below bA hrr)
      have HA := Lib.hid (HW.out.trans (bA.mono (by omega)))
      have RL := Lib.hid L0.out
      have hOs0 : rowOk (r0 ++ [sumM r0]) = true := rowOk_sum O0.out (by rw [L0.out]; omega)
      have hOs1 : rowOk (r1 ++ [sumM r1]) = true := rowOk_sum O1.out (by rw [L1.out]; omega)
      have CSY : Hid (Calls Try.prog 55 #[.agg #[.slice X0 1 d0, .slice X1 1 d1]] wA (DkRes wA 1 [r0 ++ [sumM r0]] 0 [])) := Lib.hid (synced_any X0 1 d0 [[]] X1 1 d1 [⟨0, r0 ++ [sumM r0]⟩] lo8 hi8 wA kx vx hh8 (diskOk_one rfl hOs0))
      obtain ⟨x0, x1, xf0, xf1⟩ := id bx
      have BX := Lib.hid bx
      clear kx vx bx bA
      go_wp2_with fail
      (with_reducible refine (CSY.out).mono ?_); rintro _ wB ⟨Xb, db, Yb, fb, rfl, kb, vb, bB⟩
      have yB := bB.size
      have TB := Lib.hid (TA.out.below bB (by omega))
      have HB := Lib.hid (HA.out.trans (bB.mono (by omega)))
      have BXB := Lib.hid (BX.out.below bB hb8w)
      have KB2 := Lib.hid kb
      have hvb := vb.big
      have dB := TB.out.dice
      clear kb vb bB x0 x1 xf0 xf1
      go_wp2_with fail
      (with_reducible refine (below_any _ _ _ _ _ 14 _ (by omega) (by omega) dB).mono ?_); rintro _ wC ⟨i, rfl, i0, i1, dC, uC⟩
      have yC := uC.size
      have TC := Lib.hid (TB.out.draw dC uC)
      have HC := Lib.hid (HB.out.trans (uC.below (Nat.le_refl _) (by omega)))
      have BXC := Lib.hid (BXB.out.upd uC (.inr (by omega)))
      have KC2 := Lib.hid (KB2.out.upd uC (.inr (by omega)))
      clear dB uC
      go_wp2_with fail
      (with_reducible refine (below_any _ _ _ _ _ 40 _ (by omega) (by omega) dC).mono ?_); rintro _ wD ⟨x, rfl, x0, x1, dD, uD⟩
      have yD := uD.size
      have TD := Lib.hid (TC.out.draw dD uD)
      have HD := Lib.hid (HC.out.trans (uD.below (Nat.le_refl _) (by omega)))
      have BXD := Lib.hid (BXC.out.upd uD (.inr (by omega)))
      have KD2 := Lib.hid (KC2.out.upd uD (.inr (by omega)))
      clear dC dD uD x0 x1 i0 i1
      have hT := HT.out i x
      have hOr : rowOk (rotM (r0 ++ [sumM r0]) i x) = true := rowOk_rot hOs0 i x
      have hlr : (rotM (r0 ++ [sumM r0]) i x).length = 13 + 1 := by rw [rotM_len, List.length_append, L0.out]; rfl
      have CRO : Hid (Calls Try.prog 54 #[.agg #[.slice Xb 1 db, .slice Yb 0 fb], .int .i64 0, .int .i64 i, .int .i64 x] wD (DkBRes wD 1 [rotM (r0 ++ [sumM r0]) i x] 0 [] (rotOk (r0 ++ [sumM r0]) i x))) := Lib.hid (rotted_any Xb db (r0 ++ [sumM r0]) Yb fb _ _ wD KD2.out hvb (by omega) (diskOk_none hOs0) i x)
      generalize rotOk (r0 ++ [sumM r0]) i x = rots at *
      generalize rotM (r0 ++ [sumM r0]) i x = R0 at *
      obtain ⟨x0, x1, xf0, xf1⟩ := id BXD.out
      go_wp2_with fail
      (with_reducible refine (CRO.out).mono ?_); rintro _ wE ⟨Xe, de, Ye, fe, rfl, ke, ve, bE⟩
      have yE := bE.size
      have TE := Lib.hid ((TD.out.below bE (by omega)).box (b := b8) (by omega) 0 (.slice Xe 1 de) |>.box (b := b8) (by omega) 1 (.slice Ye 0 fe))
      have HE := Lib.hid (((HD.out.trans (bE.mono (by omega))).setCell (p := ⟨b8, 0, none⟩) (by simp only; omega) (.slice Xe 1 de)).setCell (p := ⟨b8, 1, none⟩) (by simp only; omega) (.slice Ye 0 fe))
      have hbe := BXD.out.below bE (by omega)
      have BXE := Lib.hid ((hbe.set0 (.slice Xe 1 de)).set1 (.slice Ye 0 fe))
      have KE := Lib.hid ((ke.upd (Box2.upd1 (b := b8) (q := 0) (v := .slice Xe 1 de)) (.inr (by omega))).upd (Box2.upd1 (b := b8) (q := 1) (v := .slice Ye 0 fe)) (.inr (by omega)))
      have hve := ve.big
      clear x0 x1 xf0 xf1
      obtain ⟨x0, x1, xf0, xf1⟩ := id hbe
      have hzE : ((wE.setCell ⟨b8, 0, none⟩ (.slice Xe 1 de)).setCell ⟨b8, 1, none⟩ (.slice Ye 0 fe)).heap.size = wE.heap.size := by simp only [World.heap_size_setCell]
      clear ke ve bE hbe
      go_upto_region 12 with fail
      generalize ((wE.setCell ⟨b8, 0, none⟩ (.slice Xe 1 de)).setCell ⟨b8, 1, none⟩ (.slice Ye 0 fe)) = wF at *
      clear x0 x1 xf0 xf1
      obtain ⟨x0, x1, xf0, xf1⟩ := id BXE.out
      have c01 := TE.out.c1
      have HKS : Hid (∀ W, Below wF.heap.size wF W → (Box2 W b8 (.slice Xe 1 de) (.slice Ye 0 fe) ∧ W.cell? ⟨gr, 1, none⟩ = some (.slice P1 13 e1))) := Lib.hid (fun W hW => ⟨BXE.out.below hW (by omega), (hW.cell (p := ⟨gr, 1, none⟩) (show gr < wF.heap.size by omega)).trans c01⟩)
      have hg9 : gr < wF.heap.size := by omega
      have hg8 : b8 < wF.heap.size := by omega
      go_region_law (first | (go_simp; go_at_call 53; (with_reducible refine (withSum_any P1 13 e1 _ _ r1 _ (TE.out.s1.below (B := wF.heap.size) (by (repeat' (first | with_reducible exact Below.refl _ _ | with_reducible assumption | with_reducible refine Below.drew ?_ | with_reducible refine Below.alloc ?_ ?_ _ | with_reducible refine Below.setCell ?_ ?_ _ | with_reducible refine Below.trans ?_ (Below.mono (by assumption) ?_) | ((try simp only [World.heap_size_alloc, World.heap_size_drew, World.heap_size_setCell]); omega)))) (by omega)) (by (try simp only [World.heap_size_alloc, World.heap_size_drew, World.heap_size_setCell]); omega) O1.out (by omega)).mono ?_); rintro _ wb ⟨Ab, cb, rfl, sb, bb⟩; have hbb : Below wF.heap.size wF wb := (by (repeat' (first | with_reducible exact Below.refl _ _ | with_reducible assumption | with_reducible refine Below.drew ?_ | with_reducible refine Below.alloc ?_ ?_ _ | with_reducible refine Below.setCell ?_ ?_ _ | with_reducible refine Below.trans ?_ (Below.mono (by assumption) ?_) | ((try simp only [World.heap_size_alloc, World.heap_size_drew, World.heap_size_setCell]); omega)))); have yb := hbb.size; have SB1 := Lib.hid (sb.mono (lo' := wF.heap.size) (by (try simp only [World.heap_size_alloc, World.heap_size_drew, World.heap_size_setCell]); omega) (Nat.le_refl _)); clear x0 x1 xf0 xf1; obtain ⟨⟨x0, x1, xf0, xf1⟩, c01b⟩ := HKS.out _ hbb; clear sb bb) | (go_simp; go_at_call 51; (with_reducible refine (wrote_any Xe 1 de [R0] Ye 0 fe [] _ wE.heap.size _ (KE.out.below (B := wF.heap.size) (by (repeat' (first | with_reducible exact Below.refl _ _ | with_reducible assumption | with_reducible refine Below.drew ?_ | with_reducible refine Below.alloc ?_ ?_ _ | with_reducible refine Below.setCell ?_ ?_ _ | with_reducible refine Below.trans ?_ (Below.mono (by assumption) ?_) | ((try simp only [World.heap_size_alloc, World.heap_size_drew, World.heap_size_setCell]); omega)))) (by omega)) (SlW.nil _ _ _ _ _ hve) (by (try simp only [World.heap_size_alloc, World.heap_size_drew, World.heap_size_setCell]); omega) 0 Ab (13 + 1) cb wF.heap.size wb.heap.size (r1 ++ [sumM r1]) (SB1.out.below (B := wb.heap.size) (by (repeat' (first | with_reducible exact Below.refl _ _ | with_reducible assumption | with_reducible refine Below.drew ?_ | with_reducible refine Below.alloc ?_ ?_ _ | with_reducible refine Below.setCell ?_ ?_ _ | with_reducible refine Below.trans ?_ (Below.mono (by assumption) ?_) | ((try simp only [World.heap_size_alloc, World.heap_size_drew, World.heap_size_setCell]); omega)))) (Nat.le_refl _)) (by (try simp only [World.heap_size_alloc, World.heap_size_drew, World.heap_size_setCell]); omega) (diskOk_none hOr) rfl hOs1 (by omega)).mono ?_); rintro _ wG ⟨Xg, dg, Yg, fg, rfl, kg, vg, bg⟩; have hbg' : Below wF.heap.size wF wG := (by (repeat' (first | with_reducible exact Below.refl _ _ | with_reducible assumption | with_reducible refine Below.drew ?_ | with_reducible refine Below.alloc ?_ ?_ _ | with_reducible refine Below.setCell ?_ ?_ _ | with_reducible refine Below.trans ?_ (Below.mono (by assumption) ?_) | ((try simp only [World.heap_size_alloc, World.heap_size_drew, World.heap_size_setCell]); omega)))); have yG := bg.size; (try simp only [World.heap_size_alloc, World.heap_size_drew] at yG); clear x0 x1 xf0 xf1; obtain ⟨⟨x0, x1, xf0, xf1⟩, c01g⟩ := HKS.out _ hbg'; have KG := Lib.hid kg; have VG := Lib.hid vg; clear kg vg bg))
      all_goals
        have TG := Lib.hid ((TE.out.below hbg' (by omega)).box (b := b8) (by omega) 0 (.slice Xg 1 dg) |>.box (b := b8) (by omega) 1 (.slice Yg 1 fg))
        have HG := Lib.hid (((HE.out.trans (hbg'.mono (by omega))).setCell (p := ⟨b8, 0, none⟩) (by simp only; omega) (.slice Xg 1 dg)).setCell (p := ⟨b8, 1, none⟩) (by simp only; omega) (.slice Yg 1 fg))
        have BXG := Lib.hid (((BXE.out.below hbg' (by omega)).set0 (.slice Xg 1 dg)).set1 (.slice Yg 1 fg))
        have KG9 := Lib.hid ((KG.out.upd (Box2.upd1 (b := b8) (q := 0) (v := .slice Xg 1 dg)) (.inr (by omega))).upd (Box2.upd1 (b := b8) (q := 1) (v := .slice Yg 1 fg)) (.inr (by omega)))
        have VG9 := Lib.hid ((VG.out.upd (Box2.upd1 (b := b8) (q := 0) (v := .slice Xg 1 dg)) (.inr (by omega))).upd (Box2.upd1 (b := b8) (q := 1) (v := .slice Yg 1 fg)) (.inr (by omega)))
        have hzG : ((wG.setCell ⟨b8, 0, none⟩ (.slice Xg 1 dg)).setCell ⟨b8, 1, none⟩ (.slice Yg 1 fg)).heap.size = wG.heap.size := by simp only [World.heap_size_setCell]
        clear KG VG hbg' c01 c01g HKS x0 x1 xf0 xf1
        generalize ((wG.setCell ⟨b8, 0, none⟩ (.slice Xg 1 dg)).setCell ⟨b8, 1, none⟩ (.slice Yg 1 fg)) = wH at *
        have hzG1 : wH.heap.size ≤ wG.heap.size := Nat.le_of_eq hzG
        have hzG2 : wG.heap.size ≤ wH.heap.size := Nat.le_of_eq hzG.symm
        clear hzG
        obtain ⟨x0, x1, xf0, xf1⟩ := id BXG.out
        have hbI : Below wH.heap.size wH (wH.alloc (.cells #[.int .i64 2] 2)) := (Below.refl _ _).alloc (Nat.le_refl _) _
        have CFA : Hid (Calls Try.prog 56 #[.agg #[.slice Xg 1 dg, .slice Yg 1 fg], .slice (some ⟨wH.heap.size, 0, none⟩) 1 1] (wH.alloc (.cells #[.int .i64 2] 2)) (DkRes (wH.alloc (.cells #[.int .i64 2] 2)) 1 [tornM (r1 ++ [sumM r1]) R0] 0 [])) := Lib.hid (fallen_any Xg 1 dg [R0] Yg 1 fg [⟨0, r1 ++ [sumM r1]⟩] _ wG.heap.size _ (KG9.out.below hbI (by omega)) (VG9.out.below hbI (by omega)) (by (try simp only [World.heap_size_alloc, World.heap_size_drew, World.heap_size_setCell]); omega) _ 1 1 _ _ [2] (src_one wH 2 2) (by (try simp only [World.heap_size_alloc, World.heap_size_drew, World.heap_size_setCell]); omega) (diskOk_one hOr hOs1))
        have bxI := BXG.out.below hbI (by omega)
        have BXI := Lib.hid bxI
        go_wp2_with fail
        (with_reducible refine (CFA.out).mono ?_); rintro _ wJ ⟨Xj, dj, Yj, fj, rfl, kj, vj, bJ⟩
        have yJ := bJ.size
        simp only [World.heap_size_alloc] at yJ
        have hbj := BXI.out.below bJ (by (try simp only [World.heap_size_alloc, World.heap_size_drew, World.heap_size_setCell]); omega)
        have HJ := Lib.hid (((HG.out.trans ((hbI.trans (bJ.mono (by (try simp only [World.heap_size_alloc, World.heap_size_drew, World.heap_size_setCell]); omega))).mono (by omega))).setCell (p := ⟨b8, 0, none⟩) (by simp only; omega) (.slice Xj 1 dj)).setCell (p := ⟨b8, 1, none⟩) (by simp only; omega) (.slice Yj 0 fj))
        have TJ := Lib.hid (((TG.out.below hbI (by omega)).below bJ (by (try simp only [World.heap_size_alloc, World.heap_size_drew, World.heap_size_setCell]); omega)).box (b := b8) (by omega) 0 (.slice Xj 1 dj) |>.box (b := b8) (by omega) 1 (.slice Yj 0 fj))
        have BXJ := Lib.hid ((hbj.set0 (.slice Xj 1 dj)).set1 (.slice Yj 0 fj))
        have KJ := Lib.hid ((kj.upd (Box2.upd1 (b := b8) (q := 0) (v := .slice Xj 1 dj)) (.inr (by (try simp only [World.heap_size_alloc, World.heap_size_drew, World.heap_size_setCell]); omega))).upd (Box2.upd1 (b := b8) (q := 1) (v := .slice Yj 0 fj)) (.inr (by (try simp only [World.heap_size_alloc, World.heap_size_drew, World.heap_size_setCell]); omega)))
        have hvj := vj.big
        have hzJ : ((wJ.setCell ⟨b8, 0, none⟩ (.slice Xj 1 dj)).setCell ⟨b8, 1, none⟩ (.slice Yj 0 fj)).heap.size = wJ.heap.size := by simp only [World.heap_size_setCell]
        have hTO : rowOk (tornM (r1 ++ [sumM r1]) R0) = true := rowOk_torn hOs1 hOr
        have hTL : (tornM (r1 ++ [sumM r1]) R0).length = 13 + 1 := by
          simp only [tornM, List.length_append, List.length_take, List.length_drop, hlr, L1.out, List.length_singleton]
          omega
        obtain ⟨t0, t1, tf0, tf1⟩ := id hbj
        clear kj vj bJ hbj bxI x0 x1 xf0 xf1
        have CRE : Hid (∀ W lo hi, SlR W lo hi Xj 1 dj [tornM (r1 ++ [sumM r1]) R0] → hi ≤ W.heap.size → Calls Try.prog 57 #[.agg #[.slice Xj 1 dj, .slice Yj 0 fj], .int .i64 0] W (RowBRes W (tornM (r1 ++ [sumM r1]) R0) true)) := Lib.hid (fun W lo hi hk hh => readAt_any Xj 1 dj [tornM (r1 ++ [sumM r1]) R0] Yj fj lo hi W hk hvj hh (diskOk_none hTO) 0 _ rfl)
        have OT := Lib.hid hTO
        have TT := Lib.hid hT
        have LT := Lib.hid hTL
        generalize tornM (r1 ++ [sumM r1]) R0 = T at *
        clear hTO hT hTL hOr hOs0 hOs1 CFA CRO CSY
        go_wp2_with fail
        (with_reducible refine (CRE.out _ _ _ KJ.out (by omega)).mono ?_); rintro _ wK ⟨AK, cK, rfl, sK, bK⟩
        have yK := bK.size
        have c0K := (TJ.out.below bK (by omega)).c0
        have SKK := Lib.hid sK
        have HK9 := Lib.hid (HJ.out.trans (bK.mono (by omega)))
        rw [LT.out] at *
        clear sK bK t0 t1 tf0 tf1
        have hl6 : ¬ (((13 + 1 : Nat) : Int) < 6) := by omega
        have hl11 : ¬ (((13 : Nat) : Int) < 11) := by omega
        have CUN : Hid (∀ W, Below wK.heap.size wK W → Calls Try.prog 58 #[.slice AK (13 + 1) cK] W (RowBRes W (unsM T) (unsOk T))) := Lib.hid (fun W hW => unsummed_any AK (13 + 1) cK _ _ T W (SKK.out.below hW (Nat.le_refl _)) hW.size OT.out)
        generalize unsOk T = uk at *
        generalize unsM T = U at *
        cases rots
        all_goals
          go_wp2_with fail
          (with_reducible refine (CUN.out _ (Below.refl _ _)).mono ?_); rintro _ wL ⟨AL, cL, rfl, sL, bL⟩
          have yL := bL.size
          have SL9 := Lib.hid sL
          have HL9 := Lib.hid (HK9.out.trans (bL.mono (by omega)))
          clear sL bL
          cases uk with
          | false =>
            go_wp2_with fail
            go_ret
            exact ⟨rfl, HL9.out⟩
          | true =>
            have CRS : Hid (∀ W, Below wL.heap.size wL W → Calls Try.prog 24 #[.slice AL U.length cL] W (EntryBRes W (rowSlot U))) := Lib.hid (fun W hW => rowSlot_any AL U.length cL _ _ U W (SL9.out.below hW (Nat.le_refl _)))
            have CRH : Hid (∀ W, Below wL.heap.size wL W → Calls Try.prog 32 #[.slice AL U.length cL] W (HeadBRes W (rowHead U).1 (rowHead U).2.1 (rowHead U).2.2.1 (rowHead U).2.2.2.1.length ((rowHead U).2.2.2.1.flatMap MarkD.ints) (rowHead U).2.2.2.2)) := Lib.hid (fun W hW => rowHead_any AL U.length cL _ _ U W (SL9.out.below hW (Nat.le_refl _)))
            have T1 := TT.out.1
            have T2 := TT.out.2
            generalize rowSlot U = RS at *
            generalize rowHead U = RH at *
            obtain ⟨RS1, RS2⟩ := RS
            obtain ⟨H1, H2, H3, H4, H5⟩ := RH
            simp only at T1 T2 CRS CRH
            subst T1 T2
            go_wp2_with fail
            (with_reducible refine (CRS.out _ (Below.refl _ _)).mono ?_); rintro _ wM ⟨rfl, bM⟩
            have yM := bM.size
            have BM := Lib.hid bM
            go_wp2_with fail
            (with_reducible refine (CRH.out _ (by (repeat' (first | with_reducible exact Below.refl _ _ | with_reducible assumption | with_reducible refine Below.drew ?_ | with_reducible refine Below.alloc ?_ ?_ _ | with_reducible refine Below.setCell ?_ ?_ _ | with_reducible refine Below.trans ?_ (Below.mono (by assumption) ?_) | ((try simp only [World.heap_size_alloc, World.heap_size_drew, World.heap_size_setCell]); omega))))).mono ?_); rintro _ wN ⟨AN, cN, rfl, sN, bN⟩
            have yN := bN.size
            simp only [World.heap_size_alloc] at yN
            have BN := Lib.hid (HL9.out.trans (bM.mono (by omega)))
            have bN' : Below w.heap.size wM wN := ((Below.refl _ _).alloc (by omega) _).trans (bN.mono (by (try simp only [World.heap_size_alloc, World.heap_size_drew, World.heap_size_setCell]); omega))
            clear bM bN sN BM
            go_wp2_with fail
            go_ret
            refine ⟨rfl, ?_⟩
            have h9 := BN.out.trans bN'
            (repeat' (first | with_reducible exact Below.refl _ _ | with_reducible assumption | with_reducible refine Below.drew ?_ | with_reducible refine Below.alloc ?_ ?_ _ | with_reducible refine Below.setCell ?_ ?_ _ | with_reducible refine Below.trans ?_ (Below.mono (by assumption) ?_) | ((try simp only [World.heap_size_alloc, World.heap_size_drew, World.heap_size_setCell]); omega)))
  · have hxb : (x == 0) = false := by simp [hx]
    obtain ⟨wr, rfl⟩ : ∃ wr, wr = w8 := ⟨w8, rfl⟩
    have TR := T8
    have HW := HB8
    have O0 := Lib.hid SLA.out.2.1
    have O1 := Lib.hid SLB.out.2.1
    have L0 := Lib.hid SLA.out.1
    have L1 := Lib.hid SLB.out.1
    have HT : Hid (∀ i x, (rowSlot (unsM (tornM (slotRow eb ++ [sumM (slotRow eb)]) (rotM (slotRow ea ++ [sumM (slotRow ea)]) i x)))).2 = false ∧ (rowHead (unsM (tornM (slotRow eb ++ [sumM (slotRow eb)]) (rotM (slotRow ea ++ [sumM (slotRow ea)]) i x)))).2.2.2.2 = false) := Lib.hid (fun i x => torn_none (N := 11) (.inl rfl) SLA.out.1 SLB.out.1 (show ea.index ≠ eb.index by rw [KA.out.1, KB.out.1]; have := HK2.out; omega) SLB.out.2.2.1 SLA.out.2.2.2.1 SLA.out.2.2.2.2)
    generalize slotRow ea = r0 at *
    generalize slotRow eb = r1 at *
    have y7 := hz7
    clear T8 S8 HB8 S4 HB4 D4 KA KB SLA SLB CA CB d8 hwk hik hik2 hik0 hat hhd hz7
    generalize w6.heap.size = gr at *
    generalize hhi : gr + 1 = hi at TR
    clear hhi
    go_upto_region 10 with fail
    have hrr0 := TR.out.hhi
    have hrg0 := TR.out.hgr
    have hrh0 := TR.out.hgh
    have CND : Hid (∀ W, Calls Try.prog 52 #[.int .i64 1] W (DkRes W 1 [[]] 0 [])) := Lib.hid (fun W => newDisk_any 1 W (by omega) (by omega))
    go_cut [8, 9] (fun s8 s9 wx => ∃ (b8 : Nat) (X0 X1 : Option Addr) (d0 d1 lo8 hi8 : Nat), s8 = .pointer (some ⟨b8, 0, none⟩) ∧ wr.heap.size ≤ b8 ∧ Box2 wx b8 (.slice X0 1 d0) (.slice X1 1 d1) ∧ SlR wx lo8 hi8 X0 1 d0 [[]] ∧ SlW wx lo8 hi8 X1 1 d1 [⟨0, r0 ++ [sumM r0]⟩] ∧ hi8 ≤ wx.heap.size ∧ wr.heap.size < wx.heap.size ∧ Below wr.heap.size wr wx)
    case first =>
      have c00 := TR.out.c0
      have HSK : Hid (∀ W, Below wr.heap.size wr W → (W.cell? ⟨gr, 0, none⟩ = some (.slice P0 11 e0) ∧ Below wr.heap.size wr W)) := Lib.hid (fun W hW => ⟨(hW.cell (p := ⟨gr, 0, none⟩) (show gr < wr.heap.size by omega)).trans c00, hW⟩)
      go_region_held3 (fun w' => w'.cell? ⟨gr, 0, none⟩ = some (.slice P0 11 e0) ∧ Below wr.heap.size wr w')
        (first | (refine HSK.out _ ?_; (repeat' (first | with_reducible exact Below.refl _ _ | with_reducible assumption | with_reducible refine Below.drew ?_ | with_reducible refine Below.alloc ?_ ?_ _ | with_reducible refine Below.setCell ?_ ?_ _ | with_reducible refine Below.trans ?_ (Below.mono (by assumption) ?_) | ((try simp only [World.heap_size_alloc, World.heap_size_drew, World.heap_size_setCell]); omega)))) | (go_split_ands; refine HSK.out _ ?_; (repeat' (first | with_reducible exact Below.refl _ _ | with_reducible assumption | with_reducible refine Below.drew ?_ | with_reducible refine Below.alloc ?_ ?_ _ | with_reducible refine Below.setCell ?_ ?_ _ | with_reducible refine Below.trans ?_ (Below.mono (by assumption) ?_) | ((try simp only [World.heap_size_alloc, World.heap_size_drew, World.heap_size_setCell]); omega)))))
        (first | (go_at_call 52; (with_reducible refine (CND.out _).mono ?_); rintro _ wa ⟨Xa, da, Ya, fa, rfl, ka, va, ba⟩; have hba : Below wr.heap.size wr wa := (by (repeat' (first | with_reducible exact Below.refl _ _ | with_reducible assumption | with_reducible refine Below.drew ?_ | with_reducible refine Below.alloc ?_ ?_ _ | with_reducible refine Below.setCell ?_ ?_ _ | with_reducible refine Below.trans ?_ (Below.mono (by assumption) ?_) | ((try simp only [World.heap_size_alloc, World.heap_size_drew, World.heap_size_setCell]); omega)))); have ya := ba.size; (try simp only [World.heap_size_alloc, World.heap_size_drew] at ya); have KA1 := Lib.hid (ka.mono (lo' := wr.heap.size) (by (try simp only [World.heap_size_alloc, World.heap_size_drew, World.heap_size_setCell]); omega) (Nat.le_refl _)); have VA1 := Lib.hid (va.mono (lo' := wr.heap.size) (by (try simp only [World.heap_size_alloc, World.heap_size_drew, World.heap_size_setCell]); omega) (Nat.le_refl _)); (try have kx := (Box2.new wr.drew (.slice none 0 0) (.slice none 0 0) 67).below ba (by (try simp only [World.heap_size_alloc, World.heap_size_drew, World.heap_size_setCell]); omega)); (try have kx := (Box2.new wr (.slice none 0 0) (.slice none 0 0) 67).below ba (by (try simp only [World.heap_size_alloc, World.heap_size_drew, World.heap_size_setCell]); omega)); (try simp only [World.heap_size_drew] at kx); (try obtain ⟨kx0, kx1, kx2, kx3⟩ := id kx); clear ka va ba) | (go_at_call 53; (with_reducible refine (withSum_any P0 11 e0 _ _ r0 _ (TR.out.s0.below (B := wr.heap.size) (by (repeat' (first | with_reducible exact Below.refl _ _ | with_reducible assumption | with_reducible refine Below.drew ?_ | with_reducible refine Below.alloc ?_ ?_ _ | with_reducible refine Below.setCell ?_ ?_ _ | with_reducible refine Below.trans ?_ (Below.mono (by assumption) ?_) | ((try simp only [World.heap_size_alloc, World.heap_size_drew, World.heap_size_setCell]); omega)))) (by omega)) (by (try simp only [World.heap_size_alloc, World.heap_size_drew, World.heap_size_setCell]); omega) O0.out (by omega)).mono ?_); rintro _ wb ⟨Ab, cb, rfl, sb, bb⟩; have hab : Below wa.heap.size wa wb := (by (repeat' (first | with_reducible exact Below.refl _ _ | with_reducible assumption | with_reducible refine Below.drew ?_ | with_reducible refine Below.alloc ?_ ?_ _ | with_reducible refine Below.setCell ?_ ?_ _ | with_reducible refine Below.trans ?_ (Below.mono (by assumption) ?_) | ((try simp only [World.heap_size_alloc, World.heap_size_drew, World.heap_size_setCell]); omega)))); have yb := bb.size; (try simp only [World.heap_size_alloc, World.heap_size_drew] at yb); have hbb : Below wr.heap.size wr wb := hba.trans (hab.mono (by omega)); have KB1 := Lib.hid (KA1.out.below hab (Nat.le_refl _)); have VB1 := Lib.hid (VA1.out.below hab (Nat.le_refl _)); have SB1 := Lib.hid (sb.mono (lo' := wr.heap.size) (by (try simp only [World.heap_size_alloc, World.heap_size_drew, World.heap_size_setCell]); omega) (Nat.le_refl _)); (try have ky := kx.below hab (by omega)); (try have ky := (Box2.new wa (.slice none 0 0) (.slice none 0 0) 67).below bb (by (try simp only [World.heap_size_alloc, World.heap_size_drew, World.heap_size_setCell]); omega)); (try obtain ⟨ky0, ky1, ky2, ky3⟩ := id ky); clear sb bb) | (go_at_call 51; (with_reducible refine (wrote_any Xa 1 da [[]] Ya 0 fa [] wr.heap.size wa.heap.size _ (KB1.out.below (B := wb.heap.size) (by (repeat' (first | with_reducible exact Below.refl _ _ | with_reducible assumption | with_reducible refine Below.drew ?_ | with_reducible refine Below.alloc ?_ ?_ _ | with_reducible refine Below.setCell ?_ ?_ _ | with_reducible refine Below.trans ?_ (Below.mono (by assumption) ?_) | ((try simp only [World.heap_size_alloc, World.heap_size_drew, World.heap_size_setCell]); omega)))) (by omega)) (VB1.out.below (B := wb.heap.size) (by (repeat' (first | with_reducible exact Below.refl _ _ | with_reducible assumption | with_reducible refine Below.drew ?_ | with_reducible refine Below.alloc ?_ ?_ _ | with_reducible refine Below.setCell ?_ ?_ _ | with_reducible refine Below.trans ?_ (Below.mono (by assumption) ?_) | ((try simp only [World.heap_size_alloc, World.heap_size_drew, World.heap_size_setCell]); omega)))) (by omega)) (by (try simp only [World.heap_size_alloc, World.heap_size_drew, World.heap_size_setCell]); omega) 0 Ab (11 + 1) cb wr.heap.size wb.heap.size (r0 ++ [sumM r0]) (SB1.out.below (B := wb.heap.size) (by (repeat' (first | with_reducible exact Below.refl _ _ | with_reducible assumption | with_reducible refine Below.drew ?_ | with_reducible refine Below.alloc ?_ ?_ _ | with_reducible refine Below.setCell ?_ ?_ _ | with_reducible refine Below.trans ?_ (Below.mono (by assumption) ?_) | ((try simp only [World.heap_size_alloc, World.heap_size_drew, World.heap_size_setCell]); omega)))) (Nat.le_refl _)) (by (try simp only [World.heap_size_alloc, World.heap_size_drew, World.heap_size_setCell]); omega) rfl rfl (rowOk_sum O0.out (by rw [L0.out]; omega)) (by omega)).mono ?_); rintro _ wc ⟨Xc, dc, Yc, fc, rfl, kc, vc, bc⟩; have hbcb : Below wb.heap.size wb wc := (by (repeat' (first | with_reducible exact Below.refl _ _ | with_reducible assumption | with_reducible refine Below.drew ?_ | with_reducible refine Below.alloc ?_ ?_ _ | with_reducible refine Below.setCell ?_ ?_ _ | with_reducible refine Below.trans ?_ (Below.mono (by assumption) ?_) | ((try simp only [World.heap_size_alloc, World.heap_size_drew, World.heap_size_setCell]); omega)))); have yc := bc.size; (try simp only [World.heap_size_alloc, World.heap_size_drew] at yc); have hbc : Below wr.heap.size wr wc := hbb.trans (hbcb.mono (by omega)); (try have kz := ky.below hbcb (by omega)); (try have kz := (Box2.new wb (.slice none 0 0) (.slice none 0 0) 67).below bc (by (try simp only [World.heap_size_alloc, World.heap_size_drew, World.heap_size_setCell]); omega)); (try obtain ⟨kz0, kz1, kz2, kz3⟩ := id kz); have KC1 := Lib.hid kc; have VC1 := Lib.hid vc; clear bc kc vc))
      all_goals
        go_wp2_with fail
        go_meet
        first
          | exact ⟨_, Xc, Yc, dc, fc, _, wc.heap.size, rfl, by first | exact Nat.le_refl _ | omega, Box2.new wc _ _ _, KC1.out.below (B := wc.heap.size) (by (repeat' (first | with_reducible exact Below.refl _ _ | with_reducible assumption | with_reducible refine Below.drew ?_ | with_reducible refine Below.alloc ?_ ?_ _ | with_reducible refine Below.setCell ?_ ?_ _ | with_reducible refine Below.trans ?_ (Below.mono (by assumption) ?_) | ((try simp only [World.heap_size_alloc, World.heap_size_drew, World.heap_size_setCell]); omega)))) (Nat.le_refl _), VC1.out.below (B := wc.heap.size) (by (repeat' (first | with_reducible exact Below.refl _ _ | with_reducible assumption | with_reducible refine Below.drew ?_ | with_reducible refine Below.alloc ?_ ?_ _ | with_reducible refine Below.setCell ?_ ?_ _ | with_reducible refine Below.trans ?_ (Below.mono (by assumption) ?_) | ((try simp only [World.heap_size_alloc, World.heap_size_drew, World.heap_size_setCell]); omega)))) (Nat.le_refl _), by (try simp only [World.heap_size_alloc, World.heap_size_drew, World.heap_size_setCell]); omega, by (try simp only [World.heap_size_alloc, World.heap_size_drew, World.heap_size_setCell]); omega, by (repeat' (first | with_reducible exact Below.refl _ _ | with_reducible assumption | with_reducible refine Below.drew ?_ | with_reducible refine Below.alloc ?_ ?_ _ | with_reducible refine Below.setCell ?_ ?_ _ | with_reducible refine Below.trans ?_ (Below.mono (by assumption) ?_) | ((try simp only [World.heap_size_alloc, World.heap_size_drew, World.heap_size_setCell]); omega)))⟩
          | exact ⟨_, Xc, Yc, dc, fc, _, wc.heap.size, rfl, by first | exact Nat.le_refl _ | omega, (kz.set0 _).set1 _, (KC1.out.upd Box2.upd1 (.inr (by simp only [World.heap_size_alloc]; omega))).upd Box2.upd1 (.inr (by simp only [World.heap_size_alloc]; omega)), (VC1.out.upd Box2.upd1 (.inr (by simp only [World.heap_size_alloc]; omega))).upd Box2.upd1 (.inr (by simp only [World.heap_size_alloc]; omega)), by simp only [World.heap_size_setCell]; exact Nat.le_refl _, by (try simp only [World.heap_size_alloc, World.heap_size_drew, World.heap_size_setCell]); omega, by (repeat' (first | with_reducible exact Below.refl _ _ | with_reducible assumption | with_reducible refine Below.drew ?_ | with_reducible refine Below.alloc ?_ ?_ _ | with_reducible refine Below.setCell ?_ ?_ _ | with_reducible refine Below.trans ?_ (Below.mono (by assumption) ?_) | ((try simp only [World.heap_size_alloc, World.heap_size_drew, World.heap_size_setCell]); omega)))⟩
          | exact ⟨_, Xc, Yc, dc, fc, _, wc.heap.size, rfl, by first | exact Nat.le_refl _ | omega, (kz.set0 _).set1 _, (KC1.out.upd Box2.upd1 (.inr (by omega))).upd Box2.upd1 (.inr (by omega)), (VC1.out.upd Box2.upd1 (.inr (by omega))).upd Box2.upd1 (.inr (by omega)), by simp only [World.heap_size_setCell]; exact Nat.le_refl _, by (try simp only [World.heap_size_alloc, World.heap_size_drew, World.heap_size_setCell]); omega, by (repeat' (first | with_reducible exact Below.refl _ _ | with_reducible assumption | with_reducible refine Below.drew ?_ | with_reducible refine Below.alloc ?_ ?_ _ | with_reducible refine Below.setCell ?_ ?_ _ | with_reducible refine Below.trans ?_ (Below.mono (by assumption) ?_) | ((try simp only [World.heap_size_alloc, World.heap_size_drew, World.heap_size_setCell]); omega)))⟩
    case rest =>
      obtain ⟨wA, rfl⟩ : ∃ x, x = wc := ⟨wc, rfl⟩
      obtain ⟨b8, X0, X1, d0, d1, lo8, hi8, rfl, hb8, bx, kx, vx, hh8, hwrA, bA⟩ := hcut
      have hrr := TR.out.hhi
      have hrg := TR.out.hgr
      have hrh := TR.out.hgh
      have hb8w := bx.lt
      have TA := Lib.hid (TR.out.below bA hrr)
      have HA := Lib.hid (HW.out.trans (bA.mono (by omega)))
      have RL := Lib.hid L0.out
      have hOs0 : rowOk (r0 ++ [sumM r0]) = true := rowOk_sum O0.out (by rw [L0.out]; omega)
      have hOs1 : rowOk (r1 ++ [sumM r1]) = true := rowOk_sum O1.out (by rw [L1.out]; omega)
      have CSY : Hid (Calls Try.prog 55 #[.agg #[.slice X0 1 d0, .slice X1 1 d1]] wA (DkRes wA 1 [r0 ++ [sumM r0]] 0 [])) := Lib.hid (synced_any X0 1 d0 [[]] X1 1 d1 [⟨0, r0 ++ [sumM r0]⟩] lo8 hi8 wA kx vx hh8 (diskOk_one rfl hOs0))
      obtain ⟨x0, x1, xf0, xf1⟩ := id bx
      have BX := Lib.hid bx
      clear kx vx bx bA
      go_wp2_with fail
      (with_reducible refine (CSY.out).mono ?_); rintro _ wB ⟨Xb, db, Yb, fb, rfl, kb, vb, bB⟩
      have yB := bB.size
      have TB := Lib.hid (TA.out.below bB (by omega))
      have HB := Lib.hid (HA.out.trans (bB.mono (by omega)))
      have BXB := Lib.hid (BX.out.below bB hb8w)
      have KB2 := Lib.hid kb
      have hvb := vb.big
      have dB := TB.out.dice
      clear kb vb bB x0 x1 xf0 xf1
      go_wp2_with fail
      (with_reducible refine (below_any _ _ _ _ _ 14 _ (by omega) (by omega) dB).mono ?_); rintro _ wC ⟨i, rfl, i0, i1, dC, uC⟩
      have yC := uC.size
      have TC := Lib.hid (TB.out.draw dC uC)
      have HC := Lib.hid (HB.out.trans (uC.below (Nat.le_refl _) (by omega)))
      have BXC := Lib.hid (BXB.out.upd uC (.inr (by omega)))
      have KC2 := Lib.hid (KB2.out.upd uC (.inr (by omega)))
      clear dB uC
      go_wp2_with fail
      (with_reducible refine (below_any _ _ _ _ _ 40 _ (by omega) (by omega) dC).mono ?_); rintro _ wD ⟨x, rfl, x0, x1, dD, uD⟩
      have yD := uD.size
      have TD := Lib.hid (TC.out.draw dD uD)
      have HD := Lib.hid (HC.out.trans (uD.below (Nat.le_refl _) (by omega)))
      have BXD := Lib.hid (BXC.out.upd uD (.inr (by omega)))
      have KD2 := Lib.hid (KC2.out.upd uD (.inr (by omega)))
      clear dC dD uD x0 x1 i0 i1
      have hT := HT.out i x
      have hOr : rowOk (rotM (r0 ++ [sumM r0]) i x) = true := rowOk_rot hOs0 i x
      have hlr : (rotM (r0 ++ [sumM r0]) i x).length = 11 + 1 := by rw [rotM_len, List.length_append, L0.out]; rfl
      have CRO : Hid (Calls Try.prog 54 #[.agg #[.slice Xb 1 db, .slice Yb 0 fb], .int .i64 0, .int .i64 i, .int .i64 x] wD (DkBRes wD 1 [rotM (r0 ++ [sumM r0]) i x] 0 [] (rotOk (r0 ++ [sumM r0]) i x))) := Lib.hid (rotted_any Xb db (r0 ++ [sumM r0]) Yb fb _ _ wD KD2.out hvb (by omega) (diskOk_none hOs0) i x)
      generalize rotOk (r0 ++ [sumM r0]) i x = rots at *
      generalize rotM (r0 ++ [sumM r0]) i x = R0 at *
      obtain ⟨x0, x1, xf0, xf1⟩ := id BXD.out
      go_wp2_with fail
      (with_reducible refine (CRO.out).mono ?_); rintro _ wE ⟨Xe, de, Ye, fe, rfl, ke, ve, bE⟩
      have yE := bE.size
      have TE := Lib.hid ((TD.out.below bE (by omega)).box (b := b8) (by omega) 0 (.slice Xe 1 de) |>.box (b := b8) (by omega) 1 (.slice Ye 0 fe))
      have HE := Lib.hid (((HD.out.trans (bE.mono (by omega))).setCell (p := ⟨b8, 0, none⟩) (by simp only; omega) (.slice Xe 1 de)).setCell (p := ⟨b8, 1, none⟩) (by simp only; omega) (.slice Ye 0 fe))
      have hbe := BXD.out.below bE (by omega)
      have BXE := Lib.hid ((hbe.set0 (.slice Xe 1 de)).set1 (.slice Ye 0 fe))
      have KE := Lib.hid ((ke.upd (Box2.upd1 (b := b8) (q := 0) (v := .slice Xe 1 de)) (.inr (by omega))).upd (Box2.upd1 (b := b8) (q := 1) (v := .slice Ye 0 fe)) (.inr (by omega)))
      have hve := ve.big
      clear x0 x1 xf0 xf1
      obtain ⟨x0, x1, xf0, xf1⟩ := id hbe
      have hzE : ((wE.setCell ⟨b8, 0, none⟩ (.slice Xe 1 de)).setCell ⟨b8, 1, none⟩ (.slice Ye 0 fe)).heap.size = wE.heap.size := by simp only [World.heap_size_setCell]
      clear ke ve bE hbe
      go_upto_region 12 with fail
      generalize ((wE.setCell ⟨b8, 0, none⟩ (.slice Xe 1 de)).setCell ⟨b8, 1, none⟩ (.slice Ye 0 fe)) = wF at *
      clear x0 x1 xf0 xf1
      obtain ⟨x0, x1, xf0, xf1⟩ := id BXE.out
      have c01 := TE.out.c1
      have HKS : Hid (∀ W, Below wF.heap.size wF W → (Box2 W b8 (.slice Xe 1 de) (.slice Ye 0 fe) ∧ W.cell? ⟨gr, 1, none⟩ = some (.slice P1 11 e1))) := Lib.hid (fun W hW => ⟨BXE.out.below hW (by omega), (hW.cell (p := ⟨gr, 1, none⟩) (show gr < wF.heap.size by omega)).trans c01⟩)
      have hg9 : gr < wF.heap.size := by omega
      have hg8 : b8 < wF.heap.size := by omega
      go_region_law (first | (go_simp; go_at_call 53; (with_reducible refine (withSum_any P1 11 e1 _ _ r1 _ (TE.out.s1.below (B := wF.heap.size) (by (repeat' (first | with_reducible exact Below.refl _ _ | with_reducible assumption | with_reducible refine Below.drew ?_ | with_reducible refine Below.alloc ?_ ?_ _ | with_reducible refine Below.setCell ?_ ?_ _ | with_reducible refine Below.trans ?_ (Below.mono (by assumption) ?_) | ((try simp only [World.heap_size_alloc, World.heap_size_drew, World.heap_size_setCell]); omega)))) (by omega)) (by (try simp only [World.heap_size_alloc, World.heap_size_drew, World.heap_size_setCell]); omega) O1.out (by omega)).mono ?_); rintro _ wb ⟨Ab, cb, rfl, sb, bb⟩; have hbb : Below wF.heap.size wF wb := (by (repeat' (first | with_reducible exact Below.refl _ _ | with_reducible assumption | with_reducible refine Below.drew ?_ | with_reducible refine Below.alloc ?_ ?_ _ | with_reducible refine Below.setCell ?_ ?_ _ | with_reducible refine Below.trans ?_ (Below.mono (by assumption) ?_) | ((try simp only [World.heap_size_alloc, World.heap_size_drew, World.heap_size_setCell]); omega)))); have yb := hbb.size; have SB1 := Lib.hid (sb.mono (lo' := wF.heap.size) (by (try simp only [World.heap_size_alloc, World.heap_size_drew, World.heap_size_setCell]); omega) (Nat.le_refl _)); clear x0 x1 xf0 xf1; obtain ⟨⟨x0, x1, xf0, xf1⟩, c01b⟩ := HKS.out _ hbb; clear sb bb) | (go_simp; go_at_call 51; (with_reducible refine (wrote_any Xe 1 de [R0] Ye 0 fe [] _ wE.heap.size _ (KE.out.below (B := wF.heap.size) (by (repeat' (first | with_reducible exact Below.refl _ _ | with_reducible assumption | with_reducible refine Below.drew ?_ | with_reducible refine Below.alloc ?_ ?_ _ | with_reducible refine Below.setCell ?_ ?_ _ | with_reducible refine Below.trans ?_ (Below.mono (by assumption) ?_) | ((try simp only [World.heap_size_alloc, World.heap_size_drew, World.heap_size_setCell]); omega)))) (by omega)) (SlW.nil _ _ _ _ _ hve) (by (try simp only [World.heap_size_alloc, World.heap_size_drew, World.heap_size_setCell]); omega) 0 Ab (11 + 1) cb wF.heap.size wb.heap.size (r1 ++ [sumM r1]) (SB1.out.below (B := wb.heap.size) (by (repeat' (first | with_reducible exact Below.refl _ _ | with_reducible assumption | with_reducible refine Below.drew ?_ | with_reducible refine Below.alloc ?_ ?_ _ | with_reducible refine Below.setCell ?_ ?_ _ | with_reducible refine Below.trans ?_ (Below.mono (by assumption) ?_) | ((try simp only [World.heap_size_alloc, World.heap_size_drew, World.heap_size_setCell]); omega)))) (Nat.le_refl _)) (by (try simp only [World.heap_size_alloc, World.heap_size_drew, World.heap_size_setCell]); omega) (diskOk_none hOr) rfl hOs1 (by omega)).mono ?_); rintro _ wG ⟨Xg, dg, Yg, fg, rfl, kg, vg, bg⟩; have hbg' : Below wF.heap.size wF wG := (by (repeat' (first | with_reducible exact Below.refl _ _ | with_reducible assumption | with_reducible refine Below.drew ?_ | with_reducible refine Below.alloc ?_ ?_ _ | with_reducible refine Below.setCell ?_ ?_ _ | with_reducible refine Below.trans ?_ (Below.mono (by assumption) ?_) | ((try simp only [World.heap_size_alloc, World.heap_size_drew, World.heap_size_setCell]); omega)))); have yG := bg.size; (try simp only [World.heap_size_alloc, World.heap_size_drew] at yG); clear x0 x1 xf0 xf1; obtain ⟨⟨x0, x1, xf0, xf1⟩, c01g⟩ := HKS.out _ hbg'; have KG := Lib.hid kg; have VG := Lib.hid vg; clear kg vg bg))
      all_goals
        have TG := Lib.hid ((TE.out.below hbg' (by omega)).box (b := b8) (by omega) 0 (.slice Xg 1 dg) |>.box (b := b8) (by omega) 1 (.slice Yg 1 fg))
        have HG := Lib.hid (((HE.out.trans (hbg'.mono (by omega))).setCell (p := ⟨b8, 0, none⟩) (by simp only; omega) (.slice Xg 1 dg)).setCell (p := ⟨b8, 1, none⟩) (by simp only; omega) (.slice Yg 1 fg))
        have BXG := Lib.hid (((BXE.out.below hbg' (by omega)).set0 (.slice Xg 1 dg)).set1 (.slice Yg 1 fg))
        have KG9 := Lib.hid ((KG.out.upd (Box2.upd1 (b := b8) (q := 0) (v := .slice Xg 1 dg)) (.inr (by omega))).upd (Box2.upd1 (b := b8) (q := 1) (v := .slice Yg 1 fg)) (.inr (by omega)))
        have VG9 := Lib.hid ((VG.out.upd (Box2.upd1 (b := b8) (q := 0) (v := .slice Xg 1 dg)) (.inr (by omega))).upd (Box2.upd1 (b := b8) (q := 1) (v := .slice Yg 1 fg)) (.inr (by omega)))
        have hzG : ((wG.setCell ⟨b8, 0, none⟩ (.slice Xg 1 dg)).setCell ⟨b8, 1, none⟩ (.slice Yg 1 fg)).heap.size = wG.heap.size := by simp only [World.heap_size_setCell]
        clear KG VG hbg' c01 c01g HKS x0 x1 xf0 xf1
        generalize ((wG.setCell ⟨b8, 0, none⟩ (.slice Xg 1 dg)).setCell ⟨b8, 1, none⟩ (.slice Yg 1 fg)) = wH at *
        have hzG1 : wH.heap.size ≤ wG.heap.size := Nat.le_of_eq hzG
        have hzG2 : wG.heap.size ≤ wH.heap.size := Nat.le_of_eq hzG.symm
        clear hzG
        obtain ⟨x0, x1, xf0, xf1⟩ := id BXG.out
        have hbI : Below wH.heap.size wH (wH.alloc (.cells #[.int .i64 2] 2)) := (Below.refl _ _).alloc (Nat.le_refl _) _
        have CFA : Hid (Calls Try.prog 56 #[.agg #[.slice Xg 1 dg, .slice Yg 1 fg], .slice (some ⟨wH.heap.size, 0, none⟩) 1 1] (wH.alloc (.cells #[.int .i64 2] 2)) (DkRes (wH.alloc (.cells #[.int .i64 2] 2)) 1 [tornM (r1 ++ [sumM r1]) R0] 0 [])) := Lib.hid (fallen_any Xg 1 dg [R0] Yg 1 fg [⟨0, r1 ++ [sumM r1]⟩] _ wG.heap.size _ (KG9.out.below hbI (by omega)) (VG9.out.below hbI (by omega)) (by (try simp only [World.heap_size_alloc, World.heap_size_drew, World.heap_size_setCell]); omega) _ 1 1 _ _ [2] (src_one wH 2 2) (by (try simp only [World.heap_size_alloc, World.heap_size_drew, World.heap_size_setCell]); omega) (diskOk_one hOr hOs1))
        have bxI := BXG.out.below hbI (by omega)
        have BXI := Lib.hid bxI
        go_wp2_with fail
        (with_reducible refine (CFA.out).mono ?_); rintro _ wJ ⟨Xj, dj, Yj, fj, rfl, kj, vj, bJ⟩
        have yJ := bJ.size
        simp only [World.heap_size_alloc] at yJ
        have hbj := BXI.out.below bJ (by (try simp only [World.heap_size_alloc, World.heap_size_drew, World.heap_size_setCell]); omega)
        have HJ := Lib.hid (((HG.out.trans ((hbI.trans (bJ.mono (by (try simp only [World.heap_size_alloc, World.heap_size_drew, World.heap_size_setCell]); omega))).mono (by omega))).setCell (p := ⟨b8, 0, none⟩) (by simp only; omega) (.slice Xj 1 dj)).setCell (p := ⟨b8, 1, none⟩) (by simp only; omega) (.slice Yj 0 fj))
        have TJ := Lib.hid (((TG.out.below hbI (by omega)).below bJ (by (try simp only [World.heap_size_alloc, World.heap_size_drew, World.heap_size_setCell]); omega)).box (b := b8) (by omega) 0 (.slice Xj 1 dj) |>.box (b := b8) (by omega) 1 (.slice Yj 0 fj))
        have BXJ := Lib.hid ((hbj.set0 (.slice Xj 1 dj)).set1 (.slice Yj 0 fj))
        have KJ := Lib.hid ((kj.upd (Box2.upd1 (b := b8) (q := 0) (v := .slice Xj 1 dj)) (.inr (by (try simp only [World.heap_size_alloc, World.heap_size_drew, World.heap_size_setCell]); omega))).upd (Box2.upd1 (b := b8) (q := 1) (v := .slice Yj 0 fj)) (.inr (by (try simp only [World.heap_size_alloc, World.heap_size_drew, World.heap_size_setCell]); omega)))
        have hvj := vj.big
        have hzJ : ((wJ.setCell ⟨b8, 0, none⟩ (.slice Xj 1 dj)).setCell ⟨b8, 1, none⟩ (.slice Yj 0 fj)).heap.size = wJ.heap.size := by simp only [World.heap_size_setCell]
        have hTO : rowOk (tornM (r1 ++ [sumM r1]) R0) = true := rowOk_torn hOs1 hOr
        have hTL : (tornM (r1 ++ [sumM r1]) R0).length = 11 + 1 := by
          simp only [tornM, List.length_append, List.length_take, List.length_drop, hlr, L1.out, List.length_singleton]
          omega
        obtain ⟨t0, t1, tf0, tf1⟩ := id hbj
        clear kj vj bJ hbj bxI x0 x1 xf0 xf1
        have CRE : Hid (∀ W lo hi, SlR W lo hi Xj 1 dj [tornM (r1 ++ [sumM r1]) R0] → hi ≤ W.heap.size → Calls Try.prog 57 #[.agg #[.slice Xj 1 dj, .slice Yj 0 fj], .int .i64 0] W (RowBRes W (tornM (r1 ++ [sumM r1]) R0) true)) := Lib.hid (fun W lo hi hk hh => readAt_any Xj 1 dj [tornM (r1 ++ [sumM r1]) R0] Yj fj lo hi W hk hvj hh (diskOk_none hTO) 0 _ rfl)
        have OT := Lib.hid hTO
        have TT := Lib.hid hT
        have LT := Lib.hid hTL
        generalize tornM (r1 ++ [sumM r1]) R0 = T at *
        clear hTO hT hTL hOr hOs0 hOs1 CFA CRO CSY
        go_wp2_with fail
        (with_reducible refine (CRE.out _ _ _ KJ.out (by omega)).mono ?_); rintro _ wK ⟨AK, cK, rfl, sK, bK⟩
        have yK := bK.size
        have c0K := (TJ.out.below bK (by omega)).c0
        have SKK := Lib.hid sK
        have HK9 := Lib.hid (HJ.out.trans (bK.mono (by omega)))
        rw [LT.out] at *
        clear sK bK t0 t1 tf0 tf1
        have hl6 : ¬ (((11 + 1 : Nat) : Int) < 6) := by omega
        have hl11 : ¬ (((11 : Nat) : Int) < 11) := by omega
        have CUN : Hid (∀ W, Below wK.heap.size wK W → Calls Try.prog 58 #[.slice AK (11 + 1) cK] W (RowBRes W (unsM T) (unsOk T))) := Lib.hid (fun W hW => unsummed_any AK (11 + 1) cK _ _ T W (SKK.out.below hW (Nat.le_refl _)) hW.size OT.out)
        generalize unsOk T = uk at *
        generalize unsM T = U at *
        cases rots
        all_goals
          go_wp2_with fail
          (with_reducible refine (CUN.out _ (Below.refl _ _)).mono ?_); rintro _ wL ⟨AL, cL, rfl, sL, bL⟩
          have yL := bL.size
          have SL9 := Lib.hid sL
          have HL9 := Lib.hid (HK9.out.trans (bL.mono (by omega)))
          clear sL bL
          cases uk with
          | false =>
            go_wp2_with fail
            go_ret
            exact ⟨rfl, HL9.out⟩
          | true =>
            have CRS : Hid (∀ W, Below wL.heap.size wL W → Calls Try.prog 24 #[.slice AL U.length cL] W (EntryBRes W (rowSlot U))) := Lib.hid (fun W hW => rowSlot_any AL U.length cL _ _ U W (SL9.out.below hW (Nat.le_refl _)))
            have CRH : Hid (∀ W, Below wL.heap.size wL W → Calls Try.prog 32 #[.slice AL U.length cL] W (HeadBRes W (rowHead U).1 (rowHead U).2.1 (rowHead U).2.2.1 (rowHead U).2.2.2.1.length ((rowHead U).2.2.2.1.flatMap MarkD.ints) (rowHead U).2.2.2.2)) := Lib.hid (fun W hW => rowHead_any AL U.length cL _ _ U W (SL9.out.below hW (Nat.le_refl _)))
            have T1 := TT.out.1
            have T2 := TT.out.2
            generalize rowSlot U = RS at *
            generalize rowHead U = RH at *
            obtain ⟨RS1, RS2⟩ := RS
            obtain ⟨H1, H2, H3, H4, H5⟩ := RH
            simp only at T1 T2 CRS CRH
            subst T1 T2
            go_wp2_with fail
            (with_reducible refine (CRS.out _ (Below.refl _ _)).mono ?_); rintro _ wM ⟨rfl, bM⟩
            have yM := bM.size
            have BM := Lib.hid bM
            go_wp2_with fail
            (with_reducible refine (CRH.out _ (by (repeat' (first | with_reducible exact Below.refl _ _ | with_reducible assumption | with_reducible refine Below.drew ?_ | with_reducible refine Below.alloc ?_ ?_ _ | with_reducible refine Below.setCell ?_ ?_ _ | with_reducible refine Below.trans ?_ (Below.mono (by assumption) ?_) | ((try simp only [World.heap_size_alloc, World.heap_size_drew, World.heap_size_setCell]); omega))))).mono ?_); rintro _ wN ⟨AN, cN, rfl, sN, bN⟩
            have yN := bN.size
            simp only [World.heap_size_alloc] at yN
            have BN := Lib.hid (HL9.out.trans (bM.mono (by omega)))
            have bN' : Below w.heap.size wM wN := ((Below.refl _ _).alloc (by omega) _).trans (bN.mono (by (try simp only [World.heap_size_alloc, World.heap_size_drew, World.heap_size_setCell]); omega))
            clear bM bN sN BM
            go_wp2_with fail
            go_ret
            refine ⟨rfl, ?_⟩
            have h9 := BN.out.trans bN'
            (repeat' (first | with_reducible exact Below.refl _ _ | with_reducible assumption | with_reducible refine Below.drew ?_ | with_reducible refine Below.alloc ?_ ?_ _ | with_reducible refine Below.setCell ?_ ?_ _ | with_reducible refine Below.trans ?_ (Below.mono (by assumption) ?_) | ((try simp only [World.heap_size_alloc, World.heap_size_drew, World.heap_size_setCell]); omega)))
theorem own : ownKnob Try.prog.godebug = none := by kernel_rfl
theorem laidOut : laidOutB Try.prog = true := by kernel_rfl
set_option maxRecDepth 100000 in
theorem lifted (os : Os) (started : os.Started) (H : Type) (enc : TypeId × Value → H) :
    ReturnsInHanded {} Try.checked os 11 .any (Rows.fnTornSpec.pre6 enc Try.prog Try.f11 Rows.fnTornRow.domain false) (Rows.fnTornSpec.post enc Try.prog Try.f11 false true false false) := by
  refine returnsInHanded_of_change (C := Try.checked) own started (by kernel_rfl) Try.func11
    (ChangeSpec.witness6 (enc := enc) (C := Try.checked) false ⟨#[], #[.slice none 0 0], []⟩ 8 (by kernel_rfl) (by kernel_rfl) (by kernel_rfl) (by kernel_rfl)) ?_
  intro W base args ds gs before hval0 hW hcnd _
  have hval : ∀ (j : Nat) t v, Try.f11.params[j]? = some t → args[j]? = some v → Value.okWide Try.prog W .any base t v := hval0
  have hW' := hW
  obtain ⟨p, q, hA0, hV, rfl, hfz, hnd⟩ := hW
  have hA : DataW.TrodAll enc Try.prog W 0 (fun _ => true) true Try.f11.params.toList args.toList ds p := hA0
  rw [Try.params11] at hA hval
  obtain ⟨v0, d0, rfl, rfl, h0⟩ := trodAll_one hA
  obtain ⟨rfl, rfl⟩ := trodVars_none hV
  obtain ⟨A0, n0, c0, rfl, hz0⟩ := open_bytes Try.underlying76 Try.underlying5 (by kernel_rfl) (hval 0 76 v0 rfl rfl) h0
  clear hA0 hval0
  refine (law_any A0 n0 c0 W hz0).mono fun e W' ⟨he, hb⟩ => ?_
  subst he
  exact ⟨_, rfl, law_post laidOut (by kernel_rfl) rfl Try.underlying4 rfl hW' hb rfl rfl rfl⟩
theorem holds : Rows.FnTornSaid :=
  OpenClaim.holds_of_wide 11 Try.f11 rfl rfl rfl rfl rfl rfl rfl ⟨rfl, rfl, rfl, rfl, rfl⟩ rfl rfl rfl rfl rfl (by kernel_rfl) Try.func11 (by kernel_rfl)
    (of_decide_eq_true (by kernel_rfl)) (by unfold Func.isWrapper; first | (rw [if_pos (by decide +kernel)]; kernel_rfl) | (rw [if_neg (by decide +kernel)]; exact ⟨rfl, rfl⟩))
    (fun os started H enc _ => lifted os started H enc)
#print axioms holds
end Torn
end Go.Proofs.Ytgnilmdaegnaaaa
