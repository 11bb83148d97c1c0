/- Disks: the reference's copy of a disk. No conditions. -/
import Derived.Test.YtgnilmdaegnaaaaDk7
import Derived.Deep.RegionHeld3
set_option linter.unusedSimpArgs false
set_option linter.unusedVariables false
namespace Go.Proofs.Ytgnilmdaegnaaaa
open Go.RowKit
theorem gcellT {w w' : World} {o : Option Nat} (hg : w.grownBy w' o) {b : Nat} (hb : b < w.heap.size) (hne : ∀ g, o = some g → g ≠ b) : (∀ q, w'.cell? ⟨b, q, none⟩ = w.cell? ⟨b, q, none⟩) ∧ (∀ q, w'.frozen? ⟨b, q, none⟩ = w.frozen? ⟨b, q, none⟩) := by
  have h := hg.block b hb (fun e => hne b e.symm rfl)
  exact ⟨fun q => World.cell?_of_block (w := w) (a := ⟨b, q, none⟩) h, fun q => World.frozen?_of_block (w := w) (a := ⟨b, q, none⟩) h⟩
theorem Upd.after7 {lo up : Nat} {w wK w' : World} (h : Upd lo up w wK) (hb : Below w.heap.size wK w') (hs : wK.heap.size ≤ w'.heap.size) : Upd lo up w w' :=
  ⟨hb.os.trans h.os, hb.tape.trans h.tape, hb.output.trans h.output, Nat.le_trans h.size hs, fun b hl ho => (hb.block b hl).trans (h.block b hl ho)⟩
set_option maxRecDepth 100000 in
set_option maxHeartbeats 600000 in
theorem l3Copy_any (A0 : Option Addr) (n0 c0 : Nat) (k0 : List (List Int)) (A1 : Option Addr) (n1 c1 : Nat) (v0 : List WriteD) (lo hi : Nat) (w : World) (h0 : SlR w lo hi A0 n0 c0 k0) (h1 : SlW w lo hi A1 n1 c1 v0) (hhi : hi ≤ w.heap.size) (hn0 : n0 ≤ 1000) (hn1 : n1 ≤ 1000) (hr0 : ∀ (j : Nat) r, k0[j]? = some r → r.length ≤ 1000) (hr1 : ∀ (j : Nat) (r : WriteD), v0[j]? = some r → r.row.length ≤ 1000) :
    Calls Try.prog 183 #[.agg #[.slice A0 n0 c0, .slice A1 n1 c1]] w (DkRes3 w 135 n0 k0 n1 v0) := by
  have L0 := Lib.hid h0.len
  have L1 := Lib.hid h1.len
  have hz0 : n0 ≤ 9223372036854775807 := by omega
  have hz1 : n1 ≤ 9223372036854775807 := by omega
  have H0 := Lib.hid h0
  have H1 := Lib.hid h1
  have R0 := Lib.hid hr0
  have R1 := Lib.hid hr1
  have bs : Below w.heap.size w (((w.alloc (.cells #[.slice A0 n0 c0, .slice A1 n1 c1] 67)).alloc (.cells #[.slice none 0 0, .slice none 0 0] 67)).alloc (.cells #[.slice none 0 0, .slice none 0 0] 67)) := by (repeat' (first | with_reducible exact Below.refl _ _ | with_reducible assumption | with_reducible refine Below.drew ?_ | with_reducible refine Below.alloc ?_ ?_ _ | with_reducible refine Below.setCell ?_ ?_ _ | with_reducible refine Below.trans ?_ (Below.mono (by assumption) ?_) | ((try simp only [World.heap_size_alloc, World.heap_size_drew, World.heap_size_setCell]); omega)))
  have bx := (Box2.new w (.slice A0 n0 c0) (.slice A1 n1 c1) 67)
  have bx1 := bx.below (B := w.heap.size + 1) (w' := (((w.alloc (.cells #[.slice A0 n0 c0, .slice A1 n1 c1] 67)).alloc (.cells #[.slice none 0 0, .slice none 0 0] 67)).alloc (.cells #[.slice none 0 0, .slice none 0 0] 67))) (by (repeat' (first | with_reducible exact Below.refl _ _ | with_reducible assumption | with_reducible refine Below.drew ?_ | with_reducible refine Below.alloc ?_ ?_ _ | with_reducible refine Below.setCell ?_ ?_ _ | with_reducible refine Below.trans ?_ (Below.mono (by assumption) ?_) | ((try simp only [World.heap_size_alloc, World.heap_size_drew, World.heap_size_setCell]); omega)))) (by omega)
  have bt := (Box2.new (w.alloc (.cells #[.slice A0 n0 c0, .slice A1 n1 c1] 67)) (.slice none 0 0) (.slice none 0 0) 67).below (B := w.heap.size + 2) (w' := (((w.alloc (.cells #[.slice A0 n0 c0, .slice A1 n1 c1] 67)).alloc (.cells #[.slice none 0 0, .slice none 0 0] 67)).alloc (.cells #[.slice none 0 0, .slice none 0 0] 67))) (by (repeat' (first | with_reducible exact Below.refl _ _ | with_reducible assumption | with_reducible refine Below.drew ?_ | with_reducible refine Below.alloc ?_ ?_ _ | with_reducible refine Below.setCell ?_ ?_ _ | with_reducible refine Below.trans ?_ (Below.mono (by assumption) ?_) | ((try simp only [World.heap_size_alloc, World.heap_size_drew, World.heap_size_setCell]); omega)))) (by simp only [World.heap_size_alloc]; omega)
  have by3 := Box2.new ((w.alloc (.cells #[.slice A0 n0 c0, .slice A1 n1 c1] 67)).alloc (.cells #[.slice none 0 0, .slice none 0 0] 67)) (.slice none 0 0) (.slice none 0 0) 67
  simp only [World.heap_size_alloc] at bt by3
  have hss : (((w.alloc (.cells #[.slice A0 n0 c0, .slice A1 n1 c1] 67)).alloc (.cells #[.slice none 0 0, .slice none 0 0] 67)).alloc (.cells #[.slice none 0 0, .slice none 0 0] 67)).heap.size = w.heap.size + 3 := by simp only [World.heap_size_alloc]
  go_enter Try.func183, Try.ntmps183
  go_wp2_with fail
  generalize hW0 : (((w.alloc (.cells #[.slice A0 n0 c0, .slice A1 n1 c1] 67)).alloc (.cells #[.slice none 0 0, .slice none 0 0] 67)).alloc (.cells #[.slice none 0 0, .slice none 0 0] 67)) = W0 at *
  clear hW0 bx
  have BS := Lib.hid bs
  have BA := Lib.hid bx1
  have BT := Lib.hid bt
  have BY := Lib.hid by3
  clear bs bx1 bt by3 h0 h1 hr0 hr1
  go_loopw [4] (fun i wr => ∃ (m : Nat) (v : Value) (vs : List Value), m ≤ n0 ∧ i = .int .i64 m ∧ Box2 wr (w.heap.size + 2) v (.slice none 0 0) ∧ Hid (OwnV wr (w.heap.size + 3) 28 1 v m vs) ∧ Hid (VRow wr (w.heap.size + 3) wr.heap.size v.ownBlock vs (k0.take m)) ∧ Below (w.heap.size + 2) W0 wr) (fun i _ => n0 - (intOf i).toNat)
  case atStart => exact ⟨0, _, [], Nat.zero_le _, rfl, BY.out, Lib.hid (OwnV.nil _ _ _ _), Lib.hid (VRow.nil _ _ _ _), Below.refl _ _⟩
  case round =>
    clear BY
    obtain ⟨m, v, vs, hm, rfl, hbx, O, V, hb⟩ := hrel
    have hblt := hbx.lt
    have hobz : w.heap.size + 3 ≤ wr.heap.size := by omega
    have hob3 : w.heap.size + 3 ≤ w.heap.size + 3 := Nat.le_refl _
    obtain ⟨q0, q1, -, -⟩ := BA.out.below hb (by omega)
    by_cases hlt : m < n0
    · obtain ⟨r, hr⟩ : ∃ r, k0[m]? = some r := ⟨k0[m]'(by rw [L0.out]; exact hlt), List.getElem?_eq_getElem _⟩
      obtain ⟨g, off, Aj, nj, cj, rfl, _, hg, p0, hs⟩ := H0.out.lie m r hr
      have hw : Below w.heap.size w wr := BS.out.trans (hb.mono (by omega))
      have r0 := (hw.cell (p := ⟨g, off + m, none⟩) (show g < w.heap.size by omega)).trans p0
      have hnj : nj ≤ 1000000 := by
        have h8 := R0.out m r hr
        have h9 := hs.len
        omega
      have HS := Lib.hid (hs.below hw hhi)
      have HX := Lib.hid hr
      have HB := Lib.hid hb
      have OL := Lib.hid O.out.lt
      have HK : ∀ W, Below wr.heap.size wr W → Box2 W (w.heap.size + 2) v (.slice none 0 0) := fun W hW => hbx.below hW hblt
      have HKH := Lib.hid HK
      obtain ⟨x0, x1, xf0, xf1⟩ := id hbx
      have hgw : g < wr.heap.size := by omega
      clear p0 hs hr hb hw hbx HK
      have HKS : Hid (∀ W, Below wr.heap.size wr W → (W.cell? ⟨w.heap.size, 0, none⟩ = some (.slice (some ⟨g, off, none⟩) n0 c0) ∧ W.cell? ⟨g, off + m, none⟩ = some (.slice Aj nj cj))) := Lib.hid (fun W hW => ⟨(hW.cell (p := ⟨w.heap.size, 0, none⟩) (show w.heap.size < wr.heap.size by omega)).trans q0, (hW.cell (p := ⟨g, off + m, none⟩) (show g < wr.heap.size by omega)).trans r0⟩)
      go_wp2_with fail
      refine wp_region_noPanic ?_
      refine wp_region_held_drew (S := (fun w' => w'.cell? ⟨w.heap.size, 0, none⟩ = some (.slice (some ⟨g, off, none⟩) n0 c0) ∧ w'.cell? ⟨g, off + m, none⟩ = some (.slice Aj nj cj))) (by kernel_rfl) ?hS_1 (fun hHeld => ?rest_1)
      case hS_1 => ((try dsimp only); (first | exact HKS.out _ ((Below.refl _ _).drew) | exact HKS.out _ B2.out | exact HKS.out _ (B2.out.alloc (by omega) _) | exact hS3 | exact hS4))
      refine wpAnyH_take (i := 0) (oi := ?oi_2) (v := ?v_2) ?hi_2 (by kernel_rfl) (by kernel_rfl) (by kernel_rfl) (fun _ _ _ h => h) (Or.inl ⟨?hg_2, ?hy_2⟩) (by assumption) ?rest_2
      case hi_2 => (simp only [List.getElem?_toArray, List.getElem?_cons_zero, List.getElem?_cons_succ]; rfl)
      case hg_2 => rfl
      case hy_2 => (intro w9 hSw; (try dsimp only at hSw); (go_simp <;> with_reducible rfl))
      (try simp only [Act.put, List.setIfInBounds_toArray, List.set_cons_zero, List.set_cons_succ])
      refine wpAnyH_take (i := 2) (oi := ?oi_3) (v := ?v_3) ?hi_3 (by kernel_rfl) (by kernel_rfl) (by kernel_rfl) (fun _ _ _ h => h) (Or.inl ⟨?hg_3, ?hy_3⟩) (by assumption) ?rest_3
      case hi_3 => (simp only [List.getElem?_toArray, List.getElem?_cons_zero, List.getElem?_cons_succ]; rfl)
      case hg_3 => rfl
      case hy_3 => (intro w9 hSw; (try dsimp only at hSw); (go_simp <;> with_reducible rfl))
      (try simp only [Act.put, List.setIfInBounds_toArray, List.set_cons_zero, List.set_cons_succ])
      refine wpAnyH_take (i := 3) (oi := ?oi_4) (v := ?v_4) ?hi_4 (by kernel_rfl) (by kernel_rfl) (by kernel_rfl) (fun _ _ _ h => h) (Or.inl ⟨?hg_4, ?hy_4⟩) (by assumption) ?rest_4
      case hi_4 => (simp only [List.getElem?_toArray, List.getElem?_cons_zero, List.getElem?_cons_succ]; rfl)
      case hg_4 => rfl
      case hy_4 => (intro w9 hSw; (try dsimp only at hSw); (go_simp <;> with_reducible rfl))
      (try simp only [Act.put, List.setIfInBounds_toArray, List.set_cons_zero, List.set_cons_succ])
      refine wpAnyH_take (i := 4) (oi := ?oi_5) (v := ?v_5) ?hi_5 (by kernel_rfl) (by kernel_rfl) (by kernel_rfl) (fun _ _ _ h => h) (Or.inl ⟨?hg_5, ?hy_5⟩) (by assumption) ?rest_5
      case hi_5 => (simp only [List.getElem?_toArray, List.getElem?_cons_zero, List.getElem?_cons_succ]; rfl)
      case hg_5 => rfl
      case hy_5 => (intro w9 hSw; (try dsimp only at hSw); (go_simp <;> with_reducible rfl))
      (try simp only [Act.put, List.setIfInBounds_toArray, List.set_cons_zero, List.set_cons_succ])
      refine wpAnyH_take (i := 5) (oi := ?oi_6) (v := ?v_6) ?hi_6 (by kernel_rfl) (by kernel_rfl) (by kernel_rfl) (fun _ _ _ h => h) (Or.inl ⟨?hg_6, ?hy_6⟩) (by assumption) ?rest_6
      case hi_6 => (simp only [List.getElem?_toArray, List.getElem?_cons_zero, List.getElem?_cons_succ]; rfl)
      case hg_6 => rfl
      case hy_6 => (intro w9 hSw; (try dsimp only at hSw); (go_simp <;> with_reducible rfl))
      (try simp only [Act.put, List.setIfInBounds_toArray, List.set_cons_zero, List.set_cons_succ])
      refine wpAnyH_take (i := 6) (oi := ?oi_7) (v := ?v_7) ?hi_7 (by kernel_rfl) (by kernel_rfl) (by kernel_rfl) (fun _ _ _ h => h) (Or.inl ⟨?hg_7, ?hy_7⟩) (by assumption) ?rest_7
      case hi_7 => (simp only [List.getElem?_toArray, List.getElem?_cons_zero, List.getElem?_cons_succ]; rfl)
      case hg_7 => rfl
      case hy_7 => (intro w9 hSw; (try dsimp only at hSw); (go_simp <;> with_reducible rfl))
      (try simp only [Act.put, List.setIfInBounds_toArray, List.set_cons_zero, List.set_cons_succ])
      refine wpAnyH_ready (rs := [1, 7]) (by kernel_rfl) (by simp) ?_
      refine AllReadyH.cons (o := ?oi_8) ?hi_8 (fun K hK => ?step_8) ?more_8
      case hi_8 => (simp only [List.getElem?_toArray, List.getElem?_cons_zero, List.getElem?_cons_succ]; rfl)
      case step_8 =>
        go_simp
        refine hK.out _ _ ?hS_9 (fun hHeld => ?nx_9)
        case hS_9 => ((try dsimp only); (first | exact HKS.out _ ((Below.refl _ _).drew) | exact HKS.out _ B2.out | exact HKS.out _ (B2.out.alloc (by omega) _) | exact hS3 | exact hS4))
        case nx_9 =>
          clear hK K
          (try simp only [Act.put, List.setIfInBounds_toArray, List.set_cons_zero, List.set_cons_succ])
          refine wpAnyH_ready (rs := [7]) (by kernel_rfl) (by simp) ?_
          refine AllReadyH.cons (o := ?oi_10) ?hi_10 (fun K hK => ?step_10) ?more_10
          case hi_10 => (simp only [List.getElem?_toArray, List.getElem?_cons_zero, List.getElem?_cons_succ]; rfl)
          case step_10 =>
            go_simp
            (go_at_call 181; (with_reducible refine (l1Copy_any _ _ _ _ _ r _ (HS.out.below (B := wr.heap.size) (by (repeat' (first | with_reducible exact Below.refl _ _ | with_reducible assumption | with_reducible refine Below.drew ?_ | with_reducible refine Below.alloc ?_ ?_ _ | with_reducible refine Below.setCell ?_ ?_ _ | with_reducible refine Below.trans ?_ (Below.mono (by assumption) ?_) | ((try simp only [World.heap_size_alloc, World.heap_size_drew, World.heap_size_setCell]); omega)))) (by omega)) hnj).mono ?_); rintro _ w2 ⟨A2, c2, rfl, s2, b2⟩; have y2 := b2.size; (try simp only [World.heap_size_alloc, World.heap_size_drew] at y2); have hb2 : Below wr.heap.size wr w2 := Below.trans (by (repeat' (first | with_reducible exact Below.refl _ _ | with_reducible assumption | with_reducible refine Below.drew ?_ | with_reducible refine Below.alloc ?_ ?_ _ | with_reducible refine Below.setCell ?_ ?_ _ | with_reducible refine Below.trans ?_ (Below.mono (by assumption) ?_) | ((try simp only [World.heap_size_alloc, World.heap_size_drew, World.heap_size_setCell]); omega)))) (b2.mono (by (try simp only [World.heap_size_alloc, World.heap_size_drew, World.heap_size_setCell]); omega)); have S2 := Lib.hid (s2.mono (lo' := wr.heap.size) (by (try simp only [World.heap_size_alloc, World.heap_size_drew, World.heap_size_setCell]); omega) (Nat.le_refl _)); have B2 := Lib.hid hb2; obtain ⟨x0, x1, xf0, xf1⟩ := HKH.out _ hb2; have hz7 : w.heap.size + 2 < w2.heap.size := (by omega); have x1a : (w2.alloc (.cells #[.slice A2 nj c2] 28)).cell? ⟨w.heap.size + 2, 0, none⟩ = some v := (World.cell?_alloc_lt _ _ _ hz7).trans x0; clear s2 b2 hb2)
            (try go_wp2_with fail)
            refine hK.out _ _ ?hS_11 (fun hHeld => ?nx_11)
            case hS_11 => ((try dsimp only); (first | exact HKS.out _ ((Below.refl _ _).drew) | exact HKS.out _ B2.out | exact HKS.out _ (B2.out.alloc (by omega) _) | exact hS3 | exact hS4))
            case nx_11 =>
              clear hK K
              (try simp only [Act.put, List.setIfInBounds_toArray, List.set_cons_zero, List.set_cons_succ])
              refine wpAnyH_ready (rs := [8]) (by kernel_rfl) (by simp) ?_
              refine AllReadyH.cons (o := ?oi_12) ?hi_12 (fun K hK => ?step_12) ?more_12
              case hi_12 => (simp only [List.getElem?_toArray, List.getElem?_cons_zero, List.getElem?_cons_succ]; rfl)
              case step_12 =>
                go_simp
                refine hK.out _ _ ?hS_13 (fun hHeld => ?nx_13)
                case hS_13 => ((try dsimp only); (first | exact HKS.out _ ((Below.refl _ _).drew) | exact HKS.out _ B2.out | exact HKS.out _ (B2.out.alloc (by omega) _) | exact hS3 | exact hS4))
                case nx_13 =>
                  clear hK K
                  (try simp only [Act.put, List.setIfInBounds_toArray, List.set_cons_zero, List.set_cons_succ])
                  refine wpAnyH_ready (rs := [9]) (by kernel_rfl) (by simp) ?_
                  refine AllReadyH.cons (o := ?oi_14) ?hi_14 (fun K hK => ?step_14) ?more_14
                  case hi_14 => (simp only [List.getElem?_toArray, List.getElem?_cons_zero, List.getElem?_cons_succ]; rfl)
                  case step_14 =>
                    (go_loud (refine step_append_v _ (by rfl) (.tmp 15) (.tmp 22) 57 (by rfl) (w.heap.size + 3) 28 Try.underlying57 infoI64S (by rfl) (by omega) v m vs (by rfl) (O.out.kept (B2.out.alloc (by omega) _)) _ 0 1 1 [.slice A2 nj c2] (by rfl) (by rfl) (src_cells w2 28 [.slice A2 nj c2]) (one_slice _ _ _) (by omega) (by omega) (by rw [World.heap_size_alloc]; omega) ?_); intro v3 w3 o3 g3 a3; have y3 := g3.size; rw [World.heap_size_alloc] at y3; obtain ⟨A3, c3, rfl⟩ := OwnV.form o3; obtain ⟨z0, z1, zf0, zf1⟩ := (((HKH.out _ B2.out).below ((Below.refl w2.heap.size w2).alloc (Nat.le_refl _) (.cells #[.slice A2 nj c2] 28)) (by omega)).grown g3 (fun g hg => by have := (OL.out g hg).1; omega)); have hS3 : w3.cell? ⟨w.heap.size, 0, none⟩ = some (.slice (some ⟨g, off, none⟩) n0 c0) ∧ w3.cell? ⟨g, off + m, none⟩ = some (.slice Aj nj cj) := (by obtain ⟨j0, j1⟩ := HKS.out _ (B2.out.alloc (by omega) (.cells #[.slice A2 nj c2] 28)); exact ⟨((gcellT g3 (b := w.heap.size) (by rw [World.heap_size_alloc]; omega) (fun g9 hg9 => by have := (OL.out g9 hg9).1; omega)).1 _).trans j0, ((gcellT g3 (b := g) (by rw [World.heap_size_alloc]; omega) (fun g9 hg9 => by have := (OL.out g9 hg9).1; omega)).1 _).trans j1⟩); have hS4 : (w3.setCell ⟨w.heap.size + 2, 0, none⟩ (.slice A3 (m + 1) c3)).cell? ⟨w.heap.size, 0, none⟩ = some (.slice (some ⟨g, off, none⟩) n0 c0) ∧ (w3.setCell ⟨w.heap.size + 2, 0, none⟩ (.slice A3 (m + 1) c3)).cell? ⟨g, off + m, none⟩ = some (.slice Aj nj cj) := (by obtain ⟨j0, j1⟩ := hS3; exact ⟨(World.cell?_setCell_far _ _ _ _ (by simp only []; omega)).trans j0, (World.cell?_setCell_far _ _ _ _ (by simp only []; omega)).trans j1⟩))
                    refine hK.out _ _ ?hS_15 (fun hHeld => ?nx_15)
                    case hS_15 => ((try dsimp only); (first | exact HKS.out _ ((Below.refl _ _).drew) | exact HKS.out _ B2.out | exact HKS.out _ (B2.out.alloc (by omega) _) | exact hS3 | exact hS4))
                    case nx_15 =>
                      clear hK K
                      (try simp only [Act.put, List.setIfInBounds_toArray, List.set_cons_zero, List.set_cons_succ])
                      refine wpAnyH_take (i := 10) (oi := ?oi_16) (v := ?v_16) ?hi_16 (by kernel_rfl) (by kernel_rfl) (by kernel_rfl) (fun _ _ _ h => h) (Or.inl ⟨?hg_16, ?hy_16⟩) (by assumption) ?rest_16
                      case hi_16 => (simp only [List.getElem?_toArray, List.getElem?_cons_zero, List.getElem?_cons_succ]; rfl)
                      case hg_16 => rfl
                      case hy_16 => (intro w9 hSw; (try dsimp only at hSw); (go_simp <;> with_reducible rfl))
                      (try simp only [Act.put, List.setIfInBounds_toArray, List.set_cons_zero, List.set_cons_succ])
                      refine wpAnyH_ready (rs := [11]) (by kernel_rfl) (by simp) ?_
                      refine AllReadyH.cons (o := ?oi_17) ?hi_17 (fun K hK => ?step_17) ?more_17
                      case hi_17 => (simp only [List.getElem?_toArray, List.getElem?_cons_zero, List.getElem?_cons_succ]; rfl)
                      case step_17 =>
                        go_simp
                        refine hK.out _ _ ?hS_18 (fun hHeld => ?nx_18)
                        case hS_18 => ((try dsimp only); (first | exact HKS.out _ ((Below.refl _ _).drew) | exact HKS.out _ B2.out | exact HKS.out _ (B2.out.alloc (by omega) _) | exact hS3 | exact hS4))
                        case nx_18 =>
                          clear hK K
                          (try simp only [Act.put, List.setIfInBounds_toArray, List.set_cons_zero, List.set_cons_succ])
                          refine wpAnyH_done (by kernel_rfl) ?_ _
                          refine NoPanic.normal ?_
                          have hbW : Below w2.heap.size w2 (w2.alloc (.cells #[.slice A2 nj c2] 28)) := (Below.refl w2.heap.size w2).alloc (Nat.le_refl _) _
                          have V3 := V.out.push O.out.lt2 B2.out hobz S2.out HX.out hbW g3 a3
                          have hb3 : Below ((w.heap.size + 3)) wr w3 := ((B2.out.mono hobz).alloc (by omega) _).trans (grown_below g3 (by (try simp only [World.heap_size_alloc, World.heap_size_drew, World.heap_size_setCell]); omega) (fun g hg => (OL.out g hg).1))
                          have BX3 : Hid (Box2 w3 (w.heap.size + 2) v (.slice none 0 0)) := Lib.hid ⟨z0, z1, zf0, zf1⟩
                          have u3 : Upd (w.heap.size + 2) (w.heap.size + 3) w3 (w3.setCell ⟨w.heap.size + 2, 0, none⟩ (.slice A3 (m + 1) c3)) := Box2.upd1
                          have O4 := Lib.hid (OwnV.upd o3 u3 (fun g hg => .inr (by have := (OwnV.lt o3 g hg).1; omega)))
                          have V4 := Lib.hid (V3.upd u3 (.inr hob3))
                          have B3 := Lib.hid hb3
                          have U3 := Lib.hid u3
                          clear o3 g3 a3 V3 hbW hb3 u3 hS3 hS4
                          go_wp2_with fail
                          go_roundw
                          case rel => exact ⟨m + 1, _, _, hlt, by go_num, BX3.out.set0 _, O4, by rw [World.heap_size_setCell]; exact V4, (HB.out.trans (B3.out.mono (by omega))).setCell (p := ⟨w.heap.size + 2, 0, none⟩) (Nat.le_refl _) _⟩
                          case measure => simp [intOf]; omega
                      exact AllReadyH.nil
                  exact AllReadyH.nil
              exact AllReadyH.nil
          exact AllReadyH.nil
      refine AllReadyH.cons (o := ?oi_19) ?hi_19 (fun K hK => ?step_19) ?more_19
      case hi_19 => (simp only [List.getElem?_toArray, List.getElem?_cons_zero, List.getElem?_cons_succ]; rfl)
      case step_19 =>
        go_simp
        (go_at_call 181; (with_reducible refine (l1Copy_any _ _ _ _ _ r _ (HS.out.below (B := wr.heap.size) (by (repeat' (first | with_reducible exact Below.refl _ _ | with_reducible assumption | with_reducible refine Below.drew ?_ | with_reducible refine Below.alloc ?_ ?_ _ | with_reducible refine Below.setCell ?_ ?_ _ | with_reducible refine Below.trans ?_ (Below.mono (by assumption) ?_) | ((try simp only [World.heap_size_alloc, World.heap_size_drew, World.heap_size_setCell]); omega)))) (by omega)) hnj).mono ?_); rintro _ w2 ⟨A2, c2, rfl, s2, b2⟩; have y2 := b2.size; (try simp only [World.heap_size_alloc, World.heap_size_drew] at y2); have hb2 : Below wr.heap.size wr w2 := Below.trans (by (repeat' (first | with_reducible exact Below.refl _ _ | with_reducible assumption | with_reducible refine Below.drew ?_ | with_reducible refine Below.alloc ?_ ?_ _ | with_reducible refine Below.setCell ?_ ?_ _ | with_reducible refine Below.trans ?_ (Below.mono (by assumption) ?_) | ((try simp only [World.heap_size_alloc, World.heap_size_drew, World.heap_size_setCell]); omega)))) (b2.mono (by (try simp only [World.heap_size_alloc, World.heap_size_drew, World.heap_size_setCell]); omega)); have S2 := Lib.hid (s2.mono (lo' := wr.heap.size) (by (try simp only [World.heap_size_alloc, World.heap_size_drew, World.heap_size_setCell]); omega) (Nat.le_refl _)); have B2 := Lib.hid hb2; obtain ⟨x0, x1, xf0, xf1⟩ := HKH.out _ hb2; have hz7 : w.heap.size + 2 < w2.heap.size := (by omega); have x1a : (w2.alloc (.cells #[.slice A2 nj c2] 28)).cell? ⟨w.heap.size + 2, 0, none⟩ = some v := (World.cell?_alloc_lt _ _ _ hz7).trans x0; clear s2 b2 hb2)
        (try go_wp2_with fail)
        refine hK.out _ _ ?hS_20 (fun hHeld => ?nx_20)
        case hS_20 => ((try dsimp only); (first | exact HKS.out _ ((Below.refl _ _).drew) | exact HKS.out _ B2.out | exact HKS.out _ (B2.out.alloc (by omega) _) | exact hS3 | exact hS4))
        case nx_20 =>
          clear hK K
          (try simp only [Act.put, List.setIfInBounds_toArray, List.set_cons_zero, List.set_cons_succ])
          refine wpAnyH_ready (rs := [1, 8]) (by kernel_rfl) (by simp) ?_
          refine AllReadyH.cons (o := ?oi_21) ?hi_21 (fun K hK => ?step_21) ?more_21
          case hi_21 => (simp only [List.getElem?_toArray, List.getElem?_cons_zero, List.getElem?_cons_succ]; rfl)
          case step_21 =>
            go_simp
            refine hK.out _ _ ?hS_22 (fun hHeld => ?nx_22)
            case hS_22 => ((try dsimp only); (first | exact HKS.out _ ((Below.refl _ _).drew) | exact HKS.out _ B2.out | exact HKS.out _ (B2.out.alloc (by omega) _) | exact hS3 | exact hS4))
            case nx_22 =>
              clear hK K
              (try simp only [Act.put, List.setIfInBounds_toArray, List.set_cons_zero, List.set_cons_succ])
              refine wpAnyH_ready (rs := [8]) (by kernel_rfl) (by simp) ?_
              refine AllReadyH.cons (o := ?oi_23) ?hi_23 (fun K hK => ?step_23) ?more_23
              case hi_23 => (simp only [List.getElem?_toArray, List.getElem?_cons_zero, List.getElem?_cons_succ]; rfl)
              case step_23 =>
                go_simp
                refine hK.out _ _ ?hS_24 (fun hHeld => ?nx_24)
                case hS_24 => ((try dsimp only); (first | exact HKS.out _ ((Below.refl _ _).drew) | exact HKS.out _ B2.out | exact HKS.out _ (B2.out.alloc (by omega) _) | exact hS3 | exact hS4))
                case nx_24 =>
                  clear hK K
                  (try simp only [Act.put, List.setIfInBounds_toArray, List.set_cons_zero, List.set_cons_succ])
                  refine wpAnyH_ready (rs := [9]) (by kernel_rfl) (by simp) ?_
                  refine AllReadyH.cons (o := ?oi_25) ?hi_25 (fun K hK => ?step_25) ?more_25
                  case hi_25 => (simp only [List.getElem?_toArray, List.getElem?_cons_zero, List.getElem?_cons_succ]; rfl)
                  case step_25 =>
                    (go_loud (refine step_append_v _ (by rfl) (.tmp 15) (.tmp 22) 57 (by rfl) (w.heap.size + 3) 28 Try.underlying57 infoI64S (by rfl) (by omega) v m vs (by rfl) (O.out.kept (B2.out.alloc (by omega) _)) _ 0 1 1 [.slice A2 nj c2] (by rfl) (by rfl) (src_cells w2 28 [.slice A2 nj c2]) (one_slice _ _ _) (by omega) (by omega) (by rw [World.heap_size_alloc]; omega) ?_); intro v3 w3 o3 g3 a3; have y3 := g3.size; rw [World.heap_size_alloc] at y3; obtain ⟨A3, c3, rfl⟩ := OwnV.form o3; obtain ⟨z0, z1, zf0, zf1⟩ := (((HKH.out _ B2.out).below ((Below.refl w2.heap.size w2).alloc (Nat.le_refl _) (.cells #[.slice A2 nj c2] 28)) (by omega)).grown g3 (fun g hg => by have := (OL.out g hg).1; omega)); have hS3 : w3.cell? ⟨w.heap.size, 0, none⟩ = some (.slice (some ⟨g, off, none⟩) n0 c0) ∧ w3.cell? ⟨g, off + m, none⟩ = some (.slice Aj nj cj) := (by obtain ⟨j0, j1⟩ := HKS.out _ (B2.out.alloc (by omega) (.cells #[.slice A2 nj c2] 28)); exact ⟨((gcellT g3 (b := w.heap.size) (by rw [World.heap_size_alloc]; omega) (fun g9 hg9 => by have := (OL.out g9 hg9).1; omega)).1 _).trans j0, ((gcellT g3 (b := g) (by rw [World.heap_size_alloc]; omega) (fun g9 hg9 => by have := (OL.out g9 hg9).1; omega)).1 _).trans j1⟩); have hS4 : (w3.setCell ⟨w.heap.size + 2, 0, none⟩ (.slice A3 (m + 1) c3)).cell? ⟨w.heap.size, 0, none⟩ = some (.slice (some ⟨g, off, none⟩) n0 c0) ∧ (w3.setCell ⟨w.heap.size + 2, 0, none⟩ (.slice A3 (m + 1) c3)).cell? ⟨g, off + m, none⟩ = some (.slice Aj nj cj) := (by obtain ⟨j0, j1⟩ := hS3; exact ⟨(World.cell?_setCell_far _ _ _ _ (by simp only []; omega)).trans j0, (World.cell?_setCell_far _ _ _ _ (by simp only []; omega)).trans j1⟩))
                    refine hK.out _ _ ?hS_26 (fun hHeld => ?nx_26)
                    case hS_26 => ((try dsimp only); (first | exact HKS.out _ ((Below.refl _ _).drew) | exact HKS.out _ B2.out | exact HKS.out _ (B2.out.alloc (by omega) _) | exact hS3 | exact hS4))
                    case nx_26 =>
                      clear hK K
                      (try simp only [Act.put, List.setIfInBounds_toArray, List.set_cons_zero, List.set_cons_succ])
                      refine wpAnyH_take (i := 10) (oi := ?oi_27) (v := ?v_27) ?hi_27 (by kernel_rfl) (by kernel_rfl) (by kernel_rfl) (fun _ _ _ h => h) (Or.inl ⟨?hg_27, ?hy_27⟩) (by assumption) ?rest_27
                      case hi_27 => (simp only [List.getElem?_toArray, List.getElem?_cons_zero, List.getElem?_cons_succ]; rfl)
                      case hg_27 => rfl
                      case hy_27 => (intro w9 hSw; (try dsimp only at hSw); (go_simp <;> with_reducible rfl))
                      (try simp only [Act.put, List.setIfInBounds_toArray, List.set_cons_zero, List.set_cons_succ])
                      refine wpAnyH_ready (rs := [11]) (by kernel_rfl) (by simp) ?_
                      refine AllReadyH.cons (o := ?oi_28) ?hi_28 (fun K hK => ?step_28) ?more_28
                      case hi_28 => (simp only [List.getElem?_toArray, List.getElem?_cons_zero, List.getElem?_cons_succ]; rfl)
                      case step_28 =>
                        go_simp
                        refine hK.out _ _ ?hS_29 (fun hHeld => ?nx_29)
                        case hS_29 => ((try dsimp only); (first | exact HKS.out _ ((Below.refl _ _).drew) | exact HKS.out _ B2.out | exact HKS.out _ (B2.out.alloc (by omega) _) | exact hS3 | exact hS4))
                        case nx_29 =>
                          clear hK K
                          (try simp only [Act.put, List.setIfInBounds_toArray, List.set_cons_zero, List.set_cons_succ])
                          refine wpAnyH_done (by kernel_rfl) ?_ _
                          refine NoPanic.normal ?_
                          have hbW : Below w2.heap.size w2 (w2.alloc (.cells #[.slice A2 nj c2] 28)) := (Below.refl w2.heap.size w2).alloc (Nat.le_refl _) _
                          have V3 := V.out.push O.out.lt2 B2.out hobz S2.out HX.out hbW g3 a3
                          have hb3 : Below ((w.heap.size + 3)) wr w3 := ((B2.out.mono hobz).alloc (by omega) _).trans (grown_below g3 (by (try simp only [World.heap_size_alloc, World.heap_size_drew, World.heap_size_setCell]); omega) (fun g hg => (OL.out g hg).1))
                          have BX3 : Hid (Box2 w3 (w.heap.size + 2) v (.slice none 0 0)) := Lib.hid ⟨z0, z1, zf0, zf1⟩
                          have u3 : Upd (w.heap.size + 2) (w.heap.size + 3) w3 (w3.setCell ⟨w.heap.size + 2, 0, none⟩ (.slice A3 (m + 1) c3)) := Box2.upd1
                          have O4 := Lib.hid (OwnV.upd o3 u3 (fun g hg => .inr (by have := (OwnV.lt o3 g hg).1; omega)))
                          have V4 := Lib.hid (V3.upd u3 (.inr hob3))
                          have B3 := Lib.hid hb3
                          have U3 := Lib.hid u3
                          clear o3 g3 a3 V3 hbW hb3 u3 hS3 hS4
                          go_wp2_with fail
                          go_roundw
                          case rel => exact ⟨m + 1, _, _, hlt, by go_num, BX3.out.set0 _, O4, by rw [World.heap_size_setCell]; exact V4, (HB.out.trans (B3.out.mono (by omega))).setCell (p := ⟨w.heap.size + 2, 0, none⟩) (Nat.le_refl _) _⟩
                          case measure => simp [intOf]; omega
                      exact AllReadyH.nil
                  exact AllReadyH.nil
              exact AllReadyH.nil
          refine AllReadyH.cons (o := ?oi_30) ?hi_30 (fun K hK => ?step_30) ?more_30
          case hi_30 => (simp only [List.getElem?_toArray, List.getElem?_cons_zero, List.getElem?_cons_succ]; rfl)
          case step_30 =>
            go_simp
            refine hK.out _ _ ?hS_31 (fun hHeld => ?nx_31)
            case hS_31 => ((try dsimp only); (first | exact HKS.out _ ((Below.refl _ _).drew) | exact HKS.out _ B2.out | exact HKS.out _ (B2.out.alloc (by omega) _) | exact hS3 | exact hS4))
            case nx_31 =>
              clear hK K
              (try simp only [Act.put, List.setIfInBounds_toArray, List.set_cons_zero, List.set_cons_succ])
              refine wpAnyH_ready (rs := [1]) (by kernel_rfl) (by simp) ?_
              refine AllReadyH.cons (o := ?oi_32) ?hi_32 (fun K hK => ?step_32) ?more_32
              case hi_32 => (simp only [List.getElem?_toArray, List.getElem?_cons_zero, List.getElem?_cons_succ]; rfl)
              case step_32 =>
                go_simp
                refine hK.out _ _ ?hS_33 (fun hHeld => ?nx_33)
                case hS_33 => ((try dsimp only); (first | exact HKS.out _ ((Below.refl _ _).drew) | exact HKS.out _ B2.out | exact HKS.out _ (B2.out.alloc (by omega) _) | exact hS3 | exact hS4))
                case nx_33 =>
                  clear hK K
                  (try simp only [Act.put, List.setIfInBounds_toArray, List.set_cons_zero, List.set_cons_succ])
                  refine wpAnyH_ready (rs := [9]) (by kernel_rfl) (by simp) ?_
                  refine AllReadyH.cons (o := ?oi_34) ?hi_34 (fun K hK => ?step_34) ?more_34
                  case hi_34 => (simp only [List.getElem?_toArray, List.getElem?_cons_zero, List.getElem?_cons_succ]; rfl)
                  case step_34 =>
                    (go_loud (refine step_append_v _ (by rfl) (.tmp 15) (.tmp 22) 57 (by rfl) (w.heap.size + 3) 28 Try.underlying57 infoI64S (by rfl) (by omega) v m vs (by rfl) (O.out.kept (B2.out.alloc (by omega) _)) _ 0 1 1 [.slice A2 nj c2] (by rfl) (by rfl) (src_cells w2 28 [.slice A2 nj c2]) (one_slice _ _ _) (by omega) (by omega) (by rw [World.heap_size_alloc]; omega) ?_); intro v3 w3 o3 g3 a3; have y3 := g3.size; rw [World.heap_size_alloc] at y3; obtain ⟨A3, c3, rfl⟩ := OwnV.form o3; obtain ⟨z0, z1, zf0, zf1⟩ := (((HKH.out _ B2.out).below ((Below.refl w2.heap.size w2).alloc (Nat.le_refl _) (.cells #[.slice A2 nj c2] 28)) (by omega)).grown g3 (fun g hg => by have := (OL.out g hg).1; omega)); have hS3 : w3.cell? ⟨w.heap.size, 0, none⟩ = some (.slice (some ⟨g, off, none⟩) n0 c0) ∧ w3.cell? ⟨g, off + m, none⟩ = some (.slice Aj nj cj) := (by obtain ⟨j0, j1⟩ := HKS.out _ (B2.out.alloc (by omega) (.cells #[.slice A2 nj c2] 28)); exact ⟨((gcellT g3 (b := w.heap.size) (by rw [World.heap_size_alloc]; omega) (fun g9 hg9 => by have := (OL.out g9 hg9).1; omega)).1 _).trans j0, ((gcellT g3 (b := g) (by rw [World.heap_size_alloc]; omega) (fun g9 hg9 => by have := (OL.out g9 hg9).1; omega)).1 _).trans j1⟩); have hS4 : (w3.setCell ⟨w.heap.size + 2, 0, none⟩ (.slice A3 (m + 1) c3)).cell? ⟨w.heap.size, 0, none⟩ = some (.slice (some ⟨g, off, none⟩) n0 c0) ∧ (w3.setCell ⟨w.heap.size + 2, 0, none⟩ (.slice A3 (m + 1) c3)).cell? ⟨g, off + m, none⟩ = some (.slice Aj nj cj) := (by obtain ⟨j0, j1⟩ := hS3; exact ⟨(World.cell?_setCell_far _ _ _ _ (by simp only []; omega)).trans j0, (World.cell?_setCell_far _ _ _ _ (by simp only []; omega)).trans j1⟩))
                    refine hK.out _ _ ?hS_35 (fun hHeld => ?nx_35)
                    case hS_35 => ((try dsimp only); (first | exact HKS.out _ ((Below.refl _ _).drew) | exact HKS.out _ B2.out | exact HKS.out _ (B2.out.alloc (by omega) _) | exact hS3 | exact hS4))
                    case nx_35 =>
                      clear hK K
                      (try simp only [Act.put, List.setIfInBounds_toArray, List.set_cons_zero, List.set_cons_succ])
                      refine wpAnyH_take (i := 10) (oi := ?oi_36) (v := ?v_36) ?hi_36 (by kernel_rfl) (by kernel_rfl) (by kernel_rfl) (fun _ _ _ h => h) (Or.inl ⟨?hg_36, ?hy_36⟩) (by assumption) ?rest_36
                      case hi_36 => (simp only [List.getElem?_toArray, List.getElem?_cons_zero, List.getElem?_cons_succ]; rfl)
                      case hg_36 => rfl
                      case hy_36 => (intro w9 hSw; (try dsimp only at hSw); (go_simp <;> with_reducible rfl))
                      (try simp only [Act.put, List.setIfInBounds_toArray, List.set_cons_zero, List.set_cons_succ])
                      refine wpAnyH_ready (rs := [11]) (by kernel_rfl) (by simp) ?_
                      refine AllReadyH.cons (o := ?oi_37) ?hi_37 (fun K hK => ?step_37) ?more_37
                      case hi_37 => (simp only [List.getElem?_toArray, List.getElem?_cons_zero, List.getElem?_cons_succ]; rfl)
                      case step_37 =>
                        go_simp
                        refine hK.out _ _ ?hS_38 (fun hHeld => ?nx_38)
                        case hS_38 => ((try dsimp only); (first | exact HKS.out _ ((Below.refl _ _).drew) | exact HKS.out _ B2.out | exact HKS.out _ (B2.out.alloc (by omega) _) | exact hS3 | exact hS4))
                        case nx_38 =>
                          clear hK K
                          (try simp only [Act.put, List.setIfInBounds_toArray, List.set_cons_zero, List.set_cons_succ])
                          refine wpAnyH_done (by kernel_rfl) ?_ _
                          refine NoPanic.normal ?_
                          have hbW : Below w2.heap.size w2 (w2.alloc (.cells #[.slice A2 nj c2] 28)) := (Below.refl w2.heap.size w2).alloc (Nat.le_refl _) _
                          have V3 := V.out.push O.out.lt2 B2.out hobz S2.out HX.out hbW g3 a3
                          have hb3 : Below ((w.heap.size + 3)) wr w3 := ((B2.out.mono hobz).alloc (by omega) _).trans (grown_below g3 (by (try simp only [World.heap_size_alloc, World.heap_size_drew, World.heap_size_setCell]); omega) (fun g hg => (OL.out g hg).1))
                          have BX3 : Hid (Box2 w3 (w.heap.size + 2) v (.slice none 0 0)) := Lib.hid ⟨z0, z1, zf0, zf1⟩
                          have u3 : Upd (w.heap.size + 2) (w.heap.size + 3) w3 (w3.setCell ⟨w.heap.size + 2, 0, none⟩ (.slice A3 (m + 1) c3)) := Box2.upd1
                          have O4 := Lib.hid (OwnV.upd o3 u3 (fun g hg => .inr (by have := (OwnV.lt o3 g hg).1; omega)))
                          have V4 := Lib.hid (V3.upd u3 (.inr hob3))
                          have B3 := Lib.hid hb3
                          have U3 := Lib.hid u3
                          clear o3 g3 a3 V3 hbW hb3 u3 hS3 hS4
                          go_wp2_with fail
                          go_roundw
                          case rel => exact ⟨m + 1, _, _, hlt, by go_num, BX3.out.set0 _, O4, by rw [World.heap_size_setCell]; exact V4, (HB.out.trans (B3.out.mono (by omega))).setCell (p := ⟨w.heap.size + 2, 0, none⟩) (Nat.le_refl _) _⟩
                          case measure => simp [intOf]; omega
                      exact AllReadyH.nil
                  exact AllReadyH.nil
              exact AllReadyH.nil
          exact AllReadyH.nil
      exact AllReadyH.nil
    · have hmn : m = n0 := by omega
      have v1' := V.out
      rw [hmn, ← L0.out, List.take_length] at v1'
      have o1' := O.out
      rw [hmn] at o1'
      obtain ⟨X0, d0, rfl, -, s0⟩ := SlR.of_own o1' v1' (Nat.le_refl _) (Nat.le_refl _)
      have S0 := Lib.hid s0
      have KF0 := Lib.hid (KF.of_own o1')
      have BXO := Lib.hid hbx
      have HBO := Lib.hid hb
      clear v1' o1' O V s0 hmn hbx hb
      go_wp2_with fail
      obtain ⟨wo, rfl⟩ : ∃ wo, wo = wr := ⟨wr, rfl⟩
      clear q0 q1
      have hwo := hobz
      clear hobz hob3 hblt
      go_loopw [5] (fun i wr => ∃ (m : Nat) (v : Value) (vs : List Value), m ≤ n1 ∧ i = .int .i64 m ∧ Box2 wr (w.heap.size + 2) (.slice X0 n0 d0) v ∧ Hid (OwnV wr wo.heap.size 135 2 v m vs) ∧ Hid (VWr wr wo.heap.size wr.heap.size v.ownBlock vs (v0.take m)) ∧ Upd (w.heap.size + 2) (w.heap.size + 3) wo wr) (fun i _ => n1 - (intOf i).toNat)
      case atStart => exact ⟨0, _, [], Nat.zero_le _, rfl, BXO.out, Lib.hid (OwnV.nil _ _ _ _), Lib.hid (VWr.nil _ _ _ _), Upd.refl _ _ _⟩
      case round =>
        clear BXO
        obtain ⟨m, v, vs, hm, rfl, hbx, O, V, hu⟩ := hrel
        have hobz := hu.size
        have hblt := hbx.lt
        have hob3 : w.heap.size + 3 ≤ wo.heap.size := hwo
        have hb : Below (w.heap.size + 2) W0 wr := HBO.out.trans (hu.below (Nat.le_refl _) (by omega))
        obtain ⟨q0, q1, -, -⟩ := BA.out.below hb (by omega)
        by_cases hlt : m < n1
        · obtain ⟨r, hr⟩ : ∃ r, v0[m]? = some r := ⟨v0[m]'(by rw [L1.out]; exact hlt), List.getElem?_eq_getElem _⟩
          obtain ⟨g, off, Aj, nj, cj, rfl, _, hg, p0, p1, hs⟩ := H1.out.lie m r hr
          have hw : Below w.heap.size w wr := BS.out.trans (hb.mono (by omega))
          have r0 := (hw.cell (p := ⟨g, off + m * 2, none⟩) (show g < w.heap.size by omega)).trans p0
          have r1 := (hw.cell (p := ⟨g, off + m * 2 + 1, none⟩) (show g < w.heap.size by omega)).trans p1
          have hnj : nj ≤ 1000000 := by
            have h8 := R1.out m r hr
            have h9 := hs.len
            omega
          have HS := Lib.hid (hs.below hw hhi)
          have HX := Lib.hid hr
          have HU := Lib.hid hu
          have OL := Lib.hid O.out.lt
          have hgw : g < wr.heap.size := by omega
          have HK : ∀ W, Below wr.heap.size wr W → Box2 W (w.heap.size + 2) (.slice X0 n0 d0) v := fun W hW => hbx.below hW hblt
          have HKH := Lib.hid HK
          obtain ⟨x0, x1, xf0, xf1⟩ := id hbx
          clear p0 p1 hs hr hb hw hbx HK hu
          have HKS : Hid (∀ W, Below wr.heap.size wr W → (W.cell? ⟨w.heap.size, 1, none⟩ = some (.slice (some ⟨g, off, none⟩) n1 c1) ∧ W.cell? ⟨g, off + m * 2, none⟩ = some (.int .i64 r.at_) ∧ W.cell? ⟨g, off + m * 2 + 1, none⟩ = some (.slice Aj nj cj))) := Lib.hid (fun W hW => ⟨(hW.cell (p := ⟨w.heap.size, 1, none⟩) (show w.heap.size < wr.heap.size by omega)).trans q1, (hW.cell (p := ⟨g, off + m * 2, none⟩) (show g < wr.heap.size by omega)).trans r0, (hW.cell (p := ⟨g, off + m * 2 + 1, none⟩) (show g < wr.heap.size by omega)).trans r1⟩)
          go_wp2_with fail
          refine wp_region_noPanic ?_
          refine wp_region_held_drew (S := (fun w' => w'.cell? ⟨w.heap.size, 1, none⟩ = some (.slice (some ⟨g, off, none⟩) n1 c1) ∧ w'.cell? ⟨g, off + m * 2, none⟩ = some (.int .i64 r.at_) ∧ w'.cell? ⟨g, off + m * 2 + 1, none⟩ = some (.slice Aj nj cj))) (by kernel_rfl) ?hS_39 (fun hHeld => ?rest_39)
          case hS_39 => ((try dsimp only); (first | exact HKS.out _ ((Below.refl _ _).drew) | exact HKS.out _ B2.out | exact HKS.out _ (B2.out.alloc (by omega) _) | exact hS3 | exact hS4))
          refine wpAnyH_take (i := 0) (oi := ?oi_40) (v := ?v_40) ?hi_40 (by kernel_rfl) (by kernel_rfl) (by kernel_rfl) (fun _ _ _ h => h) (Or.inl ⟨?hg_40, ?hy_40⟩) (by assumption) ?rest_40
          case hi_40 => (simp only [List.getElem?_toArray, List.getElem?_cons_zero, List.getElem?_cons_succ]; rfl)
          case hg_40 => rfl
          case hy_40 => (intro w9 hSw; (try dsimp only at hSw); (go_simp <;> with_reducible rfl))
          (try simp only [Act.put, List.setIfInBounds_toArray, List.set_cons_zero, List.set_cons_succ])
          refine wpAnyH_take (i := 2) (oi := ?oi_41) (v := ?v_41) ?hi_41 (by kernel_rfl) (by kernel_rfl) (by kernel_rfl) (fun _ _ _ h => h) (Or.inl ⟨?hg_41, ?hy_41⟩) (by assumption) ?rest_41
          case hi_41 => (simp only [List.getElem?_toArray, List.getElem?_cons_zero, List.getElem?_cons_succ]; rfl)
          case hg_41 => rfl
          case hy_41 => (intro w9 hSw; (try dsimp only at hSw); (go_simp <;> with_reducible rfl))
          (try simp only [Act.put, List.setIfInBounds_toArray, List.set_cons_zero, List.set_cons_succ])
          refine wpAnyH_take (i := 3) (oi := ?oi_42) (v := ?v_42) ?hi_42 (by kernel_rfl) (by kernel_rfl) (by kernel_rfl) (fun _ _ _ h => h) (Or.inl ⟨?hg_42, ?hy_42⟩) (by assumption) ?rest_42
          case hi_42 => (simp only [List.getElem?_toArray, List.getElem?_cons_zero, List.getElem?_cons_succ]; rfl)
          case hg_42 => rfl
          case hy_42 => (intro w9 hSw; (try dsimp only at hSw); (go_simp <;> with_reducible rfl))
          (try simp only [Act.put, List.setIfInBounds_toArray, List.set_cons_zero, List.set_cons_succ])
          refine wpAnyH_take (i := 4) (oi := ?oi_43) (v := ?v_43) ?hi_43 (by kernel_rfl) (by kernel_rfl) (by kernel_rfl) (fun _ _ _ h => h) (Or.inl ⟨?hg_43, ?hy_43⟩) (by assumption) ?rest_43
          case hi_43 => (simp only [List.getElem?_toArray, List.getElem?_cons_zero, List.getElem?_cons_succ]; rfl)
          case hg_43 => rfl
          case hy_43 => (intro w9 hSw; (try dsimp only at hSw); (go_simp <;> with_reducible rfl))
          (try simp only [Act.put, List.setIfInBounds_toArray, List.set_cons_zero, List.set_cons_succ])
          refine wpAnyH_take (i := 5) (oi := ?oi_44) (v := ?v_44) ?hi_44 (by kernel_rfl) (by kernel_rfl) (by kernel_rfl) (fun _ _ _ h => h) (Or.inl ⟨?hg_44, ?hy_44⟩) (by assumption) ?rest_44
          case hi_44 => (simp only [List.getElem?_toArray, List.getElem?_cons_zero, List.getElem?_cons_succ]; rfl)
          case hg_44 => rfl
          case hy_44 => (intro w9 hSw; (try dsimp only at hSw); (go_simp <;> with_reducible rfl))
          (try simp only [Act.put, List.setIfInBounds_toArray, List.set_cons_zero, List.set_cons_succ])
          refine wpAnyH_take (i := 6) (oi := ?oi_45) (v := ?v_45) ?hi_45 (by kernel_rfl) (by kernel_rfl) (by kernel_rfl) (fun _ _ _ h => h) (Or.inl ⟨?hg_45, ?hy_45⟩) (by assumption) ?rest_45
          case hi_45 => (simp only [List.getElem?_toArray, List.getElem?_cons_zero, List.getElem?_cons_succ]; rfl)
          case hg_45 => rfl
          case hy_45 => (intro w9 hSw; (try dsimp only at hSw); (go_simp <;> with_reducible rfl))
          (try simp only [Act.put, List.setIfInBounds_toArray, List.set_cons_zero, List.set_cons_succ])
          refine wpAnyH_take (i := 7) (oi := ?oi_46) (v := ?v_46) ?hi_46 (by kernel_rfl) (by kernel_rfl) (by kernel_rfl) (fun _ _ _ h => h) (Or.inl ⟨?hg_46, ?hy_46⟩) (by assumption) ?rest_46
          case hi_46 => (simp only [List.getElem?_toArray, List.getElem?_cons_zero, List.getElem?_cons_succ]; rfl)
          case hg_46 => rfl
          case hy_46 => (intro w9 hSw; (try dsimp only at hSw); (go_simp <;> with_reducible rfl))
          (try simp only [Act.put, List.setIfInBounds_toArray, List.set_cons_zero, List.set_cons_succ])
          refine wpAnyH_take (i := 8) (oi := ?oi_47) (v := ?v_47) ?hi_47 (by kernel_rfl) (by kernel_rfl) (by kernel_rfl) (fun _ _ _ h => h) (Or.inl ⟨?hg_47, ?hy_47⟩) (by assumption) ?rest_47
          case hi_47 => (simp only [List.getElem?_toArray, List.getElem?_cons_zero, List.getElem?_cons_succ]; rfl)
          case hg_47 => rfl
          case hy_47 => (intro w9 hSw; (try dsimp only at hSw); (go_simp <;> with_reducible rfl))
          (try simp only [Act.put, List.setIfInBounds_toArray, List.set_cons_zero, List.set_cons_succ])
          refine wpAnyH_take (i := 9) (oi := ?oi_48) (v := ?v_48) ?hi_48 (by kernel_rfl) (by kernel_rfl) (by kernel_rfl) (fun _ _ _ h => h) (Or.inl ⟨?hg_48, ?hy_48⟩) (by assumption) ?rest_48
          case hi_48 => (simp only [List.getElem?_toArray, List.getElem?_cons_zero, List.getElem?_cons_succ]; rfl)
          case hg_48 => rfl
          case hy_48 => (intro w9 hSw; (try dsimp only at hSw); (go_simp <;> with_reducible rfl))
          (try simp only [Act.put, List.setIfInBounds_toArray, List.set_cons_zero, List.set_cons_succ])
          refine wpAnyH_take (i := 10) (oi := ?oi_49) (v := ?v_49) ?hi_49 (by kernel_rfl) (by kernel_rfl) (by kernel_rfl) (fun _ _ _ h => h) (Or.inl ⟨?hg_49, ?hy_49⟩) (by assumption) ?rest_49
          case hi_49 => (simp only [List.getElem?_toArray, List.getElem?_cons_zero, List.getElem?_cons_succ]; rfl)
          case hg_49 => rfl
          case hy_49 => (intro w9 hSw; (try dsimp only at hSw); (go_simp <;> with_reducible rfl))
          (try simp only [Act.put, List.setIfInBounds_toArray, List.set_cons_zero, List.set_cons_succ])
          refine wpAnyH_take (i := 11) (oi := ?oi_50) (v := ?v_50) ?hi_50 (by kernel_rfl) (by kernel_rfl) (by kernel_rfl) (fun _ _ _ h => h) (Or.inl ⟨?hg_50, ?hy_50⟩) (by assumption) ?rest_50
          case hi_50 => (simp only [List.getElem?_toArray, List.getElem?_cons_zero, List.getElem?_cons_succ]; rfl)
          case hg_50 => rfl
          case hy_50 => (intro w9 hSw; (try dsimp only at hSw); (go_simp <;> with_reducible rfl))
          (try simp only [Act.put, List.setIfInBounds_toArray, List.set_cons_zero, List.set_cons_succ])
          refine wpAnyH_take (i := 12) (oi := ?oi_51) (v := ?v_51) ?hi_51 (by kernel_rfl) (by kernel_rfl) (by kernel_rfl) (fun _ _ _ h => h) (Or.inl ⟨?hg_51, ?hy_51⟩) (by assumption) ?rest_51
          case hi_51 => (simp only [List.getElem?_toArray, List.getElem?_cons_zero, List.getElem?_cons_succ]; rfl)
          case hg_51 => rfl
          case hy_51 => (intro w9 hSw; (try dsimp only at hSw); (go_simp <;> with_reducible rfl))
          (try simp only [Act.put, List.setIfInBounds_toArray, List.set_cons_zero, List.set_cons_succ])
          refine wpAnyH_take (i := 13) (oi := ?oi_52) (v := ?v_52) ?hi_52 (by kernel_rfl) (by kernel_rfl) (by kernel_rfl) (fun _ _ _ h => h) (Or.inl ⟨?hg_52, ?hy_52⟩) (by assumption) ?rest_52
          case hi_52 => (simp only [List.getElem?_toArray, List.getElem?_cons_zero, List.getElem?_cons_succ]; rfl)
          case hg_52 => rfl
          case hy_52 => (intro w9 hSw; (try dsimp only at hSw); (go_simp <;> with_reducible rfl))
          (try simp only [Act.put, List.setIfInBounds_toArray, List.set_cons_zero, List.set_cons_succ])
          refine wpAnyH_ready (rs := [1, 14]) (by kernel_rfl) (by simp) ?_
          refine AllReadyH.cons (o := ?oi_53) ?hi_53 (fun K hK => ?step_53) ?more_53
          case hi_53 => (simp only [List.getElem?_toArray, List.getElem?_cons_zero, List.getElem?_cons_succ]; rfl)
          case step_53 =>
            go_simp
            refine hK.out _ _ ?hS_54 (fun hHeld => ?nx_54)
            case hS_54 => ((try dsimp only); (first | exact HKS.out _ ((Below.refl _ _).drew) | exact HKS.out _ B2.out | exact HKS.out _ (B2.out.alloc (by omega) _) | exact hS3 | exact hS4))
            case nx_54 =>
              clear hK K
              (try simp only [Act.put, List.setIfInBounds_toArray, List.set_cons_zero, List.set_cons_succ])
              refine wpAnyH_ready (rs := [14]) (by kernel_rfl) (by simp) ?_
              refine AllReadyH.cons (o := ?oi_55) ?hi_55 (fun K hK => ?step_55) ?more_55
              case hi_55 => (simp only [List.getElem?_toArray, List.getElem?_cons_zero, List.getElem?_cons_succ]; rfl)
              case step_55 =>
                go_simp
                (go_at_call 181; (with_reducible refine (l1Copy_any _ _ _ _ _ r.row _ (HS.out.below (B := wr.heap.size) (by (repeat' (first | with_reducible exact Below.refl _ _ | with_reducible assumption | with_reducible refine Below.drew ?_ | with_reducible refine Below.alloc ?_ ?_ _ | with_reducible refine Below.setCell ?_ ?_ _ | with_reducible refine Below.trans ?_ (Below.mono (by assumption) ?_) | ((try simp only [World.heap_size_alloc, World.heap_size_drew, World.heap_size_setCell]); omega)))) (by omega)) hnj).mono ?_); rintro _ w2 ⟨A2, c2, rfl, s2, b2⟩; have y2 := b2.size; (try simp only [World.heap_size_alloc, World.heap_size_drew] at y2); have hb2 : Below wr.heap.size wr w2 := Below.trans (by (repeat' (first | with_reducible exact Below.refl _ _ | with_reducible assumption | with_reducible refine Below.drew ?_ | with_reducible refine Below.alloc ?_ ?_ _ | with_reducible refine Below.setCell ?_ ?_ _ | with_reducible refine Below.trans ?_ (Below.mono (by assumption) ?_) | ((try simp only [World.heap_size_alloc, World.heap_size_drew, World.heap_size_setCell]); omega)))) (b2.mono (by (try simp only [World.heap_size_alloc, World.heap_size_drew, World.heap_size_setCell]); omega)); have S2 := Lib.hid (s2.mono (lo' := wr.heap.size) (by (try simp only [World.heap_size_alloc, World.heap_size_drew, World.heap_size_setCell]); omega) (Nat.le_refl _)); have B2 := Lib.hid hb2; obtain ⟨x0, x1, xf0, xf1⟩ := HKH.out _ hb2; have hz7 : w.heap.size + 2 < w2.heap.size := (by omega); have x1a : (w2.alloc (.cells #[.int .i64 r.at_, .slice A2 nj c2] 135)).cell? ⟨w.heap.size + 2, 1, none⟩ = some v := (World.cell?_alloc_lt _ _ _ hz7).trans x1; clear s2 b2 hb2)
                (try go_wp2_with fail)
                refine hK.out _ _ ?hS_56 (fun hHeld => ?nx_56)
                case hS_56 => ((try dsimp only); (first | exact HKS.out _ ((Below.refl _ _).drew) | exact HKS.out _ B2.out | exact HKS.out _ (B2.out.alloc (by omega) _) | exact hS3 | exact hS4))
                case nx_56 =>
                  clear hK K
                  (try simp only [Act.put, List.setIfInBounds_toArray, List.set_cons_zero, List.set_cons_succ])
                  refine wpAnyH_take (i := 15) (oi := ?oi_57) (v := ?v_57) ?hi_57 (by kernel_rfl) (by kernel_rfl) (by kernel_rfl) (fun _ _ _ h => h) (Or.inl ⟨?hg_57, ?hy_57⟩) (by assumption) ?rest_57
                  case hi_57 => (simp only [List.getElem?_toArray, List.getElem?_cons_zero, List.getElem?_cons_succ]; rfl)
                  case hg_57 => rfl
                  case hy_57 => (intro w9 hSw; (try dsimp only at hSw); (go_simp <;> with_reducible rfl))
                  (try simp only [Act.put, List.setIfInBounds_toArray, List.set_cons_zero, List.set_cons_succ])
                  refine wpAnyH_ready (rs := [16]) (by kernel_rfl) (by simp) ?_
                  refine AllReadyH.cons (o := ?oi_58) ?hi_58 (fun K hK => ?step_58) ?more_58
                  case hi_58 => (simp only [List.getElem?_toArray, List.getElem?_cons_zero, List.getElem?_cons_succ]; rfl)
                  case step_58 =>
                    go_simp
                    refine hK.out _ _ ?hS_59 (fun hHeld => ?nx_59)
                    case hS_59 => ((try dsimp only); (first | exact HKS.out _ ((Below.refl _ _).drew) | exact HKS.out _ B2.out | exact HKS.out _ (B2.out.alloc (by omega) _) | exact hS3 | exact hS4))
                    case nx_59 =>
                      clear hK K
                      (try simp only [Act.put, List.setIfInBounds_toArray, List.set_cons_zero, List.set_cons_succ])
                      refine wpAnyH_ready (rs := [17]) (by kernel_rfl) (by simp) ?_
                      refine AllReadyH.cons (o := ?oi_60) ?hi_60 (fun K hK => ?step_60) ?more_60
                      case hi_60 => (simp only [List.getElem?_toArray, List.getElem?_cons_zero, List.getElem?_cons_succ]; rfl)
                      case step_60 =>
                        (go_loud (refine step_append_v _ (by rfl) (.tmp 33) (.tmp 48) 65 (by rfl) wo.heap.size 135 Try.underlying65 infoWrite (by rfl) (by omega) v m vs (by rfl) (O.out.kept (B2.out.alloc (by omega) _)) _ 0 1 1 [.int .i64 r.at_, .slice A2 nj c2] (by rfl) (by rfl) (src_cells w2 135 [.int .i64 r.at_, .slice A2 nj c2]) (one_write _ _ _ _) (by omega) (by omega) (by rw [World.heap_size_alloc]; omega) ?_); intro v3 w3 o3 g3 a3; have y3 := g3.size; rw [World.heap_size_alloc] at y3; obtain ⟨A3, c3, rfl⟩ := OwnV.form o3; obtain ⟨z0, z1, zf0, zf1⟩ := (((HKH.out _ B2.out).below ((Below.refl w2.heap.size w2).alloc (Nat.le_refl _) (.cells #[.int .i64 r.at_, .slice A2 nj c2] 135)) (by omega)).grown g3 (fun g hg => by have := (OL.out g hg).1; omega)); have hS3 : w3.cell? ⟨w.heap.size, 1, none⟩ = some (.slice (some ⟨g, off, none⟩) n1 c1) ∧ w3.cell? ⟨g, off + m * 2, none⟩ = some (.int .i64 r.at_) ∧ w3.cell? ⟨g, off + m * 2 + 1, none⟩ = some (.slice Aj nj cj) := (by obtain ⟨j0, j1, j2⟩ := HKS.out _ (B2.out.alloc (by omega) (.cells #[.int .i64 r.at_, .slice A2 nj c2] 135)); exact ⟨((gcellT g3 (b := w.heap.size) (by rw [World.heap_size_alloc]; omega) (fun g9 hg9 => by have := (OL.out g9 hg9).1; omega)).1 _).trans j0, ((gcellT g3 (b := g) (by rw [World.heap_size_alloc]; omega) (fun g9 hg9 => by have := (OL.out g9 hg9).1; omega)).1 _).trans j1, ((gcellT g3 (b := g) (by rw [World.heap_size_alloc]; omega) (fun g9 hg9 => by have := (OL.out g9 hg9).1; omega)).1 _).trans j2⟩); have hS4 : (w3.setCell ⟨w.heap.size + 2, 1, none⟩ (.slice A3 (m + 1) c3)).cell? ⟨w.heap.size, 1, none⟩ = some (.slice (some ⟨g, off, none⟩) n1 c1) ∧ (w3.setCell ⟨w.heap.size + 2, 1, none⟩ (.slice A3 (m + 1) c3)).cell? ⟨g, off + m * 2, none⟩ = some (.int .i64 r.at_) ∧ (w3.setCell ⟨w.heap.size + 2, 1, none⟩ (.slice A3 (m + 1) c3)).cell? ⟨g, off + m * 2 + 1, none⟩ = some (.slice Aj nj cj) := (by obtain ⟨j0, j1, j2⟩ := hS3; exact ⟨(World.cell?_setCell_far _ _ _ _ (by simp only []; omega)).trans j0, (World.cell?_setCell_far _ _ _ _ (by simp only []; omega)).trans j1, (World.cell?_setCell_far _ _ _ _ (by simp only []; omega)).trans j2⟩))
                        refine hK.out _ _ ?hS_61 (fun hHeld => ?nx_61)
                        case hS_61 => ((try dsimp only); (first | exact HKS.out _ ((Below.refl _ _).drew) | exact HKS.out _ B2.out | exact HKS.out _ (B2.out.alloc (by omega) _) | exact hS3 | exact hS4))
                        case nx_61 =>
                          clear hK K
                          (try simp only [Act.put, List.setIfInBounds_toArray, List.set_cons_zero, List.set_cons_succ])
                          refine wpAnyH_take (i := 18) (oi := ?oi_62) (v := ?v_62) ?hi_62 (by kernel_rfl) (by kernel_rfl) (by kernel_rfl) (fun _ _ _ h => h) (Or.inl ⟨?hg_62, ?hy_62⟩) (by assumption) ?rest_62
                          case hi_62 => (simp only [List.getElem?_toArray, List.getElem?_cons_zero, List.getElem?_cons_succ]; rfl)
                          case hg_62 => rfl
                          case hy_62 => (intro w9 hSw; (try dsimp only at hSw); (go_simp <;> with_reducible rfl))
                          (try simp only [Act.put, List.setIfInBounds_toArray, List.set_cons_zero, List.set_cons_succ])
                          refine wpAnyH_ready (rs := [19]) (by kernel_rfl) (by simp) ?_
                          refine AllReadyH.cons (o := ?oi_63) ?hi_63 (fun K hK => ?step_63) ?more_63
                          case hi_63 => (simp only [List.getElem?_toArray, List.getElem?_cons_zero, List.getElem?_cons_succ]; rfl)
                          case step_63 =>
                            go_simp
                            refine hK.out _ _ ?hS_64 (fun hHeld => ?nx_64)
                            case hS_64 => ((try dsimp only); (first | exact HKS.out _ ((Below.refl _ _).drew) | exact HKS.out _ B2.out | exact HKS.out _ (B2.out.alloc (by omega) _) | exact hS3 | exact hS4))
                            case nx_64 =>
                              clear hK K
                              (try simp only [Act.put, List.setIfInBounds_toArray, List.set_cons_zero, List.set_cons_succ])
                              refine wpAnyH_done (by kernel_rfl) ?_ _
                              refine NoPanic.normal ?_
                              have hbW : Below w2.heap.size w2 (w2.alloc (.cells #[.int .i64 r.at_, .slice A2 nj c2] 135)) := (Below.refl w2.heap.size w2).alloc (Nat.le_refl _) _
                              have V3 := V.out.push O.out.lt2 B2.out hobz (Nat.le_refl _) S2.out HX.out hbW g3 a3
                              have hb3 : Below (wo.heap.size) wr w3 := ((B2.out.mono hobz).alloc (by omega) _).trans (grown_below g3 (by (try simp only [World.heap_size_alloc, World.heap_size_drew, World.heap_size_setCell]); omega) (fun g hg => (OL.out g hg).1))
                              have BX3 : Hid (Box2 w3 (w.heap.size + 2) (.slice X0 n0 d0) v) := Lib.hid ⟨z0, z1, zf0, zf1⟩
                              have u3 : Upd (w.heap.size + 2) (w.heap.size + 3) w3 (w3.setCell ⟨w.heap.size + 2, 1, none⟩ (.slice A3 (m + 1) c3)) := Box2.upd1
                              have O4 := Lib.hid (OwnV.upd o3 u3 (fun g hg => .inr (by have := (OwnV.lt o3 g hg).1; omega)))
                              have V4 := Lib.hid (V3.upd u3 (.inr hob3))
                              have B3 := Lib.hid hb3
                              have U3 := Lib.hid u3
                              clear o3 g3 a3 V3 hbW hb3 u3 hS3 hS4
                              go_wp2_with fail
                              go_roundw
                              case rel =>
                                have B5 : Hid (Upd (w.heap.size + 2) (w.heap.size + 3) wo (w3.setCell ⟨w.heap.size + 2, 1, none⟩ (.slice A3 (m + 1) c3))) := Lib.hid ((HU.out.after7 B3.out (by omega)).trans U3.out)
                                exact ⟨m + 1, _, _, hlt, by go_num, BX3.out.set1 _, O4, by rw [World.heap_size_setCell]; exact V4, B5.out⟩
                              case measure => simp [intOf]; omega
                          exact AllReadyH.nil
                      exact AllReadyH.nil
                  exact AllReadyH.nil
              exact AllReadyH.nil
          refine AllReadyH.cons (o := ?oi_65) ?hi_65 (fun K hK => ?step_65) ?more_65
          case hi_65 => (simp only [List.getElem?_toArray, List.getElem?_cons_zero, List.getElem?_cons_succ]; rfl)
          case step_65 =>
            go_simp
            (go_at_call 181; (with_reducible refine (l1Copy_any _ _ _ _ _ r.row _ (HS.out.below (B := wr.heap.size) (by (repeat' (first | with_reducible exact Below.refl _ _ | with_reducible assumption | with_reducible refine Below.drew ?_ | with_reducible refine Below.alloc ?_ ?_ _ | with_reducible refine Below.setCell ?_ ?_ _ | with_reducible refine Below.trans ?_ (Below.mono (by assumption) ?_) | ((try simp only [World.heap_size_alloc, World.heap_size_drew, World.heap_size_setCell]); omega)))) (by omega)) hnj).mono ?_); rintro _ w2 ⟨A2, c2, rfl, s2, b2⟩; have y2 := b2.size; (try simp only [World.heap_size_alloc, World.heap_size_drew] at y2); have hb2 : Below wr.heap.size wr w2 := Below.trans (by (repeat' (first | with_reducible exact Below.refl _ _ | with_reducible assumption | with_reducible refine Below.drew ?_ | with_reducible refine Below.alloc ?_ ?_ _ | with_reducible refine Below.setCell ?_ ?_ _ | with_reducible refine Below.trans ?_ (Below.mono (by assumption) ?_) | ((try simp only [World.heap_size_alloc, World.heap_size_drew, World.heap_size_setCell]); omega)))) (b2.mono (by (try simp only [World.heap_size_alloc, World.heap_size_drew, World.heap_size_setCell]); omega)); have S2 := Lib.hid (s2.mono (lo' := wr.heap.size) (by (try simp only [World.heap_size_alloc, World.heap_size_drew, World.heap_size_setCell]); omega) (Nat.le_refl _)); have B2 := Lib.hid hb2; obtain ⟨x0, x1, xf0, xf1⟩ := HKH.out _ hb2; have hz7 : w.heap.size + 2 < w2.heap.size := (by omega); have x1a : (w2.alloc (.cells #[.int .i64 r.at_, .slice A2 nj c2] 135)).cell? ⟨w.heap.size + 2, 1, none⟩ = some v := (World.cell?_alloc_lt _ _ _ hz7).trans x1; clear s2 b2 hb2)
            (try go_wp2_with fail)
            refine hK.out _ _ ?hS_66 (fun hHeld => ?nx_66)
            case hS_66 => ((try dsimp only); (first | exact HKS.out _ ((Below.refl _ _).drew) | exact HKS.out _ B2.out | exact HKS.out _ (B2.out.alloc (by omega) _) | exact hS3 | exact hS4))
            case nx_66 =>
              clear hK K
              (try simp only [Act.put, List.setIfInBounds_toArray, List.set_cons_zero, List.set_cons_succ])
              refine wpAnyH_take (i := 15) (oi := ?oi_67) (v := ?v_67) ?hi_67 (by kernel_rfl) (by kernel_rfl) (by kernel_rfl) (fun _ _ _ h => h) (Or.inl ⟨?hg_67, ?hy_67⟩) (by assumption) ?rest_67
              case hi_67 => (simp only [List.getElem?_toArray, List.getElem?_cons_zero, List.getElem?_cons_succ]; rfl)
              case hg_67 => rfl
              case hy_67 => (intro w9 hSw; (try dsimp only at hSw); (go_simp <;> with_reducible rfl))
              (try simp only [Act.put, List.setIfInBounds_toArray, List.set_cons_zero, List.set_cons_succ])
              refine wpAnyH_ready (rs := [1, 16]) (by kernel_rfl) (by simp) ?_
              refine AllReadyH.cons (o := ?oi_68) ?hi_68 (fun K hK => ?step_68) ?more_68
              case hi_68 => (simp only [List.getElem?_toArray, List.getElem?_cons_zero, List.getElem?_cons_succ]; rfl)
              case step_68 =>
                go_simp
                refine hK.out _ _ ?hS_69 (fun hHeld => ?nx_69)
                case hS_69 => ((try dsimp only); (first | exact HKS.out _ ((Below.refl _ _).drew) | exact HKS.out _ B2.out | exact HKS.out _ (B2.out.alloc (by omega) _) | exact hS3 | exact hS4))
                case nx_69 =>
                  clear hK K
                  (try simp only [Act.put, List.setIfInBounds_toArray, List.set_cons_zero, List.set_cons_succ])
                  refine wpAnyH_ready (rs := [16]) (by kernel_rfl) (by simp) ?_
                  refine AllReadyH.cons (o := ?oi_70) ?hi_70 (fun K hK => ?step_70) ?more_70
                  case hi_70 => (simp only [List.getElem?_toArray, List.getElem?_cons_zero, List.getElem?_cons_succ]; rfl)
                  case step_70 =>
                    go_simp
                    refine hK.out _ _ ?hS_71 (fun hHeld => ?nx_71)
                    case hS_71 => ((try dsimp only); (first | exact HKS.out _ ((Below.refl _ _).drew) | exact HKS.out _ B2.out | exact HKS.out _ (B2.out.alloc (by omega) _) | exact hS3 | exact hS4))
                    case nx_71 =>
                      clear hK K
                      (try simp only [Act.put, List.setIfInBounds_toArray, List.set_cons_zero, List.set_cons_succ])
                      refine wpAnyH_ready (rs := [17]) (by kernel_rfl) (by simp) ?_
                      refine AllReadyH.cons (o := ?oi_72) ?hi_72 (fun K hK => ?step_72) ?more_72
                      case hi_72 => (simp only [List.getElem?_toArray, List.getElem?_cons_zero, List.getElem?_cons_succ]; rfl)
                      case step_72 =>
                        (go_loud (refine step_append_v _ (by rfl) (.tmp 33) (.tmp 48) 65 (by rfl) wo.heap.size 135 Try.underlying65 infoWrite (by rfl) (by omega) v m vs (by rfl) (O.out.kept (B2.out.alloc (by omega) _)) _ 0 1 1 [.int .i64 r.at_, .slice A2 nj c2] (by rfl) (by rfl) (src_cells w2 135 [.int .i64 r.at_, .slice A2 nj c2]) (one_write _ _ _ _) (by omega) (by omega) (by rw [World.heap_size_alloc]; omega) ?_); intro v3 w3 o3 g3 a3; have y3 := g3.size; rw [World.heap_size_alloc] at y3; obtain ⟨A3, c3, rfl⟩ := OwnV.form o3; obtain ⟨z0, z1, zf0, zf1⟩ := (((HKH.out _ B2.out).below ((Below.refl w2.heap.size w2).alloc (Nat.le_refl _) (.cells #[.int .i64 r.at_, .slice A2 nj c2] 135)) (by omega)).grown g3 (fun g hg => by have := (OL.out g hg).1; omega)); have hS3 : w3.cell? ⟨w.heap.size, 1, none⟩ = some (.slice (some ⟨g, off, none⟩) n1 c1) ∧ w3.cell? ⟨g, off + m * 2, none⟩ = some (.int .i64 r.at_) ∧ w3.cell? ⟨g, off + m * 2 + 1, none⟩ = some (.slice Aj nj cj) := (by obtain ⟨j0, j1, j2⟩ := HKS.out _ (B2.out.alloc (by omega) (.cells #[.int .i64 r.at_, .slice A2 nj c2] 135)); exact ⟨((gcellT g3 (b := w.heap.size) (by rw [World.heap_size_alloc]; omega) (fun g9 hg9 => by have := (OL.out g9 hg9).1; omega)).1 _).trans j0, ((gcellT g3 (b := g) (by rw [World.heap_size_alloc]; omega) (fun g9 hg9 => by have := (OL.out g9 hg9).1; omega)).1 _).trans j1, ((gcellT g3 (b := g) (by rw [World.heap_size_alloc]; omega) (fun g9 hg9 => by have := (OL.out g9 hg9).1; omega)).1 _).trans j2⟩); have hS4 : (w3.setCell ⟨w.heap.size + 2, 1, none⟩ (.slice A3 (m + 1) c3)).cell? ⟨w.heap.size, 1, none⟩ = some (.slice (some ⟨g, off, none⟩) n1 c1) ∧ (w3.setCell ⟨w.heap.size + 2, 1, none⟩ (.slice A3 (m + 1) c3)).cell? ⟨g, off + m * 2, none⟩ = some (.int .i64 r.at_) ∧ (w3.setCell ⟨w.heap.size + 2, 1, none⟩ (.slice A3 (m + 1) c3)).cell? ⟨g, off + m * 2 + 1, none⟩ = some (.slice Aj nj cj) := (by obtain ⟨j0, j1, j2⟩ := hS3; exact ⟨(World.cell?_setCell_far _ _ _ _ (by simp only []; omega)).trans j0, (World.cell?_setCell_far _ _ _ _ (by simp only []; omega)).trans j1, (World.cell?_setCell_far _ _ _ _ (by simp only []; omega)).trans j2⟩))
                        refine hK.out _ _ ?hS_73 (fun hHeld => ?nx_73)
                        case hS_73 => ((try dsimp only); (first | exact HKS.out _ ((Below.refl _ _).drew) | exact HKS.out _ B2.out | exact HKS.out _ (B2.out.alloc (by omega) _) | exact hS3 | exact hS4))
                        case nx_73 =>
                          clear hK K
                          (try simp only [Act.put, List.setIfInBounds_toArray, List.set_cons_zero, List.set_cons_succ])
                          refine wpAnyH_take (i := 18) (oi := ?oi_74) (v := ?v_74) ?hi_74 (by kernel_rfl) (by kernel_rfl) (by kernel_rfl) (fun _ _ _ h => h) (Or.inl ⟨?hg_74, ?hy_74⟩) (by assumption) ?rest_74
                          case hi_74 => (simp only [List.getElem?_toArray, List.getElem?_cons_zero, List.getElem?_cons_succ]; rfl)
                          case hg_74 => rfl
                          case hy_74 => (intro w9 hSw; (try dsimp only at hSw); (go_simp <;> with_reducible rfl))
                          (try simp only [Act.put, List.setIfInBounds_toArray, List.set_cons_zero, List.set_cons_succ])
                          refine wpAnyH_ready (rs := [19]) (by kernel_rfl) (by simp) ?_
                          refine AllReadyH.cons (o := ?oi_75) ?hi_75 (fun K hK => ?step_75) ?more_75
                          case hi_75 => (simp only [List.getElem?_toArray, List.getElem?_cons_zero, List.getElem?_cons_succ]; rfl)
                          case step_75 =>
                            go_simp
                            refine hK.out _ _ ?hS_76 (fun hHeld => ?nx_76)
                            case hS_76 => ((try dsimp only); (first | exact HKS.out _ ((Below.refl _ _).drew) | exact HKS.out _ B2.out | exact HKS.out _ (B2.out.alloc (by omega) _) | exact hS3 | exact hS4))
                            case nx_76 =>
                              clear hK K
                              (try simp only [Act.put, List.setIfInBounds_toArray, List.set_cons_zero, List.set_cons_succ])
                              refine wpAnyH_done (by kernel_rfl) ?_ _
                              refine NoPanic.normal ?_
                              have hbW : Below w2.heap.size w2 (w2.alloc (.cells #[.int .i64 r.at_, .slice A2 nj c2] 135)) := (Below.refl w2.heap.size w2).alloc (Nat.le_refl _) _
                              have V3 := V.out.push O.out.lt2 B2.out hobz (Nat.le_refl _) S2.out HX.out hbW g3 a3
                              have hb3 : Below (wo.heap.size) wr w3 := ((B2.out.mono hobz).alloc (by omega) _).trans (grown_below g3 (by (try simp only [World.heap_size_alloc, World.heap_size_drew, World.heap_size_setCell]); omega) (fun g hg => (OL.out g hg).1))
                              have BX3 : Hid (Box2 w3 (w.heap.size + 2) (.slice X0 n0 d0) v) := Lib.hid ⟨z0, z1, zf0, zf1⟩
                              have u3 : Upd (w.heap.size + 2) (w.heap.size + 3) w3 (w3.setCell ⟨w.heap.size + 2, 1, none⟩ (.slice A3 (m + 1) c3)) := Box2.upd1
                              have O4 := Lib.hid (OwnV.upd o3 u3 (fun g hg => .inr (by have := (OwnV.lt o3 g hg).1; omega)))
                              have V4 := Lib.hid (V3.upd u3 (.inr hob3))
                              have B3 := Lib.hid hb3
                              have U3 := Lib.hid u3
                              clear o3 g3 a3 V3 hbW hb3 u3 hS3 hS4
                              go_wp2_with fail
                              go_roundw
                              case rel =>
                                have B5 : Hid (Upd (w.heap.size + 2) (w.heap.size + 3) wo (w3.setCell ⟨w.heap.size + 2, 1, none⟩ (.slice A3 (m + 1) c3))) := Lib.hid ((HU.out.after7 B3.out (by omega)).trans U3.out)
                                exact ⟨m + 1, _, _, hlt, by go_num, BX3.out.set1 _, O4, by rw [World.heap_size_setCell]; exact V4, B5.out⟩
                              case measure => simp [intOf]; omega
                          exact AllReadyH.nil
                      exact AllReadyH.nil
                  exact AllReadyH.nil
              refine AllReadyH.cons (o := ?oi_77) ?hi_77 (fun K hK => ?step_77) ?more_77
              case hi_77 => (simp only [List.getElem?_toArray, List.getElem?_cons_zero, List.getElem?_cons_succ]; rfl)
              case step_77 =>
                go_simp
                refine hK.out _ _ ?hS_78 (fun hHeld => ?nx_78)
                case hS_78 => ((try dsimp only); (first | exact HKS.out _ ((Below.refl _ _).drew) | exact HKS.out _ B2.out | exact HKS.out _ (B2.out.alloc (by omega) _) | exact hS3 | exact hS4))
                case nx_78 =>
                  clear hK K
                  (try simp only [Act.put, List.setIfInBounds_toArray, List.set_cons_zero, List.set_cons_succ])
                  refine wpAnyH_ready (rs := [1]) (by kernel_rfl) (by simp) ?_
                  refine AllReadyH.cons (o := ?oi_79) ?hi_79 (fun K hK => ?step_79) ?more_79
                  case hi_79 => (simp only [List.getElem?_toArray, List.getElem?_cons_zero, List.getElem?_cons_succ]; rfl)
                  case step_79 =>
                    go_simp
                    refine hK.out _ _ ?hS_80 (fun hHeld => ?nx_80)
                    case hS_80 => ((try dsimp only); (first | exact HKS.out _ ((Below.refl _ _).drew) | exact HKS.out _ B2.out | exact HKS.out _ (B2.out.alloc (by omega) _) | exact hS3 | exact hS4))
                    case nx_80 =>
                      clear hK K
                      (try simp only [Act.put, List.setIfInBounds_toArray, List.set_cons_zero, List.set_cons_succ])
                      refine wpAnyH_ready (rs := [17]) (by kernel_rfl) (by simp) ?_
                      refine AllReadyH.cons (o := ?oi_81) ?hi_81 (fun K hK => ?step_81) ?more_81
                      case hi_81 => (simp only [List.getElem?_toArray, List.getElem?_cons_zero, List.getElem?_cons_succ]; rfl)
                      case step_81 =>
                        (go_loud (refine step_append_v _ (by rfl) (.tmp 33) (.tmp 48) 65 (by rfl) wo.heap.size 135 Try.underlying65 infoWrite (by rfl) (by omega) v m vs (by rfl) (O.out.kept (B2.out.alloc (by omega) _)) _ 0 1 1 [.int .i64 r.at_, .slice A2 nj c2] (by rfl) (by rfl) (src_cells w2 135 [.int .i64 r.at_, .slice A2 nj c2]) (one_write _ _ _ _) (by omega) (by omega) (by rw [World.heap_size_alloc]; omega) ?_); intro v3 w3 o3 g3 a3; have y3 := g3.size; rw [World.heap_size_alloc] at y3; obtain ⟨A3, c3, rfl⟩ := OwnV.form o3; obtain ⟨z0, z1, zf0, zf1⟩ := (((HKH.out _ B2.out).below ((Below.refl w2.heap.size w2).alloc (Nat.le_refl _) (.cells #[.int .i64 r.at_, .slice A2 nj c2] 135)) (by omega)).grown g3 (fun g hg => by have := (OL.out g hg).1; omega)); have hS3 : w3.cell? ⟨w.heap.size, 1, none⟩ = some (.slice (some ⟨g, off, none⟩) n1 c1) ∧ w3.cell? ⟨g, off + m * 2, none⟩ = some (.int .i64 r.at_) ∧ w3.cell? ⟨g, off + m * 2 + 1, none⟩ = some (.slice Aj nj cj) := (by obtain ⟨j0, j1, j2⟩ := HKS.out _ (B2.out.alloc (by omega) (.cells #[.int .i64 r.at_, .slice A2 nj c2] 135)); exact ⟨((gcellT g3 (b := w.heap.size) (by rw [World.heap_size_alloc]; omega) (fun g9 hg9 => by have := (OL.out g9 hg9).1; omega)).1 _).trans j0, ((gcellT g3 (b := g) (by rw [World.heap_size_alloc]; omega) (fun g9 hg9 => by have := (OL.out g9 hg9).1; omega)).1 _).trans j1, ((gcellT g3 (b := g) (by rw [World.heap_size_alloc]; omega) (fun g9 hg9 => by have := (OL.out g9 hg9).1; omega)).1 _).trans j2⟩); have hS4 : (w3.setCell ⟨w.heap.size + 2, 1, none⟩ (.slice A3 (m + 1) c3)).cell? ⟨w.heap.size, 1, none⟩ = some (.slice (some ⟨g, off, none⟩) n1 c1) ∧ (w3.setCell ⟨w.heap.size + 2, 1, none⟩ (.slice A3 (m + 1) c3)).cell? ⟨g, off + m * 2, none⟩ = some (.int .i64 r.at_) ∧ (w3.setCell ⟨w.heap.size + 2, 1, none⟩ (.slice A3 (m + 1) c3)).cell? ⟨g, off + m * 2 + 1, none⟩ = some (.slice Aj nj cj) := (by obtain ⟨j0, j1, j2⟩ := hS3; exact ⟨(World.cell?_setCell_far _ _ _ _ (by simp only []; omega)).trans j0, (World.cell?_setCell_far _ _ _ _ (by simp only []; omega)).trans j1, (World.cell?_setCell_far _ _ _ _ (by simp only []; omega)).trans j2⟩))
                        refine hK.out _ _ ?hS_82 (fun hHeld => ?nx_82)
                        case hS_82 => ((try dsimp only); (first | exact HKS.out _ ((Below.refl _ _).drew) | exact HKS.out _ B2.out | exact HKS.out _ (B2.out.alloc (by omega) _) | exact hS3 | exact hS4))
                        case nx_82 =>
                          clear hK K
                          (try simp only [Act.put, List.setIfInBounds_toArray, List.set_cons_zero, List.set_cons_succ])
                          refine wpAnyH_take (i := 18) (oi := ?oi_83) (v := ?v_83) ?hi_83 (by kernel_rfl) (by kernel_rfl) (by kernel_rfl) (fun _ _ _ h => h) (Or.inl ⟨?hg_83, ?hy_83⟩) (by assumption) ?rest_83
                          case hi_83 => (simp only [List.getElem?_toArray, List.getElem?_cons_zero, List.getElem?_cons_succ]; rfl)
                          case hg_83 => rfl
                          case hy_83 => (intro w9 hSw; (try dsimp only at hSw); (go_simp <;> with_reducible rfl))
                          (try simp only [Act.put, List.setIfInBounds_toArray, List.set_cons_zero, List.set_cons_succ])
                          refine wpAnyH_ready (rs := [19]) (by kernel_rfl) (by simp) ?_
                          refine AllReadyH.cons (o := ?oi_84) ?hi_84 (fun K hK => ?step_84) ?more_84
                          case hi_84 => (simp only [List.getElem?_toArray, List.getElem?_cons_zero, List.getElem?_cons_succ]; rfl)
                          case step_84 =>
                            go_simp
                            refine hK.out _ _ ?hS_85 (fun hHeld => ?nx_85)
                            case hS_85 => ((try dsimp only); (first | exact HKS.out _ ((Below.refl _ _).drew) | exact HKS.out _ B2.out | exact HKS.out _ (B2.out.alloc (by omega) _) | exact hS3 | exact hS4))
                            case nx_85 =>
                              clear hK K
                              (try simp only [Act.put, List.setIfInBounds_toArray, List.set_cons_zero, List.set_cons_succ])
                              refine wpAnyH_done (by kernel_rfl) ?_ _
                              refine NoPanic.normal ?_
                              have hbW : Below w2.heap.size w2 (w2.alloc (.cells #[.int .i64 r.at_, .slice A2 nj c2] 135)) := (Below.refl w2.heap.size w2).alloc (Nat.le_refl _) _
                              have V3 := V.out.push O.out.lt2 B2.out hobz (Nat.le_refl _) S2.out HX.out hbW g3 a3
                              have hb3 : Below (wo.heap.size) wr w3 := ((B2.out.mono hobz).alloc (by omega) _).trans (grown_below g3 (by (try simp only [World.heap_size_alloc, World.heap_size_drew, World.heap_size_setCell]); omega) (fun g hg => (OL.out g hg).1))
                              have BX3 : Hid (Box2 w3 (w.heap.size + 2) (.slice X0 n0 d0) v) := Lib.hid ⟨z0, z1, zf0, zf1⟩
                              have u3 : Upd (w.heap.size + 2) (w.heap.size + 3) w3 (w3.setCell ⟨w.heap.size + 2, 1, none⟩ (.slice A3 (m + 1) c3)) := Box2.upd1
                              have O4 := Lib.hid (OwnV.upd o3 u3 (fun g hg => .inr (by have := (OwnV.lt o3 g hg).1; omega)))
                              have V4 := Lib.hid (V3.upd u3 (.inr hob3))
                              have B3 := Lib.hid hb3
                              have U3 := Lib.hid u3
                              clear o3 g3 a3 V3 hbW hb3 u3 hS3 hS4
                              go_wp2_with fail
                              go_roundw
                              case rel =>
                                have B5 : Hid (Upd (w.heap.size + 2) (w.heap.size + 3) wo (w3.setCell ⟨w.heap.size + 2, 1, none⟩ (.slice A3 (m + 1) c3))) := Lib.hid ((HU.out.after7 B3.out (by omega)).trans U3.out)
                                exact ⟨m + 1, _, _, hlt, by go_num, BX3.out.set1 _, O4, by rw [World.heap_size_setCell]; exact V4, B5.out⟩
                              case measure => simp [intOf]; omega
                          exact AllReadyH.nil
                      exact AllReadyH.nil
                  exact AllReadyH.nil
              exact AllReadyH.nil
          exact AllReadyH.nil
        · have hmn : m = n1 := by omega
          have v1' := V.out
          rw [hmn, ← L1.out, List.take_length] at v1'
          have o1' := O.out
          rw [hmn] at o1'
          obtain ⟨A9, c9, rfl⟩ := OwnV.form o1'
          obtain ⟨x0, x1, xf0, xf1⟩ := hbx
          obtain ⟨k0', k1', kf0, kf1⟩ := BT.out.below hb (by omega)
          have hw : Below w.heap.size w wr := BS.out.trans (hb.mono (by omega))
          have O9 := Lib.hid o1'
          have V9 := Lib.hid v1'
          have S9 := Lib.hid (S0.out.upd hu (.inr (Nat.le_refl _)))
          have KF9 := Lib.hid (KF0.out.upd hu (Nat.le_refl _) (.inr (Nat.le_refl _)))
          have HW := Lib.hid hw
          clear v1' o1' O V hw hmn hu hb
          go_wp2_with fail
          have u9 : Upd (w.heap.size + 1) (w.heap.size + 2) wr ((wr.setCell ⟨w.heap.size + 1, 0, none⟩ (.slice X0 n0 d0)).setCell ⟨w.heap.size + 1, 1, none⟩ (.slice A9 n1 c9)) := ((Upd.refl _ _ _).setCell (p := ⟨w.heap.size + 1, 0, none⟩) (Nat.le_refl _) (by simp) _).setCell (p := ⟨w.heap.size + 1, 1, none⟩) (Nat.le_refl _) (by simp) _
          refine bodyPost_ret (v := .agg #[.slice X0 n0 d0, .slice A9 n1 c9]) (by simp [results, Try.results183, go_sem, k0', k1', kf0, kf1]) rfl ⟨X0, d0, A9, c9, vs, wo.heap.size, rfl, (S9.out.upd u9 (.inr (by omega))).mono (by omega) (Nat.le_refl _), O9.out.upd u9 (fun g hg => .inr (by have := (O9.out.lt g hg).1; omega)), ?_, by omega, by simp only [World.heap_size_setCell]; omega, ((KF9.out.setCell _ _).setCell _ _).mono (by omega) (Nat.le_refl _), ?_⟩
          · have h8 := V9.out.upd u9 (.inr (by omega))
            rw [World.heap_size_setCell, World.heap_size_setCell]
            exact h8
          · exact (HW.out.setCell (p := ⟨w.heap.size + 1, 0, none⟩) (by simp only; omega) _).setCell (p := ⟨w.heap.size + 1, 1, none⟩) (by simp only; omega) _
end Go.Proofs.Ytgnilmdaegnaaaa
