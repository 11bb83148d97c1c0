/- slices.Delete of one timer, in place. No conditions. -/
import Derived.Test.YtkianeknbfahgaaTim4
import Derived.Deep.RegionLaw
import Derived.Shelf.RegionOpenPlain
import Derived.Shelf.SlicesE.Kit
import Derived.Lib.SliceRun
set_option linter.unusedSimpArgs false
set_option linter.unusedVariables false
namespace Go.Proofs.Ytkianeknbfahgaa
open Go.RowKit Go.Shelf

theorem zeroTimer (w : World) : (zeroValue 60).run Try.prog w = .ok (.agg #[.int .i64 0, .int .i64 0]) w := by
  obtain ⟨i0, hi0, hz0, hz1, hz2⟩ := info_parts infoTimer
  simp [zeroValue, typeInfo, hi0, hz0]
theorem run_clear_timer (w : World) (g o m c : Nat) (ty : TypeId) (hm : m = 1) (hc : ∀ j, j < 2 → (w.cell? ⟨g, o + j, none⟩).isSome = true) (hf : ∀ j, j < 2 → w.frozen? ⟨g, o + j, none⟩ = false) :
    (Builtin.clear_ #[40] ty #[.slice (some ⟨g, o, none⟩) m c]).run Try.prog w = .ok (.tuple #[]) (w.setCells g o ([0, 0].map (Value.int .i64))) := by
  subst hm
  have hst := run_storeCells_cells (P := Try.prog) g o ([0, 0].map (Value.int .i64)) 0 w (by simpa using hc) (by simpa using hf) (ints_oneCell .i64 [0, 0])
  rw [Nat.add_zero] at hst
  have hzc : (Builtin.zeroCells (Value.agg #[.int .i64 0, .int .i64 0]).cells 1).toList = [0, 0].map (Value.int .i64) := by
    apply List.ext_getElem
    · simp [Builtin.zeroCells, Value.cells]
    · intro j h1 h2
      simp at h2
      match j, h2 with
      | 0, _ => simp [Builtin.zeroCells, Value.cells]
      | 1, _ => simp [Builtin.zeroCells, Value.cells]
  simp only [List.map_cons, List.map_nil] at hst hzc
  simp [Builtin.clear_, run_underlying Try.underlying40, zeroTimer, hzc, hst]
theorem tail_len (n i : Nat) (hi : i < n) : i + (n - (i + 1)) = n - 1 := by omega
set_option maxHeartbeats 4000000 in
set_option maxRecDepth 1000000 in
theorem delTimer_any (g off cap n i : Nat) (zs : List Int) (w : World) (hI : Ints w g off zs) (hlen : zs.length = n * 2) (hi : i < n) (hcap : n ≤ cap) (hcm : cap ≤ 9223372036854775807) :
    Calls Try.prog 67 #[.slice (some ⟨g, off, none⟩) n cap, .int .i64 (i : Nat), .int .i64 ((i : Int) + 1)] w fun e w' => e = .returned (.slice (some ⟨g, off, none⟩) (n - 1) cap) ∧ Ints w' g off (zs.take (i * 2) ++ zs.drop ((i + 1) * 2) ++ [0, 0]) ∧ Upd g (g + 1) w w' := by
  obtain ⟨i0, hi0, hz0, hz1, hz2⟩ := info_parts infoTimer
  obtain ⟨ys, hys⟩ : ∃ ys, ys = zs.drop ((i + 1) * 2) := ⟨_, rfl⟩
  have hyl : ys.length = (n - (i + 1)) * 2 := by rw [hys, List.length_drop, hlen]; omega
  obtain ⟨news, hnews⟩ : ∃ news, news = ys.map (Value.int .i64) := ⟨_, rfl⟩
  have hId : Ints w.drew g off zs := fun j z hz => hI j z hz
  obtain ⟨A, hA, hsrc⟩ : ∃ A : Addr, (if cap = i + 1 then some (⟨g, off, none⟩ : Addr) else some ⟨g, off + (i + 1) * 2, none⟩) = some A ∧ Hid (∀ t u, news[t]? = some u → w.drew.cell? (A.add t) = some u) := by
    by_cases h : cap = i + 1
    · refine ⟨⟨g, off, none⟩, by simp [h], fun t u hu => ?_⟩
      have h0 : news.length = 0 := by rw [hnews, List.length_map, hyl]; omega
      rw [List.length_eq_zero_iff.1 h0] at hu
      simp at hu
    · refine ⟨⟨g, off + (i + 1) * 2, none⟩, by simp [h], fun t u hu => ?_⟩
      rw [hnews, List.getElem?_map] at hu
      obtain ⟨y, hy, rfl⟩ := Option.map_eq_some_iff.1 hu
      rw [hys, List.getElem?_drop] at hy
      rw [Addr.add_mid, Nat.add_assoc]
      exact (hId _ y hy).1
  have s1 : Hid (news.length = (n - (i + 1)) * 2) := by rw [hnews, List.length_map]; exact hyl
  have s2 : Hid (∀ u ∈ news, u.oneCell' = true) := by rw [hnews]; exact (ints_oneCell (k := .i64) ys : ∀ u ∈ ys.map (Value.int .i64), u.oneCell' = true)
  have s3 : Hid (∀ t, t < news.length → (w.drew.cell? ⟨g, off + i * 2 + t, none⟩).isSome = true ∧ w.drew.frozen? ⟨g, off + i * 2 + t, none⟩ = false) := fun t ht => by
    rw [s1.out] at ht
    have := hId.there (i := i * 2) (n := (n - i) * 2) (by omega) t (by omega)
    exact this
  obtain ⟨W1, hW1⟩ : ∃ W1, W1 = w.drew.setCells g (off + i * 2) news := ⟨_, rfl⟩
  have hI1 : Ints W1 g off (zs.take (i * 2) ++ ys ++ zs.drop (i * 2 + ys.length)) := by
    rw [hW1, hnews]
    exact hId.sets (i * 2) ys (by rw [hyl, hlen]; omega)
  have hU1 : Upd g (g + 1) w W1 := by rw [hW1]; exact (Upd.refl _ _ _).drew.trans (setCells_upd (Nat.le_refl _) (by omega) _ _ _)
  have hW : Hid (W1 = w.drew.setCells g (off + i * 2) news) := hW1
  have HI1 := Lib.hid hI1
  have HU1 := Lib.hid hU1
  have HN := Lib.hid hyl
  have hic : i ≤ cap := by omega
  have hjc : i + 1 ≤ cap := by omega
  have mixed : Try.prog.follows Departure.mixedOrders = true := by kernel_rfl
  have hb1 : (0 : Int) ≤ (i : Int) + 1 := by omega
  have hb2 : (i : Int) + 1 ≤ (n : Int) := by omega
  have hlt1 : i * 2 + ys.length + 2 = n * 2 := by rw [hyl]; omega
  have hX : (zs.take (i * 2) ++ ys ++ zs.drop (i * 2 + ys.length)).length = n * 2 := by simp only [List.length_append, List.length_take, List.length_drop, hlen]; omega
  have htk : (zs.take (i * 2) ++ ys).length = (i + (n - (i + 1))) * 2 := by simp only [List.length_append, List.length_take, hlen, hyl]; omega
  have hcl : ∀ ty, (Builtin.clear_ #[40] ty #[.slice (some ⟨g, off + (i + (n - (i + 1))) * 2, none⟩) (n - (i + (n - (i + 1)))) (cap - (i + (n - (i + 1))))]).run Try.prog W1 = .ok (.tuple #[]) (W1.setCells g (off + (i + (n - (i + 1))) * 2) ([0, 0].map (Value.int .i64))) := fun ty => by
    have hth := hI1.there (i := (i + (n - (i + 1))) * 2) (n := 2) (by rw [hX]; omega)
    exact run_clear_timer W1 g _ _ _ ty (by omega) (fun j hj => (hth j hj).1) (fun j hj => (hth j hj).2)
  have hfin : Ints (W1.setCells g (off + (i + (n - (i + 1))) * 2) ([0, 0].map (Value.int .i64))) g off (zs.take (i * 2) ++ zs.drop ((i + 1) * 2) ++ [0, 0]) := by
    have h5 := hI1.sets ((i + (n - (i + 1))) * 2) [0, 0] (by rw [hX]; simp; omega)
    rw [List.take_append_of_le_length (by rw [htk]; exact Nat.le_refl _), List.take_of_length_le (by rw [htk]; exact Nat.le_refl _), List.drop_of_length_le (by rw [hX]; simp; omega), List.append_nil, hys] at h5
    exact h5
  have HFIN := Lib.hid hfin
  have HTL := Lib.hid (tail_len n i hi)
  clear hlt1 hX htk hfin
  have S0 := Lib.hid hz1
  clear hW1 hI1 hU1 hI hId hnews hyl hz1 hz2 hlen
  go_enter Try.func67, Try.ntmps67
  go_wp2_with fail
  go_region_law_o (refine step_append_room rfl (.tmp 22) (.tmp 25) 40 rfl 60 i0 2 Try.underlying40 hi0 S0.out g off i cap (by simp [Act.eval, Act.put]) A (n - (i + 1)) (cap - (i + 1)) news (by simp [Act.eval, Act.put]) s1.out hsrc.out s2.out (by omega) s3.out ?_; rw [← hW.out])
  go_wp2
  go_ret
  exact ⟨by rw [HTL.out]; rfl, HFIN.out, HU1.out.trans (setCells_upd (Nat.le_refl _) (by omega) _ _ _)⟩

end Go.Proofs.Ytkianeknbfahgaa
