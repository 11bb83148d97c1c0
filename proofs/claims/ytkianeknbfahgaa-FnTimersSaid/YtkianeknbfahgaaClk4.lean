/- Clocks: the plain facts behind the law of parts. No conditions. -/
import Derived.Test.YtkianeknbfahgaaClk3
import Derived.Test.YtkianeknbfahgaaCode
set_option linter.unusedSimpArgs false
set_option linter.unusedVariables false
namespace Go.Proofs.Ytkianeknbfahgaa
open Go.RowKit

theorem clocksOk_bd {zs : List Int} (hl : zs.length = 6) (hz : ∀ (j : Nat) (x : Int), zs[j]? = some x → 0 ≤ x ∧ x ≤ 1000000) : clocksOk zs = true :=
  clocksOk_of hl fun j hj => btw_iff.2 (hz j _ (by simp [List.getD, List.getElem?_eq_getElem (show j < zs.length by omega)]))
theorem set_bd {zs : List Int} {k : Nat} {y lim : Int} (hz : ∀ (j : Nat) (x : Int), zs[j]? = some x → 0 ≤ x ∧ x ≤ lim) (h0 : 0 ≤ y) (h1 : y ≤ lim) : ∀ (j : Nat) (x : Int), (zs.set k y)[j]? = some x → 0 ≤ x ∧ x ≤ lim := fun j x hx => by
  rw [List.getElem?_set] at hx
  split at hx
  · split at hx
    · injection hx with hx; omega
    · cases hx
  · exact hz j x hx
theorem ticked_at {zs : List Int} {k : Nat} {z a : Int} (hl : zs.length = 6) (hz : ∀ (j : Nat) (x : Int), zs[j]? = some x → 0 ≤ x ∧ x ≤ 1000000) (hk : k < 6) (hzk : zs[k]? = some z) (ha : 0 ≤ a) (hs : z + a ≤ 1000000) :
    ticked zs (k : Int) a = (zs.set k (z + a), true) := by
  have h1 := clocksOk_bd hl hz
  have h2 : btw (k : Int) 0 5 = true := btw_iff.2 ⟨by omega, by omega⟩
  have h0 := hz k z hzk
  have h3 : timeOk a = true := btw_iff.2 ⟨by omega, by omega⟩
  have h4 : timeOk (z + a) = true := btw_iff.2 ⟨by omega, hs⟩
  simp [ticked, h1, h2, h3, hzk, h4]
theorem jumped_at {zs : List Int} {k : Nat} {a : Int} (hl : zs.length = 6) (hz : ∀ (j : Nat) (x : Int), zs[j]? = some x → 0 ≤ x ∧ x ≤ 1000000) (hk : k < 6) (ha : 0 ≤ a) (hs : a ≤ 1000000) :
    jumped zs (k : Int) a = (zs.set k a, true) := by
  have h1 := clocksOk_bd hl hz
  have h2 : btw (k : Int) 0 5 = true := btw_iff.2 ⟨by omega, by omega⟩
  have h3 : timeOk a = true := btw_iff.2 ⟨by omega, by omega⟩
  simp [jumped, h1, h2, h3]
/-- The law's four calls. -/
theorem clocks_four {zs : List Int} {k : Nat} {z a b : Int} (hl : zs.length = 6) (hz : ∀ (j : Nat) (x : Int), zs[j]? = some x → 0 ≤ x ∧ x ≤ 200) (hk : k < 6) (hzk : zs[k]? = some z) (ha : 0 ≤ a) (ha1 : a ≤ 50) (hb : 0 ≤ b) (hb1 : b ≤ 50) :
    ticked zs (k : Int) a = (zs.set k (z + a), true) ∧ ticked (zs.set k (z + a)) (k : Int) b = (zs.set k (z + a + b), true) ∧ ticked zs (k : Int) (a + b) = (zs.set k (z + a + b), true) ∧ jumped (zs.set k (z + a + b)) (k : Int) z = (zs, true) := by
  have h0 := hz k z hzk
  have hz' : ∀ (j : Nat) (x : Int), zs[j]? = some x → 0 ≤ x ∧ x ≤ 1000000 := fun j x hx => by have := hz j x hx; omega
  have hkl : k < zs.length := by omega
  refine ⟨ticked_at hl hz' hk hzk ha (by omega), ?_, ?_, ?_⟩
  · have h1 := ticked_at (zs := zs.set k (z + a)) (z := z + a) (a := b) (by simpa using hl) (set_bd hz' (by omega) (by omega)) hk (by simp [hkl]) hb (by omega)
    rw [h1, List.set_set]
  · rw [ticked_at hl hz' hk hzk (by omega) (by omega), Int.add_assoc]
  · rw [jumped_at (by simpa using hl) (set_bd hz' (by omega) (by omega)) hk h0.1 (by omega), List.set_set]
    congr 1
    obtain ⟨h2, rfl⟩ := List.getElem?_eq_some_iff.1 hzk
    exact List.set_getElem_self h2
theorem Own.upd {w w' : World} {base e k lo up : Nat} {v : Value} {n : Nat} {zs : List Int} (h : Own w base e k v n zs) (hu : Upd lo up w w') (ho : up ≤ base) : Own w' base e k v n zs := by
  refine ⟨h.1, ?_⟩
  rcases h.2 with hn | ⟨g, cap, cur, hv, hg, hh, r⟩
  · exact .inl hn
  · exact .inr ⟨g, cap, cur, hv, hg, by rw [hu.block g (Array.getElem?_eq_some_iff.1 hh).1 (.inr (by omega))]; exact hh, r⟩
theorem append_bd {zs : List Int} {x : Int} (hz : ∀ (j : Nat) (y : Int), zs[j]? = some y → 0 ≤ y ∧ y ≤ 200) (x0 : 0 ≤ x) (x1 : x < 200) : ∀ (j : Nat) (y : Int), (zs ++ [x])[j]? = some y → 0 ≤ y ∧ y ≤ 200 := fun j y hy => by
  rw [List.getElem?_append] at hy
  split at hy
  · exact hz j y hy
  · rw [List.getElem?_singleton] at hy
    split at hy
    · injection hy with hy; omega
    · cases hy
def mostTo (zs : List Int) : Nat → Int
  | 0 => 0
  | m + 1 => max (mostTo zs m) (zs.getD m 0)
theorem mostTo_succ {zs : List Int} {m : Nat} {x : Int} (h : zs[m]? = some x) : mostTo zs (m + 1) = max (mostTo zs m) x := by simp [mostTo, List.getD, h]
theorem mostTo_eq {zs : List Int} (h : clocksOk zs = true) : mostTo zs 6 = maxTo zs 6 := by
  have h0 := (getD_btw h 0).1
  have h1 : ∀ m, mostTo zs (m + 1) = maxTo zs (m + 1) := fun m => by
    induction m with
    | zero => simp only [mostTo, maxTo]; omega
    | succ m ih => rw [mostTo, maxTo, ih]
  exact h1 5
/-- What the first loop has drawn after m rounds. -/
def DrawRel (w : World) (B hi g : Nat) (A : Option Addr) (n c : Nat) (E : Nat) (v i : Value) (wr : World) : Prop :=
  ∃ (m : Nat) (u : Value) (zs : List Int), m ≤ 6 ∧ i = .int .i64 (m : Nat) ∧ v = u ∧ Own wr B E 1 u m zs ∧ (∀ (j : Nat) (x : Int), zs[j]? = some x → 0 ≤ x ∧ x ≤ 200) ∧ DiceAt wr hi g A n c ∧ B ≤ wr.heap.size ∧ Below w.heap.size w wr

end Go.Proofs.Ytkianeknbfahgaa
