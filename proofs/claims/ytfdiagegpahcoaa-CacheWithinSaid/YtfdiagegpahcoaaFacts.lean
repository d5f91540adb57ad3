import Derived.Test.YtfdiagegpahcoaaDk
/- Facts on caches that several statements ask for. -/
namespace Go.Proofs.Ytfdiagegpahcoaa.QCd
set_option linter.unusedVariables false
open Go.RowKit Go.Proofs.Ytfdiagegpahcoaa.QCa Go.Proofs.Ytfdiagegpahcoaa.QCb Go.Proofs.YtfdiagegpahcoaaW.PrintWords
theorem same_l1 {z : List (List Int)} {i : Nat} (hi : i < z.length) (hz : z.length ≤ 1000) (hr : ∀ r ∈ z, r.length ≤ 1000) : ∀ n j, j + n = z[i].length → ∀ k, n + 1 ≤ k → timeboundref22_Same.l1 k i j z z = timeboundref22_Same.l0 (k - n - 1) ((i + 1 : Nat) : Int) z z := by
  have hrl := hr _ (List.getElem_mem hi)
  intro n
  induction n with
  | zero =>
    intro j hj k hk
    obtain ⟨k, rfl⟩ : ∃ k', k = k' + 1 := ⟨k - 1, by omega⟩
    simp only [timeboundref22_Same.l1]
    rw [if_pos (by omega), if_pos (by omega), rd_at hi, if_neg (by omega), w64 (by omega) (by omega)]
    rfl
  | succ n ih =>
    intro j hj k hk
    obtain ⟨k, rfl⟩ : ∃ k', k = k' + 1 := ⟨k - 1, by omega⟩
    simp only [timeboundref22_Same.l1]
    rw [if_pos (by omega), if_pos (by omega), rd_at hi, if_pos (by omega), if_pos (by omega), if_pos (by omega), if_pos (by omega), if_pos trivial, w64 (by omega) (by omega), show ((j : Int) + 1) = ((j + 1 : Nat) : Int) by omega, ih (j + 1) (by omega) k (by omega)]
    congr 1; omega
theorem same_l0 {z : List (List Int)} (hz : z.length ≤ 10) (hr : ∀ r ∈ z, r.length ≤ 10) : ∀ n i, i + n = z.length → ∀ k, 12 * n + 1 ≤ k → timeboundref22_Same.l0 k i z z = some true := by
  intro n
  induction n with
  | zero =>
    intro i hi k hk
    obtain ⟨k, rfl⟩ : ∃ k', k = k' + 1 := ⟨k - 1, by omega⟩
    simp only [timeboundref22_Same.l0]
    rw [if_neg (by omega)]
  | succ n ih =>
    intro i hi k hk
    obtain ⟨k, rfl⟩ : ∃ k', k = k' + 1 := ⟨k - 1, by omega⟩
    have hil : i < z.length := by omega
    have hrl := hr _ (List.getElem_mem hil)
    simp only [timeboundref22_Same.l0]
    rw [if_pos (by omega), if_pos (by omega), if_pos (by omega), if_pos trivial]
    have := same_l1 (z := z) hil (by omega) (fun r h => by have := hr r h; omega) z[i].length 0 (by omega) k (by omega)
    rw [show ((0 : Nat) : Int) = 0 from rfl] at this
    rw [this]
    exact ih (i + 1) (by omega) _ (by omega)
theorem same_refl {z : List (List Int)} (hz : z.length ≤ 10) (hr : ∀ r ∈ z, r.length ≤ 10) {k : Nat} (hk : 200 ≤ k) : timeboundref22_Same.f k z z = some true := by
  unfold timeboundref22_Same.f
  rw [if_pos rfl]
  exact same_l0 hz hr z.length 0 (by omega) k (by omega)
theorem GoodM.few {c0 c1 c2 : Int} {l : List (List Int)} (h : GoodM c0 c1 l) (hc : confOk c0 c1 c2) : l.length ≤ 10 ∧ ∀ r ∈ l, r.length ≤ 10 := by
  obtain ⟨h0, h1, h2⟩ := hc
  refine ⟨by have := h.1; omega, fun r hr => ?_⟩
  obtain ⟨i, hi, rfl⟩ := List.getElem_of_mem hr
  have := (h.2 i hi).length
  omega
theorem misses_ok {c0 c1 c2 : Int} {x : List (List Int)} (hc : confOk c0 c1 c2) (hg : GoodM c0 c1 x) (q : List Int) : cache_Misses.f c0 c1 c2 x q = some (missRun c0 c2 x q 0) := by
  unfold cache_Misses.f missesP
  rw [if_pos (hg.small hc), if_pos hc, if_pos (hg.ok (by have := hc.2.1; omega))]
theorem valid_ok {c0 c1 c2 : Int} {x : List (List Int)} (hc : confOk c0 c1 c2) (hg : GoodM c0 c1 x) : cache_Valid.f 4000 c0 c1 c2 x = some true := by
  rw [Valid_ev (hg.small hc).1 (hg.small hc).2 (Nat.le_refl _), decide_eq_true ⟨hc, hg.ok (by have := hc.2.1; omega)⟩]
/-- An access of valid contents. -/
def stepL (c0 c2 : Int) (x : List (List Int)) (a : Int) : List (List Int) := x.set (a / c2 % c0).toNat (frontL (a / c2) (x.getD (a / c2 % c0).toNat []))
theorem touch_ok {c0 c1 c2 a : Int} {x : List (List Int)} (hc : confOk c0 c1 c2) (hg : GoodM c0 c1 x) (hz : c0 ≠ 0) (h0 : 0 ≤ a) (h1 : a ≤ 1048576) : cache_Touch.f c0 c1 c2 x a = some (stepL c0 c2 x a, decide ((a / c2) ∈ x.getD (a / c2 % c0).toNat []), 0) := by
  unfold cache_Touch.f touchP
  rw [if_pos (hg.small hc), if_pos hc, if_pos (hg.ok (by have := hc.2.1; omega)), if_pos ⟨h0, h1⟩, if_neg hz]
  rfl
theorem touch_none {c1 c2 a : Int} {x : List (List Int)} (hc : confOk 0 c1 c2) (hg : GoodM 0 c1 x) (h0 : 0 ≤ a) (h1 : a ≤ 1048576) : cache_Touch.f 0 c1 c2 x a = some (x, false, 0) := by
  unfold cache_Touch.f touchP
  rw [if_pos (hg.small hc), if_pos hc, if_pos (hg.ok (by have := hc.2.1; omega)), if_pos ⟨h0, h1⟩, if_pos rfl]
theorem front_twice (line : Int) (r : List Int) : frontL line (frontL line r) = frontL line r := by
  rw [frontL, if_pos (by rw [frontL]; exact List.mem_cons_self)]
  congr 1
  rw [frontL, List.erase_cons_head]
theorem step_twice {c0 c1 c2 a : Int} {x : List (List Int)} (hc : confOk c0 c1 c2) (hg : GoodM c0 c1 x) (hz : c0 ≠ 0) (h0 : 0 ≤ a) (h1 : a ≤ 1048576) : stepL c0 c2 (stepL c0 c2 x a) a = stepL c0 c2 x a ∧ (a / c2) ∈ (stepL c0 c2 x a).getD (a / c2 % c0).toNat [] := by
  obtain ⟨e1, e2, e3, e4, e5⟩ := place hc hg.1 hz h0 h1
  have hget : (stepL c0 c2 x a).getD (a / c2 % c0).toNat [] = frontL (a / c2) (x.getD (a / c2 % c0).toNat []) := by
    simp [stepL, List.getD_eq_getElem?_getD, e4]
  constructor
  · conv => lhs; rw [stepL]
    rw [hget, front_twice, stepL, List.set_set]
  · rw [hget, frontL]; exact List.mem_cons_self
theorem lines_ok {L : List Int} {c0 c1 c2 p : Int} (hc : confOk c0 c1 c2) (hL : L.length ≤ 1000000) (h0 : 0 ≤ p) (h1 : p ≤ L.length) : ∃ x q, QCb.timeboundmake_Lines.f L p c0 c1 c2 = some (x, q) ∧ GoodM c0 c1 x ∧ 0 ≤ q ∧ q ≤ L.length := by
  obtain ⟨x, q, h, h2⟩ := lines_good hc hL h0 h1
  exact ⟨x, q, by rw [QCb.timeboundmake_Lines.f, h]; rfl, h2⟩
theorem byte_ok {x : Int} (h : (Lit.int .u8 x).wf = true) : 0 ≤ x ∧ x ≤ 255 := by
  simp only [Lit.wf, Bool.and_eq_true, decide_eq_true_eq] at h
  exact ⟨h.1, h.2⟩
end Go.Proofs.Ytfdiagegpahcoaa.QCd
