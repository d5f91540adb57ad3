/- Accesses in any order of the sets have as many misses, if the order within each set stays: for up to 400 numbers that make a cache and valid contents, and up to 100 accesses. -/
import Derived.Test.YtfdiagegpahcoaaQCbx3
import Derived.Test.YtfdiagegpahcoaaAw
namespace Go.Proofs.Ytfdiagegpahcoaa.Pure
set_option linter.unusedVariables false
open Go.RowKit Go.Proofs.Ytfdiagegpahcoaa.QCa Go.Proofs.Ytfdiagegpahcoaa.QCb Go.Proofs.YtfdiagegpahcoaaW.PrintWords Go.Proofs.YtfdiagegpahcoaaW.PrintLast
theorem byte_ok {x : Int} (h : (Lit.int .u8 x).wf = true) : 0 ≤ x ∧ x ≤ 255 := by
  simp only [Lit.wf, Bool.and_eq_true, decide_eq_true_eq] at h
  exact ⟨h.1, h.2⟩
def acc (l : List Int) : List Int := l.map (fun x => Int.tmod (wrap64 x) 100)
def inSet (c0 c2 : Int) (s : Int) (q : List Int) : List Int := q.filter (fun v => decide (v / c2 % c0 = s))
theorem ofSet_alt (c0 c2 : Int) (i : Nat) (q : List Int) : ofSet c0 c2 i q = (inSet c0 c2 i q).map (· / c2) := by
  unfold ofSet inSet
  rw [List.filter_map]
  congr 1
theorem inSet_in (c0 c2 : Int) (i s : Int) (q : List Int) : inSet c0 c2 i (inSet c0 c2 s q) = if i = s then inSet c0 c2 i q else [] := by
  unfold inSet
  rw [List.filter_filter]
  split
  · next e => subst e; simp
  · next e =>
    rw [List.filter_eq_nil_iff]
    intro a _
    simp only [Bool.and_eq_true, decide_eq_true_eq, not_and]
    intro h1 h2; omega
theorem l0_ev {l1 : List Int} {c0 c1 c2 : Int} {x : List (List Int)} (hl : l1.length ≤ 100) : ∀ n i, i + n = l1.length → ∀ k, n + 1 ≤ k →
    timeboundlaw22_CacheSets.l0 k l1 (acc (l1.take i)) i c0 c1 c2 x = timeboundlaw22_CacheSets.l1 (k - n - 1) (acc l1) [] 0 c0 c1 c2 x := by
  intro n
  induction n with
  | zero =>
    intro i hi k hk
    obtain ⟨k, rfl⟩ : ∃ k', k = k' + 1 := ⟨k - 1, by omega⟩
    simp only [timeboundlaw22_CacheSets.l0]
    rw [if_neg (by omega), List.take_of_length_le (by omega)]; rfl
  | succ n ih =>
    intro i hi k hk
    obtain ⟨k, rfl⟩ : ∃ k', k = k' + 1 := ⟨k - 1, by omega⟩
    have hil : i < l1.length := by omega
    simp only [timeboundlaw22_CacheSets.l0]
    rw [if_pos (by omega), if_pos (by omega), if_pos (by simp only [acc, List.length_map, List.length_take]; omega), rd_nat hil, w64 (x := (i : Int) + 1) (by omega) (by omega)]
    have := ih (i + 1) (by omega) k (by omega)
    rw [show ((i : Int) + 1) = ((i + 1 : Nat) : Int) by omega]
    rw [show acc (l1.take i) ++ [Int.tmod (wrap64 l1[i]) 100] = acc (l1.take (i + 1)) by rw [List.take_succ_eq_append_getElem hil, acc, acc, List.map_append]; rfl, this]
    congr 1; omega
theorem l2_ev {a b : List Int} {c0 c1 c2 s : Int} {x : List (List Int)} (hc : confOk c0 c1 c2) (hz : c0 ≠ 0) (ha : ∀ v ∈ a, 0 ≤ v ∧ v ≤ 1000) (hal : a.length ≤ 100) : ∀ n i b, i + n = a.length → b.length + n ≤ 1000 → ∀ k, n + 1 ≤ k →
    timeboundlaw22_CacheSets.l2 k a b s i c0 c1 c2 x = timeboundlaw22_CacheSets.l1 (k - n - 1) a (b ++ inSet c0 c2 s (a.drop i)) (wrap64 (s + 1)) c0 c1 c2 x := by
  intro n
  induction n with
  | zero =>
    intro i b hi hb k hk
    obtain ⟨k, rfl⟩ : ∃ k', k = k' + 1 := ⟨k - 1, by omega⟩
    simp only [timeboundlaw22_CacheSets.l2]
    rw [if_neg (by omega), List.drop_of_length_le (by omega)]
    simp [inSet]
  | succ n ih =>
    intro i b hi hb k hk
    obtain ⟨k, rfl⟩ : ∃ k', k = k' + 1 := ⟨k - 1, by omega⟩
    have hil : i < a.length := by omega
    obtain ⟨h0, h1⟩ := ha _ (List.getElem_mem hil)
    have hc2 := hc.2.2
    have e1 : 0 ≤ a[i] / c2 := Int.ediv_nonneg h0 (by omega)
    have e2 : a[i] / c2 ≤ a[i] := Int.ediv_le_self c2 h0
    simp only [timeboundlaw22_CacheSets.l2]
    rw [if_pos (by omega), if_pos (by omega), if_neg (by omega), if_neg hz, rd_nat hil, Int.tdiv_eq_ediv_of_nonneg h0, w64 (x := a[i] / c2) (by omega) (by omega), Int.tmod_eq_emod_of_nonneg e1, w64 (x := (i : Int) + 1) (by omega) (by omega), show ((i : Int) + 1) = ((i + 1 : Nat) : Int) by omega]
    rw [List.drop_eq_getElem_cons hil]
    by_cases hs : a[i] / c2 % c0 = s
    · rw [if_pos hs, if_pos (by omega), ih (i + 1) _ (by omega) (by rw [List.length_append, List.length_singleton]; omega) k (by omega)]
      rw [show inSet c0 c2 s (a[i] :: a.drop (i + 1)) = a[i] :: inSet c0 c2 s (a.drop (i + 1)) from List.filter_cons_of_pos (by simpa using hs)]
      rw [List.append_assoc]
      congr 1; omega
    · rw [if_neg hs, ih (i + 1) _ (by omega) (by omega) k (by omega)]
      rw [show inSet c0 c2 s (a[i] :: a.drop (i + 1)) = inSet c0 c2 s (a.drop (i + 1)) from List.filter_cons_of_neg (by simpa using hs)]
      congr 1; omega
theorem misses_ok {c0 c1 c2 : Int} {x : List (List Int)} (hc : confOk c0 c1 c2) (hg : GoodM c0 c1 x) (q : List Int) : cache_Misses.f c0 c1 c2 x q = some (missRun c0 c2 x q 0) := by
  unfold cache_Misses.f missesP
  rw [if_pos (hg.small hc), if_pos hc, if_pos (hg.ok (by have := hc.2.1; omega))]
theorem l1_ev {a : List Int} {c0 c1 c2 : Int} {x : List (List Int)} (hc : confOk c0 c1 c2) (hg : GoodM c0 c1 x) (ha : ∀ v ∈ a, 0 ≤ v ∧ v ≤ 1000) (hal : a.length ≤ 100) : ∀ (n s : Nat) (b : List Int), (s : Int) + n = c0 → b.length ≤ 100 * s → (∀ v ∈ b, v ∈ a) → (∀ i : Nat, inSet c0 c2 i b = if i < s then inSet c0 c2 i a else []) → ∀ k, 102 * n + 20 ≤ k →
    timeboundlaw22_CacheSets.l1 k a b (s : Int) c0 c1 c2 x = some true := by
  intro n
  induction n with
  | zero =>
    intro s b hs hb hba hin k hk
    obtain ⟨k, rfl⟩ : ∃ k', k = k' + 1 := ⟨k - 1, by omega⟩
    have hr : ∀ v ∈ a, 0 ≤ v ∧ v ≤ 1048576 := fun v hv => ⟨(ha v hv).1, by have := (ha v hv).2; omega⟩
    have hle := missRun_le (c0 := c0) (c2 := c2) a x 0 (by omega)
    simp only [timeboundlaw22_CacheSets.l1]
    rw [if_neg (by omega), misses_ok hc hg, misses_ok hc hg]
    simp only [Option.bind_some]
    by_cases hz : c0 = 0
    · rw [if_pos hz]
      subst hz
      rw [missRun_none a x 0 hr] at hle ⊢
      simp only at hle ⊢
      rw [if_pos trivial, if_pos trivial]
      rw [if_pos (show (0 : Int) + a.length ≤ a.length by omega), awake_ev (by omega)]; rfl
    · rw [if_neg hz]
      have h1 := missRun_eq hc hz a x 0 hr hg.1
      have h2 := missRun_eq hc hz b x 0 (fun v hv => hr v (hba v hv)) hg.1
      have h3 : sumN c0.toNat (fun i => rowRun (x.getD i []) (ofSet c0 c2 i b)) = sumN c0.toNat (fun i => rowRun (x.getD i []) (ofSet c0 c2 i a)) := sumN_congr (fun i hi => by
        rw [ofSet_alt, ofSet_alt, hin i, if_pos (by omega)])
      rw [h3] at h2
      rw [h2, h1]
      rw [h1] at hle
      simp only [] at hle ⊢
      rw [if_pos trivial, if_pos trivial, if_pos trivial, if_pos (by omega), awake_ev (by omega)]; rfl
  | succ n ih =>
    intro s b hs hb hba hin k hk
    obtain ⟨k, rfl⟩ : ∃ k', k = k' + 1 := ⟨k - 1, by omega⟩
    have hc0 := hc.1
    simp only [timeboundlaw22_CacheSets.l1]
    rw [if_pos (by omega)]
    have := l2_ev (x := x) (b := b) (s := (s : Int)) hc (by omega) ha hal a.length 0 b (by omega) (by omega) k (by omega)
    rw [show ((0 : Nat) : Int) = 0 from rfl] at this
    rw [this, List.drop_zero, w64 (by omega) (by omega), show ((s : Int) + 1) = ((s + 1 : Nat) : Int) by omega]
    refine ih (s + 1) _ (by omega) ?_ (fun v hv => ?_) (fun i => ?_) _ (by omega)
    · have : (inSet c0 c2 s a).length ≤ a.length := List.length_filter_le _ _
      rw [List.length_append]; omega
    · rcases List.mem_append.1 hv with h | h
      · exact hba v h
      · exact (List.mem_filter.1 h).1
    · rw [show inSet c0 c2 i (b ++ inSet c0 c2 s a) = inSet c0 c2 i b ++ inSet c0 c2 i (inSet c0 c2 s a) from List.filter_append .., hin i, inSet_in]
      by_cases h1 : i < s
      · rw [if_pos h1, if_neg (by omega), if_pos (by omega), List.append_nil]
      · by_cases h2 : i = s
        · subst h2
          rw [if_neg h1, if_pos rfl, if_pos (by omega), List.nil_append]
        · rw [if_neg h1, if_neg (by omega), if_neg (by omega), List.append_nil]
theorem CacheSets : timeboundlaw22_CacheSets.Pure := by
  intro l0 l1 _ _ _ _ _ hw1
  refine ⟨2000, ?_⟩
  have hj : ∀ b, (b = false → l0.length ≤ 400 ∧ l1.length ≤ 100) → timeboundlaw22_CacheSets.j0 2000 l0 l1 b = some true := by
    intro b hb
    simp only [timeboundlaw22_CacheSets.j0]
    cases b with
    | true => rw [if_pos rfl, awake_ev (by omega)]; rfl
    | false =>
      obtain ⟨h0, h1⟩ := hb rfl
      rw [if_neg (by decide), timeboundmake_New.f]
      simp only [Option.bind_some]
      obtain ⟨c0, c1, c2, q, hC, hc0, hc1, hc2, hq0, hq1⟩ := cache_some (L := l0) (p := 0) (by omega) (by omega) (by omega)
      rw [hC]
      simp only [Option.bind_some]
      have hc : confOk c0 c1 c2 := ⟨by omega, by omega, by omega⟩
      obtain ⟨x, q2, hL, hg, _, _⟩ := lines_good hc (show l0.length ≤ 1000000 by omega) hq0 hq1
      rw [timeboundmake_Lines.f, hL]
      simp only [Option.bind_some]
      have := l0_ev (c0 := c0) (c1 := c1) (c2 := c2) (x := x) h1 l1.length 0 (by omega) 1999 (by omega)
      rw [List.take_zero] at this
      rw [show ([] : List Int) = acc [] from rfl, show (0 : Int) = ((0 : Nat) : Int) from rfl, this]
      refine l1_ev hc hg (fun v hv => ?_) (by simpa [acc] using h1) c0.toNat 0 [] (by omega) (by simp) (by simp) (fun i => by simp only [Nat.not_lt_zero, if_false]; rfl) _ (by omega)
      obtain ⟨y, hy, rfl⟩ := List.mem_map.1 hv
      have hyw : 0 ≤ y ∧ y ≤ 255 := by
        have := hw1 y hy
        exact byte_ok this
      rw [w64 (by omega) (by omega)]
      have := Int.tmod_nonneg 100 hyw.1
      have := Int.tmod_lt_of_pos y (show (0 : Int) < 100 by decide)
      omega
  unfold timeboundlaw22_CacheSets.f timeboundmake_Few.f
  simp only [Option.bind_some, decide_eq_true_eq]
  split
  · next h => exact hj _ (fun e => by have := of_decide_eq_false e; omega)
  · exact hj _ (fun e => by cases e)
end Go.Proofs.Ytfdiagegpahcoaa.Pure
