import Derived.Test.YtfdiagegpahcoaaLines
/- Rows in order of their last use, in plain words. -/
namespace Go.Proofs.Ytfdiagegpahcoaa.QCa
open Go.RowKit Go.Proofs.YtfdiagegpahcoaaW.PrintWords Mat
/-- A valid row of n ways: different lines of set m, then -1. -/
def Good (c0 m : Int) (n : Nat) (r : List Int) : Prop := ∃ (p : List Int) (k : Nat), r = p ++ List.replicate k (-1) ∧ p.Nodup ∧ (∀ v ∈ p, 0 ≤ v ∧ v ≤ 1048576 ∧ v.tmod c0 = m) ∧ r.length = n
theorem Good.length {c0 m : Int} {n : Nat} {r : List Int} (h : Good c0 m n r) : r.length = n := by obtain ⟨_, _, _, _, _, h⟩ := h; exact h
theorem mem_pad {p : List Int} {k : Nat} {line : Int} (h : 0 ≤ line) : line ∈ p ++ List.replicate k (-1) ↔ line ∈ p := by
  rw [List.mem_append, List.mem_replicate]
  exact ⟨fun h' => h'.elim id (fun h' => absurd h'.2 (by omega)), Or.inl⟩
theorem Good.front {c0 m : Int} {n : Nat} {r : List Int} {line : Int} (h : Good c0 m n r) (hn : 0 < n) (h0 : 0 ≤ line) (h1 : line ≤ 1048576) (hm : line.tmod c0 = m) : Good c0 m n (frontL line r) := by
  obtain ⟨p, k, rfl, hnd, hv, hl⟩ := h
  unfold frontL
  by_cases hp : line ∈ p
  · rw [if_pos ((mem_pad h0).2 hp), List.erase_append_left _ hp]
    refine ⟨line :: p.erase line, k, rfl, List.nodup_cons.2 ⟨hnd.not_mem_erase, hnd.erase _⟩, fun v hv' => ?_, ?_⟩
    · rcases List.mem_cons.1 hv' with rfl | hv'
      · exact ⟨h0, h1, hm⟩
      · exact hv v (List.mem_of_mem_erase hv')
    · have := List.length_pos_of_mem hp
      simp only [List.length_cons, List.length_append, List.length_replicate, List.length_erase_of_mem hp] at hl ⊢
      omega
  · rw [if_neg (fun h => hp ((mem_pad h0).1 h))]
    cases k with
    | zero =>
      simp only [List.replicate_zero, List.append_nil] at hl ⊢
      refine ⟨line :: p.dropLast, 0, by simp, List.nodup_cons.2 ⟨fun h => hp ((List.dropLast_sublist p).mem h), hnd.sublist (List.dropLast_sublist p)⟩, fun v hv' => ?_, ?_⟩
      · rcases List.mem_cons.1 hv' with rfl | hv'
        · exact ⟨h0, h1, hm⟩
        · exact hv v ((List.dropLast_sublist p).mem hv')
      · simp only [List.length_cons, List.length_dropLast]; omega
    | succ k =>
      rw [List.replicate_succ', ← List.append_assoc, List.dropLast_concat]
      refine ⟨line :: p, k, rfl, List.nodup_cons.2 ⟨hp, hnd⟩, fun v hv' => ?_, ?_⟩
      · rcases List.mem_cons.1 hv' with rfl | hv'
        · exact ⟨h0, h1, hm⟩
        · exact hv v hv'
      · simp only [List.length_cons, List.length_append, List.length_replicate] at hl ⊢; omega
theorem Good.row {c0 c1 m : Int} {n : Nat} {r : List Int} (h : Good c0 m n r) (hn : (n : Int) = c1) : rowOk c0 c1 m r := by
  obtain ⟨p, k, rfl, hnd, hv, hl⟩ := h
  refine ⟨by omega, fun i hi => ?_⟩
  unfold cellOk
  by_cases hp : i < p.length
  · right
    have hg : (p ++ List.replicate k (-1))[i] = p[i] := List.getElem_append_left hp
    have ht : (p ++ List.replicate k (-1)).take i = p.take i := by rw [List.take_append, show i - p.length = 0 by omega, List.take_zero, List.append_nil]
    obtain ⟨h0, h1, h2⟩ := hv _ (List.getElem_mem hp)
    rw [hg, ht]
    refine ⟨h0, h1, h2, fun hm => ?_, fun hm => ?_⟩
    · obtain ⟨j, hj, he⟩ := List.getElem_of_mem hm
      rw [List.length_take] at hj
      rw [List.getElem_take] at he
      have := (List.getElem_inj hnd).1 he
      omega
    · have := hv _ (List.mem_of_mem_take hm); omega
  · left
    rw [List.getElem_append_right (by omega), List.getElem_replicate]
theorem good_empty (c0 m : Int) (n : Nat) : Good c0 m n (List.replicate n (-1)) := ⟨[], n, rfl, List.nodup_nil, by simp, by simp⟩
theorem scan_eq {line : Int} : ∀ (r : List Int) (x : Nat) (s : Nat × Bool), r.count line ≤ 1 → (scan line r x s).1 = if line ∈ r then x + r.idxOf line else s.1 := by
  intro r
  induction r with
  | nil => intro x s _; rfl
  | cons y r ih =>
    intro x s hc
    simp only [scan]
    by_cases hy : y = line
    · subst hy
      rw [List.count_cons_self] at hc
      have hn : y ∉ r := fun h => by have := List.count_pos_iff.2 h; omega
      rw [if_pos rfl, ih _ _ (by omega), if_neg hn, if_pos List.mem_cons_self, List.idxOf_cons_self]; rfl
    · rw [List.count_cons_of_ne hy] at hc
      rw [if_neg hy, ih _ _ hc]
      by_cases hm : line ∈ r
      · rw [if_pos hm, if_pos (List.mem_cons_of_mem _ hm), List.idxOf_cons, show (y == line) = false from by simpa using hy]; simp only [cond_false]; omega
      · rw [if_neg hm, if_neg (fun h => hm ((List.mem_cons.1 h).resolve_left (fun e => hy e.symm)))]
theorem Good.use {c0 m : Int} {n : Nat} {r : List Int} {line : Int} (h : Good c0 m n r) (h0 : 0 ≤ line) : useL line r = frontL line r := by
  have hc : r.count line ≤ 1 := by
    obtain ⟨p, k, rfl, hnd, hv, hl⟩ := h
    rw [List.count_append, List.count_replicate]
    have := List.nodup_iff_count.1 hnd line
    rw [if_neg (by simp; omega)]
    omega
  unfold useL
  rw [scan_eq r 0 _ hc]
  by_cases hm : line ∈ r
  · rw [if_pos hm, Nat.zero_add, front_in hm]
  · rw [if_neg hm, front_out hm]
def GoodM (c0 c1 : Int) (l : List (List Int)) : Prop := (l.length : Int) = c0 ∧ ∀ i (h : i < l.length), Good c0 i c1.toNat l[i]
theorem GoodM.ok {c0 c1 : Int} {l : List (List Int)} (h : GoodM c0 c1 l) (h1 : 0 ≤ c1) : matOk c0 c1 l := ⟨h.1, fun i hi => (h.2 i hi).row (by omega)⟩
theorem GoodM.small {c0 c1 c2 : Int} {l : List (List Int)} (h : GoodM c0 c1 l) (hc : confOk c0 c1 c2) : smallM l := by
  obtain ⟨h0, h1, h2⟩ := hc
  refine ⟨by have := h.1; omega, fun r hr => ?_⟩
  obtain ⟨i, hi, rfl⟩ := List.getElem_of_mem hr
  have := (h.2 i hi).length
  omega
theorem goodM_empty {c0 c1 : Int} (h0 : 0 ≤ c0) : GoodM c0 c1 (emptyP c0 c1) := ⟨by simp [emptyP]; omega, fun i hi => by simp only [emptyP, List.getElem_replicate]; exact good_empty _ _ _⟩
theorem getD_at {l : List (List Int)} {n : Nat} (h : n < l.length) : l.getD n [] = l[n] := by simp [List.getD_eq_getElem?_getD, h]
/-- The place of an address. -/
theorem place {c0 c1 c2 a : Int} {l : List (List Int)} (hc : confOk c0 c1 c2) (h : (l.length : Int) = c0) (hz : c0 ≠ 0) (h0 : 0 ≤ a) (h1 : a ≤ 1048576) : 0 ≤ a / c2 ∧ a / c2 ≤ 1048576 ∧ 0 ≤ a / c2 % c0 ∧ (a / c2 % c0).toNat < l.length ∧ (a / c2).tmod c0 = ((a / c2 % c0).toNat : Int) := by
  obtain ⟨hc0, hc1, hc2⟩ := hc
  have e1 : 0 ≤ a / c2 := Int.ediv_nonneg h0 (by omega)
  have e2 : a / c2 ≤ a := Int.ediv_le_self c2 h0
  have e3 : 0 ≤ a / c2 % c0 := Int.emod_nonneg _ hz
  have e4 : a / c2 % c0 < c0 := Int.emod_lt_of_pos _ (by omega)
  refine ⟨e1, by omega, e3, by omega, ?_⟩
  rw [Int.tmod_eq_emod_of_nonneg e1]; omega
theorem GoodM.step {c0 c1 c2 a : Int} {l : List (List Int)} (h : GoodM c0 c1 l) (hc : confOk c0 c1 c2) (hz : c0 ≠ 0) (h0 : 0 ≤ a) (h1 : a ≤ 1048576) : GoodM c0 c1 (l.set (a / c2 % c0).toNat (frontL (a / c2) (l.getD (a / c2 % c0).toNat []))) := by
  obtain ⟨e1, e2, e3, e4, e5⟩ := place hc h.1 hz h0 h1
  refine ⟨by rw [List.length_set]; exact h.1, fun i hi => ?_⟩
  rw [List.length_set] at hi
  rw [List.getElem_set]
  split
  · next e =>
    subst e
    rw [getD_at hi]
    exact (h.2 _ hi).front (by have := hc.2.1; omega) e1 e2 e5
  · exact h.2 i hi
theorem GoodM.useP {c0 c1 c2 a : Int} {l : List (List Int)} (h : GoodM c0 c1 l) (hc : confOk c0 c1 c2) (hz : c0 ≠ 0) (h0 : 0 ≤ a) (h1 : a ≤ 1048576) : useP c0 c2 l a = l.set (a / c2 % c0).toNat (frontL (a / c2) (l.getD (a / c2 % c0).toNat [])) := by
  obtain ⟨e1, e2, e3, e4, e5⟩ := place hc h.1 hz h0 h1
  unfold QCa.useP
  rw [getD_at e4, (h.2 _ e4).use e1]
theorem next_some (L : List Int) {p n : Int} (hp : 0 ≤ p) (hp2 : p ≤ L.length) (hL : L.length ≤ 1000000) (hn : 0 < n) (hn2 : n ≤ 1000000) : ∃ t q, timeboundmake_Deck_Next.f L p n = some (t, q) ∧ 0 ≤ t ∧ t < n ∧ 0 ≤ q ∧ q ≤ L.length := by
  have key : ∃ t q, timeboundmake_Deck_Next.f L p n = some (t, q) ∧ 0 ≤ q ∧ q ≤ L.length := by
    unfold timeboundmake_Deck_Next.f
    by_cases h1 : p ≥ (L.length : Int)
    · exact ⟨_, _, if_pos h1, hp, hp2⟩
    · rw [if_neg h1]
      by_cases h2 : n ≤ 1
      · exact ⟨_, _, if_pos h2, hp, hp2⟩
      · rw [if_neg h2, w64 (x := p + 1) (by omega) (by omega), w64 (by omega) (by omega), if_pos (by omega), if_pos (by omega)]
        unfold timeboundmake_Mod.f
        rw [if_neg (by omega)]
        exact ⟨_, _, rfl, by omega, by omega⟩
  obtain ⟨t, q, h, h1, h2⟩ := key
  exact ⟨t, q, h, (next_range hn hn2 h).1, (next_range hn hn2 h).2, h1, h2⟩
theorem linesRun_good {L : List Int} {c0 c1 c2 : Int} (hc : confOk c0 c1 c2) (hL : L.length ≤ 1000000) : ∀ (i : Nat) (p : Int) (l : List (List Int)), 0 ≤ p → p ≤ L.length → GoodM c0 c1 l → ∃ x q, linesRun L c0 c2 i p l = some (x, q) ∧ GoodM c0 c1 x ∧ 0 ≤ q ∧ q ≤ L.length := by
  intro i
  induction i with
  | zero => intro p l h0 h1 hg; exact ⟨l, p, rfl, hg, h0, h1⟩
  | succ i ih =>
    intro p l h0 h1 hg
    rw [linesRun]
    by_cases hz : c0 = 0
    · exact ⟨l, p, if_pos hz, hg, h0, h1⟩
    · rw [if_neg hz]
      obtain ⟨t, q, h, ht0, ht1, hq0, hq1⟩ := next_some L h0 h1 hL (n := 120) (by decide) (by decide)
      rw [h]
      simp only [Option.bind_some]
      rw [hg.useP hc hz ht0 (by omega)]
      exact ih q _ hq0 hq1 (hg.step hc hz ht0 (by omega))
theorem lines_good {L : List Int} {c0 c1 c2 p : Int} (hc : confOk c0 c1 c2) (hL : L.length ≤ 1000000) (h0 : 0 ≤ p) (h1 : p ≤ L.length) : ∃ x q, timeboundmake_lines.f L p c0 c1 c2 = some (x, q) ∧ GoodM c0 c1 x ∧ 0 ≤ q ∧ q ≤ L.length := by
  unfold timeboundmake_lines.f
  rw [if_pos hc]
  obtain ⟨t, q, h, ht0, ht1, hq0, hq1⟩ := next_some L h0 h1 hL (n := 12) (by decide) (by decide)
  rw [h]
  exact linesRun_good hc hL _ _ _ hq0 hq1 (goodM_empty hc.1.1)
theorem cache_some {L : List Int} {p : Int} (hL : L.length ≤ 1000000) (h0 : 0 ≤ p) (h1 : p ≤ L.length) : ∃ c0 c1 c2 q, timeboundmake_Cache.f L p = some (c0, c1, c2, q) ∧ (0 ≤ c0 ∧ c0 ≤ 4) ∧ (1 ≤ c1 ∧ c1 ≤ 3) ∧ (1 ≤ c2 ∧ c2 ≤ 4) ∧ 0 ≤ q ∧ q ≤ L.length := by
  unfold timeboundmake_Cache.f
  obtain ⟨t1, q1, e1, a1, b1, f1, g1⟩ := next_some L h0 h1 hL (n := 5) (by decide) (by decide)
  obtain ⟨t2, q2, e2, a2, b2, f2, g2⟩ := next_some L f1 g1 hL (n := 3) (by decide) (by decide)
  obtain ⟨t3, q3, e3, a3, b3, f3, g3⟩ := next_some L f2 g2 hL (n := 4) (by decide) (by decide)
  rw [e1]; simp only [Option.bind_some]
  rw [e2]; simp only [Option.bind_some]
  rw [e3]; simp only [Option.bind_some]
  rw [w64 (by omega) (by omega), w64 (by omega) (by omega)]
  exact ⟨_, _, _, _, rfl, ⟨a1, by omega⟩, ⟨by omega, by omega⟩, ⟨by omega, by omega⟩, f3, g3⟩
/-! The misses of one row, and of all. -/
def rowRun : List Int → List Int → Int
  | _, [] => 0
  | r, x :: xs => (if x ∈ r then 0 else 1) + rowRun (frontL x r) xs
def sumN : Nat → (Nat → Int) → Int
  | 0, _ => 0
  | n + 1, f => sumN n f + f n
theorem sumN_congr {n : Nat} {f g : Nat → Int} (h : ∀ i, i < n → f i = g i) : sumN n f = sumN n g := by
  induction n with
  | zero => rfl
  | succ n ih => rw [sumN, sumN, ih (fun i hi => h i (by omega)), h n (by omega)]
theorem sumN_upd {n j : Nat} {f g : Nat → Int} {d : Int} (hj : j < n) (h : ∀ i, i < n → i ≠ j → f i = g i) (hd : f j = d + g j) : sumN n f = d + sumN n g := by
  induction n with
  | zero => omega
  | succ n ih =>
    rw [sumN, sumN]
    by_cases e : j = n
    · subst e
      rw [sumN_congr (f := f) (g := g) (fun i hi => h i (by omega) (by omega)), hd]; omega
    · rw [ih (by omega) (fun i hi => h i (by omega)), h n (by omega) (by omega)]; omega
theorem sumN_le {n : Nat} {f g : Nat → Int} {d : Int} (h : ∀ i, i < n → f i - g i ≤ d) : sumN n f - sumN n g ≤ n * d := by
  induction n with
  | zero => simp [sumN]
  | succ n ih =>
    have h1 := ih (fun i hi => h i (by omega))
    have h2 := h n (by omega)
    have h3 : ((n + 1 : Nat) : Int) * d = n * d + d := by rw [show ((n + 1 : Nat) : Int) = (n : Int) + 1 by omega, Int.add_mul]; omega
    rw [sumN, sumN]
    omega
def ofSet (c0 c2 : Int) (i : Nat) (q : List Int) : List Int := (q.map (· / c2)).filter (fun x => decide (x % c0 = i))
theorem missRun_eq {c0 c1 c2 : Int} (hc : confOk c0 c1 c2) (hz : c0 ≠ 0) : ∀ (q : List Int) (l : List (List Int)) (n : Int), (∀ a ∈ q, 0 ≤ a ∧ a ≤ 1048576) → (l.length : Int) = c0 → missRun c0 c2 l q n = (n + sumN c0.toNat (fun i => rowRun (l.getD i []) (ofSet c0 c2 i q)), 0) := by
  intro q
  induction q with
  | nil =>
    intro l n _ _
    rw [missRun]
    have : ∀ m, sumN m (fun i => rowRun (l.getD i []) (ofSet c0 c2 i [])) = 0 := by
      intro m
      induction m with
      | zero => rfl
      | succ m ih => rw [sumN, ih]; rfl
    rw [this]; simp
  | cons a q ih =>
    intro l n ha hl
    obtain ⟨h0, h1⟩ := ha a List.mem_cons_self
    obtain ⟨e1, e2, e3, e4, e5⟩ := place hc hl hz h0 h1
    rw [missRun, if_pos ⟨h0, h1⟩, if_neg hz, ih _ _ (fun b hb => ha b (List.mem_cons_of_mem _ hb)) (by rw [List.length_set]; exact hl)]
    have := sumN_upd (n := c0.toNat) (j := (a / c2 % c0).toNat) (f := fun i => rowRun (l.getD i []) (ofSet c0 c2 i (a :: q))) (g := fun i => rowRun ((l.set (a / c2 % c0).toNat (frontL (a / c2) (l.getD (a / c2 % c0).toNat []))).getD i []) (ofSet c0 c2 i q)) (d := if (a / c2) ∈ l.getD (a / c2 % c0).toNat [] then 0 else 1) (by omega) (fun i hi hne => by
      congr 1
      · simp [List.getD_eq_getElem?_getD, List.getElem?_set_ne (Ne.symm hne)]
      · unfold ofSet
        rw [List.map_cons, List.filter_cons_of_neg]
        simp only [decide_eq_true_eq]
        omega) (by
      unfold ofSet
      rw [List.map_cons, List.filter_cons_of_pos (by simp only [decide_eq_true_eq]; omega), rowRun]
      congr 2
      simp [List.getD_eq_getElem?_getD, e4])
    rw [this]
    congr 1
    split <;> omega
theorem missRun_none {c2 : Int} : ∀ (q : List Int) (l : List (List Int)) (n : Int), (∀ a ∈ q, 0 ≤ a ∧ a ≤ 1048576) → missRun 0 c2 l q n = (n + q.length, 0) := by
  intro q
  induction q with
  | nil => intro l n _; simp [missRun]
  | cons a q ih =>
    intro l n ha
    rw [missRun, if_pos (ha a List.mem_cons_self), if_pos rfl, ih _ _ (fun b hb => ha b (List.mem_cons_of_mem _ hb))]
    congr 1
    rw [List.length_cons]; omega
theorem missRun_le {c0 c2 : Int} : ∀ (q : List Int) (l : List (List Int)) (n : Int), 0 ≤ n → (missRun c0 c2 l q n).1 ≤ n + q.length ∧ 0 ≤ (missRun c0 c2 l q n).1 := by
  intro q
  induction q with
  | nil => intro l n h; simp [missRun]; exact h
  | cons a q ih =>
    intro l n h
    rw [missRun]
    split
    · split
      · have := ih l (n + 1) (by omega)
        rw [List.length_cons]; omega
      · split
        · have := ih (l.set (a / c2 % c0).toNat (frontL (a / c2) (l.getD (a / c2 % c0).toNat []))) n h
          rw [List.length_cons]; omega
        · have := ih (l.set (a / c2 % c0).toNat (frontL (a / c2) (l.getD (a / c2 % c0).toNat []))) (n + 1) (by omega)
          rw [List.length_cons]; omega
    · rw [List.length_cons]; simp; omega
/-! Two rows with a common begin. -/
theorem front_same {x : Int} {q s : List Int} (h : x ∈ q) : frontL x (q ++ s) = (x :: q.erase x) ++ s := by
  rw [frontL, if_pos (List.mem_append_left _ h), List.erase_append_left _ h]; rfl
theorem front_new {x : Int} {q s : List Int} (h : x ∉ q) (hs : 0 < s.length) : ∃ s', frontL x (q ++ s) = (x :: q) ++ s' ∧ s'.length + 1 = s.length := by
  rw [frontL]
  by_cases hx : x ∈ s
  · rw [if_pos (List.mem_append_right _ hx), List.erase_append_right _ h]
    exact ⟨s.erase x, rfl, by rw [List.length_erase_of_mem hx]; omega⟩
  · rw [if_neg (fun e => (List.mem_append.1 e).elim h hx), List.dropLast_append_of_ne_nil (by intro e; simp [e] at hs)]
    exact ⟨s.dropLast, rfl, by rw [List.length_dropLast]; omega⟩
theorem rowRun_near : ∀ (xs q s1 s2 : List Int), s1.length = s2.length → rowRun (q ++ s1) xs - rowRun (q ++ s2) xs ≤ s1.length := by
  intro xs
  induction xs with
  | nil => intro q s1 s2 h; simp [rowRun]
  | cons x xs ih =>
    intro q s1 s2 h
    rw [rowRun, rowRun]
    by_cases hx : x ∈ q
    · rw [if_pos (List.mem_append_left _ hx), if_pos (List.mem_append_left _ hx), front_same hx, front_same hx]
      have := ih (x :: q.erase x) s1 s2 h
      omega
    · by_cases hs : s1.length = 0
      · obtain rfl := List.eq_nil_of_length_eq_zero hs
        obtain rfl := List.eq_nil_of_length_eq_zero (show s2.length = 0 by omega)
        simp
      · obtain ⟨t1, e1, f1⟩ := front_new hx (s := s1) (by omega)
        obtain ⟨t2, e2, f2⟩ := front_new hx (s := s2) (by omega)
        rw [e1, e2]
        have := ih (x :: q) t1 t2 (by omega)
        split <;> split <;> omega
end Go.Proofs.Ytfdiagegpahcoaa.QCa
