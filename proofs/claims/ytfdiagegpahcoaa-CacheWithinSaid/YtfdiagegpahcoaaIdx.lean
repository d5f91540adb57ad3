import Derived.Test.YtfdiagegpahcoaaCopied
namespace Go.Proofs.Ytfdiagegpahcoaa.QCa
set_option linter.unusedVariables false
set_option linter.unusedSimpArgs false
open Go.RowKit Go.Proofs.YtfdiagegpahcoaaW.PrintWords
def idx (l : List Int) (a : Int) : Int := if a ∈ l then (l.idxOf a : Int) else -1
theorem rd_nat {l : List Int} {x : Nat} (hx : x < l.length) : rd l (x : Int) = l[x] := by simp [rd, List.getD_eq_getElem?_getD, hx]
theorem w64 {x : Int} (h0 : -9223372036854775808 ≤ x) (h1 : x ≤ 9223372036854775807) : wrap64 x = x := by unfold wrap64; omega
theorem index_l {l : List Int} {a : Int} (hl : l.length ≤ 1000000) : ∀ n x, x + n = l.length → a ∉ l.take x → ∀ k, n + 1 ≤ k → slices_Index_int_int.l0 k l a (l.length : Int) (x : Int) = some (idx l a) := by
  intro n
  induction n with
  | zero =>
    intro x hx hn k hk
    obtain ⟨k, rfl⟩ : ∃ k', k = k' + 1 := ⟨k - 1, by omega⟩
    rw [List.take_of_length_le (by omega)] at hn
    simp only [slices_Index_int_int.l0]
    rw [if_neg (by omega), idx, if_neg hn]
  | succ n ih =>
    intro x hx hn k hk
    obtain ⟨k, rfl⟩ : ∃ k', k = k' + 1 := ⟨k - 1, by omega⟩
    have hxl : x < l.length := by omega
    simp only [slices_Index_int_int.l0]
    rw [if_pos (by omega), if_pos (by omega), if_pos (by omega), rd_nat hxl]
    by_cases he : a = l[x]
    · rw [if_pos he, idx, if_pos (by rw [he]; exact List.getElem_mem hxl)]
      congr 2
      have hsp : (l.take x ++ l.drop x).idxOf a = x := by
        rw [List.idxOf_append, if_neg hn, List.length_take, Nat.min_eq_left (by omega), List.drop_eq_getElem_cons hxl, ← he]
        simp
      rw [List.take_append_drop] at hsp
      rw [hsp]
    · rw [if_neg he, w64 (by omega) (by omega)]
      have := ih (x + 1) (by omega) (by
        rw [List.take_succ_eq_append_getElem hxl, List.mem_append, not_or]
        exact ⟨hn, by simpa using he⟩) k (by omega)
      simpa using this
theorem index_ev {l : List Int} {a : Int} (hl : l.length ≤ 1000000) {k : Nat} (hk : l.length + 1 ≤ k) : slices_Index_int_int.f k l a = some (idx l a) := by
  have := index_l (l := l) (a := a) hl l.length 0 (by omega) (by simp) k hk
  simpa [slices_Index_int_int.f] using this
theorem contains_ev {l : List Int} {a : Int} (hl : l.length ≤ 1000000) {k : Nat} (hk : l.length + 1 ≤ k) : slices_Contains_int_int.f k l a = some (decide (a ∈ l)) := by
  rw [slices_Contains_int_int.f, index_ev hl hk]
  simp only [Option.bind_some, idx]
  by_cases h : a ∈ l <;> simp [h] <;> omega
def cellOk (c0 m : Int) (l : List Int) (i : Nat) (h : i < l.length) : Prop := l[i] = -1 ∨ (0 ≤ l[i] ∧ l[i] ≤ 1048576 ∧ l[i].tmod c0 = m ∧ l[i] ∉ l.take i ∧ (-1 : Int) ∉ l.take i)
instance (c0 m : Int) (l : List Int) (i : Nat) (h : i < l.length) : Decidable (cellOk c0 m l i h) := by unfold cellOk; infer_instance
instance ballN (n : Nat) (x : Nat) (P : ∀ i, i < n → Prop) [∀ i h, Decidable (P i h)] : Decidable (∀ i (h : i < n), x ≤ i → P i h) := Nat.decidableBallLT n (fun i h => x ≤ i → P i h)
theorem set_l {c0 c1 c2 m : Int} {l : List Int} (h0 : c0 ≠ 0) (hl : l.length ≤ 1000000) : ∀ n x, x + n = l.length → ∀ k, n + l.length + 2 ≤ k → cache_set.l0 k m l l (l.length : Int) (x : Int) c0 c1 c2 = some (decide (∀ i (h : i < l.length), x ≤ i → cellOk c0 m l i h)) := by
  intro n
  induction n with
  | zero =>
    intro x hx k hk
    obtain ⟨k, rfl⟩ : ∃ k', k = k' + 1 := ⟨k - 1, by omega⟩
    simp only [cache_set.l0]
    rw [if_neg (by omega)]
    congr 1
    exact (decide_eq_true (fun i h hxi => by omega)).symm
  | succ n ih =>
    intro x hx k hk
    obtain ⟨k, rfl⟩ : ∃ k', k = k' + 1 := ⟨k - 1, by omega⟩
    have hxl : x < l.length := by omega
    have hrec := ih (x + 1) (by omega) k (by omega)
    have hsplit : (∀ i (h : i < l.length), x ≤ i → cellOk c0 m l i h) ↔ cellOk c0 m l x hxl ∧ (∀ i (h : i < l.length), x + 1 ≤ i → cellOk c0 m l i h) := by
      constructor
      · exact fun h => ⟨h x hxl (Nat.le_refl _), fun i hi hx => h i hi (by omega)⟩
      · rintro ⟨h1, h2⟩ i hi hxi
        by_cases he : x = i
        · subst he; exact h1
        · exact h2 i hi (by omega)
    have hw : wrap64 ((x : Int) + 1) = ((x + 1 : Nat) : Int) := by rw [w64 (by omega) (by omega)]; rfl
    simp only [cache_set.l0]
    rw [if_pos (by omega), if_pos (by omega), if_pos (by omega), rd_nat hxl, hw, hrec]
    by_cases hm : l[x] = -1
    · rw [if_pos hm]
      congr 1
      exact decide_eq_decide.2 (by rw [hsplit]; exact ⟨fun h => ⟨Or.inl hm, h⟩, fun h => h.2⟩)
    · rw [if_neg hm]
      have hneg : ∀ (hno : ¬ cellOk c0 m l x hxl), some false = some (decide (∀ i (h : i < l.length), x ≤ i → cellOk c0 m l i h)) := fun hno => by
        congr 1
        exact (decide_eq_false (fun h => hno (hsplit.1 h).1)).symm
      have hbt : cache_between.f l[x] 0 1048576 = some (decide (0 ≤ l[x] ∧ l[x] ≤ 1048576)) := by
        unfold cache_between.f
        split
        · next h => simp [h]
        · next h => simp; omega
      rw [hbt]
      simp only [Option.bind_some, Int.toNat_natCast]
      have htk : (l.take x).length ≤ 1000000 := by rw [List.length_take]; omega
      have htk2 : (l.take x).length + 1 ≤ k := by rw [List.length_take]; omega
      rw [contains_ev htk htk2, contains_ev htk htk2]
      simp only [Option.bind_some]
      by_cases h1 : 0 ≤ l[x] ∧ l[x] ≤ 1048576
      · rw [if_pos (decide_eq_true h1), if_neg h0]
        by_cases h2 : l[x].tmod c0 = m
        · rw [if_pos h2, if_pos (by omega)]
          by_cases h3 : l[x] ∈ l.take x
          · rw [if_pos (decide_eq_true h3)]
            exact hneg (fun h => h.elim hm (fun h => h.2.2.2.1 h3))
          · rw [if_neg (by simpa using h3)]
            by_cases h4 : (-1 : Int) ∈ l.take x
            · rw [if_pos (decide_eq_true h4)]
              exact hneg (fun h => h.elim hm (fun h => h.2.2.2.2 h4))
            · rw [if_neg (by simpa using h4)]
              congr 1
              exact decide_eq_decide.2 (by rw [hsplit]; exact ⟨fun h => ⟨Or.inr ⟨h1.1, h1.2, h2, h3, h4⟩, h⟩, fun h => h.2⟩)
        · rw [if_neg h2]
          exact hneg (fun h => h.elim hm (fun h => h2 h.2.2.1))
      · rw [if_neg (by simpa using h1)]
        exact hneg (fun h => h.elim hm (fun h => h1 ⟨h.1, h.2.1⟩))
def rowOk (c0 c1 m : Int) (l : List Int) : Prop := (l.length : Int) = c1 ∧ ∀ i (h : i < l.length), cellOk c0 m l i h
instance (c0 c1 m : Int) (l : List Int) : Decidable (rowOk c0 c1 m l) := by unfold rowOk; infer_instance
theorem set_ev {c0 c1 c2 m : Int} {l : List Int} (h0 : c0 ≠ 0) (hl : l.length ≤ 1000000) {k : Nat} (hk : 2 * l.length + 2 ≤ k) : cache_set.f k c0 c1 c2 m l = some (decide (rowOk c0 c1 m l)) := by
  unfold cache_set.f
  by_cases h1 : (l.length : Int) = c1
  · rw [if_pos h1]
    have := set_l (c0 := c0) (c1 := c1) (c2 := c2) (m := m) h0 hl l.length 0 (by omega) k (by omega)
    rw [show ((0 : Nat) : Int) = 0 from rfl] at this
    rw [this]
    congr 1
    exact decide_eq_decide.2 ⟨fun h => ⟨h1, fun i hi => h i hi (Nat.zero_le _)⟩, fun h i hi _ => h.2 i hi⟩
  · rw [if_neg h1]
    congr 1
    exact (decide_eq_false (fun h => h1 h.1)).symm
def matOk (c0 c1 : Int) (l : List (List Int)) : Prop := (l.length : Int) = c0 ∧ ∀ i (h : i < l.length), rowOk c0 c1 i l[i]

instance (c0 c1 : Int) (l : List (List Int)) : Decidable (matOk c0 c1 l) := by unfold matOk; infer_instance
theorem valid_l {c0 c1 c2 : Int} {l : List (List Int)} (h0 : l ≠ [] → c0 ≠ 0) (hl : l.length ≤ 1000) (hr : ∀ r ∈ l, r.length ≤ 1000) : ∀ n x, x + n = l.length → ∀ k, n + 2003 ≤ k → cache_Valid.l0 k l (l.length : Int) (x : Int) c0 c1 c2 = some (decide (∀ i (h : i < l.length), x ≤ i → rowOk c0 c1 i l[i])) := by
  intro n
  induction n with
  | zero =>
    intro x hx k hk
    obtain ⟨k, rfl⟩ : ∃ k', k = k' + 1 := ⟨k - 1, by omega⟩
    simp only [cache_Valid.l0]
    rw [if_neg (by omega)]
    congr 1
    exact (decide_eq_true (fun i h hxi => by omega)).symm
  | succ n ih =>
    intro x hx k hk
    obtain ⟨k, rfl⟩ : ∃ k', k = k' + 1 := ⟨k - 1, by omega⟩
    have hxl : x < l.length := by omega
    have hlr := hr _ (List.getElem_mem hxl)
    have hw : wrap64 ((x : Int) + 1) = ((x + 1 : Nat) : Int) := by rw [w64 (by omega) (by omega)]; rfl
    simp only [cache_Valid.l0]
    rw [if_pos (by omega), if_pos (by omega), if_pos (by omega), rd_at hxl, hw, ih (x + 1) (by omega) k (by omega), set_ev (h0 (by intro e; simp [e] at hxl)) (by omega) (by omega)]
    simp only [Option.bind_some]
    by_cases h1 : rowOk c0 c1 x l[x]
    · rw [if_pos (decide_eq_true h1)]
      congr 1
      refine decide_eq_decide.2 ⟨fun h i hi hxi => ?_, fun h i hi hxi => h i hi (by omega)⟩
      by_cases he : x = i
      · subst he; exact h1
      · exact h i hi (by omega)
    · rw [if_neg (by simpa using h1)]
      congr 1
      exact (decide_eq_false (fun h => h1 (h x hxl (Nat.le_refl _)))).symm
def confOk (c0 c1 c2 : Int) : Prop := (0 ≤ c0 ∧ c0 ≤ 8) ∧ (1 ≤ c1 ∧ c1 ≤ 4) ∧ (1 ≤ c2 ∧ c2 ≤ 8)
instance (c0 c1 c2 : Int) : Decidable (confOk c0 c1 c2) := by unfold confOk; infer_instance
theorem between_eq (a b c : Int) : cache_between.f a b c = some (decide (b ≤ a ∧ a ≤ c)) := by
  unfold cache_between.f
  split
  · next h => simp [h]
  · next h => simp; omega
theorem Check_eq (c0 c1 c2 : Int) : cache_Check.f c0 c1 c2 = some (if confOk c0 c1 c2 then 0 else 3) := by
  unfold cache_Check.f
  simp only [between_eq, Option.bind_some, confOk]
  by_cases h1 : 0 ≤ c0 ∧ c0 ≤ 8 <;> by_cases h2 : 1 ≤ c1 ∧ c1 ≤ 4 <;> by_cases h3 : 1 ≤ c2 ∧ c2 ≤ 8 <;> simp [h1, h2, h3]
theorem Valid_ev {c0 c1 c2 : Int} {l : List (List Int)} (hl : l.length ≤ 1000) (hr : ∀ r ∈ l, r.length ≤ 1000) {k : Nat} (hk : 4000 ≤ k) : cache_Valid.f k c0 c1 c2 l = some (decide (confOk c0 c1 c2 ∧ matOk c0 c1 l)) := by
  obtain ⟨k, rfl⟩ : ∃ k', k = k' + 1 := ⟨k - 1, by omega⟩
  unfold cache_Valid.f
  rw [Check_eq]
  simp only [Option.bind_some, cache_Valid.j0]
  by_cases h1 : confOk c0 c1 c2
  · rw [if_pos h1, if_pos rfl]
    by_cases h2 : (l.length : Int) = c0
    · rw [if_neg (by simpa using h2)]
      have := valid_l (c0 := c0) (c1 := c1) (c2 := c2) (l := l) (fun hne e => hne (List.eq_nil_of_length_eq_zero (by omega))) hl hr l.length 0 (by omega) k (by omega)
      rw [show ((0 : Nat) : Int) = 0 from rfl] at this
      rw [this]
      congr 1
      exact decide_eq_decide.2 ⟨fun h => ⟨h1, h2, fun i hi => h i hi (Nat.zero_le _)⟩, fun h i hi _ => h.2.2 i hi⟩
    · rw [if_pos (by simpa using h2)]
      congr 1
      exact (decide_eq_false (fun h => h2 h.2.1)).symm
  · rw [if_neg h1, if_neg (by decide), if_pos trivial]
    congr 1
    exact (decide_eq_false (fun h => h1 h.1)).symm
theorem checked_ev {c0 c1 c2 : Int} {l : List (List Int)} (hl : l.length ≤ 1000) (hr : ∀ r ∈ l, r.length ≤ 1000) {k : Nat} (hk : 4000 ≤ k) : cache_checked.f k c0 c1 c2 l = some (if confOk c0 c1 c2 then (if matOk c0 c1 l then 0 else 10) else 3) := by
  unfold cache_checked.f
  rw [Check_eq]
  simp only [Option.bind_some]
  by_cases h1 : confOk c0 c1 c2
  · rw [if_pos h1, if_pos rfl, Valid_ev hl hr hk]
    simp only [Option.bind_some]
    by_cases h2 : matOk c0 c1 l <;> simp [h1, h2]
  · rw [if_neg h1, if_neg (by decide), if_neg h1]
end Go.Proofs.Ytfdiagegpahcoaa.QCa
