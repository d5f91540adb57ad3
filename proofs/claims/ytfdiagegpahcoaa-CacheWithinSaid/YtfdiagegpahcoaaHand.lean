import Derived.Test.YtfdiagegpahcoaaTouch
import Derived.Test.YtfdiagegpahcoaaIdx
namespace Go.Proofs.Ytfdiagegpahcoaa.QCa
set_option linter.unusedVariables false
set_option linter.unusedSimpArgs false
open Go.RowKit Go.Proofs.YtfdiagegpahcoaaW.PrintWords Go.Proofs.YtfdiagegpahcoaaW.PrintLast Go.Proofs.YtfdiagegpahcoaaW.PrintMore Mat
def frontL (line : Int) (r : List Int) : List Int := line :: (if line ∈ r then r.erase line else r.dropLast)
def touchP (c0 c1 c2 : Int) (l : List (List Int)) (a : Int) : List (List Int) × Bool × Int :=
  if confOk c0 c1 c2 then if matOk c0 c1 l then if 0 ≤ a ∧ a ≤ 1048576 then
    if c0 = 0 then (l, false, 0) else (l.set (a / c2 % c0).toNat (frontL (a / c2) (l.getD (a / c2 % c0).toNat [])), decide ((a / c2) ∈ l.getD (a / c2 % c0).toNat []), 0)
   else (l, false, 3) else (l, false, 10) else (l, false, 3)
def smallM (l : List (List Int)) : Prop := l.length ≤ 1000 ∧ ∀ r ∈ l, r.length ≤ 1000
instance (l : List (List Int)) : Decidable (smallM l) := by unfold smallM; infer_instance
theorem Line_ok {c0 c1 c2 a : Int} (hc : confOk c0 c1 c2) (h0 : 0 ≤ a) (h1 : a ≤ 1048576) : cache_Line.f c0 c1 c2 a = some (a / c2) := by
  unfold cache_Line.f
  rw [Check_eq, if_pos hc]
  simp only [Option.bind_some, if_true]
  obtain ⟨_, _, h2, _⟩ := hc
  rw [if_neg (by omega), if_neg (by omega), Int.tdiv_eq_ediv_of_nonneg h0, w64]
  · have := Int.ediv_nonneg h0 (show 0 ≤ c2 by omega); omega
  · have := Int.ediv_le_self c2 h0; omega
theorem Set_ok {c0 c1 c2 a : Int} (hc : confOk c0 c1 c2) (h0 : 0 ≤ a) (hz : c0 ≠ 0) : cache_Set.f c0 c1 c2 a = some (a % c0) := by
  unfold cache_Set.f
  rw [Check_eq, if_pos hc]
  simp only [Option.bind_some, if_true]
  rw [if_neg (by omega), if_neg hz, Int.tmod_eq_emod_of_nonneg h0]
theorem front_in {line : Int} {r : List Int} (h : line ∈ r) : line :: (r.take (r.idxOf line) ++ r.drop (r.idxOf line + 1)) = frontL line r := by
  rw [frontL, if_pos h, ← List.eraseIdx_eq_take_drop_succ, List.erase_eq_eraseIdx_of_idxOf rfl]
theorem front_out {line : Int} {r : List Int} (h : line ∉ r) : line :: (r.take (r.length - 1) ++ r.drop (r.length - 1 + 1)) = frontL line r := by
  rw [frontL, if_neg h, List.dropLast_eq_take]
  rw [List.drop_eq_nil_of_le (by omega), List.append_nil]
def cache_Touch.f (a0_0 : Int) (a0_1 : Int) (a0_2 : Int) (l1_0 : List (List Int)) (a2 : Int) : Option ((List (List Int)) × Bool × Int) := if smallM l1_0 then some (touchP a0_0 a0_1 a0_2 l1_0 a2) else none
theorem cache_Touch.calls (a0_0 : Int) (a0_1 : Int) (a0_2 : Int) (A1_0 : Option Addr) (c1_0 : Nat) (l1_0 : List (List Int)) (a2 : Int) (r1 : List (List Int)) (r2 : Bool) (r3 : Int) (w : World) (hr1_0 : Kd.C (Kd.slice 3 (Kd.int .i64)) w A1_0 l1_0.length l1_0) (hc1_0 : l1_0.length ≤ c1_0) (h : cache_Touch.f a0_0 a0_1 a0_2 l1_0 a2 = some (r1, r2, r3)) :
    Calls Try.prog 16 #[.agg #[.int .i64 a0_0, .int .i64 a0_1, .int .i64 a0_2], .agg #[.slice A1_0 l1_0.length c1_0], .int .i64 a2] w fun e w' => ∃ v0_ : Value, e = .returned (.tuple #[.agg #[v0_], .bool r2, .int .i64 r3]) ∧ Kd.S (Kd.slice 3 (Kd.int .i64)) 22 w' w.heap.size (fun _ => True) v0_ r1 ∧ Below w.heap.size w w' := by
  unfold cache_Touch.f at h
  by_cases hs : smallM l1_0
  case neg => rw [if_neg hs] at h; cases h
  rw [if_pos hs] at h
  have hE := checked_ev (c0 := a0_0) (c1 := a0_1) (c2 := a0_2) hs.1 hs.2 (Nat.le_refl 4000)
  unfold touchP at h
  by_cases h1 : confOk a0_0 a0_1 a0_2
  case neg =>
    rw [if_neg h1] at h hE
    obtain ⟨rfl, rfl, rfl⟩ : l1_0 = r1 ∧ false = r2 ∧ (3 : Int) = r3 := by simpa using h
    exact cache_TouchBad.calls 4000 _ _ _ _ _ _ _ _ w hr1_0 hc1_0 hs.1 hs.2 hE (by decide)
  by_cases h2 : matOk a0_0 a0_1 l1_0
  case neg =>
    rw [if_pos h1, if_neg h2] at h hE
    obtain ⟨rfl, rfl, rfl⟩ : l1_0 = r1 ∧ false = r2 ∧ (10 : Int) = r3 := by simpa using h
    exact cache_TouchBad.calls 4000 _ _ _ _ _ _ _ _ w hr1_0 hc1_0 hs.1 hs.2 hE (by decide)
  rw [if_pos h1, if_pos h2] at h hE
  have hb := between_eq a2 0 1048576
  by_cases h3 : 0 ≤ a2 ∧ a2 ≤ 1048576
  case neg =>
    rw [if_neg h3] at h
    rw [decide_eq_false h3] at hb
    obtain ⟨rfl, rfl, rfl⟩ : l1_0 = r1 ∧ false = r2 ∧ (3 : Int) = r3 := by simpa using h
    exact cache_TouchFar.calls 4000 _ _ _ _ _ _ _ w hr1_0 hc1_0 hs.1 hs.2 hE hb
  rw [decide_eq_true h3] at hb
  rw [if_pos h3] at h
  by_cases h4 : a0_0 = 0
  · rw [if_pos h4] at h
    obtain ⟨rfl, rfl, rfl⟩ : l1_0 = r1 ∧ false = r2 ∧ (0 : Int) = r3 := by simpa using h
    exact cache_TouchNone.calls 4000 _ _ _ _ _ _ _ w hr1_0 hc1_0 hs.1 hs.2 hE hb h4
  · rw [if_neg h4] at h
    have hl := Line_ok h1 h3.1 h3.2
    obtain ⟨hc0, hc1, hc2⟩ := id h1
    have hl0 : 0 ≤ a2 / a0_2 := Int.ediv_nonneg h3.1 (by omega)
    have hst := Set_ok h1 hl0 h4
    have hn0 : 0 ≤ a2 / a0_2 % a0_0 := Int.emod_nonneg _ h4
    have hn1 : a2 / a0_2 % a0_0 < a0_0 := Int.emod_lt_of_pos _ (by omega)
    generalize hline : a2 / a0_2 = line at h hl hst hl0 hn0 hn1
    obtain ⟨n, hn⟩ : ∃ n : Nat, line % a0_0 = n := ⟨(line % a0_0).toNat, by omega⟩
    rw [hn] at h hst hn1
    rw [Int.toNat_natCast] at h
    have hlen := h2.1
    have hnl : n < l1_0.length := by omega
    have hrow := h2.2 n hnl
    have hgd : l1_0.getD n [] = l1_0[n] := by simp [List.getD_eq_getElem?_getD, hnl]
    rw [hgd] at h
    have hrl := hs.2 _ (List.getElem_mem hnl)
    have hp : 0 < l1_0[n].length := by have := hrow.1; omega
    have hix := index_ev (l := l1_0[n]) (a := line) (by omega) (k := 4000) (by omega)
    by_cases h5 : line ∈ l1_0[n]
    · have hi : l1_0[n].idxOf line < l1_0[n].length := List.idxOf_lt_length_iff.2 h5
      obtain ⟨rfl, rfl, rfl⟩ : l1_0.set n (frontL line l1_0[n]) = r1 ∧ true = r2 ∧ (0 : Int) = r3 := by simpa [h5] using h
      rw [← front_in h5]
      exact cache_TouchGood.calls 4000 _ _ _ _ _ _ _ w hr1_0 hc1_0 hs.1 hs.2 hE hb h4 line n hl hst l1_0[n] (List.getElem?_eq_getElem hnl) hp _ _ true hix (.inl ⟨by rw [idx, if_pos h5], hi, rfl⟩)
    · obtain ⟨rfl, rfl, rfl⟩ : l1_0.set n (frontL line l1_0[n]) = r1 ∧ false = r2 ∧ (0 : Int) = r3 := by simpa [h5] using h
      rw [← front_out h5]
      exact cache_TouchGood.calls 4000 _ _ _ _ _ _ _ w hr1_0 hc1_0 hs.1 hs.2 hE hb h4 line n hl hst l1_0[n] (List.getElem?_eq_getElem hnl) hp _ _ false hix (.inr ⟨by rw [idx, if_neg h5], rfl, rfl⟩)
end Go.Proofs.Ytfdiagegpahcoaa.QCa
