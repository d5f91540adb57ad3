import Derived.Test.YtfdiagegpahcoaaLru
import Derived.Test.YtfdiagegpahcoaaQCbx2
namespace Go.Proofs.Ytfdiagegpahcoaa.QCb
open Go.RowKit Go.Proofs.Ytfdiagegpahcoaa.QCa Go.Proofs.YtfdiagegpahcoaaW.PrintWords
theorem empty_l {c0 c1 c2 : Int} (hc : confOk c0 c1 c2) : ∀ (n m : Nat), (m : Int) + n = c0 → ∀ k, n + 1 ≤ k → cache_Empty.l0 k c0 m c0 c1 c2 (List.replicate m (List.replicate c1.toNat (-1))) = some (List.replicate (m + n) (List.replicate c1.toNat (-1))) := by
  obtain ⟨h0, h1, h2⟩ := id hc
  intro n
  induction n with
  | zero =>
    intro m hm k hk
    obtain ⟨k, rfl⟩ : ∃ k', k = k' + 1 := ⟨k - 1, by omega⟩
    simp only [cache_Empty.l0]
    rw [if_neg (by omega)]; rfl
  | succ n ih =>
    intro m hm k hk
    obtain ⟨k, rfl⟩ : ∃ k', k = k' + 1 := ⟨k - 1, by omega⟩
    simp only [cache_Empty.l0]
    rw [if_pos (by omega), slices_Repeat_int_int.f, if_pos (show ([-1] : List Int).length = 1 from rfl), if_pos (show 1 ≤ c1 ∧ c1 ≤ 4 by omega)]
    simp only [Option.bind_some]
    rw [if_pos (by rw [List.length_replicate]; omega), w64 (by omega) (by omega), show rd [(-1 : Int)] 0 = -1 from rfl, ← List.replicate_succ', show ((m : Int) + 1) = ((m + 1 : Nat) : Int) by omega, ih (m + 1) (by omega) k (by omega)]
    congr 2
    omega
theorem empty_ev {c0 c1 c2 : Int} (hc : confOk c0 c1 c2) {k : Nat} (hk : 10 ≤ k) : cache_Empty.f k c0 c1 c2 = some (emptyP c0 c1) := by
  unfold cache_Empty.f
  rw [Check_eq, if_pos hc]
  simp only [Option.bind_some, if_true]
  have h0 := hc.1
  have := empty_l hc c0.toNat 0 (by omega) k (by omega)
  rw [Nat.zero_add] at this
  exact this
theorem awake_ev {k : Nat} (hk : 10 ≤ k) : timeboundlaw22_awake.f k = some true := by
  have h1 : confOk 1 2 1 := by decide
  unfold timeboundlaw22_awake.f
  rw [empty_ev h1 hk]
  simp only [Option.bind_some]
  rw [show cache_Misses.f 1 2 1 (emptyP 1 2) [1, 2, 1, 3, 2] = some (4, 0) by decide +kernel]
  simp only [Option.bind_some, if_true]
  rw [show cache_Line.f 2 1 4 9 = some 2 by decide +kernel]
  simp only [Option.bind_some, if_true]
  rw [show cache_Set.f 1 2 1 7 = some 0 by decide +kernel]
  rfl
end Go.Proofs.Ytfdiagegpahcoaa.QCb
