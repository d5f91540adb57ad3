/- FractionLowest: for all a, b, k: Make of numerator and denominator and Make of both multiplied by the same number are the same valid fraction, of the same value. No condition. -/
import Derived.Test.YtjoddcfcolhimaaFrB
import Derived.Test.YtjoddcfcolhimaaQFrx8
import Derived.Test.YtjoddcfcolhimaaQFrx9
namespace Go.Proofs.Ytjoddcfcolhimaa.Pure
open Go.RowKit Go.Proofs.Ytjoddcfcolhimaa.QFr Go.Proofs.YtjoddcfcolhimaaW.PrintWords Go.Proofs.YtjoddcfcolhimaaW.PrintLast
open Go.Proofs.Ytjoddcfcolhimaa.Num Go.Proofs.Ytjoddcfcolhimaa.FrB

theorem FractionLowest : timeboundlaw31_FractionLowest.Pure := by
  intro a0 a1 a2 _ _ _
  refine Ev.rounds ?_
  unfold timeboundlaw31_FractionLowest.f
  simp only [mod_spec (a := a0) (k := 2001) (by decide) (by decide), mod_spec (a := a1) (k := 1000) (by decide) (by decide), mod_spec (a := a2) (k := 1000) (by decide) (by decide), Option.bind_some]
  obtain ⟨A, hA⟩ : ∃ A, A = a0 % 2001 - 1000 := ⟨_, rfl⟩
  obtain ⟨B, hB⟩ : ∃ B, B = 1 + a1 % 1000 := ⟨_, rfl⟩
  obtain ⟨C, hC⟩ : ∃ C, C = 1 + a2 % 1000 := ⟨_, rfl⟩
  have bA : -1000 ≤ A ∧ A ≤ 1000 := by omega
  have bB : 1 ≤ B ∧ B ≤ 1000 := by omega
  have bC : 1 ≤ C ∧ C ≤ 1000 := by omega
  have w1 : wrap64 (a0 % 2001 - 1000) = A := by rw [← hA]; exact wrap64_id (by omega) (by omega)
  have w2 : wrap64 (1 + a1 % 1000) = B := by rw [← hB]; exact wrap64_id (by omega) (by omega)
  have w3 : wrap64 (1 + a2 % 1000) = C := by rw [← hC]; exact wrap64_id (by omega) (by omega)
  have w4 : wrap64 (-A) = -A := wrap64_id (by omega) (by omega)
  have w5 : wrap64 (-B) = -B := wrap64_id (by omega) (by omega)
  simp only [w1, w2, w3, w4, w5]
  have m1 : (A * C).natAbs ≤ 1000 * 1000 := by rw [Int.natAbs_mul]; exact Nat.mul_le_mul (by omega) (by omega)
  have m2 : (B * C).natAbs ≤ 1000 * 1000 := by rw [Int.natAbs_mul]; exact Nat.mul_le_mul (by omega) (by omega)
  have m3 : 0 < B * C := Int.mul_pos (by omega) (by omega)
  have e1 : -A * C = -(A * C) := Int.neg_mul ..
  have e2 : -B * C = -(B * C) := Int.neg_mul ..
  have w6 : wrap64 (-A * C) = -(A * C) := by rw [e1]; exact wrap64_id (by omega) (by omega)
  have w7 : wrap64 (-B * C) = -(B * C) := by rw [e2]; exact wrap64_id (by omega) (by omega)
  rw [w6, w7]
  have hq : Rat.divInt (-(A * C)) (-(B * C)) = Rat.divInt A B := by
    rw [divInt_negs _ _ (by omega)]; exact Rat.divInt_mul_right (by omega)
  obtain ⟨q, hqq⟩ : ∃ q, q = Rat.divInt A B := ⟨_, rfl⟩
  have hf : fits q := by rw [hqq]; exact divInt_fits (by omega) (by omega) (by omega) (by omega) (by omega)
  have c : chk q = (q.num, (q.den : Int), 0) := chk_fits hf
  refine Ev.bind (make_small (n := A) (d := B) (by omega) (by omega) (by omega) (by omega) (by omega)) ?_
  refine Ev.bind (make_small (n := -(A * C)) (d := -(B * C)) (by omega) (by omega) (by omega) (by omega) (by omega)) ?_
  rw [hq, ← hqq, c]
  have hcross : A * (q.den : Int) = q.num * B := by
    rw [← Rat.divInt_eq_divInt_iff (by omega) (by have := q.den_pos; omega), ← hqq, Rat.num_divInt_den]
  have hw : wrap64 (q.num * B) = wrap64 (A * (q.den : Int)) := by rw [hcross]
  have hv : decide (vld q.num (q.den : Int)) = true := decide_eq_true (vld_rat hf)
  have hr := hf
  unfold fits at hr
  refine Ev.congr (f := fun k => (timeboundref31_Valid.f k q.num (q.den : Int)).bind fun t => if t = true then (timeboundlaw31_awake.f k).bind fun t => some t else some false) (fun k => by simp [hw]) ?_
  refine Ev.bind (refvalid_spec (by omega) (by omega)) ?_
  rw [hv]
  exact Ev.pos rfl (Ev.bind awake_spec (Ev.now _))

end Go.Proofs.Ytjoddcfcolhimaa.Pure
