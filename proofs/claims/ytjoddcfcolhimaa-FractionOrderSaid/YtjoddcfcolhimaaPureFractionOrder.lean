/- FractionOrder: for every list of numbers and the three small fractions made of it: Cmp is antisymmetric, transitive, kept by Add, and 0 just for equal ones; Floor and Ceil are less than 1 away. No condition. -/
import Derived.Test.YtjoddcfcolhimaaFrD
import Derived.Test.YtjoddcfcolhimaaFrE
import Derived.Test.YtjoddcfcolhimaaQFrx8
import Derived.Test.YtjoddcfcolhimaaQFrx9
import Derived.Test.YtjoddcfcolhimaaQFrx11
import Derived.Test.YtjoddcfcolhimaaQFrx12
namespace Go.Proofs.Ytjoddcfcolhimaa.Pure
open Go.RowKit Go.Proofs.Ytjoddcfcolhimaa.QFr Go.Proofs.YtjoddcfcolhimaaW.PrintWords Go.Proofs.YtjoddcfcolhimaaW.PrintLast
open Go.Proofs.Ytjoddcfcolhimaa.Num Go.Proofs.Ytjoddcfcolhimaa.FrB Go.Proofs.Ytjoddcfcolhimaa.FrD Go.Proofs.Ytjoddcfcolhimaa.FrE

theorem sm_add {p q : Rat} (hp : sm p) (hq : sm q) : (p + q).num.natAbs ≤ 180 ∧ (p + q).den ≤ 81 := by
  unfold sm at hp hq
  have h := add_bounds p q
  have h1 : p.num.natAbs * q.den ≤ 10 * 9 := Nat.mul_le_mul hp.1 hq.2
  have h2 : q.num.natAbs * p.den ≤ 10 * 9 := Nat.mul_le_mul hq.1 hp.2
  have h3 : p.den * q.den ≤ 9 * 9 := Nat.mul_le_mul hp.2 hq.2
  omega
theorem eq_iff (p q : Rat) : (p.num == q.num && ((p.den : Int) == (q.den : Int))) = decide (p = q) := by
  rw [Bool.eq_iff_iff]
  simp only [Bool.and_eq_true, beq_iff_eq, decide_eq_true_eq]
  constructor
  · rintro ⟨h1, h2⟩; exact Rat.ext h1 (by omega)
  · rintro rfl; exact ⟨rfl, rfl⟩
theorem cmp_cases (p q : Rat) : cmpR p q = -1 ∧ p < q ∨ cmpR p q = 0 ∧ p = q ∨ cmpR p q = 1 ∧ q < p := by
  unfold cmpR
  split
  · exact Or.inl ⟨rfl, by assumption⟩
  · split
    · exact Or.inr (Or.inl ⟨rfl, by assumption⟩)
    · exact Or.inr (Or.inr ⟨rfl, by grind⟩)
theorem FractionOrder : timeboundlaw31_FractionOrder.Pure := by
  intro l0 _ hl _
  refine Ev.rounds ?_
  obtain ⟨x, i, fx, sx, i0, i1⟩ := frac_spec l0 hl (i := 0) (by omega) (by omega)
  obtain ⟨y, j, fy, sy, j0, j1⟩ := frac_spec l0 hl (i := i) (by omega) i1
  obtain ⟨z, m, fz, sz, m0, m1⟩ := frac_spec l0 hl (i := j) (by omega) j1
  have fitx := sm_fits sx
  have fity := sm_fits sy
  have fitz := sm_fits sz
  have ba := sm_add sx sz
  have bb := sm_add sy sz
  have fita : fits (x + z) := by unfold fits; omega
  have fitb : fits (y + z) := by unfold fits; omega
  have a1 := add_spec fitx fitz
  have b1 := add_spec fity fitz
  rw [chk_fits fita] at a1
  rw [chk_fits fitb] at b1
  have cxy := cmp_spec fitx fity
  have cyx := cmp_spec fity fitx
  have cab := cmp_spec fita fitb
  have cyz := cmp_spec fity fitz
  have cxz := cmp_spec fitx fitz
  have bx := sx
  unfold sm at bx
  have hpos := x.den_pos
  unfold timeboundlaw31_FractionOrder.f
  simp only [timeboundmake_New.f, Option.bind_some]
  refine Ev.bind fx (Ev.bind fy (Ev.bind fz (Ev.bind a1 (Ev.bind b1 (Ev.pos rfl (Ev.pos rfl (Ev.bind cxy (Ev.bind cyx (Ev.pos ?_ (Ev.bind cab (Ev.bind cxy (Ev.pos ?_ (Ev.bind cxy ?_)))))))))))))
  · have w : wrap64 (-(cmpR y x)) = -(cmpR y x) := by
      rcases cmp_cases y x with h | h | h <;> exact wrap64_id (by omega) (by omega)
    rw [w]
    rcases cmp_cases x y with h | h | h <;> rcases cmp_cases y x with k | k | k <;> grind
  · rcases cmp_cases (x + z) (y + z) with h | h | h <;> rcases cmp_cases x y with k | k | k <;> grind
  · have e : ((cmpR x y == 0) != (x.num == y.num && ((x.den : Int) == (y.den : Int)))) = false := by
      rw [eq_iff]
      rcases cmp_cases x y with h | h | h
      · have : x ≠ y := by grind
        simp [h.1, this]
      · rw [h.1, decide_eq_true h.2]; rfl
      · have : x ≠ y := by grind
        simp [h.1, this]
    rw [e]
    have fin : Ev (fun k => timeboundlaw31_FractionOrder.j1 k false x.num x.den) true := by
      have e2 := Int.mul_ediv_add_emod x.num x.den
      have e3 := Int.mul_ediv_add_emod (-x.num) x.den
      have h3 := Int.emod_nonneg x.num (show (x.den : Int) ≠ 0 by omega)
      have h4 := Int.emod_lt_of_pos x.num (show (0 : Int) < x.den by omega)
      have h5 := Int.emod_nonneg (-x.num) (show (x.den : Int) ≠ 0 by omega)
      have h6 := Int.emod_lt_of_pos (-x.num) (show (0 : Int) < x.den by omega)
      have nb : (x.num / x.den).natAbs ≤ x.num.natAbs := Int.natAbs_ediv_le_natAbs _ _
      have nb2 : ((-x.num) / x.den).natAbs ≤ (-x.num).natAbs := Int.natAbs_ediv_le_natAbs _ _
      have p1 : (x.num / x.den) * x.den = x.den * (x.num / x.den) := Int.mul_comm ..
      have p2 : (x.num / x.den + 1) * x.den = x.den * (x.num / x.den) + x.den := by grind
      have p3 : -((-x.num) / x.den) * x.den = -(x.den * ((-x.num) / x.den)) := by grind
      have p4 : (-((-x.num) / x.den) - 1) * x.den = -(x.den * ((-x.num) / x.den)) - x.den := by grind
      refine Ev.step (f := fun k => (timeboundlaw31_awake.f k).bind fun t => some t) (fun k => ?_) (Ev.bind awake_spec (Ev.now _))
      simp only [timeboundlaw31_FractionOrder.j1, floor_spec (n := x.num) (d := (x.den : Int)) (by omega) (by omega) (by omega), ceil_spec (n := x.num) (d := (x.den : Int)) (by omega) (by omega) (by omega), Option.bind_some]
      rw [if_neg (by decide), wrap64_id (n := x.num / x.den + 1) (by omega) (by omega), wrap64_id (n := -((-x.num) / x.den) - 1) (by omega) (by omega), p1, p2, p3, p4,
        wrap64_id (n := x.den * (x.num / x.den)) (by omega) (by omega), wrap64_id (n := x.den * (x.num / x.den) + x.den) (by omega) (by omega),
        wrap64_id (n := -(x.den * ((-x.num) / x.den))) (by omega) (by omega), wrap64_id (n := -(x.den * ((-x.num) / x.den)) - x.den) (by omega) (by omega),
        if_pos (by omega), if_pos (by omega), if_pos (by omega), if_pos (by omega)]
    refine Ev.step (f := fun k => (fraction_Cmp.f k x.num x.den y.num y.den).bind fun t => if t ≤ 0 then (fraction_Cmp.f k y.num y.den z.num z.den).bind fun t => if t ≤ 0 then (fraction_Cmp.f k x.num x.den z.num z.den).bind fun t => timeboundlaw31_FractionOrder.j1 k (decide (t > 0)) x.num x.den else timeboundlaw31_FractionOrder.j1 k false x.num x.den else timeboundlaw31_FractionOrder.j1 k false x.num x.den) (fun k => by simp [timeboundlaw31_FractionOrder.j0]) ?_
    refine Ev.bind cxy ?_
    by_cases h1 : cmpR x y ≤ 0
    · refine Ev.pos h1 (Ev.bind cyz ?_)
      by_cases h2 : cmpR y z ≤ 0
      · refine Ev.pos h2 (Ev.bind cxz ?_)
        rw [show decide (cmpR x z > 0) = false from decide_eq_false ?_]
        · exact fin
        · rcases cmp_cases x y with a | a | a <;> rcases cmp_cases y z with b | b | b <;> rcases cmp_cases x z with c | c | c <;> grind
      · exact Ev.neg h2 fin
    · exact Ev.neg h1 fin
end Go.Proofs.Ytjoddcfcolhimaa.Pure
