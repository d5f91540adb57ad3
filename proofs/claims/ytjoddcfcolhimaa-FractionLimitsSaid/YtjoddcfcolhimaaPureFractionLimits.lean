/- FractionLimits: for all a, b, k: the product of big / p and q / big is q / p, a quotient of equal fractions is 1, and their difference 0, for big numbers up to the greatest. No condition. -/
import Derived.Test.YtjoddcfcolhimaaFrF
import Derived.Test.YtjoddcfcolhimaaQFrx8
import Derived.Test.YtjoddcfcolhimaaQFrx13
import Derived.Test.YtjoddcfcolhimaaQFrx14
import Derived.Test.YtjoddcfcolhimaaQFrx16
import Derived.Test.YtjoddcfcolhimaaQFrx17
namespace Go.Proofs.Ytjoddcfcolhimaa.Pure
open Go.RowKit Go.Proofs.Ytjoddcfcolhimaa.QFr Go.Proofs.YtjoddcfcolhimaaW.PrintWords Go.Proofs.YtjoddcfcolhimaaW.PrintLast
open Go.Proofs.Ytjoddcfcolhimaa.Num Go.Proofs.Ytjoddcfcolhimaa.FrB Go.Proofs.Ytjoddcfcolhimaa.FrD Go.Proofs.Ytjoddcfcolhimaa.FrF

theorem FractionLimits : timeboundlaw31_FractionLimits.Pure := by
  intro a0 a1 a2 _ _ _
  refine Ev.rounds ?_
  unfold timeboundlaw31_FractionLimits.f
  simp only [mod_spec (a := a0) (k := 1000) (by decide) (by decide), mod_spec (a := a1) (k := 1000) (by decide) (by decide), mod_spec (a := a2) (k := 100000) (by decide) (by decide), Option.bind_some]
  obtain ⟨p, hp⟩ : ∃ p, p = 1 + a0 % 1000 := ⟨_, rfl⟩
  obtain ⟨q, hq⟩ : ∃ q, q = 1 + a1 % 1000 := ⟨_, rfl⟩
  obtain ⟨big, hb⟩ : ∃ big, big = 1152921504606846976 - a2 % 100000 := ⟨_, rfl⟩
  have w1 : wrap64 (1 + a0 % 1000) = p := by rw [← hp]; exact wrap64_id (by omega) (by omega)
  have w2 : wrap64 (1 + a1 % 1000) = q := by rw [← hq]; exact wrap64_id (by omega) (by omega)
  have w3 : wrap64 (1152921504606846976 - a2 % 100000) = big := by rw [← hb]; exact wrap64_id (by omega) (by omega)
  simp only [w1, w2, w3]
  have bp : 1 ≤ p ∧ p ≤ 1000 := by omega
  have bq : 1 ≤ q ∧ q ≤ 1000 := by omega
  have bb : 1000000 ≤ big ∧ big ≤ 1152921504606846976 := by omega
  obtain ⟨x, hx⟩ : ∃ x, x = Rat.divInt big p := ⟨_, rfl⟩
  obtain ⟨y, hy⟩ : ∃ y, y = Rat.divInt q big := ⟨_, rfl⟩
  have fx : fits x := by rw [hx]; exact divInt_fits (by omega) (by omega) (by omega) (by omega) (by omega)
  have fy : fits y := by rw [hy]; exact divInt_fits (by omega) (by omega) (by omega) (by omega) (by omega)
  have m1 := make_spec (n := big) (d := p) (by omega) (by omega) (by omega) (by omega)
  have m2 := make_spec (n := q) (d := big) (by omega) (by omega) (by omega) (by omega)
  have m3 := rmake_spec (n := q) (d := p) (by omega) (by omega) (by omega) (by omega)
  unfold mk at m1 m2 m3
  rw [if_neg (by omega), ← hx, chk_fits fx] at m1
  rw [if_neg (by omega), ← hy, chk_fits fy] at m2
  have fz : fits (Rat.divInt q p) := divInt_fits (by omega) (by omega) (by omega) (by omega) (by omega)
  rw [if_neg (by omega), chk_fits fz] at m3
  have hz : x * y = Rat.divInt q p := by
    rw [hx, hy, Rat.divInt_mul_divInt, Int.mul_comm big q]; exact Rat.divInt_mul_right (by omega)
  have a := mul_spec fx fy
  rw [hz, chk_fits fz] at a
  have hx0 : x ≠ 0 := by
    intro h
    have hcross : Rat.divInt big p = Rat.divInt 0 1 := by rw [← hx, h]; rfl
    rw [Rat.divInt_eq_divInt_iff (by omega) (by omega)] at hcross
    omega
  have hn0 : x.num ≠ 0 := fun h => hx0 (Rat.num_eq_zero.mp h)
  have b := div_spec fx fx
  unfold dv at b
  have hxx : x / x = 1 := by grind
  rw [if_neg hn0, hxx, chk_fits (by decide +kernel)] at b
  have c := sub_spec fx fx
  have hsub : x - x = 0 := by grind
  rw [hsub, chk_fits (by decide +kernel)] at c
  refine Ev.bind m1 (Ev.bind m2 (Ev.pos rfl ?_))
  refine Ev.step (f := fun k => (fraction_Mul.f k x.num x.den y.num y.den).bind fun t => (timeboundref31_Make.f k q p).bind fun u => (fraction_Div.f k x.num x.den x.num x.den).bind fun v => (fraction_Sub.f k x.num x.den x.num x.den).bind fun w =>
    if t.2.2 = 0 then if u.2.2 = 0 then if (t.1 == u.1 && (t.2.1 == u.2.1)) = true then if v.2.2 = 0 then if (v.1 == 1 && (v.2.1 == 1)) = true then if w.2.2 = 0 then if (w.1 == 0 && (w.2.1 == 1)) = true then (timeboundlaw31_awake.f k).bind fun t => some t else some false else some false else some false else some false else some false else some false else some false) (fun k => by simp [timeboundlaw31_FractionLimits.j0]) ?_
  refine Ev.bind a (Ev.bind m3 (Ev.bind b (Ev.bind c (Ev.pos rfl (Ev.pos rfl (Ev.pos (by simp) (Ev.pos rfl (Ev.pos rfl (Ev.pos rfl (Ev.pos rfl (Ev.bind awake_spec (Ev.now _))))))))))))
end Go.Proofs.Ytjoddcfcolhimaa.Pure
