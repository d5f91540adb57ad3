/- FractionField: for every list of numbers and the three small fractions made of it: addition and multiplication commute, associate and distribute, and Sub and Div undo them; Div by 0 alone is an error. No condition. -/
import Derived.Test.YtjoddcfcolhimaaFrD
import Derived.Test.YtjoddcfcolhimaaFrE
import Derived.Test.YtjoddcfcolhimaaQFrx8
import Derived.Test.YtjoddcfcolhimaaQFrx11
import Derived.Test.YtjoddcfcolhimaaQFrx13
import Derived.Test.YtjoddcfcolhimaaQFrx14
import Derived.Test.YtjoddcfcolhimaaQFrx15
namespace Go.Proofs.Ytjoddcfcolhimaa.Pure
open Go.RowKit Go.Proofs.Ytjoddcfcolhimaa.QFr Go.Proofs.YtjoddcfcolhimaaW.PrintWords Go.Proofs.YtjoddcfcolhimaaW.PrintLast
open Go.Proofs.Ytjoddcfcolhimaa.Num Go.Proofs.Ytjoddcfcolhimaa.FrB Go.Proofs.Ytjoddcfcolhimaa.FrD Go.Proofs.Ytjoddcfcolhimaa.FrE

/-- A fraction of numbers up to a bound. -/
def up (B : Nat) (q : Rat) : Prop := q.num.natAbs ≤ B ∧ q.den ≤ B
theorem up_fits {B : Nat} {q : Rat} (h : up B q) (hB : B ≤ 1000000000000) : fits q := by unfold up at h; unfold fits; omega
theorem up_add {A B : Nat} {p q : Rat} (hp : up A p) (hq : up B q) : up (2 * (A * B)) (p + q) := by
  unfold up at hp hq
  have h := add_bounds p q
  have h1 : p.num.natAbs * q.den ≤ A * B := Nat.mul_le_mul hp.1 hq.2
  have h2 : q.num.natAbs * p.den ≤ B * A := Nat.mul_le_mul hq.1 hp.2
  have h3 : p.den * q.den ≤ A * B := Nat.mul_le_mul hp.2 hq.2
  rw [Nat.mul_comm B A] at h2
  unfold up; omega
theorem up_mul {A B : Nat} {p q : Rat} (hp : up A p) (hq : up B q) : up (A * B) (p * q) := by
  unfold up at hp hq
  have h := mul_bounds p q
  exact ⟨Nat.le_trans h.1 (Nat.mul_le_mul hp.1 hq.1), Nat.le_trans h.2 (Nat.mul_le_mul hp.2 hq.2)⟩
theorem FractionField : timeboundlaw31_FractionField.Pure := by
  intro l0 _ hl _
  refine Ev.rounds ?_
  obtain ⟨x, i, fx, sx, i0, i1⟩ := frac_spec l0 hl (i := 0) (by omega) (by omega)
  obtain ⟨y, j, fy, sy, j0, j1⟩ := frac_spec l0 hl (i := i) (by omega) i1
  obtain ⟨z, m, fz, sz, m0, m1⟩ := frac_spec l0 hl (i := j) (by omega) j1
  have ux : up 10 x := by unfold sm at sx; unfold up; omega
  have uy : up 10 y := by unfold sm at sy; unfold up; omega
  have uz : up 10 z := by unfold sm at sz; unfold up; omega
  have ua := up_add ux uy
  have us := up_add uy uz
  have hx := sm_fits sx
  have hy := sm_fits sy
  have hz := sm_fits sz
  have ha := up_fits ua (by decide)
  have hs := up_fits us (by decide)
  have hc := up_fits (up_add ua uz) (by decide)
  have hp := up_fits (up_mul ux us) (by decide)
  have hq := up_fits (up_mul ux uy) (by decide)
  have hr := up_fits (up_mul ux uz) (by decide)
  have hu := up_fits (up_add (up_mul ux uy) (up_mul ux uz)) (by decide)
  have e1 : y + x = x + y := Rat.add_comm y x
  have e2 : x + (y + z) = x + y + z := (Rat.add_assoc x y z).symm
  have e3 : x * y + x * z = x * (y + z) := (Rat.mul_add x y z).symm
  have e4 : x + y - y = x := by grind
  have A := add_spec hx hy
  rw [chk_fits ha] at A
  have B := add_spec hy hx
  rw [e1, chk_fits ha] at B
  have C := add_spec ha hz
  rw [chk_fits hc] at C
  have S := add_spec hy hz
  rw [chk_fits hs] at S
  have T := add_spec hx hs
  rw [e2, chk_fits hc] at T
  have P := mul_spec hx hs
  rw [chk_fits hp] at P
  have Q := mul_spec hx hy
  rw [chk_fits hq] at Q
  have R := mul_spec hx hz
  rw [chk_fits hr] at R
  have U := add_spec hq hr
  rw [e3, chk_fits hp] at U
  have V' := sub_spec ha hy
  rw [e4, chk_fits hx] at V'
  have D := div_spec hq hy
  have w0 : wrap64 0 = 0 := by unfold wrap64; omega
  unfold timeboundlaw31_FractionField.f
  simp only [timeboundmake_New.f, Option.bind_some]
  refine Ev.bind fx (Ev.bind fy (Ev.bind fz (Ev.bind A (Ev.bind B (Ev.bind C (Ev.bind S (Ev.bind T ?_)))))))
  have last : Ev (fun k => timeboundlaw31_FractionField.j1 k false x.num x.den y.num y.den (x * y).num (x * y).den) true := by
    refine Ev.step (f := fun k => (fraction_Div.f k (x * y).num (x * y).den y.num y.den).bind fun t => if ((t.2.2 == 36) == (y.num == 0)) = true then if t.2.2 = 0 then if (t.1 == x.num && (t.2.1 == (x.den : Int))) = true then (timeboundlaw31_awake.f k).bind fun t => some t else some false else (timeboundlaw31_awake.f k).bind fun t => some t else some false) (fun k => by simp [timeboundlaw31_FractionField.j1]) ?_
    refine Ev.bind D ?_
    unfold dv
    by_cases h0 : y.num = 0
    · rw [if_pos h0]
      exact Ev.pos (by simp [h0]) (Ev.neg (by decide) (Ev.bind awake_spec (Ev.now _)))
    · have hy0 : y ≠ 0 := fun h => h0 (by rw [h]; rfl)
      have e5 : x * y / y = x := by grind
      rw [if_neg h0, e5, chk_fits hx]
      exact Ev.pos (by simp [h0]) (Ev.pos rfl (Ev.pos (by simp) (Ev.bind awake_spec (Ev.now _))))
  have mid : Ev (fun k => timeboundlaw31_FractionField.j0 k false x.num x.den y.num y.den z.num z.den (x + y).num (x + y).den (y + z).num (y + z).den) true := by
    refine Ev.step (f := fun k => (fraction_Mul.f k x.num x.den (y + z).num (y + z).den).bind fun p => (fraction_Mul.f k x.num x.den y.num y.den).bind fun q => (fraction_Mul.f k x.num x.den z.num z.den).bind fun r => (fraction_Add.f k q.1 q.2.1 r.1 r.2.1).bind fun u => (fraction_Sub.f k (x + y).num (x + y).den y.num y.den).bind fun v =>
      if wrap64 (wrap64 (wrap64 (wrap64 (p.2.2 + q.2.2) + r.2.2) + u.2.2) + v.2.2) = 0 then if (!(p.1 == u.1) || (!(p.2.1 == u.2.1))) = true then timeboundlaw31_FractionField.j1 k true x.num x.den y.num y.den q.1 q.2.1 else timeboundlaw31_FractionField.j1 k (!(v.1 == x.num) || (!(v.2.1 == (x.den : Int)))) x.num x.den y.num y.den q.1 q.2.1 else timeboundlaw31_FractionField.j1 k true x.num x.den y.num y.den q.1 q.2.1) (fun k => by simp [timeboundlaw31_FractionField.j0]) ?_
    refine Ev.bind P (Ev.bind Q (Ev.bind R (Ev.bind U (Ev.bind V' (Ev.pos (by simp [w0]) (Ev.neg (by simp) ?_))))))
    have : (!(x.num == x.num) || (!((x.den : Int) == (x.den : Int)))) = false := by simp
    simp only [this]
    exact last
  refine Ev.pos (by simp [w0]) (Ev.neg (by simp) ?_)
  have : (!((x + y + z).num == (x + y + z).num) || (!(((x + y + z).den : Int) == ((x + y + z).den : Int)))) = false := by simp
  simp only [this]
  exact mid
end Go.Proofs.Ytjoddcfcolhimaa.Pure
