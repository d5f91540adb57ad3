/-
  What the reference's fractions do: the same exact results, or the same error.
-/
import Derived.Test.YtjoddcfcolhimaaFrD
import Derived.Test.YtjoddcfcolhimaaQFrx16
namespace Go.Proofs.Ytjoddcfcolhimaa.FrF
open Go.RowKit Go.Proofs.YtjoddcfcolhimaaW.PrintWords Go.Proofs.YtjoddcfcolhimaaW.PrintMore Go.Proofs.Ytjoddcfcolhimaa.QFr Go.Proofs.Ytjoddcfcolhimaa.Num Go.Proofs.Ytjoddcfcolhimaa.FrA Go.Proofs.Ytjoddcfcolhimaa.FrB Go.Proofs.Ytjoddcfcolhimaa.FrD

theorem rmul_spec {a b : Int} (ha0 : 0 ≤ a) (ha : a < 18446744073709551616) (hb0 : 0 ≤ b) (hb : b < 18446744073709551616) : ∃ h l, timeboundref31_mul.f a b = some (h, l) ∧ In h l ∧ V h l = a * b := by
  unfold timeboundref31_mul.f
  rw [u64_and32 ha0 ha, u64_and32 hb0 hb]
  obtain ⟨a1, ha1⟩ : ∃ x, x = a / 4294967296 := ⟨_, rfl⟩
  obtain ⟨a0, ha0'⟩ : ∃ x, x = a % 4294967296 := ⟨_, rfl⟩
  obtain ⟨b1, hb1⟩ : ∃ x, x = b / 4294967296 := ⟨_, rfl⟩
  obtain ⟨b0, hb0'⟩ : ∃ x, x = b % 4294967296 := ⟨_, rfl⟩
  rw [← ha1, ← ha0', ← hb1, ← hb0']
  have r1 : 0 ≤ a1 ∧ a1 ≤ 4294967295 := by omega
  have r2 : 0 ≤ a0 ∧ a0 ≤ 4294967295 := by omega
  have r3 : 0 ≤ b1 ∧ b1 ≤ 4294967295 := by omega
  have r4 : 0 ≤ b0 ∧ b0 ≤ 4294967295 := by omega
  have bd : ∀ x y : Int, 0 ≤ x ∧ x ≤ 4294967295 → 0 ≤ y ∧ y ≤ 4294967295 → 0 ≤ x * y ∧ x * y ≤ 18446744065119617025 := by
    intro x y hx hy
    refine ⟨Int.mul_nonneg hx.1 hy.1, ?_⟩
    have h1 := Int.mul_le_mul hx.2 hy.2 hy.1 (by decide)
    omega
  have hab : a * b = a1 * b1 * 18446744073709551616 + (a1 * b0 + a0 * b1) * 4294967296 + a0 * b0 := by
    rw [show a = a1 * 4294967296 + a0 by omega, show b = b1 * 4294967296 + b0 by omega]; grind
  rw [hab]
  obtain ⟨p1, q1⟩ := bd a1 b1 r1 r3
  obtain ⟨p2, q2⟩ := bd a1 b0 r1 r4
  obtain ⟨p3, q3⟩ := bd a0 b1 r2 r3
  obtain ⟨p4, q4⟩ := bd a0 b0 r2 r4
  generalize a1 * b1 = m11 at *
  generalize a1 * b0 = m10 at *
  generalize a0 * b1 = m01 at *
  generalize a0 * b0 = m00 at *
  rw [u64_id (n := m11) (by omega) (by omega), u64_id (n := m10) (by omega) (by omega), u64_id (n := m01) (by omega) (by omega), u64_id (n := m00) (by omega) (by omega)]
  rw [u64_id (n := m10 + m00 / 4294967296) (by omega) (by omega), u64_and32 (x := m10 + m00 / 4294967296) (by omega) (by omega), u64_and32 (x := m00) (by omega) (by omega)]
  rw [u64_id (n := m01 + (m10 + m00 / 4294967296) % 4294967296) (by omega) (by omega)]
  rw [u64_id (n := m11 + (m10 + m00 / 4294967296) / 4294967296) (by omega) (by omega)]
  rw [u64_id (n := m11 + (m10 + m00 / 4294967296) / 4294967296 + (m01 + (m10 + m00 / 4294967296) % 4294967296) / 4294967296) (by omega) (by omega), u64_wrap]
  rw [u64_or32 (by omega) (by omega) (by omega) (by omega) (by omega)]
  exact ⟨_, _, rfl, by unfold In; omega, by unfold V; omega⟩
theorem radd_spec {a b c d : Int} (h : In a b) (k : In c d) (hlt : V a b + V c d < 340282366920938463463374607431768211456) : ∃ x y, timeboundref31_add.f a b c d = some (x, y) ∧ In x y ∧ V x y = V a b + V c d := by
  unfold timeboundref31_add.f
  unfold In at h k
  unfold V at hlt
  simp only [u64_wrap]
  split
  · exact ⟨_, _, rfl, by unfold In; omega, by unfold V; omega⟩
  · exact ⟨_, _, rfl, by unfold In; omega, by unfold V; omega⟩
theorem reduce_spec {neg : Bool} {ah al bh bl : Int} (ha : In ah al) (hb : In bh bl) (hB : 0 < V bh bl) (hB2 : V bh bl < 170141183460469231731687303715884105728) :
    Ev (fun k => timeboundref31_reduce.f k neg ah al bh bl) (chk (Rat.divInt (if neg = true then -(V ah al) else V ah al) (V bh bl))) := by
  have hA := V_in ha
  unfold timeboundref31_reduce.f
  by_cases h0 : V ah al = 0
  · have e := V_inj ha In00 (by rw [h0]; rfl)
    refine Ev.pos (by simp [e.1, e.2]) ?_
    rw [h0]
    have : (Rat.divInt (if neg = true then -0 else 0) (V bh bl)) = 0 := by cases neg <;> simp
    rw [this]
    exact Ev.const (by decide +kernel)
  have hne : ¬ (ah == 0 && (al == 0)) = true := by
    intro h
    simp only [Bool.and_eq_true, beq_iff_eq] at h
    exact h0 (by rw [h.1, h.2]; rfl)
  refine Ev.neg hne ?_
  obtain ⟨gh, gl, g1, g2, g3⟩ := gcd_spec ha hb hB2
  have hgp := gcd_pos' (n := V ah al) hB
  have hgle : (Int.gcd (V ah al) (V bh bl) : Int) ≤ V bh bl := Int.le_of_dvd hB (Int.gcd_dvd_right ..)
  obtain ⟨nh, nl, _, _, n1, _, n2, _, n3⟩ := divide_spec ha g1 (by omega) (by omega)
  obtain ⟨dh, dl, _, _, d1, _, d2, _, d3⟩ := divide_spec hb g1 (by omega) (by omega)
  obtain ⟨l1, l2⟩ := divInt_low (n := V ah al) hB
  rw [g2, ← l1] at n2
  rw [g2, ← l2] at d2
  obtain ⟨q, hq⟩ : ∃ q, q = Rat.divInt (V ah al) (V bh bl) := ⟨_, rfl⟩
  rw [← hq] at n2 d2
  have hr : Rat.divInt (if neg = true then -(V ah al) else V ah al) (V bh bl) = if neg = true then -q else q := by
    cases neg
    · simp [hq]
    · simp [hq, Rat.neg_divInt]
  rw [hr]
  have n1' := n1
  have d1' := d1
  unfold In at n1' d1'
  unfold V at n2 d2
  have bad : ∀ b : Bool, ¬ fits q → Ev (fun k => timeboundref31_reduce.j0 k neg true nh nl dh dl) (chk (if neg = true then -q else q)) := by
    intro _ hf
    have : chk (if neg = true then -q else q) = (0, 0, 4) := by
      refine chk_not ?_
      unfold fits at hf ⊢
      cases neg <;> simp <;> omega
    rw [this]
    exact Ev.step (f := fun _ => some (0, 0, 4)) (fun k => by simp [timeboundref31_reduce.j0]) (Ev.now _)
  refine Ev.bind g3 (Ev.bind n3 (Ev.bind d3 ?_))
  by_cases c1 : nh > 0
  · exact Ev.pos c1 (bad true (by unfold fits; omega))
  refine Ev.neg c1 ?_
  by_cases c2 : dh > 0
  · exact Ev.pos c2 (bad true (by unfold fits; omega))
  refine Ev.neg c2 ?_
  by_cases c3 : nl > 1152921504606846976
  · exact Ev.pos c3 (bad true (by unfold fits; omega))
  refine Ev.neg c3 ?_
  by_cases c4 : dl > 1152921504606846976
  · have hd : decide (dl > 1152921504606846976) = true := decide_eq_true c4
    show Ev (fun k => timeboundref31_reduce.j0 k neg (decide (dl > 1152921504606846976)) nh nl dh dl) _
    rw [hd]
    exact bad true (by unfold fits; omega)
  · have hd : decide (dl > 1152921504606846976) = false := decide_eq_false c4
    show Ev (fun k => timeboundref31_reduce.j0 k neg (decide (dl > 1152921504606846976)) nh nl dh dl) _
    rw [hd]
    have e1 : nl = q.num := by omega
    have e2 : dl = q.den := by omega
    have hf : fits (if neg = true then -q else q) := by
      unfold fits
      cases neg <;> simp <;> omega
    rw [chk_fits hf]
    refine Ev.step (f := fun _ => some ((if neg = true then -q else q).num, ((if neg = true then -q else q).den : Int), 0)) (fun k => ?_) (Ev.now _)
    have v1 : wrap64 q.num = q.num := wrap64_id (by omega) (by omega)
    have v2 : wrap64 (q.den : Int) = q.den := wrap64_id (by omega) (by omega)
    have v3 : wrap64 (-q.num) = -q.num := wrap64_id (by omega) (by omega)
    cases neg
    · simp [timeboundref31_reduce.j0, e1, e2, v1, v2]
    · simp [timeboundref31_reduce.j0, e1, e2, v1, v2, v3]
theorem rmake_spec {n d : Int} (h1 : -9223372036854775808 ≤ n) (h2 : n < 9223372036854775808) (h3 : -9223372036854775808 ≤ d) (h4 : d < 9223372036854775808) :
    Ev (fun k => timeboundref31_Make.f k n d) (mk n d) := by
  unfold timeboundref31_Make.f mk
  by_cases hd : d = 0
  · rw [if_pos hd]; exact Ev.pos hd (Ev.now _)
  rw [if_neg hd]
  refine Ev.neg hd ?_
  obtain ⟨s1, s2, s3⟩ := size_spec h1 h2
  obtain ⟨t1, t2, t3⟩ := size_spec h3 h4
  simp only [s1, t1, Option.bind_some]
  have := reduce_spec (neg := decide (n < 0) != decide (d < 0)) s2 t2 (by omega) (by omega)
  rw [s3, t3] at this
  have e : Rat.divInt (if (decide (n < 0) != decide (d < 0)) = true then -(n.natAbs : Int) else (n.natAbs : Int)) (d.natAbs : Int) = Rat.divInt n d := by
    by_cases a : n < 0 <;> by_cases b : d < 0
    · rw [if_neg (by simp [a, b]), show (n.natAbs : Int) = -n by omega, show (d.natAbs : Int) = -d by omega, divInt_negs n d hd]
    · rw [if_pos (by simp [a, b]), show (n.natAbs : Int) = -n by omega, show (d.natAbs : Int) = d by omega, Int.neg_neg]
    · rw [if_pos (by simp [a, b]), show (n.natAbs : Int) = n by omega, show (d.natAbs : Int) = -d by omega, divInt_negs n d hd]
    · rw [if_neg (by simp [a, b]), show (n.natAbs : Int) = n by omega, show (d.natAbs : Int) = d by omega]
  rw [e] at this
  exact triple this
end Go.Proofs.Ytjoddcfcolhimaa.FrF
