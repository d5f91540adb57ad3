/-
  The deck of numbers, and the small fractions that are made of it; how great sums and products of fractions are.
-/
import Derived.Test.YtjoddcfcolhimaaFrB
import Derived.Test.YtjoddcfcolhimaaQFrx9
namespace Go.Proofs.Ytjoddcfcolhimaa.FrE
open Go.RowKit Go.Proofs.YtjoddcfcolhimaaW.PrintWords Go.Proofs.YtjoddcfcolhimaaW.PrintMore Go.Proofs.Ytjoddcfcolhimaa.QFr Go.Proofs.Ytjoddcfcolhimaa.Num Go.Proofs.Ytjoddcfcolhimaa.FrB

theorem next_spec (l : List Int) (hl : l.length * 8 ≤ 140737488351232) {i n : Int} (h0 : 0 ≤ i) (h1 : i ≤ l.length) (hn : n < 4611686018427387904) :
    ∃ v j, timeboundmake_Deck_Next.f l i n = some (v, j) ∧ 0 ≤ v ∧ (v < n ∨ v = 0) ∧ i ≤ j ∧ j ≤ l.length := by
  unfold timeboundmake_Deck_Next.f
  by_cases a : i ≥ (l.length : Int)
  · rw [if_pos a]; exact ⟨0, i, rfl, by omega, Or.inr rfl, by omega, h1⟩
  rw [if_neg a]
  by_cases b : n ≤ 1
  · rw [if_pos b]; exact ⟨0, i, rfl, by omega, Or.inr rfl, by omega, h1⟩
  rw [if_neg b, wrap64_id (n := i + 1) (by omega) (by omega), wrap64_id (n := i + 1 - 1) (by omega) (by omega), if_pos (by omega), if_pos (by omega), mod_spec (by omega) hn]
  exact ⟨_, _, rfl, Int.emod_nonneg _ (by omega), Or.inl (Int.emod_lt_of_pos _ (by omega)), by omega, by omega⟩
theorem frac_l0 (l : List Int) (at_ n d : Int) (hd : 0 < d) (hd2 : d ≤ 4611686018427387904) (hn : -4611686018427387904 ≤ n) (hn2 : n ≤ 4611686018427387904) : ∀ (m : Nat) (a b : Int), 0 ≤ a → 0 ≤ b → b.toNat = m → Int.gcd a b = Int.gcd n d →
    Ev (fun k => timeboundmake2_Frac.l0 k n d a b l at_) (if n = 0 then (0, 1, at_) else ((Rat.divInt n d).num, ((Rat.divInt n d).den : Int), at_)) := by
  intro m
  induction m using Nat.strongRecOn with
  | _ m ih =>
    intro a b ha hb hm hg
    by_cases h : b > 0
    · have h1 := Int.emod_nonneg a (show b ≠ 0 by omega)
      have h2 := Int.emod_lt_of_pos a h
      refine Ev.step (fun k => ?_) (ih (a % b).toNat (by omega) b (a % b) hb h1 rfl (by rw [gcd_mod ha hb, hg]))
      simp only [timeboundmake2_Frac.l0]
      rw [if_pos h, if_neg (by omega), Int.tmod_eq_emod_of_nonneg ha]
    · have hb0 : b = 0 := by omega
      rw [hb0] at hg
      have ha' : a = (Int.gcd n d : Int) := by rw [← hg]; simp; omega
      refine Ev.step (f := fun _ => some (if n = 0 then (0, 1, at_) else ((Rat.divInt n d).num, ((Rat.divInt n d).den : Int), at_))) (fun k => ?_) (Ev.now _)
      simp only [timeboundmake2_Frac.l0]
      rw [if_neg h]
      by_cases hn0 : n = 0
      · rw [if_pos hn0, if_pos hn0]
      · obtain ⟨l1, l2⟩ := low_pos hd hd2 hn hn2
        have := gcd_pos' (n := n) hd
        rw [if_neg hn0, if_neg hn0, if_neg (by omega), ha', l1, l2]
/-- A fraction of small numbers. -/
def sm (q : Rat) : Prop := q.num.natAbs ≤ 10 ∧ q.den ≤ 9
theorem sm_fits {q : Rat} (h : sm q) : fits q := by unfold sm at h; unfold fits; omega
theorem frac_spec (l : List Int) (hl : l.length * 8 ≤ 140737488351232) {i : Int} (h0 : 0 ≤ i) (h1 : i ≤ l.length) :
    ∃ (q : Rat) (j : Int), Ev (fun k => timeboundmake2_Frac.f k l i) (q.num, (q.den : Int), j) ∧ sm q ∧ i ≤ j ∧ j ≤ l.length := by
  obtain ⟨v, j, a1, a2, a3, a4, a5⟩ := next_spec l hl (n := 21) h0 h1 (by decide)
  obtain ⟨u, m, b1, b2, b3, b4, b5⟩ := next_spec l hl (n := 9) (i := j) (by omega) a5 (by decide)
  have hn : wrap64 (v - 10) = v - 10 := wrap64_id (by omega) (by omega)
  have hd : wrap64 (1 + u) = 1 + u := wrap64_id (by omega) (by omega)
  have key := frac_l0 l m (v - 10) (1 + u) (by omega) (by omega) (by omega) (by omega) _ ((v - 10).natAbs : Int) (1 + u) (by omega) (by omega) rfl (gcd_abs _ _)
  have e : ∀ k, timeboundmake2_Frac.f k l i = timeboundmake2_Frac.l0 k (v - 10) (1 + u) ((v - 10).natAbs : Int) (1 + u) l m := fun k => by
    simp only [timeboundmake2_Frac.f, a1, b1, Option.bind_some, hn, hd]
    rw [mx_abs (by omega) (by omega)]
  by_cases h : v - 10 = 0
  · rw [if_pos h] at key
    exact ⟨0, m, Ev.congr e key, by unfold sm; decide, by omega, b5⟩
  · rw [if_neg h] at key
    refine ⟨Rat.divInt (v - 10) (1 + u), m, Ev.congr e key, ?_, by omega, b5⟩
    have := divInt_bounds (n := v - 10) (d := 1 + u) (by omega)
    unfold sm; omega
/-! ### how great results are -/
theorem add_bounds (p q : Rat) : (p + q).num.natAbs ≤ p.num.natAbs * q.den + q.num.natAbs * p.den ∧ (p + q).den ≤ p.den * q.den := by
  have h1 := p.den_pos
  have h2 := q.den_pos
  have e : Rat.divInt (p.num * q.den + q.num * p.den) (p.den * q.den) = p + q := by
    rw [← Rat.divInt_add_divInt _ _ (by omega) (by omega), Rat.num_divInt_den, Rat.num_divInt_den]
  have hd : (p.den : Int) * q.den ≠ 0 := Int.mul_ne_zero (by omega) (by omega)
  have := divInt_bounds (n := p.num * q.den + q.num * p.den) hd
  rw [e] at this
  refine ⟨Nat.le_trans this.1 (Nat.le_trans (Int.natAbs_add_le _ _) ?_), Nat.le_trans this.2 ?_⟩
  · rw [Int.natAbs_mul, Int.natAbs_mul, Int.natAbs_natCast, Int.natAbs_natCast]; exact Nat.le_refl _
  · rw [Int.natAbs_mul, Int.natAbs_natCast, Int.natAbs_natCast]; exact Nat.le_refl _
theorem sub_bounds (p q : Rat) : (p - q).num.natAbs ≤ p.num.natAbs * q.den + q.num.natAbs * p.den ∧ (p - q).den ≤ p.den * q.den := by
  have := add_bounds p (-q)
  rw [Rat.neg_num, Rat.neg_den, Int.natAbs_neg] at this
  rw [Rat.sub_eq_add_neg]; exact this
theorem mul_bounds (p q : Rat) : (p * q).num.natAbs ≤ p.num.natAbs * q.num.natAbs ∧ (p * q).den ≤ p.den * q.den := by
  have h1 := p.den_pos
  have h2 := q.den_pos
  have e : Rat.divInt (p.num * q.num) (p.den * q.den) = p * q := by rw [← Rat.divInt_mul_divInt, Rat.num_divInt_den, Rat.num_divInt_den]
  have hd : (p.den : Int) * q.den ≠ 0 := Int.mul_ne_zero (by omega) (by omega)
  have := divInt_bounds (n := p.num * q.num) hd
  rw [e, Int.natAbs_mul, Int.natAbs_mul, Int.natAbs_natCast, Int.natAbs_natCast] at this
  exact this
end Go.Proofs.Ytjoddcfcolhimaa.FrE
