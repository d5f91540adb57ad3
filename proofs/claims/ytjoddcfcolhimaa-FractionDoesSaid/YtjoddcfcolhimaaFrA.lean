/-
  What the reference's wide numbers do: long division, greatest common divisors.
-/
import Derived.Test.YtjoddcfcolhimaaNum
import Derived.Test.YtjoddcfcolhimaaQFrx6
import Derived.Test.YtjoddcfcolhimaaQFrx7
namespace Go.Proofs.Ytjoddcfcolhimaa.FrA
open Go.RowKit Go.Proofs.YtjoddcfcolhimaaW.PrintWords Go.Proofs.YtjoddcfcolhimaaW.PrintMore Go.Proofs.Ytjoddcfcolhimaa.QFr Go.Proofs.Ytjoddcfcolhimaa.Num

theorem less_spec {a b c d : Int} (h : In a b) (k : In c d) : timeboundref31_less.f a b c d = some (decide (V a b < V c d)) := by
  unfold timeboundref31_less.f
  unfold In at h k
  by_cases h1 : a < c
  · rw [if_pos h1, show decide (V a b < V c d) = true from decide_eq_true (by unfold V; omega)]
  · rw [if_neg h1]
    by_cases h2 : a = c
    · rw [if_pos h2]
      congr 1
      rw [decide_eq_decide]
      unfold V; omega
    · rw [if_neg h2, show decide (V a b < V c d) = false from decide_eq_false (by unfold V; omega)]
theorem sub_spec {a b c d : Int} (h : In a b) (k : In c d) (hle : V c d ≤ V a b) : ∃ x y, timeboundref31_sub.f a b c d = some (x, y) ∧ In x y ∧ V x y = V a b - V c d := by
  unfold timeboundref31_sub.f
  unfold In at h k
  unfold V at hle
  by_cases h1 : b < d
  · rw [if_pos h1]
    refine ⟨_, _, rfl, ?_, ?_⟩
    · simp only [u64_wrap]; unfold In; omega
    · simp only [u64_wrap]; unfold V; omega
  · rw [if_neg h1]
    refine ⟨_, _, rfl, ?_, ?_⟩
    · simp only [u64_wrap]; unfold In; omega
    · simp only [u64_wrap]; unfold V; omega
theorem double_spec {a b : Int} (h : In a b) (hlt : V a b < 170141183460469231731687303715884105728) : ∃ x y, timeboundref31_double.f a b = some (x, y) ∧ In x y ∧ V x y = 2 * V a b ∧ y % 2 = 0 := by
  unfold timeboundref31_double.f
  unfold In at h
  unfold V at hlt
  refine ⟨_, _, rfl, ?_, ?_, ?_⟩ <;> (simp only [u64_wrap]; try rw [u64_orbit (by omega) (by omega) (by omega) (by omega) (by omega)])
  · unfold In; omega
  · unfold V; omega
  · omega
theorem or1_spec {a b : Int} (h : In a b) (he : b % 2 = 0) : In a (Go.bits .or .u64 b 1) ∧ V a (Go.bits .or .u64 b 1) = V a b + 1 := by
  unfold In at h
  rw [u64_or1 (by omega) (by omega) he]
  unfold In V
  omega
/-- The second half of a round: the quotient doubled, the rest compared. -/
theorem divide_j2 {ah al bh bl qh ql rh rl : Int} (i : Nat) (hi : i < 128) (hb : In bh bl) (hq : In qh ql) (hr : In rh rl) (hqs : V qh ql < 170141183460469231731687303715884105728) :
    ∃ x y u v, In x y ∧ In u v ∧ (V rh rl < V bh bl → V x y = 2 * V qh ql ∧ V u v = V rh rl) ∧ (V bh bl ≤ V rh rl → V x y = 2 * V qh ql + 1 ∧ V u v = V rh rl - V bh bl) ∧
      ∀ k, timeboundref31_divide.j2 (k + 1) i ah al bh bl qh ql rh rl = timeboundref31_divide.l0 k ((i : Int) - 1) ah al bh bl x y u v := by
  obtain ⟨x, y, h1, h2, h3, h4⟩ := double_spec hq hqs
  have hw : wrap64 ((i : Int) - 1) = (i : Int) - 1 := wrap64_id (by omega) (by omega)
  by_cases hlt : V rh rl < V bh bl
  · refine ⟨x, y, rh, rl, h2, hr, fun _ => ⟨h3, rfl⟩, fun h => by omega, fun k => ?_⟩
    simp only [timeboundref31_divide.j2, h1, less_spec hr hb, Option.bind_some, decide_eq_true hlt, if_true, hw]
  · obtain ⟨u, v, s1, s2, s3⟩ := sub_spec hr hb (by omega)
    obtain ⟨o1, o2⟩ := or1_spec h2 h4
    refine ⟨x, _, u, v, o1, s2, fun h => by omega, fun _ => ⟨by rw [o2, h3], s3⟩, fun k => ?_⟩
    simp only [timeboundref31_divide.j2, h1, less_spec hr hb, Option.bind_some, decide_eq_false hlt, s1, hw]
    simp
theorem divide_l0 {ah al bh bl : Int} (ha : In ah al) (hb : In bh bl) (hB : 0 < V bh bl) (hB2 : V bh bl < 170141183460469231731687303715884105728) : ∀ (n : Nat), n ≤ 128 → ∀ (qh ql rh rl : Int), In qh ql → In rh rl → V qh ql = V ah al / 2 ^ n / V bh bl → V rh rl = V ah al / 2 ^ n % V bh bl →
    ∃ x y u v, In x y ∧ In u v ∧ V x y = V ah al / V bh bl ∧ V u v = V ah al % V bh bl ∧ ∀ k, 3 * n < k → timeboundref31_divide.l0 k ((n : Int) - 1) ah al bh bl qh ql rh rl = some (x, y, u, v) := by
  intro n
  induction n with
  | zero =>
    intro _ qh ql rh rl hq hr e1 e2
    refine ⟨qh, ql, rh, rl, hq, hr, by simpa using e1, by simpa using e2, fun k hk => ?_⟩
    obtain ⟨k, rfl⟩ : ∃ m, k = m + 1 := ⟨k - 1, by omega⟩
    simp only [timeboundref31_divide.l0]
    rw [if_neg (by omega)]
  | succ n ih =>
    intro hn qh ql rh rl hq hr e1 e2
    have hs := half_step (V ah al) n
    have hbit0 : 0 ≤ V ah al / 2 ^ n % 2 := by omega
    have hbit1 : V ah al / 2 ^ n % 2 < 2 := by omega
    obtain ⟨d1, d2⟩ := div_step hB hs hbit0 hbit1 e1 e2
    have hr0 := V_in hr
    have hrB : V rh rl < V bh bl := by rw [e2]; exact Int.emod_lt_of_pos _ hB
    obtain ⟨x, y, p1, p2, p3, p4⟩ := double_spec hr (by omega)
    have hA := V_in ha
    have hTn : V ah al / 2 ^ n ≤ V ah al := Int.ediv_le_self _ hA.1
    have hTn0 : 0 ≤ V ah al / 2 ^ n := Int.ediv_nonneg hA.1 (by have := Int.pow_pos (n := 2) (m := n) (by decide); omega)
    have hq0 := V_in hq
    have hqs : V qh ql < 170141183460469231731687303715884105728 := by
      have h1 : V qh ql ≤ V ah al / 2 ^ (n + 1) := by rw [e1]; exact Int.ediv_le_self _ (by omega)
      omega
    -- the bit is set in the rest
    have key : ∃ rh' rl', In rh' rl' ∧ V rh' rl' = 2 * V rh rl + V ah al / 2 ^ n % 2 ∧ ∀ k, timeboundref31_divide.l0 (k + 2) (((n + 1 : Nat) : Int) - 1) ah al bh bl qh ql rh rl = timeboundref31_divide.j2 k n ah al bh bl qh ql rh' rl' := by
      have hx : (((n + 1 : Nat) : Int) - 1) = (n : Int) := by omega
      have hin := ha
      unfold In at hin
      obtain ⟨o1, o2⟩ := or1_spec p2 p4
      by_cases h64 : 64 ≤ n
      · have hb1 := bit_hi ha n h64
        have w1 : IntKind.u64.wrap (wrap64 ((n : Int) - 64)) = (n : Int) - 64 := by rw [wrap64_id (by omega) (by omega), u64_id (by omega) (by omega)]
        have w2 : shr .u64 ah ((n : Int) - 64) = ah / 2 ^ (n - 64) := by rw [shr_u64 (by omega)]; congr 2; omega
        have hpos : (0 : Int) < 2 ^ (n - 64) := Int.pow_pos (by decide)
        have w3 : Go.bits .and .u64 (ah / 2 ^ (n - 64)) 1 = V ah al / 2 ^ n % 2 := by
          rw [u64_and1 (Int.ediv_nonneg hin.1 (by omega)) (by have := Int.ediv_le_self (a := ah) (2 ^ (n - 64)) hin.1; omega), hb1]
        by_cases hc : V ah al / 2 ^ n % 2 = 1
        · refine ⟨x, _, o1, by rw [o2, p3, hc], fun k => ?_⟩
          simp only [timeboundref31_divide.l0, timeboundref31_divide.j1, hx, p1, Option.bind_some, w1, w2, w3, hc, if_true]
          rw [if_pos (by omega), if_pos (by omega), if_pos (by omega)]
        · refine ⟨x, y, p2, by rw [p3]; omega, fun k => ?_⟩
          simp only [timeboundref31_divide.l0, timeboundref31_divide.j1, hx, p1, Option.bind_some, w1, w2, w3, hc, if_false]
          rw [if_pos (by omega), if_pos (by omega), if_pos (by omega), if_neg (by omega)]
          simp
      · have hb1 := bit_lo ha n (by omega)
        have w1 : IntKind.u64.wrap (n : Int) = (n : Int) := u64_id (by omega) (by omega)
        have w2 : shr .u64 al (n : Int) = al / 2 ^ n := by rw [shr_u64 (by omega)]; simp
        have hpos : (0 : Int) < 2 ^ n := Int.pow_pos (by decide)
        have w3 : Go.bits .and .u64 (al / 2 ^ n) 1 = V ah al / 2 ^ n % 2 := by
          rw [u64_and1 (Int.ediv_nonneg hin.2.2.1 (by omega)) (by have := Int.ediv_le_self (a := al) (2 ^ n) hin.2.2.1; omega), hb1]
        by_cases hc : V ah al / 2 ^ n % 2 = 1
        · refine ⟨x, _, o1, by rw [o2, p3, hc], fun k => ?_⟩
          simp only [timeboundref31_divide.l0, timeboundref31_divide.j1, hx, p1, Option.bind_some, w1, w2, w3, hc]
          rw [if_pos (by omega), if_neg (by omega), if_pos (by omega), if_pos (by omega)]
          simp
        · refine ⟨x, y, p2, by rw [p3]; omega, fun k => ?_⟩
          simp only [timeboundref31_divide.l0, timeboundref31_divide.j1, hx, p1, Option.bind_some, w1, w2, w3]
          rw [if_pos (by omega), if_neg (by omega), if_pos (by omega), if_pos (by omega), show ((V ah al / 2 ^ n % 2) == (1 : Int)) = false from by simpa using hc]
          simp
    obtain ⟨rh', rl', k1, k2, k3⟩ := key
    obtain ⟨x', y', u', v', j1, j2, j3, j4, j5⟩ := divide_j2 (ah := ah) (al := al) n (by omega) hb hq k1 hqs
    have hq' : V x' y' = V ah al / 2 ^ n / V bh bl ∧ V u' v' = V ah al / 2 ^ n % V bh bl := by
      rcases Int.lt_or_le (V rh' rl') (V bh bl) with h | h
      · have := d1 (by omega); have := j3 h; omega
      · have := d2 (by omega); have := j4 h; omega
    obtain ⟨x2, y2, u2, v2, g1, g2, g3, g4, g5⟩ := ih (by omega) x' y' u' v' j1 j2 hq'.1 hq'.2
    refine ⟨x2, y2, u2, v2, g1, g2, g3, g4, fun k hk => ?_⟩
    obtain ⟨k, rfl⟩ : ∃ m, k = m + 3 := ⟨k - 3, by omega⟩
    rw [show k + 3 = (k + 1) + 2 from rfl, k3, j5]
    exact g5 k (by omega)
theorem divide_spec {ah al bh bl : Int} (ha : In ah al) (hb : In bh bl) (hB : 0 < V bh bl) (hB2 : V bh bl < 170141183460469231731687303715884105728) :
    ∃ x y u v, In x y ∧ In u v ∧ V x y = V ah al / V bh bl ∧ V u v = V ah al % V bh bl ∧ Ev (fun k => timeboundref31_divide.f k ah al bh bl) (x, y, u, v) := by
  have hA := V_in ha
  have z : V ah al / 2 ^ 128 = 0 := Int.ediv_eq_zero_of_lt hA.1 (by simpa using hA.2)
  obtain ⟨x, y, u, v, h1, h2, h3, h4, h5⟩ := divide_l0 ha hb hB hB2 128 (by omega) 0 0 0 0 In00 In00 (by rw [z]; simp [V]) (by rw [z]; simp [V])
  exact ⟨x, y, u, v, h1, h2, h3, h4, 385, fun k hk => h5 k (by omega)⟩
theorem gcd_l0 : ∀ (n : Nat) (ah al bh bl : Int), In ah al → In bh bl → (V bh bl).toNat = n → V bh bl < 170141183460469231731687303715884105728 →
    ∃ x y, In x y ∧ V x y = Int.gcd (V ah al) (V bh bl) ∧ Ev (fun k => timeboundref31_gcd.l0 k ah al bh bl) (x, y) := by
  intro n
  induction n using Nat.strongRecOn with
  | _ n ih =>
    intro ah al bh bl ha hb hn hs
    have hA := V_in ha
    have hB := V_in hb
    by_cases h0 : V bh bl = 0
    · refine ⟨ah, al, ha, ?_, 1, fun k hk => ?_⟩
      · rw [h0]; simp [Int.natAbs_of_nonneg hA.1]
      · obtain ⟨k, rfl⟩ : ∃ m, k = m + 1 := ⟨k - 1, by omega⟩
        have e := V_inj hb In00 (by rw [h0]; rfl)
        simp [timeboundref31_gcd.l0, e.1, e.2]
    · obtain ⟨x, y, u, v, d1, d2, d3, d4, K, d5⟩ := divide_spec ha hb (by omega) hs
      have hr := V_in d2
      have hlt : V u v < V bh bl := by rw [d4]; exact Int.emod_lt_of_pos _ (by omega)
      obtain ⟨gx, gy, g1, g2, K2, g3⟩ := ih (V u v).toNat (by omega) bh bl u v hb d2 rfl (by omega)
      refine ⟨gx, gy, g1, ?_, max K K2 + 1, fun k hk => ?_⟩
      · rw [g2, d4, gcd_mod hA.1 hB.1]
      · obtain ⟨k, rfl⟩ : ∃ m, k = m + 1 := ⟨k - 1, by omega⟩
        have c : (!(bh == 0) || (!(bl == 0))) = true := by
          by_cases hh : bh = 0
          · by_cases hl : bl = 0
            · exact absurd (by rw [hh, hl]; rfl) h0
            · simp [hl]
          · simp [hh]
        simp only [timeboundref31_gcd.l0]
        have e5 : timeboundref31_divide.f k ah al bh bl = some (x, y, u, v) := d5 k (by omega)
        rw [if_pos c, e5]
        exact g3 k (by omega)
theorem gcd_spec {ah al bh bl : Int} (ha : In ah al) (hb : In bh bl) (hs : V bh bl < 170141183460469231731687303715884105728) :
    ∃ x y, In x y ∧ V x y = Int.gcd (V ah al) (V bh bl) ∧ Ev (fun k => timeboundref31_gcd.f k ah al bh bl) (x, y) := gcd_l0 _ ah al bh bl ha hb rfl hs
theorem size_spec {n : Int} (h0 : -9223372036854775808 ≤ n) (h1 : n < 9223372036854775808) : timeboundref31_size.f n = some (n.natAbs : Int) ∧ In 0 (n.natAbs : Int) ∧ V 0 n.natAbs = n.natAbs := by
  refine ⟨?_, by unfold In; omega, by unfold V; omega⟩
  unfold timeboundref31_size.f
  by_cases h : n < 0
  · rw [if_pos h]; simp only [u64_wrap]; congr 1; omega
  · rw [if_neg h]; simp only [u64_wrap]; congr 1; omega
end Go.Proofs.Ytjoddcfcolhimaa.FrA
