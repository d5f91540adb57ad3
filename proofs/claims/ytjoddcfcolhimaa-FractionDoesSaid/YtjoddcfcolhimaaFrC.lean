/-
  What the program's wide numbers do: sums, products, greatest common divisors, quotients.
-/
import Derived.Test.YtjoddcfcolhimaaFrB
import Derived.Test.YtjoddcfcolhimaaQFrx3
import Derived.Test.YtjoddcfcolhimaaQFrx4
import Derived.Test.YtjoddcfcolhimaaQFrx5
import Derived.Test.YtjoddcfcolhimaaQFrx9
namespace Go.Proofs.Ytjoddcfcolhimaa.FrC
open Go.RowKit Go.Proofs.YtjoddcfcolhimaaW.PrintWords Go.Proofs.YtjoddcfcolhimaaW.PrintMore Go.Proofs.Ytjoddcfcolhimaa.QFr Go.Proofs.Ytjoddcfcolhimaa.Num Go.Proofs.Ytjoddcfcolhimaa.FrB

theorem below_spec {a b c d : Int} {s t : Bool} (h : In a b) (k : In c d) : wide_Number_below.f a b s c d t = some (decide (V a b < V c d)) := by
  unfold wide_Number_below.f
  unfold In at h k
  by_cases h1 : a < c
  · rw [if_pos h1, show decide (V a b < V c d) = true from decide_eq_true (by unfold V; omega)]
  · rw [if_neg h1]
    by_cases h2 : a = c
    · rw [if_pos h2]
      congr 1
      rw [decide_eq_decide]
      unfold V; omega
    · rw [if_neg h2, show decide (V a b < V c d) = false from decide_eq_false (by unfold V; omega)]
theorem wless_spec {a b c d : Int} {s t : Bool} (h : In a b) (k : In c d) (hle : V c d ≤ V a b) : ∃ x y, wide_Number_less.f a b s c d t = some (x, y, s) ∧ In x y ∧ V x y = V a b - V c d := by
  unfold wide_Number_less.f
  unfold In at h k
  unfold V at hle
  rw [if_pos (by omega), if_pos (by omega), if_pos (by omega), if_pos (by omega), if_pos (by omega), if_pos (by omega)]
  refine ⟨_, _, rfl, ?_, ?_⟩
  · unfold In; split <;> omega
  · unfold V; split <;> omega
theorem wmore_spec {a b c d : Int} {s t : Bool} (h : In a b) (k : In c d) (hlt : V a b + V c d < 340282366920938463463374607431768211456) : ∃ x y, wide_Number_more.f a b s c d t = some (x, y, s) ∧ In x y ∧ V x y = V a b + V c d := by
  unfold wide_Number_more.f
  unfold In at h k
  unfold V at hlt
  rw [if_pos (by omega), if_pos (by omega), if_pos (by omega), if_pos (by omega), if_pos (by omega), if_pos (by omega)]
  refine ⟨_, _, rfl, ?_, ?_⟩
  · unfold In; omega
  · unfold V; omega
theorem zero_spec {a b : Int} {s : Bool} (h : In a b) : wide_Number_Zero.f a b s = some (decide (V a b = 0)) := by
  unfold wide_Number_Zero.f
  unfold In at h
  by_cases h1 : a = 0
  · rw [if_pos h1]
    congr 1
    rw [Bool.eq_iff_iff]
    simp only [beq_iff_eq, decide_eq_true_eq]
    unfold V; omega
  · rw [if_neg h1, show decide (V a b = 0) = false from decide_eq_false (by unfold V; omega)]
theorem even_spec {a b : Int} {s : Bool} (h : In a b) : wide_Number_even.f a b s = some (decide (V a b % 2 = 0)) := by
  unfold wide_Number_even.f
  unfold In at h
  rw [u64_and1 (by omega) (by omega)]
  congr 1
  rw [Bool.eq_iff_iff]
  simp only [beq_iff_eq, decide_eq_true_eq]
  unfold V; omega
theorem half_spec {a b : Int} {s : Bool} (h : In a b) : ∃ x y, wide_Number_half.f a b s = some (x, y, s) ∧ In x y ∧ V x y = V a b / 2 := by
  unfold wide_Number_half.f
  unfold In at h
  rw [u64_or_top (by omega) (by omega) (by rw [u64_wrap]; omega)]
  simp only [u64_wrap]
  refine ⟨_, _, rfl, ?_, ?_⟩
  · unfold In; omega
  · unfold V; omega
theorem twice_spec {a b : Int} {s : Bool} (h : In a b) (hlt : V a b < 170141183460469231731687303715884105728) : ∃ x y, wide_Number_twice.f a b s = some (x, y, s) ∧ In x y ∧ V x y = 2 * V a b ∧ y % 2 = 0 := by
  unfold wide_Number_twice.f
  unfold In at h
  unfold V at hlt
  refine ⟨_, _, rfl, ?_, ?_, ?_⟩ <;> (simp only [u64_wrap]; try rw [u64_orbit (by omega) (by omega) (by omega) (by omega) (by omega)])
  · unfold In; omega
  · unfold V; omega
  · omega
theorem negative_spec {a b : Int} {s : Bool} (h : In a b) : wide_Number_Negative.f a b s = some (s && decide (V a b ≠ 0)) := by
  unfold wide_Number_Negative.f
  cases s
  · simp
  · rw [if_pos rfl, zero_spec h]; simp

/-! ### the greatest common divisor, by halves -/
theorem gcd_half {a b : Nat} (ha : a % 2 = 0) (hb : b % 2 = 1) : Nat.gcd (a / 2) b = Nat.gcd a b := by
  have hc : Nat.Coprime 2 b := by unfold Nat.Coprime; rw [Nat.gcd_rec, hb]; simp
  have e : a = 2 * (a / 2) := by omega
  rw (occs := .pos [2]) [e]
  exact (hc.gcd_mul_left_cancel _).symm
theorem common_l4 : ∀ (j : Nat) (tw i x y : Int), 0 ≤ i → tw - i = j → tw ≤ 1000 → In x y → V x y * 2 ^ j < 340282366920938463463374607431768211456 →
    ∃ u v, In u v ∧ V u v = V x y * 2 ^ j ∧ Ev (fun k => wide_Common.l4 k tw i x y false) (u, v, false) := by
  intro j
  induction j with
  | zero =>
    intro tw i x y h0 h1 h2 h3 h4
    refine ⟨x, y, h3, by simp, 1, fun k hk => ?_⟩
    obtain ⟨k, rfl⟩ : ∃ m, k = m + 1 := ⟨k - 1, by omega⟩
    simp only [wide_Common.l4]
    rw [if_neg (by omega)]
  | succ j ih =>
    intro tw i x y h0 h1 h2 h3 h4
    have hp : (1 : Int) ≤ 2 ^ j := by have := Int.pow_pos (n := 2) (m := j) (by decide); omega
    have hv := V_in h3
    have e : V x y * 2 ^ (j + 1) = (2 * V x y) * 2 ^ j := by rw [Int.pow_succ]; grind
    have hle : 2 * V x y ≤ (2 * V x y) * 2 ^ j := by have := Int.mul_le_mul_of_nonneg_left hp (show 0 ≤ 2 * V x y by omega); omega
    obtain ⟨a, b, t1, t2, t3, _⟩ := twice_spec (s := false) h3 (by omega)
    obtain ⟨u, v, g1, g2, K, g3⟩ := ih tw (i + 1) a b (by omega) (by omega) h2 t2 (by rw [t3]; omega)
    refine ⟨u, v, g1, by rw [g2, t3, e], K + 1, fun k hk => ?_⟩
    obtain ⟨k, rfl⟩ : ∃ m, k = m + 1 := ⟨k - 1, by omega⟩
    simp only [wide_Common.l4, t1, Option.bind_some]
    rw [if_pos (by omega), wrap64_id (by omega) (by omega)]
    exact g3 k (by omega)
/-- What the two loops in the middle do: 'b' is halved until it is odd, then the smaller is taken from the greater. -/
theorem common_l23 (tw : Int) (htw : 0 ≤ tw) (htw2 : tw ≤ 1000) : ∀ (n : Nat) (ah al bh bl : Int), In ah al → In bh bl → (V ah al).toNat + (V bh bl).toNat = n → (V ah al).toNat % 2 = 1 →
    ((Nat.gcd (V ah al).toNat (V bh bl).toNat : Nat) : Int) * 2 ^ tw.toNat < 340282366920938463463374607431768211456 →
    ∃ u v, In u v ∧ V u v = ((Nat.gcd (V ah al).toNat (V bh bl).toNat : Nat) : Int) * 2 ^ tw.toNat ∧ Ev (fun k => wide_Common.l2 k tw ah al false bh bl false) (u, v, false) ∧ (0 < V bh bl → Ev (fun k => wide_Common.l3 k tw ah al false bh bl false) (u, v, false)) := by
  intro n
  induction n using Nat.strongRecOn with
  | _ n ih =>
    intro ah al bh bl ha hb hn ho hlim
    have hA := V_in ha
    have hB := V_in hb
    -- the inner loop suffices where b is not 0
    have outer : ∀ u v, 0 < V bh bl → Ev (fun k => wide_Common.l3 k tw ah al false bh bl false) (u, v, false) → Ev (fun k => wide_Common.l2 k tw ah al false bh bl false) (u, v, false) := by
      intro u v hpos h
      refine Ev.step (fun k => ?_) h
      simp only [wide_Common.l2, zero_spec hb, Option.bind_some, show decide (V bh bl = 0) = false from decide_eq_false (by omega)]
      simp
    by_cases h0 : V bh bl = 0
    · rw [h0] at hlim
      have e : ((Nat.gcd (V ah al).toNat (0 : Int).toNat : Nat) : Int) = V ah al := by simp; omega
      rw [e] at hlim
      obtain ⟨u, v, g1, g2, g3⟩ := common_l4 tw.toNat tw 0 ah al (by omega) (by omega) htw2 ha hlim
      refine ⟨u, v, g1, by rw [h0, e, g2], ?_, fun h => by omega⟩
      refine Ev.step (fun k => ?_) g3
      simp [wide_Common.l2, zero_spec hb, h0]
    · by_cases he : V bh bl % 2 = 0
      · obtain ⟨x, y, p1, p2, p3⟩ := half_spec (s := false) hb
        have hg : Nat.gcd (V ah al).toNat (V x y).toNat = Nat.gcd (V ah al).toNat (V bh bl).toNat := by
          rw [Nat.gcd_comm, show (V x y).toNat = (V bh bl).toNat / 2 by rw [p3]; omega, gcd_half (by omega) ho, Nat.gcd_comm]
        obtain ⟨u, v, g1, g2, _, g4⟩ := ih ((V ah al).toNat + (V x y).toNat) (by rw [p3]; omega) ah al x y ha p2 rfl ho (by rw [hg]; exact hlim)
        have g5 := g4 (by rw [p3]; omega)
        have r3 : Ev (fun k => wide_Common.l3 k tw ah al false bh bl false) (u, v, false) := by
          refine Ev.step (fun k => ?_) g5
          simp [wide_Common.l3, even_spec hb, he, p1]
        exact ⟨u, v, g1, by rw [g2, hg], outer u v (by omega) r3, fun _ => r3⟩
      · rcases Int.lt_or_le (V bh bl) (V ah al) with hlt | hge
        · obtain ⟨x, y, p1, p2, p3⟩ := wless_spec (s := false) (t := false) ha hb (by omega)
          have hg : Nat.gcd (V bh bl).toNat (V x y).toNat = Nat.gcd (V ah al).toNat (V bh bl).toNat := by
            rw [show (V x y).toNat = (V ah al).toNat - (V bh bl).toNat by rw [p3]; omega, Nat.gcd_sub_self_right (by omega), Nat.gcd_comm]
          obtain ⟨u, v, g1, g2, g3, _⟩ := ih ((V bh bl).toNat + (V x y).toNat) (by rw [p3]; omega) bh bl x y hb p2 rfl (by omega) (by rw [hg]; exact hlim)
          have r3 : Ev (fun k => wide_Common.l3 k tw ah al false bh bl false) (u, v, false) := by
            refine Ev.step (fun k => ?_) g3
            simp [wide_Common.l3, even_spec hb, he, below_spec hb ha, hlt, p1]
          exact ⟨u, v, g1, by rw [g2, hg], outer u v (by omega) r3, fun _ => r3⟩
        · obtain ⟨x, y, p1, p2, p3⟩ := wless_spec (s := false) (t := false) hb ha (by omega)
          have hg : Nat.gcd (V ah al).toNat (V x y).toNat = Nat.gcd (V ah al).toNat (V bh bl).toNat := by
            rw [show (V x y).toNat = (V bh bl).toNat - (V ah al).toNat by rw [p3]; omega, Nat.gcd_sub_self_right (by omega)]
          obtain ⟨u, v, g1, g2, g3, _⟩ := ih ((V ah al).toNat + (V x y).toNat) (by rw [p3]; omega) ah al x y ha p2 rfl ho (by rw [hg]; exact hlim)
          have r3 : Ev (fun k => wide_Common.l3 k tw ah al false bh bl false) (u, v, false) := by
            refine Ev.step (fun k => ?_) g3
            have hn : ¬ V bh bl < V ah al := by omega
            simp [wide_Common.l3, even_spec hb, he, below_spec hb ha, hn, p1]
          exact ⟨u, v, g1, by rw [g2, hg], outer u v (by omega) r3, fun _ => r3⟩
theorem common_l1 (tw : Int) (htw : 0 ≤ tw) (htw2 : tw ≤ 1000) : ∀ (n : Nat) (ah al bh bl : Int), In ah al → In bh bl → (V ah al).toNat = n → 0 < V ah al → ((V ah al).toNat % 2 = 1 ∨ (V bh bl).toNat % 2 = 1) →
    ((Nat.gcd (V ah al).toNat (V bh bl).toNat : Nat) : Int) * 2 ^ tw.toNat < 340282366920938463463374607431768211456 →
    ∃ u v, In u v ∧ V u v = ((Nat.gcd (V ah al).toNat (V bh bl).toNat : Nat) : Int) * 2 ^ tw.toNat ∧ Ev (fun k => wide_Common.l1 k tw ah al false bh bl false) (u, v, false) := by
  intro n
  induction n using Nat.strongRecOn with
  | _ n ih =>
    intro ah al bh bl ha hb hn hpos ho hlim
    have hA := V_in ha
    by_cases he : V ah al % 2 = 0
    · obtain ⟨x, y, p1, p2, p3⟩ := half_spec (s := false) ha
      have hg : Nat.gcd (V x y).toNat (V bh bl).toNat = Nat.gcd (V ah al).toNat (V bh bl).toNat := by
        rw [show (V x y).toNat = (V ah al).toNat / 2 by rw [p3]; omega, gcd_half (by omega) (by omega)]
      obtain ⟨u, v, g1, g2, g3⟩ := ih (V x y).toNat (by rw [p3]; omega) x y bh bl p2 hb rfl (by rw [p3]; omega) (by right; omega) (by rw [hg]; exact hlim)
      refine ⟨u, v, g1, by rw [g2, hg], Ev.step (fun k => ?_) g3⟩
      simp [wide_Common.l1, even_spec ha, he, p1]
    · obtain ⟨u, v, g1, g2, g3, _⟩ := common_l23 tw htw htw2 _ ah al bh bl ha hb rfl (by omega) hlim
      refine ⟨u, v, g1, g2, Ev.step (fun k => ?_) g3⟩
      simp [wide_Common.l1, even_spec ha, he]
theorem common_l0 : ∀ (n : Nat) (tw ah al bh bl : Int), 0 ≤ tw → tw + (V ah al).toNat.log2 ≤ 1000 → In ah al → In bh bl → (V ah al).toNat = n → 0 < V ah al → 0 < V bh bl →
    ((Nat.gcd (V ah al).toNat (V bh bl).toNat : Nat) : Int) * 2 ^ tw.toNat < 340282366920938463463374607431768211456 →
    ∃ u v, In u v ∧ V u v = ((Nat.gcd (V ah al).toNat (V bh bl).toNat : Nat) : Int) * 2 ^ tw.toNat ∧ Ev (fun k => wide_Common.l0 k tw ah al false bh bl false) (u, v, false) := by
  intro n
  induction n using Nat.strongRecOn with
  | _ n ih =>
    intro tw ah al bh bl htw htw2 ha hb hn hpa hpb hlim
    by_cases he : V ah al % 2 = 0 ∧ V bh bl % 2 = 0
    · obtain ⟨x, y, p1, p2, p3⟩ := half_spec (s := false) ha
      obtain ⟨z, w, q1, q2, q3⟩ := half_spec (s := false) hb
      have e1 : (V ah al).toNat = 2 * (V x y).toNat := by rw [p3]; omega
      have e2 : (V bh bl).toNat = 2 * (V z w).toNat := by rw [q3]; omega
      have hg : Nat.gcd (V ah al).toNat (V bh bl).toNat = 2 * Nat.gcd (V x y).toNat (V z w).toNat := by rw [e1, e2, Nat.gcd_mul_left]
      have e3 : ((Nat.gcd (V ah al).toNat (V bh bl).toNat : Nat) : Int) * 2 ^ tw.toNat = ((Nat.gcd (V x y).toNat (V z w).toNat : Nat) : Int) * 2 ^ (tw + 1).toNat := by
        rw [hg, show (tw + 1).toNat = tw.toNat + 1 by omega, Int.pow_succ]; push_cast; grind
      have hlog : (V ah al).toNat.log2 = (V x y).toNat.log2 + 1 := by
        rw [e1, Nat.log2_two_mul (by omega)]
      obtain ⟨u, v, g1, g2, g3⟩ := ih (V x y).toNat (by omega) (tw + 1) x y z w (by omega) (by omega) p2 q2 rfl (by omega) (by omega) (by rw [← e3]; exact hlim)
      refine ⟨u, v, g1, by rw [g2, e3], ?_⟩
      refine Ev.step (f := fun k => wide_Common.j1 k tw true ah al false bh bl false) (fun k => by simp [wide_Common.l0, even_spec ha, even_spec hb, he.1, he.2]) ?_
      refine Ev.step (fun k => ?_) g3
      simp [wide_Common.j1, p1, q1, wrap64_id (n := tw + 1) (by omega) (by omega)]
    · obtain ⟨u, v, g1, g2, g3⟩ := common_l1 tw htw (by omega) _ ah al bh bl ha hb rfl hpa (by omega) hlim
      refine ⟨u, v, g1, g2, ?_⟩
      refine Ev.step (f := fun k => wide_Common.j1 k tw false ah al false bh bl false) (fun k => ?_) (Ev.step (fun k => by simp [wide_Common.j1]) g3)
      by_cases h1 : V ah al % 2 = 0
      · have h2 : ¬ V bh bl % 2 = 0 := fun h => he ⟨h1, h⟩
        simp [wide_Common.l0, even_spec ha, even_spec hb, h1, h2]
      · simp [wide_Common.l0, even_spec ha, h1]
theorem wcommon_spec {ah al bh bl : Int} {s t : Bool} (ha : In ah al) (hb : In bh bl) :
    ∃ u v, In u v ∧ V u v = Int.gcd (V ah al) (V bh bl) ∧ Ev (fun k => wide_Common.f k ah al s bh bl t) (u, v, false) := by
  have hA := V_in ha
  have hB := V_in hb
  unfold wide_Common.f
  simp only [zero_spec ha, zero_spec hb, Option.bind_some]
  by_cases h0 : V ah al = 0
  · refine ⟨bh, bl, hb, ?_, Ev.pos (decide_eq_true h0) (Ev.now _)⟩
    rw [h0]; simp; omega
  · by_cases h1 : V bh bl = 0
    · refine ⟨ah, al, ha, ?_, Ev.neg (by simpa using h0) (Ev.pos (decide_eq_true h1) (Ev.now _))⟩
      rw [h1]; simp; omega
    · have hg : ((Nat.gcd (V ah al).toNat (V bh bl).toNat : Nat) : Int) = Int.gcd (V ah al) (V bh bl) := by
        obtain ⟨m, hm⟩ := Int.eq_ofNat_of_zero_le hA.1
        obtain ⟨n, hn⟩ := Int.eq_ofNat_of_zero_le hB.1
        rw [hm, hn]; simp
      have hle : Nat.gcd (V ah al).toNat (V bh bl).toNat ≤ (V ah al).toNat := Nat.gcd_le_left _ (by omega)
      have hlog : (V ah al).toNat.log2 < 128 := by
        rw [Nat.log2_lt (by omega)]; simp; omega
      obtain ⟨u, v, g1, g2, g3⟩ := common_l0 _ 0 ah al bh bl (by omega) (by omega) ha hb rfl (by omega) (by omega) (by simp only [Int.toNat_zero, Int.pow_zero, Int.mul_one]; omega)
      refine ⟨u, v, g1, ?_, Ev.neg (by simpa using h0) (Ev.neg (by simpa using h1) g3)⟩
      rw [g2, hg]; simp

/-! ### the quotient -/
theorem wor1_spec {a b : Int} (h : In a b) (he : b % 2 = 0) : In a (Go.bits .or .u64 b 1) ∧ V a (Go.bits .or .u64 b 1) = V a b + 1 := by
  unfold In at h
  rw [u64_or1 (by omega) (by omega) he]
  unfold In V
  omega
theorem worbit_spec {a b c : Int} (h : In a b) (he : b % 2 = 0) (h0 : 0 ≤ c) (h1 : c < 2) : In a (Go.bits .or .u64 b c) ∧ V a (Go.bits .or .u64 b c) = V a b + c := by
  unfold In at h
  rw [u64_orbit (by omega) (by omega) he h0 h1]
  unfold In V
  omega
theorem over_end {qh ql : Int} (hq : In qh ql) : (if qh = 0 then some (wrap64 (Go.bits .and .u64 ql 4611686018427387903), decide (ql < 4611686018427387904)) else some (wrap64 (Go.bits .and .u64 ql 4611686018427387903), false)) =
    some (wrap64 (Go.bits .and .u64 ql 4611686018427387903), decide (V qh ql < 4611686018427387904)) := by
  unfold In at hq
  by_cases h : qh = 0
  · rw [if_pos h]; congr 2; rw [decide_eq_decide]; unfold V; omega
  · rw [if_neg h, show decide (V qh ql < 4611686018427387904) = false from decide_eq_false (by unfold V; omega)]
theorem over_l0 {ah al bh bl : Int} {s t : Bool} (ha : In ah al) (hb : In bh bl) (hB : 0 < V bh bl) (hB2 : V bh bl < 170141183460469231731687303715884105728) : ∀ (n : Nat), n ≤ 128 → ∀ (qh ql rh rl : Int), In qh ql → In rh rl → V qh ql = V ah al / 2 ^ n / V bh bl → V rh rl = V ah al / 2 ^ n % V bh bl →
    ∃ x y, In x y ∧ V x y = V ah al / V bh bl ∧ ∀ k, 2 * n < k → wide_Number_Over.l0 k ((n : Int) - 1) ah al s bh bl t rh rl false qh ql false = some (wrap64 (Go.bits .and .u64 y 4611686018427387903), decide (V x y < 4611686018427387904)) := by
  intro n
  induction n with
  | zero =>
    intro _ qh ql rh rl hq hr e1 e2
    refine ⟨qh, ql, hq, by simpa using e1, fun k hk => ?_⟩
    obtain ⟨k, rfl⟩ : ∃ m, k = m + 1 := ⟨k - 1, by omega⟩
    simp only [wide_Number_Over.l0]
    rw [if_neg (by omega), over_end hq]
  | succ n ih =>
    intro hn qh ql rh rl hq hr e1 e2
    have hs := half_step (V ah al) n
    have hbit0 : 0 ≤ V ah al / 2 ^ n % 2 := by omega
    have hbit1 : V ah al / 2 ^ n % 2 < 2 := by omega
    obtain ⟨d1, d2⟩ := div_step hB hs hbit0 hbit1 e1 e2
    have hr0 := V_in hr
    have hrB : V rh rl < V bh bl := by rw [e2]; exact Int.emod_lt_of_pos _ hB
    obtain ⟨x, y, p1, p2, p3, p4⟩ := twice_spec (s := false) hr (by omega)
    have hA := V_in ha
    have hTn : V ah al / 2 ^ n ≤ V ah al := Int.ediv_le_self _ hA.1
    have hTn0 : 0 ≤ V ah al / 2 ^ n := Int.ediv_nonneg hA.1 (by have := Int.pow_pos (n := 2) (m := n) (by decide); omega)
    have hq0 := V_in hq
    have hqs : V qh ql < 170141183460469231731687303715884105728 := by
      have h1 : V qh ql ≤ V ah al / 2 ^ (n + 1) := by rw [e1]; exact Int.ediv_le_self _ (by omega)
      omega
    obtain ⟨z, w, q1, q2, q3, q4⟩ := twice_spec (s := false) hq hqs
    obtain ⟨o1, o2⟩ := worbit_spec p2 p4 hbit0 hbit1
    -- to the inner half
    have key : ∀ k, wide_Number_Over.l0 (k + 1) (((n + 1 : Nat) : Int) - 1) ah al s bh bl t rh rl false qh ql false = wide_Number_Over.j1 k n (V ah al / 2 ^ n % 2) ah al s bh bl t x y false z w false := by
      intro k
      have hx : (((n + 1 : Nat) : Int) - 1) = (n : Int) := by omega
      have hin := ha
      unfold In at hin
      by_cases h64 : 64 ≤ n
      · have hb1 := bit_hi ha n h64
        have w1 : wrap64 ((n : Int) - 64) = (n : Int) - 64 := wrap64_id (by omega) (by omega)
        have w2 : shr .u64 ah ((n : Int) - 64) = ah / 2 ^ (n - 64) := by rw [shr_u64 (by omega)]; congr 2; omega
        have hpos : (0 : Int) < 2 ^ (n - 64) := Int.pow_pos (by decide)
        have w3 : Go.bits .and .u64 (ah / 2 ^ (n - 64)) 1 = V ah al / 2 ^ n % 2 := by
          rw [u64_and1 (Int.ediv_nonneg hin.1 (by omega)) (by have := Int.ediv_le_self (a := ah) (2 ^ (n - 64)) hin.1; omega), hb1]
        simp only [wide_Number_Over.l0, hx, p1, q1, Option.bind_some, w1, w2, w3]
        rw [if_pos (by omega), if_pos (by omega), if_pos (by omega), if_pos (by omega)]
      · have hb1 := bit_lo ha n (by omega)
        have w2 : shr .u64 al (n : Int) = al / 2 ^ n := by rw [shr_u64 (by omega)]; simp
        have hpos : (0 : Int) < 2 ^ n := Int.pow_pos (by decide)
        have w3 : Go.bits .and .u64 (al / 2 ^ n) 1 = V ah al / 2 ^ n % 2 := by
          rw [u64_and1 (Int.ediv_nonneg hin.2.2.1 (by omega)) (by have := Int.ediv_le_self (a := al) (2 ^ n) hin.2.2.1; omega), hb1]
        simp only [wide_Number_Over.l0, hx, p1, q1, Option.bind_some, w2, w3]
        rw [if_pos (by omega), if_pos (by omega), if_neg (by omega)]
    have hw : wrap64 ((n : Int) - 1) = (n : Int) - 1 := wrap64_id (by omega) (by omega)
    rcases Int.lt_or_le (V x (Go.bits .or .u64 y (V ah al / 2 ^ n % 2))) (V bh bl) with h | h
    · have e := d1 (by omega)
      obtain ⟨x2, y2, g1, g2, g3⟩ := ih (by omega) z w x (Go.bits .or .u64 y (V ah al / 2 ^ n % 2)) q2 o1 (by omega) (by omega)
      refine ⟨x2, y2, g1, g2, fun k hk => ?_⟩
      obtain ⟨k, rfl⟩ : ∃ m, k = m + 2 := ⟨k - 2, by omega⟩
      rw [show k + 2 = (k + 1) + 1 from rfl, key]
      simp only [wide_Number_Over.j1, below_spec o1 hb, Option.bind_some, decide_eq_true h, if_true, hw]
      exact g3 k (by omega)
    · have e := d2 (by omega)
      obtain ⟨u, v, s1, s2, s3⟩ := wless_spec (s := false) (t := t) o1 hb h
      obtain ⟨c1, c2⟩ := wor1_spec q2 q4
      obtain ⟨x2, y2, g1, g2, g3⟩ := ih (by omega) z (Go.bits .or .u64 w 1) u v c1 s2 (by omega) (by omega)
      refine ⟨x2, y2, g1, g2, fun k hk => ?_⟩
      obtain ⟨k, rfl⟩ : ∃ m, k = m + 2 := ⟨k - 2, by omega⟩
      rw [show k + 2 = (k + 1) + 1 from rfl, key]
      have hn' : ¬ V x (Go.bits .or .u64 y (V ah al / 2 ^ n % 2)) < V bh bl := by omega
      simp only [wide_Number_Over.j1, below_spec o1 hb, Option.bind_some, decide_eq_false hn', s1, hw]
      simpa using g3 k (by omega)
theorem over_spec {ah al bh bl : Int} {s t : Bool} (ha : In ah al) (hb : In bh bl) (hB : 0 < V bh bl) (hB2 : V bh bl < 170141183460469231731687303715884105728) :
    ∃ q, Ev (fun k => wide_Number_Over.f k ah al s bh bl t) (q, decide (V ah al / V bh bl < 4611686018427387904)) ∧ (V ah al / V bh bl < 4611686018427387904 → q = V ah al / V bh bl) := by
  have hA := V_in ha
  have z : V ah al / 2 ^ 128 = 0 := Int.ediv_eq_zero_of_lt hA.1 (by simpa using hA.2)
  obtain ⟨x, y, h1, h2, h3⟩ := over_l0 (s := s) (t := t) ha hb hB hB2 128 (by omega) 0 0 0 0 In00 In00 (by rw [z]; simp [V]) (by rw [z]; simp [V])
  refine ⟨wrap64 (Go.bits .and .u64 y 4611686018427387903), ⟨257, fun k hk => ?_⟩, fun hlt => ?_⟩
  · simp only [wide_Number_Over.f, zero_spec hb, Option.bind_some, show decide (V bh bl = 0) = false from decide_eq_false (by omega)]
    rw [← h2]
    simpa using h3 k (by omega)
  · rw [← h2] at hlt ⊢
    unfold In at h1
    unfold V at hlt ⊢
    have e := bits_mask .u64 64 (by decide) wraps_u64 62 (by decide) y h1.2.2.1 (by simpa using h1.2.2.2)
    rw [show ((2 : Int) ^ 62 - 1) = 4611686018427387903 from by decide] at e
    rw [e, wrap64_id (by omega) (by omega)]
    omega
end Go.Proofs.Ytjoddcfcolhimaa.FrC
