/-
  What the program's fractions do: Make, Add, Sub, Mul, Div and Cmp are exact, or report that the result in lowest terms does not fit.
-/
import Derived.Test.YtjoddcfcolhimaaFrC
import Derived.Test.YtjoddcfcolhimaaQFrx3
import Derived.Test.YtjoddcfcolhimaaQFrx6
import Derived.Test.YtjoddcfcolhimaaQFrx9
import Derived.Test.YtjoddcfcolhimaaQFrx10
import Derived.Test.YtjoddcfcolhimaaQFrx11
import Derived.Test.YtjoddcfcolhimaaQFrx13
import Derived.Test.YtjoddcfcolhimaaQFrx14
namespace Go.Proofs.Ytjoddcfcolhimaa.FrD
open Go.RowKit Go.Proofs.YtjoddcfcolhimaaW.PrintWords Go.Proofs.YtjoddcfcolhimaaW.PrintMore Go.Proofs.Ytjoddcfcolhimaa.QFr Go.Proofs.Ytjoddcfcolhimaa.Num Go.Proofs.Ytjoddcfcolhimaa.FrB Go.Proofs.Ytjoddcfcolhimaa.FrC

theorem wsize_spec {n : Int} (h0 : -9223372036854775808 ≤ n) (h1 : n < 9223372036854775808) : wide_size.f n = some (n.natAbs : Int) := by
  unfold wide_size.f
  by_cases h : n < 0
  · rw [if_pos h]; congr 1; unfold wrap64; rw [u64_wrap]; omega
  · rw [if_neg h]; congr 1; rw [u64_wrap]; omega
/-- The value of a wide number with its sign. -/
def sv (h l : Int) (s : Bool) : Int := if s = true then -(V h l) else V h l
theorem of_spec {n : Int} (h0 : -9223372036854775808 ≤ n) (h1 : n < 9223372036854775808) : ∃ h l s, wide_Of.f n = some (h, l, s) ∧ In h l ∧ sv h l s = n ∧ V h l = n.natAbs := by
  unfold wide_Of.f
  rw [wsize_spec h0 h1]
  refine ⟨0, (n.natAbs : Int), decide (n < 0), rfl, by unfold In; omega, ?_, by unfold V; omega⟩
  unfold sv V
  by_cases h : n < 0
  · rw [if_pos (decide_eq_true h)]; omega
  · rw [if_neg (by simpa using h)]; omega
theorem mul64_spec {a b : Int} (ha0 : 0 ≤ a) (ha : a < 18446744073709551616) (hb0 : 0 ≤ b) (hb : b < 18446744073709551616) : ∃ h l, bits_Mul64.f a b = some (h, l) ∧ In h l ∧ V h l = a * b := by
  unfold bits_Mul64.f
  rw [u64_and32 ha0 ha, u64_and32 hb0 hb]
  obtain ⟨a1, ha1⟩ : ∃ x, x = a / 4294967296 := ⟨_, rfl⟩
  obtain ⟨a0, ha0'⟩ : ∃ x, x = a % 4294967296 := ⟨_, rfl⟩
  obtain ⟨b1, hb1⟩ : ∃ x, x = b / 4294967296 := ⟨_, rfl⟩
  obtain ⟨b0, hb0'⟩ : ∃ x, x = b % 4294967296 := ⟨_, rfl⟩
  rw [← ha1, ← ha0', ← hb1, ← hb0']
  have r1 : 0 ≤ a1 ∧ a1 ≤ 4294967295 := by omega
  have r2 : 0 ≤ a0 ∧ a0 ≤ 4294967295 := by omega
  have r3 : 0 ≤ b1 ∧ b1 ≤ 4294967295 := by omega
  have r4 : 0 ≤ b0 ∧ b0 ≤ 4294967295 := by omega
  have bd : ∀ x y : Int, 0 ≤ x ∧ x ≤ 4294967295 → 0 ≤ y ∧ y ≤ 4294967295 → 0 ≤ x * y ∧ x * y ≤ 18446744065119617025 := by
    intro x y hx hy
    refine ⟨Int.mul_nonneg hx.1 hy.1, ?_⟩
    have h1 := Int.mul_le_mul hx.2 hy.2 hy.1 (by decide)
    omega
  have hab : a * b = a1 * b1 * 18446744073709551616 + (a1 * b0 + a0 * b1) * 4294967296 + a0 * b0 := by
    rw [show a = a1 * 4294967296 + a0 by omega, show b = b1 * 4294967296 + b0 by omega]; grind
  rw [hab]
  obtain ⟨p1, q1⟩ := bd a1 b1 r1 r3
  obtain ⟨p2, q2⟩ := bd a1 b0 r1 r4
  obtain ⟨p3, q3⟩ := bd a0 b1 r2 r3
  obtain ⟨p4, q4⟩ := bd a0 b0 r2 r4
  generalize a1 * b1 = m11 at *
  generalize a1 * b0 = m10 at *
  generalize a0 * b1 = m01 at *
  generalize a0 * b0 = m00 at *
  rw [u64_id (n := m11) (by omega) (by omega), u64_id (n := m10) (by omega) (by omega), u64_id (n := m01) (by omega) (by omega), u64_id (n := m00) (by omega) (by omega)]
  rw [u64_id (n := m10 + m00 / 4294967296) (by omega) (by omega), u64_and32 (by omega) (by omega)]
  rw [u64_id (n := (m10 + m00 / 4294967296) % 4294967296 + m01) (by omega) (by omega)]
  rw [u64_id (n := m11 + (m10 + m00 / 4294967296) / 4294967296) (by omega) (by omega)]
  rw [u64_id (n := m11 + (m10 + m00 / 4294967296) / 4294967296 + ((m10 + m00 / 4294967296) % 4294967296 + m01) / 4294967296) (by omega) (by omega), u64_wrap]
  exact ⟨_, _, rfl, by unfold In; omega, by unfold V; omega⟩
theorem product_spec {a b : Int} (ha0 : -9223372036854775808 ≤ a) (ha : a < 9223372036854775808) (hb0 : -9223372036854775808 ≤ b) (hb : b < 9223372036854775808) :
    ∃ h l s, wide_Product.f a b = some (h, l, s) ∧ In h l ∧ sv h l s = a * b ∧ V h l = (a * b).natAbs ∧ V h l ≤ 85070591730234615865843651857942052864 := by
  unfold wide_Product.f
  rw [wsize_spec ha0 ha, wsize_spec hb0 hb]
  obtain ⟨h, l, m1, m2, m3⟩ := mul64_spec (a := (a.natAbs : Int)) (b := (b.natAbs : Int)) (by omega) (by omega) (by omega) (by omega)
  refine ⟨h, l, (decide (a < 0) != decide (b < 0)), by simp [m1], m2, ?_, by rw [m3, Int.natAbs_mul]; push_cast; rfl, ?_⟩
  · unfold sv
    rw [m3]
    by_cases h1 : a < 0 <;> by_cases h2 : b < 0
    · rw [if_neg (by simp [h1, h2]), show (a.natAbs : Int) = -a by omega, show (b.natAbs : Int) = -b by omega]; grind
    · rw [if_pos (by simp [h1, h2]), show (a.natAbs : Int) = -a by omega, show (b.natAbs : Int) = b by omega]; grind
    · rw [if_pos (by simp [h1, h2]), show (a.natAbs : Int) = a by omega, show (b.natAbs : Int) = -b by omega]; grind
    · rw [if_neg (by simp [h1, h2]), show (a.natAbs : Int) = a by omega, show (b.natAbs : Int) = b by omega]
  · rw [m3]
    have := Int.mul_le_mul (show (a.natAbs : Int) ≤ 9223372036854775808 by omega) (show (b.natAbs : Int) ≤ 9223372036854775808 by omega) (by omega) (by omega)
    omega
theorem plus_spec {a b c d : Int} {s t : Bool} (h : In a b) (k : In c d) (h1 : V a b ≤ 85070591730234615865843651857942052864) (h2 : V c d ≤ 85070591730234615865843651857942052864) :
    ∃ x y u, wide_Number_Plus.f a b s c d t = some (x, y, u) ∧ In x y ∧ sv x y u = sv a b s + sv c d t := by
  have hA := V_in h
  have hC := V_in k
  unfold wide_Number_Plus.f
  by_cases e : s = t
  · subst e
    obtain ⟨x, y, m1, m2, m3⟩ := wmore_spec (s := s) (t := s) h k (by omega)
    refine ⟨x, y, s, by simp [m1], m2, ?_⟩
    unfold sv
    rw [m3]
    cases s <;> simp <;> omega
  · rw [if_neg (by simpa using e), below_spec h k]
    simp only [Option.bind_some]
    by_cases hlt : V a b < V c d
    · obtain ⟨x, y, m1, m2, m3⟩ := wless_spec (s := t) (t := s) k h (by omega)
      refine ⟨x, y, t, by simp [hlt, m1], m2, ?_⟩
      unfold sv
      rw [m3]
      cases s <;> cases t <;> simp_all <;> omega
    · obtain ⟨x, y, m1, m2, m3⟩ := wless_spec (s := s) (t := t) h k (by omega)
      refine ⟨x, y, s, by simp [hlt, m1], m2, ?_⟩
      unfold sv
      rw [m3]
      cases s <;> cases t <;> simp_all <;> omega
theorem minus_spec {a b c d : Int} {s t : Bool} (h : In a b) (k : In c d) (h1 : V a b ≤ 85070591730234615865843651857942052864) (h2 : V c d ≤ 85070591730234615865843651857942052864) :
    ∃ x y u, wide_Number_Minus.f a b s c d t = some (x, y, u) ∧ In x y ∧ sv x y u = sv a b s - sv c d t := by
  obtain ⟨x, y, u, m1, m2, m3⟩ := plus_spec (s := s) (t := !t) h k h1 h2
  refine ⟨x, y, u, by simp [wide_Number_Minus.f, wide_Number_Opposite.f, m1], m2, ?_⟩
  rw [m3]
  unfold sv
  cases t <;> simp <;> omega
/-! ### lowest terms of wide numbers -/
theorem divInt_sv {N D : Int} (s t : Bool) (hD : 0 < D) :
    Rat.divInt (if s = true then -N else N) (if t = true then -D else D) = if ((s && decide (N ≠ 0)) != (t && decide (D ≠ 0))) = true then -(Rat.divInt N D) else Rat.divInt N D := by
  have hd : decide (D ≠ 0) = true := decide_eq_true (by omega)
  have z : N = 0 → Rat.divInt N D = 0 := fun h => by rw [h]; simp
  by_cases h0 : N = 0
  · rw [z h0, h0]; cases s <;> cases t <;> simp
  · have hn : decide (N ≠ 0) = true := decide_eq_true h0
    rw [hd, hn]
    cases s <;> cases t <;> simp
    · rw [← divInt_negs N (-D) (by omega), Int.neg_neg]
    · exact divInt_negs N D (by omega)
theorem exact_spec {ah al bh bl : Int} {s t : Bool} (ha : In ah al) (hb : In bh bl) (hB : 0 < V bh bl) (hB2 : V bh bl < 170141183460469231731687303715884105728) :
    Ev (fun k => fraction_exact.f k ah al s bh bl t) (chk (Rat.divInt (sv ah al s) (sv bh bl t))) := by
  have hA := V_in ha
  obtain ⟨gh, gl, g1, g2, g3⟩ := wcommon_spec (s := s) (t := t) ha hb
  have hgp := gcd_pos' (n := V ah al) hB
  have hgle : (Int.gcd (V ah al) (V bh bl) : Int) ≤ V bh bl := Int.le_of_dvd hB (Int.gcd_dvd_right ..)
  obtain ⟨x, o1, o2⟩ := over_spec (s := s) (t := false) ha g1 (by omega) (by omega)
  obtain ⟨y, o3, o4⟩ := over_spec (s := t) (t := false) hb g1 (by omega) (by omega)
  obtain ⟨l1, l2⟩ := divInt_low (n := V ah al) hB
  rw [g2, ← l1] at o1 o2
  rw [g2, ← l2] at o3 o4
  obtain ⟨q, hq⟩ : ∃ q, q = Rat.divInt (V ah al) (V bh bl) := ⟨_, rfl⟩
  rw [← hq] at o1 o2 o3 o4
  have hsv : Rat.divInt (sv ah al s) (sv bh bl t) = if ((s && decide (V ah al ≠ 0)) != (t && decide (V bh bl ≠ 0))) = true then -q else q := by
    unfold sv; rw [hq]; exact divInt_sv s t hB
  have hnn : 0 ≤ q.num := by rw [hq, l1]; exact Int.ediv_nonneg hA.1 (by omega)
  unfold fraction_exact.f
  refine Ev.bind g3 (Ev.bind o1 (Ev.bind o3 ?_))
  have tooGreat : (4611686018427387904 ≤ q.num ∨ 4611686018427387904 ≤ (q.den : Int)) → chk (Rat.divInt (sv ah al s) (sv bh bl t)) = (0, 0, 4) := by
    intro h
    rw [hsv]
    split
    · refine chk_not ?_
      unfold fits; simp only [Rat.neg_num, Rat.neg_den]; omega
    · refine chk_not ?_
      unfold fits; omega
  by_cases hx : q.num < 4611686018427387904
  · by_cases hy : (q.den : Int) < 4611686018427387904
    · rw [o2 hx, o4 hy, decide_eq_true hx, decide_eq_true hy]
      refine Ev.pos rfl ?_
      refine Ev.step (f := fun _ => some (chk (Rat.divInt (sv ah al s) (sv bh bl t)))) (fun k => ?_) (Ev.now _)
      simp only [fraction_exact.j0, negative_spec ha, negative_spec hb, Option.bind_some, hsv]
      rw [wrap64_id (n := -q.num) (by omega) (by omega)]
      have c1 := checked_spec q
      have c2 := checked_spec (-q)
      rw [Rat.neg_num, Rat.neg_den] at c2
      by_cases hc : ((s && decide (V ah al ≠ 0)) != (t && decide (V bh bl ≠ 0))) = true
      · rw [if_neg (by decide), if_pos hc, if_pos hc, c2]; rfl
      · rw [if_neg (by decide), if_neg hc, if_neg hc, c1]; rfl
    · rw [tooGreat (Or.inr (by omega)), decide_eq_true hx, decide_eq_false hy]
      refine Ev.pos rfl (Ev.step (f := fun _ => some (0, 0, 4)) (fun k => ?_) (Ev.now _))
      simp [fraction_exact.j0]
  · rw [tooGreat (Or.inl (by omega)), decide_eq_false hx]
    refine Ev.neg (by simp) (Ev.step (f := fun _ => some (0, 0, 4)) (fun k => ?_) (Ev.now _))
    simp [fraction_exact.j0]
/-- Make, of any two numbers. -/
def mk (n d : Int) : Int × Int × Int := if d = 0 then (0, 0, 36) else chk (Rat.divInt n d)
theorem make_spec {n d : Int} (h1 : -9223372036854775808 ≤ n) (h2 : n < 9223372036854775808) (h3 : -9223372036854775808 ≤ d) (h4 : d < 9223372036854775808) :
    Ev (fun k => fraction_Make.f k n d) (mk n d) := by
  unfold mk
  by_cases hd : d = 0
  · rw [if_pos hd]
    unfold fraction_Make.f
    exact Ev.pos hd (Ev.now _)
  rw [if_neg hd]
  by_cases hs : (-4611686018427387904 ≤ n ∧ n ≤ 4611686018427387904) ∧ (-4611686018427387904 ≤ d ∧ d ≤ 4611686018427387904)
  · exact make_small hd hs.2.1 hs.2.2 hs.1.1 hs.1.2
  · obtain ⟨a, b, s, p1, p2, p3, p4⟩ := of_spec h1 h2
    obtain ⟨c, e, t, q1, q2, q3, q4⟩ := of_spec h3 h4
    have hx := exact_spec (s := s) (t := t) p2 q2 (by omega) (by omega)
    rw [p3, q3] at hx
    have hj : Ev (fun k => fraction_Make.j0 k n d false) (chk (Rat.divInt n d)) := by
      refine Ev.step (f := fun k => (fraction_exact.f k a b s c e t).bind fun b => some (b.1, b.2.1, b.2.2)) (fun k => by simp [fraction_Make.j0, p1, q1]) ?_
      exact Ev.bind hx (Ev.now _)
    unfold fraction_Make.f
    refine Ev.neg hd ?_
    rw [within_spec (by decide) (by decide), within_spec (by decide) (by decide)]
    simp only [Option.bind_some]
    by_cases hn : -4611686018427387904 ≤ n ∧ n ≤ 4611686018427387904
    · refine Ev.pos (by simpa using hn) ?_
      rw [show decide (-4611686018427387904 ≤ d ∧ d ≤ 4611686018427387904) = false from decide_eq_false fun h => hs ⟨hn, h⟩]
      exact hj
    · exact Ev.neg (by simpa using hn) hj

/-! ### the four operations -/
theorem rat_add (p q : Rat) : Rat.divInt (p.num * q.den + q.num * p.den) (p.den * q.den) = p + q := by
  rw [← Rat.divInt_add_divInt _ _ (by have := p.den_pos; omega) (by have := q.den_pos; omega), Rat.num_divInt_den, Rat.num_divInt_den]
theorem rat_sub (p q : Rat) : Rat.divInt (p.num * q.den - q.num * p.den) (p.den * q.den) = p - q := by
  rw [← Rat.divInt_sub_divInt _ _ (by have := p.den_pos; omega) (by have := q.den_pos; omega), Rat.num_divInt_den, Rat.num_divInt_den]
theorem rat_mul (p q : Rat) : Rat.divInt (p.num * q.num) (p.den * q.den) = p * q := by
  rw [← Rat.divInt_mul_divInt, Rat.num_divInt_den, Rat.num_divInt_den]
theorem rat_div (p q : Rat) : Rat.divInt (p.num * q.den) (p.den * q.num) = p / q := by
  rw [Rat.div_def, ← Rat.divInt_mul_divInt, ← Rat.inv_divInt q.num q.den, Rat.num_divInt_den, Rat.num_divInt_den]
/-- Are all numbers of two fractions at most 2^30? -/
def ez (p q : Rat) : Prop := p.num.natAbs ≤ 1073741824 ∧ q.num.natAbs ≤ 1073741824 ∧ p.den ≤ 1073741824 ∧ q.den ≤ 1073741824
instance (p q : Rat) : Decidable (ez p q) := by unfold ez; infer_instance
theorem easy_spec (p q : Rat) : fraction_easy.f p.num p.den q.num q.den = some (decide (ez p q)) := by
  unfold fraction_easy.f
  have h1 := p.den_pos
  have h2 := q.den_pos
  simp only [within_spec (m := 1073741824) (by decide) (by decide), Option.bind_some]
  by_cases a : -1073741824 ≤ p.num ∧ p.num ≤ 1073741824
  case neg => rw [if_neg (by simpa using a), show decide (ez p q) = false from decide_eq_false (by unfold ez; omega)]
  by_cases b : -1073741824 ≤ q.num ∧ q.num ≤ 1073741824
  case neg => rw [if_pos (by simpa using a), if_neg (by simpa using b), show decide (ez p q) = false from decide_eq_false (by unfold ez; omega)]
  by_cases c : -1073741824 ≤ (p.den : Int) ∧ (p.den : Int) ≤ 1073741824
  case neg => rw [if_pos (by simpa using a), if_pos (by simpa using b), if_neg (by simpa using c), show decide (ez p q) = false from decide_eq_false (by unfold ez; omega)]
  by_cases d : -1073741824 ≤ (q.den : Int) ∧ (q.den : Int) ≤ 1073741824
  case neg => rw [if_pos (by simpa using a), if_pos (by simpa using b), if_pos (by simpa using c), if_neg (by simpa using d), show decide (ez p q) = false from decide_eq_false (by unfold ez; omega)]
  rw [if_pos (by simpa using a), if_pos (by simpa using b), if_pos (by simpa using c), if_pos (by simpa using d), if_neg (by omega), show decide (ez p q) = true from decide_eq_true (by unfold ez; omega)]
  congr 1
  rw [bne_iff_ne]; omega
theorem ez_mul {a b : Int} (h1 : a.natAbs ≤ 1073741824) (h2 : b.natAbs ≤ 1073741824) : -1152921504606846976 ≤ a * b ∧ a * b ≤ 1152921504606846976 := by
  have h : (a * b).natAbs ≤ 1073741824 * 1073741824 := by rw [Int.natAbs_mul]; exact Nat.mul_le_mul h1 h2
  omega
theorem den_mul (p q : Rat) : (0 : Int) < p.den * q.den := by have := p.den_pos; have := q.den_pos; exact Int.mul_pos (by omega) (by omega)
theorem triple {g : Nat → Option (Int × Int × Int)} {r : Int × Int × Int} (h : Ev g r) : Ev (fun k => (g k).bind fun b => some (b.1, b.2.1, b.2.2)) r := Ev.bind h (Ev.now _)
theorem add_spec {p q : Rat} (hp : fits p) (hq : fits q) : Ev (fun k => fraction_Add.f k p.num p.den q.num q.den) (chk (p + q)) := by
  have h1 := p.den_pos
  have h2 := q.den_pos
  have f1 := hp
  have f2 := hq
  unfold fits at f1 f2
  unfold fraction_Add.f
  refine Ev.neg (by omega) ?_
  rw [show ((q.den : Int) == 0) = false from by rw [beq_eq_false_iff_ne]; omega]
  by_cases e : ez p q
  · unfold ez at e
    have m1 := ez_mul (a := p.num) (b := q.den) (by omega) (by omega)
    have m2 := ez_mul (a := q.num) (b := p.den) (by omega) (by omega)
    have m3 := ez_mul (a := (p.den : Int)) (b := q.den) (by omega) (by omega)
    have m4 := den_mul p q
    refine Ev.step (f := fun k => (fraction_lowest.f k (p.num * q.den + q.num * p.den) (p.den * q.den)).bind fun b => some (b.1, b.2.1, b.2.2)) (fun k => ?_) ?_
    · simp only [fraction_Add.j0, easy_spec, Option.bind_some]
      rw [if_neg (by decide), if_pos (decide_eq_true (by unfold ez; omega)), wrap64_id (n := p.num * q.den) (by omega) (by omega), wrap64_id (n := q.num * p.den) (by omega) (by omega), wrap64_id (n := (p.den : Int) * q.den) (by omega) (by omega), wrap64_id (by omega) (by omega)]
    · have := lowest_spec (n := p.num * q.den + q.num * p.den) (d := (p.den : Int) * q.den) (by omega) (by omega) (by omega) (by omega) (by omega)
      rw [rat_add] at this
      exact triple this
  · obtain ⟨a, b, s, p1, p2, p3, p4, p5⟩ := product_spec (a := p.num) (b := q.den) (by omega) (by omega) (by omega) (by omega)
    obtain ⟨c, d, t, q1, q2, q3, q4, q5⟩ := product_spec (a := q.num) (b := p.den) (by omega) (by omega) (by omega) (by omega)
    obtain ⟨x, y, u, r1, r2, r3⟩ := plus_spec (s := s) (t := t) p2 q2 p5 q5
    obtain ⟨m, n, v, s1, s2, s3, s4, s5⟩ := product_spec (a := (p.den : Int)) (b := q.den) (by omega) (by omega) (by omega) (by omega)
    have m4 := den_mul p q
    have hx := exact_spec (s := u) (t := v) r2 s2 (by omega) (by omega)
    rw [r3, p3, q3, s3, rat_add] at hx
    refine Ev.step (f := fun k => ((fraction_exact.f k x y u m n v).bind fun b => some (b.1, b.2.1, b.2.2)).bind fun b => some (b.1, b.2.1, b.2.2)) (fun k => ?_) (triple (triple hx))
    simp only [fraction_Add.j0, easy_spec, Option.bind_some]
    rw [if_neg (by decide), if_neg (by simpa using e)]
    simp [fraction_together_81.f, p1, q1, r1, s1]
theorem sub_spec {p q : Rat} (hp : fits p) (hq : fits q) : Ev (fun k => fraction_Sub.f k p.num p.den q.num q.den) (chk (p - q)) := by
  have h1 := p.den_pos
  have h2 := q.den_pos
  have f1 := hp
  have f2 := hq
  unfold fits at f1 f2
  unfold fraction_Sub.f
  refine Ev.neg (by omega) ?_
  rw [show ((q.den : Int) == 0) = false from by rw [beq_eq_false_iff_ne]; omega]
  by_cases e : ez p q
  · unfold ez at e
    have m1 := ez_mul (a := p.num) (b := q.den) (by omega) (by omega)
    have m2 := ez_mul (a := q.num) (b := p.den) (by omega) (by omega)
    have m3 := ez_mul (a := (p.den : Int)) (b := q.den) (by omega) (by omega)
    have m4 := den_mul p q
    refine Ev.step (f := fun k => (fraction_lowest.f k (p.num * q.den - q.num * p.den) (p.den * q.den)).bind fun b => some (b.1, b.2.1, b.2.2)) (fun k => ?_) ?_
    · simp only [fraction_Sub.j0, easy_spec, Option.bind_some]
      rw [if_neg (by decide), if_pos (decide_eq_true (by unfold ez; omega)), wrap64_id (n := p.num * q.den) (by omega) (by omega), wrap64_id (n := q.num * p.den) (by omega) (by omega), wrap64_id (n := (p.den : Int) * q.den) (by omega) (by omega), wrap64_id (by omega) (by omega)]
    · have := lowest_spec (n := p.num * q.den - q.num * p.den) (d := (p.den : Int) * q.den) (by omega) (by omega) (by omega) (by omega) (by omega)
      rw [rat_sub] at this
      exact triple this
  · obtain ⟨a, b, s, p1, p2, p3, p4, p5⟩ := product_spec (a := p.num) (b := q.den) (by omega) (by omega) (by omega) (by omega)
    obtain ⟨c, d, t, q1, q2, q3, q4, q5⟩ := product_spec (a := q.num) (b := p.den) (by omega) (by omega) (by omega) (by omega)
    obtain ⟨x, y, u, r1, r2, r3⟩ := minus_spec (s := s) (t := t) p2 q2 p5 q5
    obtain ⟨m, n, v, s1, s2, s3, s4, s5⟩ := product_spec (a := (p.den : Int)) (b := q.den) (by omega) (by omega) (by omega) (by omega)
    have m4 := den_mul p q
    have hx := exact_spec (s := u) (t := v) r2 s2 (by omega) (by omega)
    rw [r3, p3, q3, s3, rat_sub] at hx
    refine Ev.step (f := fun k => ((fraction_exact.f k x y u m n v).bind fun b => some (b.1, b.2.1, b.2.2)).bind fun b => some (b.1, b.2.1, b.2.2)) (fun k => ?_) (triple (triple hx))
    simp only [fraction_Sub.j0, easy_spec, Option.bind_some]
    rw [if_neg (by decide), if_neg (by simpa using e)]
    simp [fraction_together_85.f, p1, q1, r1, s1]
theorem mul_spec {p q : Rat} (hp : fits p) (hq : fits q) : Ev (fun k => fraction_Mul.f k p.num p.den q.num q.den) (chk (p * q)) := by
  have h1 := p.den_pos
  have h2 := q.den_pos
  have f1 := hp
  have f2 := hq
  unfold fits at f1 f2
  unfold fraction_Mul.f
  refine Ev.neg (by omega) ?_
  rw [show ((q.den : Int) == 0) = false from by rw [beq_eq_false_iff_ne]; omega]
  have m4 := den_mul p q
  by_cases e : ez p q
  · unfold ez at e
    have m1 := ez_mul (a := p.num) (b := q.num) (by omega) (by omega)
    have m3 := ez_mul (a := (p.den : Int)) (b := q.den) (by omega) (by omega)
    refine Ev.step (f := fun k => (fraction_lowest.f k (p.num * q.num) (p.den * q.den)).bind fun b => some (b.1, b.2.1, b.2.2)) (fun k => ?_) ?_
    · simp only [fraction_Mul.j0, easy_spec, Option.bind_some]
      rw [if_neg (by decide), if_pos (decide_eq_true (by unfold ez; omega)), wrap64_id (n := p.num * q.num) (by omega) (by omega), wrap64_id (n := (p.den : Int) * q.den) (by omega) (by omega)]
    · have := lowest_spec (n := p.num * q.num) (d := (p.den : Int) * q.den) (by omega) (by omega) (by omega) (by omega) (by omega)
      rw [rat_mul] at this
      exact triple this
  · obtain ⟨a, b, s, p1, p2, p3, p4, p5⟩ := product_spec (a := p.num) (b := q.num) (by omega) (by omega) (by omega) (by omega)
    obtain ⟨m, n, v, s1, s2, s3, s4, s5⟩ := product_spec (a := (p.den : Int)) (b := q.den) (by omega) (by omega) (by omega) (by omega)
    have hx := exact_spec (s := s) (t := v) p2 s2 (by omega) (by omega)
    rw [p3, s3, rat_mul] at hx
    refine Ev.step (f := fun k => (fraction_exact.f k a b s m n v).bind fun b => some (b.1, b.2.1, b.2.2)) (fun k => ?_) (triple hx)
    simp only [fraction_Mul.j0, easy_spec, Option.bind_some]
    rw [if_neg (by decide), if_neg (by simpa using e)]
    simp [p1, s1]
/-- What Div answers. -/
def dv (p q : Rat) : Int × Int × Int := if q.num = 0 then (0, 0, 36) else chk (p / q)
theorem div_spec {p q : Rat} (hp : fits p) (hq : fits q) : Ev (fun k => fraction_Div.f k p.num p.den q.num q.den) (dv p q) := by
  have h1 := p.den_pos
  have h2 := q.den_pos
  have f1 := hp
  have f2 := hq
  unfold fits at f1 f2
  unfold fraction_Div.f dv
  by_cases h0 : q.num = 0
  · rw [if_pos h0]
    refine Ev.pos h0 (Ev.step (f := fun _ => some (0, 0, 36)) (fun k => by simp [fraction_Div.j0]) (Ev.now _))
  rw [if_neg h0]
  refine Ev.neg h0 (Ev.neg (by omega) ?_)
  rw [show ((q.den : Int) == 0) = false from by rw [beq_eq_false_iff_ne]; omega]
  have m0 : (p.den : Int) * q.num ≠ 0 := Int.mul_ne_zero (by omega) h0
  by_cases e : ez p q
  · unfold ez at e
    have m1 := ez_mul (a := p.num) (b := q.den) (by omega) (by omega)
    have m3 := ez_mul (a := (p.den : Int)) (b := q.num) (by omega) (by omega)
    refine Ev.step (f := fun k => (fraction_lowest.f k (p.num * q.den) (p.den * q.num)).bind fun b => some (b.1, b.2.1, b.2.2)) (fun k => ?_) ?_
    · simp only [fraction_Div.j0, easy_spec, Option.bind_some]
      rw [if_neg (by decide), if_pos (decide_eq_true (by unfold ez; omega)), wrap64_id (n := p.num * q.den) (by omega) (by omega), wrap64_id (n := (p.den : Int) * q.num) (by omega) (by omega)]
    · have := lowest_spec (n := p.num * q.den) (d := (p.den : Int) * q.num) m0 (by omega) (by omega) (by omega) (by omega)
      rw [rat_div] at this
      exact triple this
  · obtain ⟨a, b, s, p1, p2, p3, p4, p5⟩ := product_spec (a := p.num) (b := q.den) (by omega) (by omega) (by omega) (by omega)
    obtain ⟨m, n, v, s1, s2, s3, s4, s5⟩ := product_spec (a := (p.den : Int)) (b := q.num) (by omega) (by omega) (by omega) (by omega)
    have hx := exact_spec (s := s) (t := v) p2 s2 (by omega) (by omega)
    rw [p3, s3, rat_div] at hx
    refine Ev.step (f := fun k => (fraction_exact.f k a b s m n v).bind fun b => some (b.1, b.2.1, b.2.2)) (fun k => ?_) (triple hx)
    simp only [fraction_Div.j0, easy_spec, Option.bind_some]
    rw [if_neg (by decide), if_neg (by simpa using e)]
    simp [p1, s1]
/-! ### the order -/
def sg (n : Int) : Int := if n < 0 then -1 else if n > 0 then 1 else 0
theorem sign_spec (n : Int) : fraction_sign.f n = some (sg n) := by
  unfold fraction_sign.f sg
  repeat' split
  all_goals rfl
def cmpR (p q : Rat) : Int := if p < q then -1 else if p = q then 0 else 1
theorem cmpR_eq (p q : Rat) : cmpR p q = sg (p.num * q.den - q.num * p.den) := by
  unfold cmpR sg
  by_cases h : p < q
  · rw [if_pos h, if_pos (by rw [Rat.lt_iff] at h; omega)]
  · rw [if_neg h]
    have h' := h
    rw [Rat.lt_iff] at h'
    by_cases e : p = q
    · rw [if_pos e, e, if_neg (by omega), if_neg (by omega)]
    · rw [if_neg e, if_neg (by omega), if_pos]
      have : p.num * q.den ≠ q.num * p.den := fun hh => e (by
        rw [← Rat.num_divInt_den p, ← Rat.num_divInt_den q, Rat.divInt_eq_divInt_iff (by have := p.den_pos; omega) (by have := q.den_pos; omega)]
        simpa using hh)
      omega
theorem cmp_spec {p q : Rat} (hp : fits p) (hq : fits q) : Ev (fun k => fraction_Cmp.f k p.num p.den q.num q.den) (cmpR p q) := by
  have h1 := p.den_pos
  have h2 := q.den_pos
  have f1 := hp
  have f2 := hq
  unfold fits at f1 f2
  rw [cmpR_eq]
  unfold fraction_Cmp.f
  rw [sign_spec, sign_spec]
  simp only [Option.bind_some]
  have sgr : ∀ n, sg n = -1 ∧ n < 0 ∨ sg n = 1 ∧ n > 0 ∨ sg n = 0 ∧ n = 0 := fun n => by unfold sg; repeat' split <;> omega
  have mp : ∀ {a b : Int}, 0 < a → 0 < b → 0 < a * b := fun h k => Int.mul_pos h k
  have ml : ∀ {a b : Int}, a < 0 → 0 < b → a * b < 0 := fun h k => Int.mul_neg_of_neg_of_pos h k
  by_cases hs : sg p.num = sg q.num
  · refine Ev.pos hs ?_
    by_cases h0 : sg p.num = 0
    · rw [show (sg p.num == 0) = true from by simpa using h0]
      have e1 : p.num = 0 := by rcases sgr p.num with h | h | h <;> omega
      have e2 : q.num = 0 := by rcases sgr q.num with h | h | h <;> omega
      refine Ev.step (f := fun _ => some (sg (p.num * q.den - q.num * p.den))) (fun k => ?_) (Ev.now _)
      simp only [fraction_Cmp.j0, sign_spec, Option.bind_some, if_true]
      rw [e1, e2]; simp [sg, wrap64]
    · rw [show (sg p.num == 0) = false from by simpa using h0]
      have ab : ∀ {n : Int}, -1152921504606846976 ≤ n → n ≤ 1152921504606846976 → IntKind.u64.wrap (mx n (wrap64 (-n))) = (n.natAbs : Int) := fun h k => by
        rw [mx_abs (by omega) (by omega), u64_id (by omega) (by omega)]
      obtain ⟨a, b, x1, x2, x3⟩ := mul64_spec (a := (p.num.natAbs : Int)) (b := (q.den : Int)) (by omega) (by omega) (by omega) (by omega)
      obtain ⟨c, d, y1, y2, y3⟩ := mul64_spec (a := (q.num.natAbs : Int)) (b := (p.den : Int)) (by omega) (by omega) (by omega) (by omega)
      have hin := x2
      have hin2 := y2
      unfold In at hin hin2
      have last : ∀ (bb : Bool), Ev (fun k => fraction_Cmp.j2 k bb p.num p.den) (if bb = true then -(sg p.num) else sg p.num) := by
        intro bb
        refine Ev.step (f := fun _ => some (if bb = true then -(sg p.num) else sg p.num)) (fun k => ?_) (Ev.now _)
        have hw : wrap64 (-(sg p.num)) = -(sg p.num) := wrap64_id (by rcases sgr p.num with h | h | h <;> omega) (by rcases sgr p.num with h | h | h <;> omega)
        cases bb <;> simp [fraction_Cmp.j2, sign_spec, hw]
      have tot : sg (p.num * q.den - q.num * p.den) = if V a b = V c d then 0 else if V a b < V c d then -(sg p.num) else sg p.num := by
        rw [x3, y3]
        rcases sgr p.num with h | h | h
        · have h' : sg q.num = -1 ∧ q.num < 0 := by rcases sgr q.num with k | k | k <;> omega
          rw [show (p.num.natAbs : Int) = -p.num by omega, show (q.num.natAbs : Int) = -q.num by omega, Int.neg_mul, Int.neg_mul, h.1]
          unfold sg; repeat' split
          all_goals omega
        · have h' : sg q.num = 1 ∧ q.num > 0 := by rcases sgr q.num with k | k | k <;> omega
          rw [show (p.num.natAbs : Int) = p.num by omega, show (q.num.natAbs : Int) = q.num by omega, h.1]
          unfold sg; repeat' split
          all_goals omega
        · omega
      refine Ev.step (f := fun k => if a = c then fraction_Cmp.j1 k a b c d (b == d) p.num p.den else fraction_Cmp.j1 k a b c d false p.num p.den) (fun k => ?_) ?_
      · simp only [fraction_Cmp.j0, ab f1.1 f1.2.1, ab f2.1 f2.2.1, u64_id (n := (q.den : Int)) (by omega) (by omega), u64_id (n := (p.den : Int)) (by omega) (by omega), x1, y1, Option.bind_some]
        simp
      · rw [tot]
        by_cases hac : a = c
        · refine Ev.pos hac ?_
          by_cases hbd : b = d
          · rw [if_pos (by rw [hac, hbd]), show (b == d) = true from by simpa using hbd]
            exact Ev.step (f := fun _ => some 0) (fun k => by simp [fraction_Cmp.j1]) (Ev.now _)
          · rw [if_neg (by unfold V; omega), show (b == d) = false from by simpa using hbd]
            refine Ev.step (f := fun k => fraction_Cmp.j2 k (decide (b < d)) p.num p.den) (fun k => by simp [fraction_Cmp.j1, hac]) ?_
            have := last (decide (b < d))
            by_cases hlt : b < d
            · rw [if_pos (decide_eq_true hlt)] at this
              rw [if_pos (by unfold V; omega)]; exact this
            · rw [if_neg (by simpa using hlt)] at this
              rw [if_neg (by unfold V; omega)]; exact this
        · refine Ev.neg hac ?_
          rw [if_neg (by unfold V; omega)]
          by_cases hlt : a < c
          · rw [if_pos (by unfold V; omega)]
            refine Ev.step (f := fun k => fraction_Cmp.j2 k true p.num p.den) (fun k => by simp [fraction_Cmp.j1, hlt]) ?_
            simpa using last true
          · rw [if_neg (by unfold V; omega)]
            refine Ev.step (f := fun k => fraction_Cmp.j2 k false p.num p.den) (fun k => by simp [fraction_Cmp.j1, hlt, hac]) ?_
            simpa using last false
  · refine Ev.neg hs ?_
    refine Ev.step (f := fun _ => some (sg (p.num * q.den - q.num * p.den))) (fun k => ?_) (Ev.now _)
    have hw : wrap64 (sg p.num - sg q.num) = sg p.num - sg q.num := wrap64_id (by rcases sgr p.num with h | h | h <;> rcases sgr q.num with k | k | k <;> omega) (by rcases sgr p.num with h | h | h <;> rcases sgr q.num with k | k | k <;> omega)
    simp only [fraction_Cmp.j0, sign_spec, Option.bind_some, if_true, hw]
    congr 1
    have key : ∀ n, p.num * q.den - q.num * p.den = n → sg (sg p.num - sg q.num) = sg n := by
      intro n hn
      rcases sgr p.num with h | h | h <;> rcases sgr q.num with k | k | k
      · omega
      · have := ml h.2 (show (0 : Int) < q.den by omega); have := mp k.2 (show (0 : Int) < p.den by omega)
        unfold sg; repeat' split
        all_goals omega
      · have := ml h.2 (show (0 : Int) < q.den by omega); rw [k.2] at hn
        unfold sg; repeat' split
        all_goals omega
      · have := mp h.2 (show (0 : Int) < q.den by omega); have := ml k.2 (show (0 : Int) < p.den by omega)
        unfold sg; repeat' split
        all_goals omega
      · omega
      · have := mp h.2 (show (0 : Int) < q.den by omega); rw [k.2] at hn
        unfold sg; repeat' split
        all_goals omega
      · have := ml k.2 (show (0 : Int) < p.den by omega); rw [h.2] at hn
        unfold sg; repeat' split
        all_goals omega
      · have := mp k.2 (show (0 : Int) < p.den by omega); rw [h.2] at hn
        unfold sg; repeat' split
        all_goals omega
      · omega
    exact key _ rfl
end Go.Proofs.Ytjoddcfcolhimaa.FrD
