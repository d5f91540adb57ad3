/-
  What the reference's fractions do: the same exact results, or the same error.
-/
import Derived.Test.YtjoddcfcolhimaaFrF
import Derived.Test.YtjoddcfcolhimaaQFrx16
import Derived.Test.YtjoddcfcolhimaaHAdd
import Derived.Test.YtjoddcfcolhimaaHCmp
import Derived.Test.YtjoddcfcolhimaaQFrx19
import Derived.Test.YtjoddcfcolhimaaQFrx20
namespace Go.Proofs.Ytjoddcfcolhimaa.FrG
open Go.RowKit Go.Proofs.YtjoddcfcolhimaaW.PrintWords Go.Proofs.YtjoddcfcolhimaaW.PrintMore Go.Proofs.Ytjoddcfcolhimaa.QFr Go.Proofs.Ytjoddcfcolhimaa.Num Go.Proofs.Ytjoddcfcolhimaa.FrA Go.Proofs.Ytjoddcfcolhimaa.FrB Go.Proofs.Ytjoddcfcolhimaa.FrD Go.Proofs.Ytjoddcfcolhimaa.FrF

theorem prod_abs {a b : Int} (h : a.natAbs ≤ 1152921504606846976) (k : b.natAbs ≤ 1152921504606846976) : (a.natAbs : Int) * (b.natAbs : Int) ≤ 1329227995784915872903807060280344576 := by
  have := Int.mul_le_mul (show (a.natAbs : Int) ≤ 1152921504606846976 by omega) (show (b.natAbs : Int) ≤ 1152921504606846976 by omega) (by omega) (by omega)
  omega
theorem abs_mul_pos (a b : Int) : (a.natAbs : Int) * b = if a < 0 then -(a * b) else a * b := by
  split
  · rw [show (a.natAbs : Int) = -a by omega, Int.neg_mul]
  · rw [show (a.natAbs : Int) = a by omega]
theorem dec_ne {A B : Prop} [Decidable A] [Decidable B] (hs : ¬ (decide A == decide B) = true) (h : ¬ A) : B := by
  by_cases hB : B
  · exact hB
  · exact absurd (by simp [h, hB]) hs
theorem dec_bne {A B : Prop} [Decidable A] [Decidable B] (hs : (decide A != decide B) = true) (h : ¬ A) : B := by
  by_cases hB : B
  · exact hB
  · exact absurd hs (by simp [h, hB])
theorem dec_nbne {A B : Prop} [Decidable A] [Decidable B] (hs : ¬ (decide A != decide B) = true) (h : A) : B := by
  by_cases hB : B
  · exact hB
  · exact absurd (by simp [h, hB]) hs
theorem rat_add_spec {p q : Rat} (hp : fits p) (hq : fits q) : Ev (fun k => timeboundref31_Add.f k p.num p.den q.num q.den) (chk (p + q)) := by
  have h1 := p.den_pos
  have h2 := q.den_pos
  have f1 := hp
  have f2 := hq
  unfold fits at f1 f2
  have w1 : IntKind.u64.wrap (p.den : Int) = p.den := u64_id (by omega) (by omega)
  have w2 : IntKind.u64.wrap (q.den : Int) = q.den := u64_id (by omega) (by omega)
  obtain ⟨a, b, m1, m2, m3⟩ := rmul_spec (a := (p.num.natAbs : Int)) (b := (q.den : Int)) (by omega) (by omega) (by omega) (by omega)
  obtain ⟨c, d, n1, n2, n3⟩ := rmul_spec (a := (q.num.natAbs : Int)) (b := (p.den : Int)) (by omega) (by omega) (by omega) (by omega)
  obtain ⟨e, f, r1, r2, r3⟩ := rmul_spec (a := (p.den : Int)) (b := (q.den : Int)) (by omega) (by omega) (by omega) (by omega)
  have bm := prod_abs (a := p.num) (b := (q.den : Int)) (by omega) (by omega)
  have bn := prod_abs (a := q.num) (b := (p.den : Int)) (by omega) (by omega)
  have br := prod_abs (a := (p.den : Int)) (b := (q.den : Int)) (by omega) (by omega)
  rw [Int.natAbs_natCast] at bm bn br
  rw [Int.natAbs_natCast] at br
  have hD := den_mul p q
  have hA := V_in m2
  have hC := V_in n2
  have x1 := abs_mul_pos p.num (q.den : Int)
  have x2 := abs_mul_pos q.num (p.den : Int)
  rw [← m3] at x1
  rw [← n3] at x2
  have ra := rat_add p q
  rw [← r3] at ra hD
  have hlim : V e f < 170141183460469231731687303715884105728 := by omega
  unfold timeboundref31_Add.f
  simp only [(size_spec (n := p.num) (by omega) (by omega)).1, (size_spec (n := q.num) (by omega) (by omega)).1, w1, w2, m1, n1, r1, Option.bind_some]
  by_cases hs : (decide (p.num < 0) == decide (q.num < 0)) = true
  · rw [hs]
    obtain ⟨x, y, s1, s2, s3⟩ := radd_spec m2 n2 (by omega)
    have key := reduce_spec (neg := decide (p.num < 0)) s2 r2 hD hlim
    have hv : (if decide (p.num < 0) = true then -(V x y) else V x y) = p.num * q.den + q.num * p.den := by
      rw [s3]
      by_cases hn : p.num < 0
      · have hn2 : q.num < 0 := by simpa [hn] using hs
        rw [if_pos hn] at x1; rw [if_pos hn2] at x2
        rw [if_pos (decide_eq_true hn)]; omega
      · have hn2 : ¬ q.num < 0 := by simpa [hn] using hs
        rw [if_neg hn] at x1; rw [if_neg hn2] at x2
        rw [if_neg (by simpa using hn)]; omega
    rw [hv, ra] at key
    refine Ev.step (f := fun k => (timeboundref31_reduce.f k (decide (p.num < 0)) x y e f).bind fun b => some (b.1, b.2.1, b.2.2)) (fun k => by simp [timeboundref31_Add.j0, s1]) (triple key)
  · rw [show (decide (p.num < 0) == decide (q.num < 0)) = false from Bool.eq_false_iff.mpr hs]
    by_cases hlt : V a b < V c d
    · obtain ⟨x, y, s1, s2, s3⟩ := sub_spec n2 m2 (by omega)
      have key := reduce_spec (neg := decide (q.num < 0)) s2 r2 hD hlim
      have hv : (if decide (q.num < 0) = true then -(V x y) else V x y) = p.num * q.den + q.num * p.den := by
        rw [s3]
        by_cases hn : p.num < 0
        · have hn2 : ¬ q.num < 0 := by simpa [hn] using hs
          rw [if_pos hn] at x1; rw [if_neg hn2] at x2
          rw [if_neg (by simpa using hn2)]; omega
        · have hn2 : q.num < 0 := dec_ne hs hn
          rw [if_neg hn] at x1; rw [if_pos hn2] at x2
          rw [if_pos (decide_eq_true hn2)]; omega
      rw [hv, ra] at key
      refine Ev.step (f := fun k => (timeboundref31_reduce.f k (decide (q.num < 0)) x y e f).bind fun b => some (b.1, b.2.1, b.2.2)) (fun k => ?_) (triple key)
      simp [timeboundref31_Add.j0, less_spec m2 n2, hlt, s1]
    · obtain ⟨x, y, s1, s2, s3⟩ := sub_spec m2 n2 (by omega)
      have key := reduce_spec (neg := decide (p.num < 0)) s2 r2 hD hlim
      have hv : (if decide (p.num < 0) = true then -(V x y) else V x y) = p.num * q.den + q.num * p.den := by
        rw [s3]
        by_cases hn : p.num < 0
        · have hn2 : ¬ q.num < 0 := by simpa [hn] using hs
          rw [if_pos hn] at x1; rw [if_neg hn2] at x2
          rw [if_pos (decide_eq_true hn)]; omega
        · have hn2 : q.num < 0 := dec_ne hs hn
          rw [if_neg hn] at x1; rw [if_pos hn2] at x2
          rw [if_neg (by simpa using hn)]; omega
      rw [hv, ra] at key
      refine Ev.step (f := fun k => (timeboundref31_reduce.f k (decide (p.num < 0)) x y e f).bind fun b => some (b.1, b.2.1, b.2.2)) (fun k => ?_) (triple key)
      simp [timeboundref31_Add.j0, less_spec m2 n2, hlt, s1]
theorem rat_sub_spec {p q : Rat} (hp : fits p) (hq : fits q) : Ev (fun k => timeboundref31_Sub.f k p.num p.den q.num q.den) (chk (p - q)) := by
  have hq' : fits (-q) := by unfold fits at hq ⊢; simp; omega
  have f2 := hq
  unfold fits at f2
  have key := rat_add_spec hp hq'
  rw [Rat.neg_num, Rat.neg_den, ← Rat.sub_eq_add_neg] at key
  refine Ev.congr (fun k => ?_) (triple key)
  simp [timeboundref31_Sub.f, timeboundref31_Neg.f, wrap64_id (n := -q.num) (by omega) (by omega)]
theorem sign_mul (a b : Int) : (if (decide (a < 0) != decide (b < 0)) = true then -((a.natAbs : Int) * (b.natAbs : Int)) else (a.natAbs : Int) * (b.natAbs : Int)) = a * b := by
  by_cases h1 : a < 0 <;> by_cases h2 : b < 0
  · rw [if_neg (by simp [h1, h2]), show (a.natAbs : Int) = -a by omega, show (b.natAbs : Int) = -b by omega]; grind
  · rw [if_pos (by simp [h1, h2]), show (a.natAbs : Int) = -a by omega, show (b.natAbs : Int) = b by omega]; grind
  · rw [if_pos (by simp [h1, h2]), show (a.natAbs : Int) = a by omega, show (b.natAbs : Int) = -b by omega]; grind
  · rw [if_neg (by simp [h1, h2]), show (a.natAbs : Int) = a by omega, show (b.natAbs : Int) = b by omega]
theorem rat_mul_spec {p q : Rat} (hp : fits p) (hq : fits q) : Ev (fun k => timeboundref31_Mul.f k p.num p.den q.num q.den) (chk (p * q)) := by
  have h1 := p.den_pos
  have h2 := q.den_pos
  have f1 := hp
  have f2 := hq
  unfold fits at f1 f2
  have w1 : IntKind.u64.wrap (p.den : Int) = p.den := u64_id (by omega) (by omega)
  have w2 : IntKind.u64.wrap (q.den : Int) = q.den := u64_id (by omega) (by omega)
  obtain ⟨a, b, m1, m2, m3⟩ := rmul_spec (a := (p.num.natAbs : Int)) (b := (q.num.natAbs : Int)) (by omega) (by omega) (by omega) (by omega)
  obtain ⟨e, f, r1, r2, r3⟩ := rmul_spec (a := (p.den : Int)) (b := (q.den : Int)) (by omega) (by omega) (by omega) (by omega)
  have br := prod_abs (a := (p.den : Int)) (b := (q.den : Int)) (by omega) (by omega)
  rw [Int.natAbs_natCast, Int.natAbs_natCast] at br
  have hD := den_mul p q
  have key := reduce_spec (neg := decide (p.num < 0) != decide (q.num < 0)) m2 r2 (by omega) (by omega)
  rw [m3, r3, sign_mul, rat_mul] at key
  refine Ev.congr (fun k => ?_) (triple key)
  simp only [timeboundref31_Mul.f, (size_spec (n := p.num) (by omega) (by omega)).1, (size_spec (n := q.num) (by omega) (by omega)).1, w1, w2, m1, r1, Option.bind_some]
theorem rat_div_spec {p q : Rat} (hp : fits p) (hq : fits q) : Ev (fun k => timeboundref31_Div.f k p.num p.den q.num q.den) (dv p q) := by
  have h1 := p.den_pos
  have h2 := q.den_pos
  have f1 := hp
  have f2 := hq
  unfold fits at f1 f2
  unfold dv
  by_cases h0 : q.num = 0
  · rw [if_pos h0]
    unfold timeboundref31_Div.f
    exact Ev.pos h0 (Ev.now _)
  rw [if_neg h0]
  have w1 : IntKind.u64.wrap (p.den : Int) = p.den := u64_id (by omega) (by omega)
  have w2 : IntKind.u64.wrap (q.den : Int) = q.den := u64_id (by omega) (by omega)
  obtain ⟨a, b, m1, m2, m3⟩ := rmul_spec (a := (p.num.natAbs : Int)) (b := (q.den : Int)) (by omega) (by omega) (by omega) (by omega)
  obtain ⟨e, f, r1, r2, r3⟩ := rmul_spec (a := (p.den : Int)) (b := (q.num.natAbs : Int)) (by omega) (by omega) (by omega) (by omega)
  have br := prod_abs (a := (p.den : Int)) (b := q.num) (by omega) (by omega)
  rw [Int.natAbs_natCast] at br
  have hD : 0 < (p.den : Int) * (q.num.natAbs : Int) := Int.mul_pos (by omega) (by omega)
  have key := reduce_spec (neg := decide (p.num < 0) != decide (q.num < 0)) m2 r2 (by omega) (by omega)
  have hv : Rat.divInt (if (decide (p.num < 0) != decide (q.num < 0)) = true then -(V a b) else V a b) (V e f) = p / q := by
    rw [m3, r3, ← rat_div]
    have hne : (p.den : Int) * q.num ≠ 0 := Int.mul_ne_zero (by omega) h0
    by_cases c1 : p.num < 0 <;> by_cases c2 : q.num < 0
    · rw [if_neg (by simp [c1, c2]), show (p.num.natAbs : Int) = -p.num by omega, show (q.num.natAbs : Int) = -q.num by omega, Int.neg_mul, Int.mul_neg, divInt_negs _ _ hne]
    · rw [if_pos (by simp [c1, c2]), show (p.num.natAbs : Int) = -p.num by omega, show (q.num.natAbs : Int) = q.num by omega, Int.neg_mul, Int.neg_neg]
    · rw [if_pos (by simp [c1, c2]), show (p.num.natAbs : Int) = p.num by omega, show (q.num.natAbs : Int) = -q.num by omega, Int.mul_neg, divInt_negs _ _ hne]
    · rw [if_neg (by simp [c1, c2]), show (p.num.natAbs : Int) = p.num by omega, show (q.num.natAbs : Int) = q.num by omega]
  rw [hv] at key
  refine Ev.congr (fun k => ?_) (triple key)
  simp only [timeboundref31_Div.f, (size_spec (n := p.num) (by omega) (by omega)).1, (size_spec (n := q.num) (by omega) (by omega)).1, w1, w2, m1, r1, Option.bind_some]
  rw [if_neg h0]
theorem rcmp_spec {p q : Rat} (hp : fits p) (hq : fits q) : Ev (fun k => timeboundref31_Cmp.f k p.num p.den q.num q.den) (cmpR p q) := by
  have h1 := p.den_pos
  have h2 := q.den_pos
  have f1 := hp
  have f2 := hq
  unfold fits at f1 f2
  have w1 : IntKind.u64.wrap (p.den : Int) = p.den := u64_id (by omega) (by omega)
  have w2 : IntKind.u64.wrap (q.den : Int) = q.den := u64_id (by omega) (by omega)
  obtain ⟨a, b, m1, m2, m3⟩ := rmul_spec (a := (p.num.natAbs : Int)) (b := (q.den : Int)) (by omega) (by omega) (by omega) (by omega)
  obtain ⟨c, d, n1, n2, n3⟩ := rmul_spec (a := (q.num.natAbs : Int)) (b := (p.den : Int)) (by omega) (by omega) (by omega) (by omega)
  have x1 := abs_mul_pos p.num (q.den : Int)
  have x2 := abs_mul_pos q.num (p.den : Int)
  rw [← m3] at x1
  rw [← n3] at x2
  have hA := V_in m2
  have hC := V_in n2
  rw [cmpR_eq]
  have last : ∀ {a b c d : Int}, In a b → In c d → Ev (fun k => timeboundref31_Cmp.j0 k a b c d) (sg (V a b - V c d)) := by
    intro a b c d hab hcd
    refine Ev.step (f := fun _ => some (sg (V a b - V c d))) (fun k => ?_) (Ev.now _)
    simp only [timeboundref31_Cmp.j0, less_spec hab hcd, Option.bind_some]
    unfold In at hab hcd
    by_cases h : V a b < V c d
    · rw [if_pos (decide_eq_true h)]; unfold sg; rw [if_pos (by omega)]
    · rw [if_neg (by simpa using h)]
      by_cases e : (a == c && (b == d)) = true
      · rw [if_pos e]
        simp only [Bool.and_eq_true, beq_iff_eq] at e
        rw [e.1, e.2]; unfold sg; rw [if_neg (by omega), if_neg (by omega)]
      · rw [if_neg e]
        simp only [Bool.and_eq_true, beq_iff_eq] at e
        unfold sg; rw [if_neg (by omega), if_pos (by unfold V at *; omega)]
  have z1 : p.num < 0 → p.num * q.den < 0 := fun h => Int.mul_neg_of_neg_of_pos h (by omega)
  have z2 : ¬ p.num < 0 → 0 ≤ p.num * q.den := fun h => Int.mul_nonneg (by omega) (by omega)
  have z3 : q.num < 0 → q.num * p.den < 0 := fun h => Int.mul_neg_of_neg_of_pos h (by omega)
  have z4 : ¬ q.num < 0 → 0 ≤ q.num * p.den := fun h => Int.mul_nonneg (by omega) (by omega)
  unfold timeboundref31_Cmp.f
  by_cases hs : (decide (p.num < 0) != decide (q.num < 0)) = true
  · refine Ev.pos hs ?_
    by_cases hn : p.num < 0
    · have hn2 : ¬ q.num < 0 := by simpa [hn] using hs
      have := z1 hn
      have := z4 hn2
      refine Ev.pos hn ?_
      unfold sg; rw [if_pos (by omega)]; exact Ev.now _
    · have hn2 : q.num < 0 := dec_bne hs hn
      have := z2 hn
      have := z3 hn2
      refine Ev.neg hn ?_
      unfold sg; rw [if_neg (by omega), if_pos (by omega)]; exact Ev.now _
  · refine Ev.neg hs ?_
    simp only [(size_spec (n := p.num) (by omega) (by omega)).1, (size_spec (n := q.num) (by omega) (by omega)).1, w1, w2, m1, n1, Option.bind_some]
    by_cases hn : p.num < 0
    · have hn2 : q.num < 0 := dec_nbne hs hn
      rw [if_pos hn] at x1; rw [if_pos hn2] at x2
      refine Ev.pos hn ?_
      have := last n2 m2
      rw [show V c d - V a b = p.num * q.den - q.num * p.den by omega] at this
      exact this
    · have hn2 : ¬ q.num < 0 := by simpa [hn] using hs
      rw [if_neg hn] at x1; rw [if_neg hn2] at x2
      refine Ev.neg hn ?_
      have := last m2 n2
      rw [show V a b - V c d = p.num * q.den - q.num * p.den by omega] at this
      exact this
theorem rfloor_spec {n d : Int} (h0 : -4611686018427387904 ≤ n) (h1 : n ≤ 4611686018427387904) (hd : 0 < d) : timeboundref31_Floor.f n d = some (n / d) := by
  unfold timeboundref31_Floor.f
  have h3 := Int.emod_nonneg n (show d ≠ 0 by omega)
  have h4 := Int.emod_lt_of_pos n hd
  have hs : n.tdiv d = n / d + if 0 ≤ n ∨ d ∣ n then 0 else d.sign := Int.tdiv_eq_ediv
  rw [Int.sign_eq_one_of_pos hd] at hs
  have hr : n.tmod d = n % d - if 0 ≤ n ∨ d ∣ n then 0 else d.natAbs := Int.tmod_eq_emod
  have hb : (n / d).natAbs ≤ n.natAbs := Int.natAbs_ediv_le_natAbs n d
  rw [if_neg (by omega)]
  by_cases hc : 0 ≤ n ∨ d ∣ n
  · rw [if_pos hc] at hs hr
    rw [if_neg (by omega), hs, Int.add_zero, wrap64_id (by omega) (by omega)]
  · rw [if_neg hc] at hs hr
    rw [if_pos (by omega), hs, wrap64_id (n := n / d + 1) (by omega) (by omega), wrap64_id (by omega) (by omega)]
    congr 1; omega
theorem rceil_spec {n d : Int} (h0 : -4611686018427387904 ≤ n) (h1 : n ≤ 4611686018427387904) (hd : 0 < d) : timeboundref31_Ceil.f n d = some (-((-n) / d)) := by
  have hb : ((-n) / d).natAbs ≤ (-n).natAbs := Int.natAbs_ediv_le_natAbs _ d
  have w : wrap64 (-n) = -n := wrap64_id (by omega) (by omega)
  have w2 : wrap64 (-((-n) / d)) = -((-n) / d) := wrap64_id (by omega) (by omega)
  simp only [timeboundref31_Ceil.f, timeboundref31_Neg.f, w, Option.bind_some, rfloor_spec (n := -n) (d := d) (by omega) (by omega) hd, w2]
/-- A fraction, of great numbers perhaps. -/
theorem large_spec {a b : Int} (h1 : -9223372036854775808 ≤ a) (h2 : a < 9223372036854775808) (h3 : -9223372036854775808 ≤ b) (h4 : b < 9223372036854775808) :
    ∃ q : Rat, fits q ∧ Ev (fun k => timeboundlaw31_large.f k a b) (q.num, (q.den : Int)) := by
  have key := rmake_spec h1 h2 h3 h4
  have one : ∀ {x : Int × Int × Int}, x.2.2 ≠ 0 → Ev (fun k => timeboundref31_Make.f k a b) x → ∃ q : Rat, fits q ∧ Ev (fun k => timeboundlaw31_large.f k a b) (q.num, (q.den : Int)) := fun hx h =>
    ⟨1, by decide +kernel, Ev.bind h (Ev.neg hx (Ev.now _))⟩
  unfold mk at key
  by_cases hb : b = 0
  · rw [if_pos hb] at key; exact one (by decide) key
  rw [if_neg hb] at key
  by_cases hf : fits (Rat.divInt a b)
  · rw [chk_fits hf] at key
    exact ⟨_, hf, Ev.bind key (Ev.pos rfl (Ev.now _))⟩
  · rw [chk_not hf] at key; exact one (by decide) key
end Go.Proofs.Ytjoddcfcolhimaa.FrG
