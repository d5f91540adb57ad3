/-
  What the program's fractions of numbers up to 2^62 do: Make in lowest terms, Valid, Floor and Ceil.
-/
import Derived.Test.YtjoddcfcolhimaaFrA
import Derived.Test.YtjoddcfcolhimaaQFrx3
import Derived.Test.YtjoddcfcolhimaaQFrx6
import Derived.Test.YtjoddcfcolhimaaQFrx7
import Derived.Test.YtjoddcfcolhimaaQFrx8
namespace Go.Proofs.Ytjoddcfcolhimaa.FrB
open Go.RowKit Go.Proofs.YtjoddcfcolhimaaW.PrintWords Go.Proofs.YtjoddcfcolhimaaW.PrintMore Go.Proofs.Ytjoddcfcolhimaa.QFr Go.Proofs.Ytjoddcfcolhimaa.Num Go.Proofs.Ytjoddcfcolhimaa.FrA

/-- Numerator and denominator of a fraction, or the error that they are too great. -/
def fits (q : Rat) : Prop := -1152921504606846976 ≤ q.num ∧ q.num ≤ 1152921504606846976 ∧ (q.den : Int) ≤ 1152921504606846976
instance (q : Rat) : Decidable (fits q) := by unfold fits; infer_instance
def chk (q : Rat) : Int × Int × Int := if fits q then (q.num, (q.den : Int), 0) else (0, 0, 4)
theorem chk_fits {q : Rat} (h : fits q) : chk q = (q.num, (q.den : Int), 0) := if_pos h
theorem chk_not {q : Rat} (h : ¬ fits q) : chk q = (0, 0, 4) := if_neg h

theorem mod_spec {a k : Int} (h0 : 0 < k) (h1 : k < 4611686018427387904) : timeboundmake_Mod.f a k = some (a % k) := by
  unfold timeboundmake_Mod.f
  rw [if_neg (by omega)]
  congr 1
  have e := Int.tmod_def a k
  have h2 : Int.tmod a k < k := Int.tmod_lt_of_pos _ h0
  have h3 : -k < Int.tmod a k := by
    have := Int.tmod_lt_of_pos (-a) h0
    rw [Int.neg_tmod] at this; omega
  rw [wrap64_id (by omega) (by omega), Int.tmod_eq_emod_of_nonneg (by omega), Int.add_emod_right, e, Int.sub_mul_emod_self_left]

theorem common_l0 : ∀ (n : Nat) (a b : Int), 0 ≤ a → 0 ≤ b → b.toNat = n → Ev (fun k => fraction_common.l0 k a b) (Int.gcd a b : Int) := by
  intro n
  induction n using Nat.strongRecOn with
  | _ n ih =>
    intro a b ha hb hn
    by_cases h : b = 0
    · refine ⟨1, fun k hk => ?_⟩
      obtain ⟨k, rfl⟩ : ∃ m, k = m + 1 := ⟨k - 1, by omega⟩
      simp only [fraction_common.l0]
      rw [if_pos h, h]; simp [Int.natAbs_of_nonneg ha]
    · have hlt : a % b < b := Int.emod_lt_of_pos _ (by omega)
      have hge : 0 ≤ a % b := Int.emod_nonneg _ h
      obtain ⟨K, g⟩ := ih (a % b).toNat (by omega) b (a % b) hb hge rfl
      refine ⟨K + 1, fun k hk => ?_⟩
      obtain ⟨k, rfl⟩ : ∃ m, k = m + 1 := ⟨k - 1, by omega⟩
      simp only [fraction_common.l0]
      rw [if_neg h, Int.tmod_eq_emod_of_nonneg ha, ← gcd_mod ha hb]
      exact g k (by omega)
theorem common_spec {a b : Int} (ha : 0 ≤ a) (hb : 0 ≤ b) : Ev (fun k => fraction_common.f k a b) (Int.gcd a b : Int) := common_l0 _ a b ha hb rfl

theorem within_spec {a m : Int} (h0 : 0 ≤ m) (h1 : m < 9223372036854775808) : fraction_within.f a m = some (decide (-m ≤ a ∧ a ≤ m)) := by
  unfold fraction_within.f
  rw [wrap64_id (by omega) (by omega)]
  by_cases h : a ≥ -m
  · rw [if_pos h]; congr 1; rw [decide_eq_decide]; omega
  · rw [if_neg h, show decide (-m ≤ a ∧ a ≤ m) = false from decide_eq_false (by omega)]
theorem checked_spec (q : Rat) : fraction_checked.f q.num (q.den : Int) = some (chk q) := by
  unfold fraction_checked.f
  rw [within_spec (by decide) (by decide)]
  simp only [Option.bind_some]
  by_cases h : -1152921504606846976 ≤ q.num ∧ q.num ≤ 1152921504606846976
  · rw [if_pos (by simpa using h)]
    by_cases h2 : (q.den : Int) > 1152921504606846976
    · rw [if_pos h2, chk_not (by unfold fits; omega)]
    · rw [if_neg h2, chk_fits (by unfold fits; omega)]
  · rw [if_neg (by simpa using h), chk_not (by unfold fits; omega)]
theorem mx_abs {a : Int} (h0 : -9223372036854775808 < a) (h1 : a < 9223372036854775808) : mx a (wrap64 (-a)) = (a.natAbs : Int) := by
  rw [wrap64_id (by omega) (by omega)]; unfold mx; split <;> omega
theorem divInt_low {n d : Int} (hd : 0 < d) : (Rat.divInt n d).num = n / (Int.gcd n d : Int) ∧ ((Rat.divInt n d).den : Int) = d / (Int.gcd n d : Int) := by
  rw [Rat.num_divInt, Rat.den_divInt, if_neg (by omega), Int.gcd_comm d n, Int.sign_eq_one_of_pos hd, Int.one_mul]
  refine ⟨rfl, ?_⟩
  rw [Int.natCast_ediv]; congr 1; omega
theorem gcd_abs (n d : Int) : Int.gcd (n.natAbs : Int) d = Int.gcd n d := by simp [Int.gcd]
theorem gcd_pos' {n d : Int} (hd : 0 < d) : 0 < (Int.gcd n d : Int) := by
  have := Int.gcd_pos_of_ne_zero_right n (show d ≠ 0 by omega); omega
theorem low_pos {n d : Int} (hd : 0 < d) (hd2 : d ≤ 4611686018427387904) (hn : -4611686018427387904 ≤ n) (hn2 : n ≤ 4611686018427387904) :
    wrap64 (Int.tdiv n (Int.gcd n d)) = (Rat.divInt n d).num ∧ wrap64 (Int.tdiv d (Int.gcd n d)) = ((Rat.divInt n d).den : Int) := by
  obtain ⟨e1, e2⟩ := divInt_low (n := n) hd
  have hg := gcd_pos' (n := n) hd
  have d1 : ((Int.gcd n d : Int)) ∣ n := Int.gcd_dvd_left ..
  have d2 : ((Int.gcd n d : Int)) ∣ d := Int.gcd_dvd_right ..
  rw [Int.tdiv_eq_ediv_of_dvd d1, Int.tdiv_eq_ediv_of_dvd d2, e1, e2]
  obtain ⟨x, hx⟩ := d1
  obtain ⟨y, hy⟩ := d2
  generalize hG : (Int.gcd n d : Int) = g at *
  have q1 : n / g = x := by rw [hx]; exact Int.mul_ediv_cancel_left _ (by omega)
  have q2 : d / g = y := by rw [hy]; exact Int.mul_ediv_cancel_left _ (by omega)
  rw [q1, q2]
  have b1 : x.natAbs ≤ n.natAbs := by rw [hx, Int.natAbs_mul]; exact Nat.le_mul_of_pos_left _ (by omega)
  have b2 : y.natAbs ≤ d.natAbs := by rw [hy, Int.natAbs_mul]; exact Nat.le_mul_of_pos_left _ (by omega)
  exact ⟨wrap64_id (by omega) (by omega), wrap64_id (by omega) (by omega)⟩
theorem divInt_negs (n d : Int) (hd : d ≠ 0) : Rat.divInt (-n) (-d) = Rat.divInt n d := by
  rw [Rat.divInt_eq_divInt_iff (by omega) hd]; grind
theorem divInt_bounds {n d : Int} (hd : d ≠ 0) : (Rat.divInt n d).num.natAbs ≤ n.natAbs ∧ (Rat.divInt n d).den ≤ d.natAbs := by
  rw [Rat.num_divInt, Rat.den_divInt, if_neg hd]
  refine ⟨Nat.le_trans (Int.natAbs_ediv_le_natAbs _ _) ?_, Nat.div_le_self _ _⟩
  rw [Int.natAbs_mul]
  have : (Int.sign d).natAbs ≤ 1 := by rw [Int.natAbs_sign]; split <;> omega
  have := Nat.mul_le_mul_right n.natAbs this
  omega
theorem divInt_fits {n d : Int} (hd : d ≠ 0) (h1 : -1152921504606846976 ≤ n) (h2 : n ≤ 1152921504606846976) (h3 : -1152921504606846976 ≤ d) (h4 : d ≤ 1152921504606846976) : fits (Rat.divInt n d) := by
  have h := divInt_bounds (n := n) hd
  unfold fits
  omega
theorem lowest_spec {n d : Int} (hd : d ≠ 0) (h1 : -4611686018427387904 ≤ d) (h2 : d ≤ 4611686018427387904) (h3 : -4611686018427387904 ≤ n) (h4 : n ≤ 4611686018427387904) :
    Ev (fun k => fraction_lowest.f k n d) (chk (Rat.divInt n d)) := by
  unfold fraction_lowest.f
  by_cases hneg : d < 0
  · have w1 : wrap64 (-n) = -n := wrap64_id (by omega) (by omega)
    have w2 : wrap64 (-d) = -d := wrap64_id (by omega) (by omega)
    simp only [w1, w2]
    refine Ev.pos hneg ?_
    rw [mx_abs (by omega) (by omega)]
    refine Ev.bind (common_spec (by omega) (by omega)) ?_
    rw [gcd_abs]
    have hg := gcd_pos' (n := -n) (d := -d) (by omega)
    obtain ⟨l1, l2⟩ := low_pos (n := -n) (d := -d) (by omega) (by omega) (by omega) (by omega)
    refine Ev.const ?_
    rw [if_neg (by omega), l1, l2, checked_spec, divInt_negs _ _ hd]
    rfl
  · refine Ev.neg hneg ?_
    rw [mx_abs (by omega) (by omega)]
    refine Ev.bind (common_spec (by omega) (by omega)) ?_
    rw [gcd_abs]
    have hg := gcd_pos' (n := n) (d := d) (by omega)
    obtain ⟨l1, l2⟩ := low_pos (n := n) (d := d) (by omega) (by omega) (by omega) (by omega)
    refine Ev.const ?_
    rw [if_neg (by omega), l1, l2, checked_spec]
    rfl
/-- Make of numbers up to 2^62. -/
theorem make_small {n d : Int} (hd : d ≠ 0) (h1 : -4611686018427387904 ≤ d) (h2 : d ≤ 4611686018427387904) (h3 : -4611686018427387904 ≤ n) (h4 : n ≤ 4611686018427387904) :
    Ev (fun k => fraction_Make.f k n d) (chk (Rat.divInt n d)) := by
  unfold fraction_Make.f
  refine Ev.neg hd ?_
  rw [within_spec (by decide) (by decide), within_spec (by decide) (by decide)]
  simp only [Option.bind_some]
  refine Ev.pos (by simpa using ⟨h3, h4⟩) ?_
  rw [show decide (-4611686018427387904 ≤ d ∧ d ≤ 4611686018427387904) = true from decide_eq_true ⟨h1, h2⟩]
  refine Ev.step (f := fun k => (fraction_lowest.f k n d).bind fun b => some (b.1, b.2.1, b.2.2)) (fun k => by simp [fraction_Make.j0]) ?_
  exact Ev.bind (lowest_spec hd h1 h2 h3 h4) (Ev.const rfl)
/-- What a valid fraction is. -/
def vld (n d : Int) : Prop := -1152921504606846976 ≤ n ∧ n ≤ 1152921504606846976 ∧ 1 ≤ d ∧ d ≤ 1152921504606846976 ∧ Int.gcd n d = 1
instance (n d : Int) : Decidable (vld n d) := by unfold vld; infer_instance
theorem vld_rat {q : Rat} (h : fits q) : vld q.num q.den := by
  unfold fits at h
  have h1 := q.den_pos
  have h2 := q.reduced
  refine ⟨h.1, h.2.1, by omega, h.2.2, ?_⟩
  simpa [Int.gcd, Nat.Coprime] using h2
theorem valid_spec {n d : Int} (h0 : -9223372036854775808 ≤ n) (h1 : n < 9223372036854775808) : Ev (fun k => fraction_Valid.f k n d) (decide (vld n d)) := by
  unfold fraction_Valid.f
  rw [within_spec (by decide) (by decide)]
  simp only [Option.bind_some]
  by_cases h : -1152921504606846976 ≤ n ∧ n ≤ 1152921504606846976
  · refine Ev.pos (by simpa using h) ?_
    by_cases h2 : d ≥ 1
    · refine Ev.pos h2 ?_
      by_cases h3 : d ≤ 1152921504606846976
      · refine Ev.pos h3 ?_
        rw [mx_abs (by omega) (by omega)]
        refine Ev.bind (common_spec (by omega) (by omega)) (Ev.const ?_)
        rw [gcd_abs]
        congr 1
        rw [Bool.eq_iff_iff]
        simp only [beq_iff_eq, decide_eq_true_eq]
        unfold vld
        omega
      · refine Ev.neg h3 (Ev.const ?_)
        rw [show decide (vld n d) = false from decide_eq_false (by unfold vld; omega)]
    · refine Ev.neg h2 (Ev.const ?_)
      rw [show decide (vld n d) = false from decide_eq_false (by unfold vld; omega)]
  · refine Ev.neg (by simpa using h) (Ev.const ?_)
    rw [show decide (vld n d) = false from decide_eq_false (by unfold vld; omega)]
theorem refvalid_spec {n d : Int} (h0 : -9223372036854775808 ≤ n) (h1 : n < 9223372036854775808) : Ev (fun k => timeboundref31_Valid.f k n d) (decide (vld n d)) := by
  have no : ¬ vld n d → Ev (fun k => timeboundref31_Valid.j0 k true n d) (decide (vld n d)) := fun h => by
    rw [show decide (vld n d) = false from decide_eq_false h]
    exact ⟨1, fun k hk => by obtain ⟨k, rfl⟩ : ∃ m, k = m + 1 := ⟨k - 1, by omega⟩; simp [timeboundref31_Valid.j0]⟩
  unfold timeboundref31_Valid.f
  by_cases h2 : n < -1152921504606846976
  · exact Ev.pos h2 (no (by unfold vld; omega))
  refine Ev.neg h2 ?_
  by_cases h3 : n > 1152921504606846976
  · exact Ev.pos h3 (no (by unfold vld; omega))
  refine Ev.neg h3 ?_
  by_cases h4 : d < 1
  · exact Ev.pos h4 (no (by unfold vld; omega))
  refine Ev.neg h4 ?_
  by_cases h5 : d > 1152921504606846976
  · rw [show decide (d > 1152921504606846976) = true from decide_eq_true h5]; exact no (by unfold vld; omega)
  rw [show decide (d > 1152921504606846976) = false from decide_eq_false h5]
  obtain ⟨s1, s2, s3⟩ := size_spec h0 h1
  have w : IntKind.u64.wrap d = d := u64_id (by omega) (by omega)
  have hin : In 0 d := by unfold In; omega
  have hV : V 0 d = d := by unfold V; omega
  obtain ⟨x, y, g1, g2, g3⟩ := gcd_spec s2 hin (by rw [hV]; omega)
  refine Ev.step (f := fun k => (timeboundref31_gcd.f k 0 (n.natAbs : Int) 0 d).bind fun b => some (b.1 == 0 && (b.2 == 1))) (fun k => by simp [timeboundref31_Valid.j0, s1, w]) ?_
  refine Ev.bind g3 (Ev.const ?_)
  rw [s3, hV, gcd_abs] at g2
  congr 1
  rw [Bool.eq_iff_iff]
  simp only [Bool.and_eq_true, beq_iff_eq, decide_eq_true_eq]
  unfold vld
  unfold In at g1
  unfold V at g2
  omega
theorem floor_spec {n d : Int} (h0 : -4611686018427387904 ≤ n) (h1 : n ≤ 4611686018427387904) (hd : 0 < d) : fraction_Floor.f n d = some (n / d) := by
  unfold fraction_Floor.f
  have e := Int.tmod_add_mul_tdiv n d
  have e2 := Int.mul_ediv_add_emod n d
  have h3 := Int.emod_nonneg n (show d ≠ 0 by omega)
  have h4 := Int.emod_lt_of_pos n hd
  have hs : n.tdiv d = n / d + if 0 ≤ n ∨ d ∣ n then 0 else d.sign := Int.tdiv_eq_ediv
  rw [Int.sign_eq_one_of_pos hd] at hs
  have hr : n.tmod d = n % d - if 0 ≤ n ∨ d ∣ n then 0 else d.natAbs := Int.tmod_eq_emod
  have hb : (n / d).natAbs ≤ n.natAbs := Int.natAbs_ediv_le_natAbs n d
  rw [if_neg (by omega)]
  by_cases hdv : d ∣ n
  · have hz : n % d = 0 := Int.emod_eq_zero_of_dvd hdv
    rw [if_pos (Or.inr hdv)] at hs hr
    rw [if_pos (by omega), hs]
    congr 1
    rw [Int.add_zero]
    exact wrap64_id (by omega) (by omega)
  · have hz : n % d ≠ 0 := fun hh => hdv (Int.dvd_of_emod_eq_zero hh)
    by_cases hn : 0 ≤ n
    · rw [if_pos (Or.inl hn)] at hs hr
      rw [if_neg (by omega), if_neg (by omega), hs, Int.add_zero]
      congr 1
      exact wrap64_id (by omega) (by omega)
    · rw [if_neg (by omega)] at hs hr
      rw [if_neg (by omega), if_pos (by omega), hs]
      congr 1
      rw [wrap64_id (n := n / d + 1) (by omega) (by omega), wrap64_id (by omega) (by omega)]
      omega
theorem ceil_spec {n d : Int} (h0 : -4611686018427387904 ≤ n) (h1 : n ≤ 4611686018427387904) (hd : 0 < d) : fraction_Ceil.f n d = some (-((-n) / d)) := by
  unfold fraction_Ceil.f
  have e := Int.tmod_add_mul_tdiv n d
  have e2 := Int.mul_ediv_add_emod n d
  have e3 := Int.mul_ediv_add_emod (-n) d
  have h3 := Int.emod_nonneg n (show d ≠ 0 by omega)
  have h4 := Int.emod_lt_of_pos n hd
  have h5 := Int.emod_nonneg (-n) (show d ≠ 0 by omega)
  have h6 := Int.emod_lt_of_pos (-n) hd
  have hs : n.tdiv d = n / d + if 0 ≤ n ∨ d ∣ n then 0 else d.sign := Int.tdiv_eq_ediv
  rw [Int.sign_eq_one_of_pos hd] at hs
  have hr : n.tmod d = n % d - if 0 ≤ n ∨ d ∣ n then 0 else d.natAbs := Int.tmod_eq_emod
  have hb : (n / d).natAbs ≤ n.natAbs := Int.natAbs_ediv_le_natAbs n d
  rw [if_neg (by omega)]
  by_cases hdv : d ∣ n
  · have hz : n % d = 0 := Int.emod_eq_zero_of_dvd hdv
    rw [if_pos (Or.inr hdv)] at hs hr
    rw [if_pos (by omega), hs]
    congr 1
    rw [Int.add_zero, Int.neg_ediv_of_dvd hdv, Int.neg_neg]
    exact wrap64_id (by omega) (by omega)
  · have hz : n % d ≠ 0 := fun hh => hdv (Int.dvd_of_emod_eq_zero hh)
    have hneg : -((-n) / d) = n / d + 1 := by
      have h7 : (-n) / d = -(n / d) - 1 := by
        rw [Int.neg_ediv, if_neg hdv, Int.sign_eq_one_of_pos hd]
      omega
    rw [hneg]
    by_cases hn : 0 ≤ n
    · rw [if_pos (Or.inl hn)] at hs hr
      have hn0 : n ≠ 0 := fun h => hdv (by rw [h]; exact Int.dvd_zero _)
      rw [if_neg (by omega), if_pos (by omega), hs]
      congr 1
      rw [Int.add_zero, wrap64_id (n := n / d) (by omega) (by omega)]
      have : (n / d) ≤ n := Int.ediv_le_self _ hn
      exact wrap64_id (by omega) (by omega)
    · rw [if_neg (by omega)] at hs hr
      rw [if_neg (by omega), if_neg (by omega), hs]
      congr 1
      exact wrap64_id (by omega) (by omega)
/-- The sanity check of every statement on fractions. -/
theorem awake_spec : Ev (fun k => timeboundlaw31_awake.f k) true := by
  unfold timeboundlaw31_awake.f
  have e : Rat.divInt 4 (-6) = (⟨-2, 3, by decide, by decide⟩ : Rat) := by decide +kernel
  have c : chk (Rat.divInt 4 (-6)) = (-2, 3, 0) := by rw [e]; decide
  refine Ev.bind (make_small (n := 4) (d := -6) (by decide) (by decide) (by decide) (by decide) (by decide)) ?_
  rw [c]
  have f1 : fraction_Floor.f (-2) 3 = some (-1) := by decide +kernel
  have f2 : fraction_Ceil.f (-2) 3 = some 0 := by decide +kernel
  refine Ev.congr (f := fun k => (fraction_Valid.f k (-2) 3).bind fun t => some t) (fun k => by simp [f1, f2]) ?_
  have f3 : decide (vld (-2) 3) = true := by decide +kernel
  refine Ev.bind (valid_spec (by decide) (by decide)) (Ev.const ?_)
  rw [f3]
end Go.Proofs.Ytjoddcfcolhimaa.FrB
