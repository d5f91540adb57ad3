/-
  The row of FractionDoes, by hand: its first argument is a struct by value.
-/
import Derived.Test.YtjoddcfcolhimaaRows
import Derived.Test.YtjoddcfcolhimaaFrG
import Derived.WalkKit
import Derived.ProofKit
import Derived.OpenShut
import Derived.ChangeOld
import Derived.Below
import Derived.SizedLaws
import Derived.Lib.SmallJoins
import Derived.Test.YtjoddcfcolhimaaHDoes
namespace Go.Proofs.Ytjoddcfcolhimaa.fractionDoes
open Go.ChangeShapes Go.WideShapes Go.ChangeAt Go.RowKit Go.Joins
open Go.Proofs.Ytjoddcfcolhimaa.QFr Go.Proofs.YtjoddcfcolhimaaW.PrintWords Go.Proofs.Ytjoddcfcolhimaa.Num Go.Proofs.Ytjoddcfcolhimaa.FrB Go.Proofs.Ytjoddcfcolhimaa.FrD Go.Proofs.Ytjoddcfcolhimaa.FrF Go.Proofs.Ytjoddcfcolhimaa.FrG
theorem own : ownKnob Try.prog.godebug = none := by kernel_rfl
theorem cells24 : Try.prog.cellsOf 24 = 2 := by kernel_rfl
theorem wf_in {n : Int} (h : (Lit.int .i64 n).wf = true) : -9223372036854775808 ≤ n ∧ n < 9223372036854775808 := by
  simp [Lit.wf, IntKind.min, IntKind.max, IntKind.signed, IntKind.bits] at h; omega
theorem walk (m n a b c d : Int) (hm : (Lit.int .i64 m).wf = true) (ha : (Lit.int .i64 a).wf = true) (hb : (Lit.int .i64 b).wf = true) (hc : (Lit.int .i64 c).wf = true) (hd : (Lit.int .i64 d).wf = true) (w : World) :
    Calls Try.prog 9 #[.agg #[.int .i64 m, .int .i64 n], .int .i64 a, .int .i64 b, .int .i64 c, .int .i64 d] w fun e w' => e = .returned (.bool true) ∧ Below w.heap.size w w' := by
  obtain ⟨m0, m1⟩ := wf_in hm
  obtain ⟨a0, a1⟩ := wf_in ha
  obtain ⟨b0, b1⟩ := wf_in hb
  obtain ⟨c0, c1⟩ := wf_in hc
  obtain ⟨d0, d1⟩ := wf_in hd
  obtain ⟨p, fp, K5, h5⟩ := large_spec a0 a1 b0 b1
  obtain ⟨q, fq, K6, h6⟩ := large_spec c0 c1 d0 d1
  have bp := fp
  have bp0 := p.den_pos
  unfold fits at bp
  obtain ⟨K1, h1⟩ := make_spec a0 a1 b0 b1
  obtain ⟨K2, h2⟩ := rmake_spec a0 a1 b0 b1
  obtain ⟨K3, h3⟩ := valid_spec (d := n) m0 m1
  obtain ⟨K4, h4⟩ := refvalid_spec (d := n) m0 m1
  obtain ⟨K7, h7⟩ := add_spec fp fq
  obtain ⟨K8, h8⟩ := rat_add_spec fp fq
  obtain ⟨K9, h9⟩ := sub_spec fp fq
  obtain ⟨K10, h10⟩ := rat_sub_spec fp fq
  obtain ⟨K11, h11⟩ := mul_spec fp fq
  obtain ⟨K12, h12⟩ := rat_mul_spec fp fq
  obtain ⟨K13, h13⟩ := div_spec fp fq
  obtain ⟨K14, h14⟩ := rat_div_spec fp fq
  obtain ⟨K15, h15⟩ := cmp_spec fp fq
  obtain ⟨K16, h16⟩ := rcmp_spec fp fq
  obtain ⟨K21, h21⟩ := awake_spec
  obtain ⟨K, hK⟩ : ∃ K, K = K1 + K2 + K3 + K4 + K5 + K6 + K7 + K8 + K9 + K10 + K11 + K12 + K13 + K14 + K15 + K16 + K21 := ⟨_, rfl⟩
  exact QFr.FractionDoes_walk K m n a b c d _ _ _ p.num p.den q.num q.den _ _ _ _ _ _ _ _ _ _ _ _ _ _ _ _ w (h1 K (by omega)) (h2 K (by omega)) (h3 K (by omega)) (h4 K (by omega)) (h5 K (by omega)) (h6 K (by omega)) (h7 K (by omega)) (h8 K (by omega)) (h9 K (by omega)) (h10 K (by omega)) (h11 K (by omega)) (h12 K (by omega)) (h13 K (by omega)) (h14 K (by omega)) (h15 K (by omega)) (h16 K (by omega)) (floor_spec (n := p.num) (d := (p.den : Int)) (by omega) (by omega) (by omega)) (rfloor_spec (n := p.num) (d := (p.den : Int)) (by omega) (by omega) (by omega)) (ceil_spec (n := p.num) (d := (p.den : Int)) (by omega) (by omega) (by omega)) (rceil_spec (n := p.num) (d := (p.den : Int)) (by omega) (by omega) (by omega)) (h21 K (by omega))
set_option maxRecDepth 100000 in
theorem lifted (os : Os) (started : os.Started) (H : Type) (enc : TypeId × Value → H) :
    ReturnsInHanded {} Try.checked os 9 .any (Rows.fractionDoesSpec.pre6 enc Try.prog Try.f9 Rows.fractionDoesRow.domain false) (Rows.fractionDoesSpec.post enc Try.prog Try.f9 false true false false) := by
  refine returnsInHanded_of_change_sized (C := Try.checked) own started (by kernel_rfl) Try.func9
    (ChangeSpec.witness6 (enc := enc) (C := Try.checked) false ⟨#[], #[.agg #[.int .i64 0, .int .i64 0], .int .i64 0, .int .i64 0, .int .i64 0, .int .i64 0], []⟩ 8 (by kernel_rfl) (by kernel_rfl) (by kernel_rfl) (by kernel_rfl)) ?_
  intro W base args ds gs before hval0 hW hcnd hsz0 _
  have hval : ∀ (j : Nat) t v, Try.f9.params[j]? = some t → args[j]? = some v → Value.okWide Try.prog W .any base t v := hval0
  have hW' := hW
  obtain ⟨p, q, hA0, hV, rfl, hfz, hnd⟩ := hW
  have hA : DataW.TrodAll enc Try.prog W 0 (fun _ => true) true Try.f9.params.toList args.toList ds p := hA0
  rw [Try.params9] at hA hval
  obtain ⟨v0, vs0, d0, ds0, p0, q0, hargs, rfl, rfl, h0, r0⟩ := trodAll_cons hA
  obtain ⟨v1, vs1, d1, ds1, p1, q1, rfl, rfl, rfl, h1, r1⟩ := trodAll_cons r0
  obtain ⟨v2, vs2, d2, ds2, p2, q2, rfl, rfl, rfl, h2, r2⟩ := trodAll_cons r1
  obtain ⟨v3, vs3, d3, ds3, p3, q3, rfl, rfl, rfl, h3, r3⟩ := trodAll_cons r2
  obtain ⟨v4, vs4, d4, ds4, p4, q4, rfl, rfl, rfl, h4, r4⟩ := trodAll_cons r3
  obtain ⟨rfl, rfl, rfl⟩ := trodAll_nil r4
  obtain rfl : args = #[v0, v1, v2, v3, v4] := by cases args; simp_all
  obtain ⟨rfl, rfl⟩ := trodVars_none hV
  obtain ⟨c0, c1, y0, y1, m, rfl, rfl, rfl, hy0, hy1⟩ := open_agg2 Try.underlying24 (by kernel_rfl) cells24 (hval 0 24 v0 rfl rfl) h0
  obtain ⟨x, e0, rfl, wx⟩ := DataW.trod_int Try.underlying3 hy0
  obtain ⟨y, e1, rfl, wy⟩ := DataW.trod_int Try.underlying3 hy1
  simp at e0 e1
  subst e0 e1
  obtain ⟨a1, rfl, rfl, rfl, w1⟩ := open_int Try.underlying3 (hval 1 3 v1 rfl rfl) h1
  obtain ⟨a2, rfl, rfl, rfl, w2⟩ := open_int Try.underlying3 (hval 2 3 v2 rfl rfl) h2
  obtain ⟨a3, rfl, rfl, rfl, w3⟩ := open_int Try.underlying3 (hval 3 3 v3 rfl rfl) h3
  obtain ⟨a4, rfl, rfl, rfl, w4⟩ := open_int Try.underlying3 (hval 4 3 v4 rfl rfl) h4
  clear hA0 hval0 hsz0
  have sh : ∀ (W' : World) (sp : Nat → Bool), DataW.Trod enc Try.prog W' 0 sp true 24 (.agg #[.int .i64 x, .int .i64 y]) (.agg [.lit (.int .i64 x), .lit (.int .i64 y)]) [] := fun W' sp =>
    shut_agg2 (y0 := (.lit (.int .i64 x), [])) (y1 := (.lit (.int .i64 y), [])) Try.underlying24 (by kernel_rfl) cells24 ⟨1, by simp [DataW.trod, Try.underlying3, wx]⟩ ⟨1, by simp [DataW.trod, Try.underlying3, wy]⟩
  refine (walk x y a1 a2 a3 a4 wx w1 w2 w3 w4 W).mono fun e W' ⟨he, bel⟩ => ?_
  subst he
  exact ⟨_, rfl, _, _, _, [], _, [], hW', trodAll_mk1 (shut_bool Try.underlying4 _), (trodAll_cons_mk (sh _ _) (trodAll_cons_mk (shut_int Try.underlying3 w1) (trodAll_cons_mk (shut_int Try.underlying3 w2) (trodAll_cons_mk (shut_int Try.underlying3 w3) (trodAll_cons_mk (shut_int Try.underlying3 w4) trodAll_mk0))))), rfl, bel.frame _, fun h => by cases h⟩
theorem over : Rows.fractionDoesRow.holds Try.pinned (OpenSpec.ofChange Rows.fractionDoesSpec) :=
  OpenClaim.holds_of_wide 9 Try.f9 rfl rfl rfl rfl rfl rfl rfl ⟨rfl, rfl, rfl, rfl, rfl⟩ rfl rfl rfl rfl rfl (by kernel_rfl) Try.func9 (by kernel_rfl)
    (of_decide_eq_true (by kernel_rfl)) (by unfold Func.isWrapper; first | (rw [if_pos (by decide +kernel)]; kernel_rfl) | (rw [if_neg (by decide +kernel)]; exact ⟨rfl, rfl⟩))
    (fun os started H enc _ => lifted os started H enc)
theorem proved : Rows.FractionDoesSaid := over
#print axioms proved
end Go.Proofs.Ytjoddcfcolhimaa.fractionDoes
namespace Go.Proofs.Ytjoddcfcolhimaa
/-- The row, under a short name, for the claim. -/
theorem fractionDoes_holds : Rows.FractionDoesSaid := fractionDoes.proved
end Go.Proofs.Ytjoddcfcolhimaa
