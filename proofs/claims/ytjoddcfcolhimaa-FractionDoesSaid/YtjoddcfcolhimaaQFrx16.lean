-- Printed by wip/drv/drv.py of this session, over the kit's print tool. Not trusted: Lean checks it.
import Derived.Test.YtjoddcfcolhimaaQFrx0
import Derived.Test.YtjoddcfcolhimaaQFrx1
import Derived.Test.YtjoddcfcolhimaaQFrx2
import Derived.Test.YtjoddcfcolhimaaQFrx3
import Derived.Test.YtjoddcfcolhimaaQFrx6
import Derived.Test.YtjoddcfcolhimaaQFrx7
import Derived.Test.YtjoddcfcolhimaaQFrx8
import Derived.Test.YtjoddcfcolhimaaQFrx13
import Derived.Test.YtjoddcfcolhimaaQFrx14
namespace Go.Proofs.Ytjoddcfcolhimaa.QFr
open Go.RowKit Go.Proofs.YtjoddcfcolhimaaW.PrintWords Go.Proofs.YtjoddcfcolhimaaW.PrintLast Go.Proofs.YtjoddcfcolhimaaW.PrintMore
attribute [local go_sem] max2_int min2_int max_two min_two max_three min_three max_four min_four   -- for this text's walks alone
set_option linter.unusedVariables false
set_option linter.unusedSimpArgs false

attribute [local go_sem high] eqA24 eqA75
/-! ### timeboundref31_reduce: function 69 -/
def timeboundref31_reduce.j0 : Nat → Bool → Bool → Int → Int → Int → Int → Option (Int × Int × Int)
  | 0, _, _, _, _, _, _ => none
  | k + 1, x0, x50, x513000, x513001, x519000, x519001 => if x50 = true then (some (0, 0, 4)) else (if x0 = true then (some (wrap64 (-(wrap64 (x513001))), wrap64 (x519001), 0)) else (some (wrap64 (x513001), wrap64 (x519001), 0)))
def timeboundref31_reduce.f (k : Nat) (a0 : Bool) (a1_0 : Int) (a1_1 : Int) (a2_0 : Int) (a2_1 : Int) : Option (Int × Int × Int) := if (a1_0 == 0 && (a1_1 == 0)) = true then (some (0, 1, 0)) else ((timeboundref31_gcd.f k a1_0 a1_1 a2_0 a2_1).bind fun bt505 => ((timeboundref31_divide.f k a1_0 a1_1 bt505.1 bt505.2).bind fun bt508 => ((timeboundref31_divide.f k a2_0 a2_1 bt505.1 bt505.2).bind fun bt514 => (if bt508.1 > 0 then (timeboundref31_reduce.j0 k a0 true bt508.1 bt508.2.1 bt514.1 bt514.2.1) else (if bt514.1 > 0 then (timeboundref31_reduce.j0 k a0 true bt508.1 bt508.2.1 bt514.1 bt514.2.1) else (if bt508.2.1 > 1152921504606846976 then (timeboundref31_reduce.j0 k a0 true bt508.1 bt508.2.1 bt514.1 bt514.2.1) else (timeboundref31_reduce.j0 k a0 (decide (bt514.2.1 > 1152921504606846976)) bt508.1 bt508.2.1 bt514.1 bt514.2.1)))))))
theorem timeboundref31_reduce.mono_l : ∀ k, (∀ y0 y1 y2 y3 y4 y5, LeO (timeboundref31_reduce.j0 k y0 y1 y2 y3 y4 y5) (timeboundref31_reduce.j0 (k + 1) y0 y1 y2 y3 y4 y5))
  | 0 => fun _ _ _ _ _ _ r h => by simp [timeboundref31_reduce.j0] at h
  | k + 1 => by
    have ih0 := timeboundref31_reduce.mono_l k
    · intro y0 y1 y2 y3 y4 y5
      unfold timeboundref31_reduce.j0
      repeat' first
      | (with_reducible exact ih0 _ _ _ _ _ _)
      | (with_reducible exact timeboundref31_divide.mono _ _ _ _ _)
      | (with_reducible exact timeboundref31_gcd.mono _ _ _ _ _)
      | (with_reducible exact LeO.refl _)
      | (with_reducible exact LeO.none _)
      | (with_reducible refine LeO.ite ?_ ?_)
      | (with_reducible refine LeO.bind ?_ (fun _ => ?_))
      | exact ih0 _ _ _ _ _ _
      | exact timeboundref31_divide.mono _ _ _ _ _
      | exact timeboundref31_gcd.mono _ _ _ _ _
      | exact LeO.none _
      | refine LeO.ite ?_ ?_
      | refine LeO.bind ?_ (fun _ => ?_)
theorem timeboundref31_reduce.mono : ∀ a0 a1 a2 a3 a4 k, LeO (timeboundref31_reduce.f k a0 a1 a2 a3 a4) (timeboundref31_reduce.f (k + 1) a0 a1 a2 a3 a4) := by
  intro a0 a1 a2 a3 a4 k
  have ih0 := timeboundref31_reduce.mono_l k
  unfold timeboundref31_reduce.f
  repeat' first
      | (with_reducible exact ih0 _ _ _ _ _ _)
      | (with_reducible exact timeboundref31_divide.mono _ _ _ _ _)
      | (with_reducible exact timeboundref31_gcd.mono _ _ _ _ _)
      | (with_reducible exact LeO.refl _)
      | (with_reducible exact LeO.none _)
      | (with_reducible refine LeO.ite ?_ ?_)
      | (with_reducible refine LeO.bind ?_ (fun _ => ?_))
      | exact ih0 _ _ _ _ _ _
      | exact timeboundref31_divide.mono _ _ _ _ _
      | exact timeboundref31_gcd.mono _ _ _ _ _
      | exact LeO.none _
      | refine LeO.ite ?_ ?_
      | refine LeO.bind ?_ (fun _ => ?_)
set_option maxHeartbeats 8000000 in
set_option maxRecDepth 100000 in
theorem timeboundref31_reduce.calls (k : Nat) (a0 : Bool) (a1_0 : Int) (a1_1 : Int) (a2_0 : Int) (a2_1 : Int) (r1 : Int) (r2 : Int) (r3 : Int) (w : World) (h : timeboundref31_reduce.f k a0 a1_0 a1_1 a2_0 a2_1 = some (r1, r2, r3)) :
    Calls Try.prog 69 #[.bool a0, .agg #[.int .u64 a1_0, .int .u64 a1_1], .agg #[.int .u64 a2_0, .int .u64 a2_1]] w fun e w' => e = .returned (.tuple #[.agg #[.int .i64 r1, .int .i64 r2], .int .i64 r3]) ∧ Below w.heap.size w w' := by
  have hu75 := Try.underlying75
  have hu24 := Try.underlying24
  have HB := Aside0.mk (Below.refl w.heap.size w)
  have H : (if (a1_0 == 0 && (a1_1 == 0)) = true then (some (0, 1, 0)) else ((timeboundref31_gcd.f k a1_0 a1_1 a2_0 a2_1).bind fun bt505 => ((timeboundref31_divide.f k a1_0 a1_1 bt505.1 bt505.2).bind fun bt508 => ((timeboundref31_divide.f k a2_0 a2_1 bt505.1 bt505.2).bind fun bt514 => (if bt508.1 > 0 then (timeboundref31_reduce.j0 k a0 true bt508.1 bt508.2.1 bt514.1 bt514.2.1) else (if bt514.1 > 0 then (timeboundref31_reduce.j0 k a0 true bt508.1 bt508.2.1 bt514.1 bt514.2.1) else (if bt508.2.1 > 1152921504606846976 then (timeboundref31_reduce.j0 k a0 true bt508.1 bt508.2.1 bt514.1 bt514.2.1) else (timeboundref31_reduce.j0 k a0 (decide (bt514.2.1 > 1152921504606846976)) bt508.1 bt508.2.1 bt514.1 bt514.2.1)))))))) = some (r1, r2, r3) := h
  clear h
  by_cases c4 : (a1_0 == 0 && (a1_1 == 0)) = true
  · rw [if_pos c4] at H
    have c4b0 : (a1_0 == 0 && (a1_1 == 0)) = true := c4
    (try (have c4b1 : decide (a1_0 = 0 && (a1_1 == 0)) = true := by simpa using c4))
    (try (have c4b2 : (a1_0 == 0 && (a1_1 == 0)) = true := by simpa using c4))
    clear c4
    simp only [Option.some.injEq, Prod.mk.injEq] at H
    obtain ⟨rfl, rfl, rfl⟩ := H
    go_enter Try.func69, Try.ntmps69
    go_wp2_with (first | ((with_reducible refine gate_dst (N := 4) rfl ?_); refine box_event ?hg (N := 4) ?hd (cs := #[.int .u64 a1_0, .int .u64 a1_1]) (t := 75) ?hr ?_; (case hd => rfl); (case hg => rfl); (case hr => first | (go_simp; done) | (go_simp; rfl)); intro gb502 hg w5 hbox hb; have BK502 := Aside0.mk (hbox); have GW502 := gww hg HB; have GE502 := gww hg HB; replace HB := blw HB hb; clear hb hbox hg) | ((with_reducible refine gate_dst (N := 5) rfl ?_); refine box_event ?hg (N := 5) ?hd (cs := #[.int .u64 a2_0, .int .u64 a2_1]) (t := 75) ?hr ?_; (case hd => rfl); (case hg => rfl); (case hr => first | (go_simp; done) | (go_simp; rfl)); intro gb503 hg w6 hbox hb; have BK503 := Aside0.mk (hbox); have GW503 := gww hg HB; have GE503 := gww hg HB; have NB502_503 := nbl hg BK502; have NB503_502 := nbr hg BK502; replace BK502 := bkb BK502 hb; replace HB := blw HB hb; clear hb hbox hg) | ((with_reducible refine gate_dst (N := 6) rfl ?_); refine box_event ?hg (N := 6) ?hd (cs := #[.int .i64 0, .int .i64 0]) (t := 24) ?hr ?_; (case hd => rfl); (case hg => rfl); (case hr => first | (go_simp; done) | (go_simp; rfl)); intro gb504 hg w7 hbox hb; have BK504 := Aside0.mk (hbox); have GW504 := gww hg HB; have GE504 := gww hg HB; have NB502_504 := nbl hg BK502; have NB504_502 := nbr hg BK502; have NB503_504 := nbl hg BK503; have NB504_503 := nbr hg BK503; replace BK502 := bkb BK502 hb; replace BK503 := bkb BK503 hb; replace HB := blw HB hb; clear hb hbox hg; have hcz8_0 : w7.cell? ⟨gb502, 0, none⟩ = some (.int .u64 a1_0) := (blk_cell BK502.out 0).trans rfl; have hcz8_1 : w7.cell? ⟨gb502, 1, none⟩ = some (.int .u64 a1_1) := (blk_cell BK502.out 1).trans rfl; have hfz8_0 := blk_frozen BK502.out 0; have hfz8_1 := blk_frozen BK502.out 1; have hnb9 := NB504_502.out; have hnc9 := NB502_504.out; have hnb10 := NB504_503.out; have hnc10 := NB503_504.out; have hcz11_0 : w7.cell? ⟨gb504, 0, none⟩ = some (.int .i64 0) := (blk_cell BK504.out 0).trans rfl; have hcz11_1 : w7.cell? ⟨gb504, 1, none⟩ = some (.int .i64 0) := (blk_cell BK504.out 1).trans rfl; have hfz11_0 := blk_frozen BK504.out 0; have hfz11_1 := blk_frozen BK504.out 1))
    refine bodyPost_ret (results_ct rfl _ _ gb504 24 #[.int .i64 0, .int .i64 1] (0, 0) _ rfl (by (with_reducible repeat (first | refine blk_drewN ?_ _ | refine blk_drew ?_ | refine blk_alloc ?_ _)); refine blk_put (cs := #[.int .i64 0, .int .i64 0]) ?_ 1 _ rfl; (with_reducible repeat (first | refine blk_drewN ?_ _ | refine blk_drew ?_ | refine blk_alloc ?_ _)); refine blk_put (cs := #[.int .i64 0, .int .i64 0]) ?_ 0 _ rfl; (with_reducible repeat (first | refine blk_drewN ?_ _ | refine blk_drew ?_ | refine blk_alloc ?_ _)); exact BK504.out) Try.underlying24 rfl (by kernel_rfl)) rfl ?_
    exact ⟨by first | rfl | (simp [errW_none, errW_some] <;> rfl) | (simp [*, errW_none, errW_some] <;> rfl), by repeat (first | (with_reducible first | exact HB.out | apply below_alloc | apply pw_below_drewN | apply below_drew1 | refine below_set ?_ GE502.out | refine below_set ?_ GE503.out | refine below_set ?_ GE504.out) | exact HB.out)⟩
  · rw [if_neg c4] at H
    have c4b0 : (a1_0 == 0 && (a1_1 == 0)) = false := by simpa using c4
    (try (have c4b1 : decide (a1_0 = 0 && (a1_1 == 0)) = false := by simpa using c4))
    (try (have c4b2 : (a1_0 == 0 && (a1_1 == 0)) = false := by simpa using c4))
    (try (have c4b3 : ¬ (a1_0 = 0 && (a1_1 == 0)) := by simpa using c4))
    clear c4
    replace H := Option.bind_eq_some_iff.mp H
    obtain ⟨⟨t505, t506⟩, A120, H⟩ := H
    replace H : ((timeboundref31_divide.f k a1_0 a1_1 t505 t506).bind fun bt508 => ((timeboundref31_divide.f k a2_0 a2_1 t505 t506).bind fun bt514 => (if bt508.1 > 0 then (timeboundref31_reduce.j0 k a0 true bt508.1 bt508.2.1 bt514.1 bt514.2.1) else (if bt514.1 > 0 then (timeboundref31_reduce.j0 k a0 true bt508.1 bt508.2.1 bt514.1 bt514.2.1) else (if bt508.2.1 > 1152921504606846976 then (timeboundref31_reduce.j0 k a0 true bt508.1 bt508.2.1 bt514.1 bt514.2.1) else (timeboundref31_reduce.j0 k a0 (decide (bt514.2.1 > 1152921504606846976)) bt508.1 bt508.2.1 bt514.1 bt514.2.1)))))) = some (r1, r2, r3) := H
    have A12 := Aside0.mk A120
    clear A120
    replace H := Option.bind_eq_some_iff.mp H
    obtain ⟨⟨t508, t509, t510, t511⟩, A130, H⟩ := H
    replace H : ((timeboundref31_divide.f k a2_0 a2_1 t505 t506).bind fun bt514 => (if t508 > 0 then (timeboundref31_reduce.j0 k a0 true t508 t509 bt514.1 bt514.2.1) else (if bt514.1 > 0 then (timeboundref31_reduce.j0 k a0 true t508 t509 bt514.1 bt514.2.1) else (if t509 > 1152921504606846976 then (timeboundref31_reduce.j0 k a0 true t508 t509 bt514.1 bt514.2.1) else (timeboundref31_reduce.j0 k a0 (decide (bt514.2.1 > 1152921504606846976)) t508 t509 bt514.1 bt514.2.1))))) = some (r1, r2, r3) := H
    have A13 := Aside0.mk A130
    clear A130
    replace H := Option.bind_eq_some_iff.mp H
    obtain ⟨⟨t514, t515, t516, t517⟩, A140, H⟩ := H
    replace H : (if t508 > 0 then (timeboundref31_reduce.j0 k a0 true t508 t509 t514 t515) else (if t514 > 0 then (timeboundref31_reduce.j0 k a0 true t508 t509 t514 t515) else (if t509 > 1152921504606846976 then (timeboundref31_reduce.j0 k a0 true t508 t509 t514 t515) else (timeboundref31_reduce.j0 k a0 (decide (t515 > 1152921504606846976)) t508 t509 t514 t515)))) = some (r1, r2, r3) := H
    have A14 := Aside0.mk A140
    clear A140
    have HC15 := Aside0.mk H
    clear H
    go_enter Try.func69, Try.ntmps69
    go_upto_region 6 with (first | ((with_reducible refine gate_dst (N := 4) rfl ?_); refine box_event ?hg (N := 4) ?hd (cs := #[.int .u64 a1_0, .int .u64 a1_1]) (t := 75) ?hr ?_; (case hd => rfl); (case hg => rfl); (case hr => first | (go_simp; done) | (go_simp; rfl)); intro gb502 hg w16 hbox hb; have BK502 := Aside0.mk (hbox); have GW502 := gww hg HB; have GE502 := gww hg HB; replace HB := blw HB hb; clear hb hbox hg) | ((with_reducible refine gate_dst (N := 5) rfl ?_); refine box_event ?hg (N := 5) ?hd (cs := #[.int .u64 a2_0, .int .u64 a2_1]) (t := 75) ?hr ?_; (case hd => rfl); (case hg => rfl); (case hr => first | (go_simp; done) | (go_simp; rfl)); intro gb503 hg w17 hbox hb; have BK503 := Aside0.mk (hbox); have GW503 := gww hg HB; have GE503 := gww hg HB; have NB502_503 := nbl hg BK502; have NB503_502 := nbr hg BK502; replace BK502 := bkb BK502 hb; replace HB := blw HB hb; clear hb hbox hg) | ((with_reducible refine gate_dst (N := 6) rfl ?_); refine box_event ?hg (N := 6) ?hd (cs := #[.int .i64 0, .int .i64 0]) (t := 24) ?hr ?_; (case hd => rfl); (case hg => rfl); (case hr => first | (go_simp; done) | (go_simp; rfl)); intro gb504 hg w18 hbox hb; have BK504 := Aside0.mk (hbox); have GW504 := gww hg HB; have GE504 := gww hg HB; have NB502_504 := nbl hg BK502; have NB504_502 := nbr hg BK502; have NB503_504 := nbl hg BK503; have NB504_503 := nbr hg BK503; replace BK502 := bkb BK502 hb; replace BK503 := bkb BK503 hb; replace HB := blw HB hb; clear hb hbox hg; have hcz19_0 : w18.cell? ⟨gb502, 0, none⟩ = some (.int .u64 a1_0) := (blk_cell BK502.out 0).trans rfl; have hcz19_1 : w18.cell? ⟨gb502, 1, none⟩ = some (.int .u64 a1_1) := (blk_cell BK502.out 1).trans rfl; have hfz19_0 := blk_frozen BK502.out 0; have hfz19_1 := blk_frozen BK502.out 1; have hcz20_0 : w18.cell? ⟨gb503, 0, none⟩ = some (.int .u64 a2_0) := (blk_cell BK503.out 0).trans rfl; have hcz20_1 : w18.cell? ⟨gb503, 1, none⟩ = some (.int .u64 a2_1) := (blk_cell BK503.out 1).trans rfl; have hfz20_0 := blk_frozen BK503.out 0; have hfz20_1 := blk_frozen BK503.out 1) | ((with_reducible refine gate_callee (f := 56) rfl ?_); refine goesL_ (some 20) rfl rfl Try.func56 (by kernel_rfl) rfl #[.agg #[.int .u64 a1_0, .int .u64 a1_1], .agg #[.int .u64 a2_0, .int .u64 a2_1]] rfl (by (try simp only [List.map_toArray, List.map_cons, List.map_nil]); first | done | rfl | (simp only [List.length_drop, List.length_take]; rfl)) ?_; (with_reducible refine (timeboundref31_gcd.calls k a1_0 a1_1 a2_0 a2_1 t505 t506 _ A12.out).mono ?_); rintro e w21 ⟨rfl, hb⟩; refine ⟨_, rfl, ?_⟩; replace BK502 := bkb BK502 hb; replace BK503 := bkb BK503 hb; replace BK504 := bkb BK504 hb; replace HB := blw HB hb; (try clear hb); (try clear hb2); (try clear hk); (try clear hi)) | ((with_reducible refine gate_dst (N := 8) rfl ?_); refine box_event ?hg (N := 8) ?hd (cs := #[.int .u64 0, .int .u64 0]) (t := 75) ?hr ?_; (case hd => rfl); (case hg => rfl); (case hr => first | (go_simp; done) | (go_simp; rfl)); intro gb507 hg w22 hbox hb; have BK507 := Aside0.mk (hbox); have GW507 := gww hg HB; have GE507 := gww hg HB; have NB502_507 := nbl hg BK502; have NB507_502 := nbr hg BK502; have NB503_507 := nbl hg BK503; have NB507_503 := nbr hg BK503; have NB504_507 := nbl hg BK504; have NB507_504 := nbr hg BK504; replace BK502 := bkb BK502 hb; replace BK503 := bkb BK503 hb; replace BK504 := bkb BK504 hb; replace HB := blw HB hb; clear hb hbox hg; have hnb23 := NB507_502.out; have hnc23 := NB502_507.out; have hnb24 := NB507_503.out; have hnc24 := NB503_507.out; have hnb25 := NB507_504.out; have hnc25 := NB504_507.out; have hcz26_0 : w22.cell? ⟨gb507, 0, none⟩ = some (.int .u64 0) := (blk_cell BK507.out 0).trans rfl; have hcz26_1 : w22.cell? ⟨gb507, 1, none⟩ = some (.int .u64 0) := (blk_cell BK507.out 1).trans rfl; have hfz26_0 := blk_frozen BK507.out 0; have hfz26_1 := blk_frozen BK507.out 1; have hcz27_0 : w22.cell? ⟨gb502, 0, none⟩ = some (.int .u64 a1_0) := (blk_cell BK502.out 0).trans rfl; have hcz27_1 : w22.cell? ⟨gb502, 1, none⟩ = some (.int .u64 a1_1) := (blk_cell BK502.out 1).trans rfl; have hfz27_0 := blk_frozen BK502.out 0; have hfz27_1 := blk_frozen BK502.out 1) | ((with_reducible refine gate_callee (f := 100) rfl ?_); refine goesL_ (some 24) rfl rfl Try.func100 (by kernel_rfl) rfl #[.agg #[.int .u64 a1_0, .int .u64 a1_1], .agg #[.int .u64 t505, .int .u64 t506]] rfl (by (try simp only [List.map_toArray, List.map_cons, List.map_nil]); first | done | rfl | (simp only [List.length_drop, List.length_take]; rfl)) ?_; (with_reducible refine (timeboundref31_divide.calls k a1_0 a1_1 t505 t506 t508 t509 t510 t511 _ A13.out).mono ?_); rintro e w28 ⟨rfl, hb⟩; refine ⟨_, rfl, ?_⟩; replace BK502 := Aside0.mk (blk_below (g := gb502) (o := .cells #[.int .u64 a1_0, .int .u64 a1_1] 75 (0, 0)) (by (with_reducible repeat (first | refine blk_drewN ?_ _ | refine blk_drew ?_ | refine blk_alloc ?_ _)); refine blk_far ?_ NB502_507.out _; (with_reducible repeat (first | refine blk_drewN ?_ _ | refine blk_drew ?_ | refine blk_alloc ?_ _)); refine blk_far ?_ NB502_507.out _; (with_reducible repeat (first | refine blk_drewN ?_ _ | refine blk_drew ?_ | refine blk_alloc ?_ _)); exact BK502.out) hb); replace BK503 := Aside0.mk (blk_below (g := gb503) (o := .cells #[.int .u64 a2_0, .int .u64 a2_1] 75 (0, 0)) (by (with_reducible repeat (first | refine blk_drewN ?_ _ | refine blk_drew ?_ | refine blk_alloc ?_ _)); refine blk_far ?_ NB503_507.out _; (with_reducible repeat (first | refine blk_drewN ?_ _ | refine blk_drew ?_ | refine blk_alloc ?_ _)); refine blk_far ?_ NB503_507.out _; (with_reducible repeat (first | refine blk_drewN ?_ _ | refine blk_drew ?_ | refine blk_alloc ?_ _)); exact BK503.out) hb); replace BK504 := Aside0.mk (blk_below (g := gb504) (o := .cells #[.int .i64 0, .int .i64 0] 24 (0, 0)) (by (with_reducible repeat (first | refine blk_drewN ?_ _ | refine blk_drew ?_ | refine blk_alloc ?_ _)); refine blk_far ?_ NB504_507.out _; (with_reducible repeat (first | refine blk_drewN ?_ _ | refine blk_drew ?_ | refine blk_alloc ?_ _)); refine blk_far ?_ NB504_507.out _; (with_reducible repeat (first | refine blk_drewN ?_ _ | refine blk_drew ?_ | refine blk_alloc ?_ _)); exact BK504.out) hb); replace BK507 := Aside0.mk (blk_below (g := gb507) (o := .cells #[.int .u64 t505, .int .u64 t506] 75 (0, 0)) (by (with_reducible repeat (first | refine blk_drewN ?_ _ | refine blk_drew ?_ | refine blk_alloc ?_ _)); refine blk_put (cs := #[.int .u64 t505, .int .u64 0]) ?_ 1 _ rfl; (with_reducible repeat (first | refine blk_drewN ?_ _ | refine blk_drew ?_ | refine blk_alloc ?_ _)); refine blk_put (cs := #[.int .u64 0, .int .u64 0]) ?_ 0 _ rfl; (with_reducible repeat (first | refine blk_drewN ?_ _ | refine blk_drew ?_ | refine blk_alloc ?_ _)); exact BK507.out) hb); replace HB := Aside0.mk (below_step (by repeat (first | (with_reducible first | exact HB.out | apply below_alloc | apply pw_below_drewN | apply below_drew1 | refine below_set ?_ GE502.out | refine below_set ?_ GE503.out | refine below_set ?_ GE504.out | refine below_set ?_ GE507.out) | exact HB.out)) hb); (try clear hb); (try clear hb2); (try clear hk); (try clear hi)) | ((with_reducible refine gate_dst (N := 9) rfl ?_); refine box_event ?hg (N := 9) ?hd (cs := #[.int .u64 0, .int .u64 0]) (t := 75) ?hr ?_; (case hd => rfl); (case hg => rfl); (case hr => first | (go_simp; done) | (go_simp; rfl)); intro gb512 hg w29 hbox hb; have BK512 := Aside0.mk (hbox); have GW512 := gww hg HB; have GE512 := gww hg HB; have NB502_512 := nbl hg BK502; have NB512_502 := nbr hg BK502; have NB503_512 := nbl hg BK503; have NB512_503 := nbr hg BK503; have NB504_512 := nbl hg BK504; have NB512_504 := nbr hg BK504; have NB507_512 := nbl hg BK507; have NB512_507 := nbr hg BK507; replace BK502 := bkb BK502 hb; replace BK503 := bkb BK503 hb; replace BK504 := bkb BK504 hb; replace BK507 := bkb BK507 hb; replace HB := blw HB hb; clear hb hbox hg) | ((with_reducible refine gate_dst (N := 10) rfl ?_); refine box_event ?hg (N := 10) ?hd (cs := #[.int .u64 0, .int .u64 0]) (t := 75) ?hr ?_; (case hd => rfl); (case hg => rfl); (case hr => first | (go_simp; done) | (go_simp; rfl)); intro gb513 hg w30 hbox hb; have BK513 := Aside0.mk (hbox); have GW513 := gww hg HB; have GE513 := gww hg HB; have NB502_513 := nbl hg BK502; have NB513_502 := nbr hg BK502; have NB503_513 := nbl hg BK503; have NB513_503 := nbr hg BK503; have NB504_513 := nbl hg BK504; have NB513_504 := nbr hg BK504; have NB507_513 := nbl hg BK507; have NB513_507 := nbr hg BK507; have NB512_513 := nbl hg BK512; have NB513_512 := nbr hg BK512; replace BK502 := bkb BK502 hb; replace BK503 := bkb BK503 hb; replace BK504 := bkb BK504 hb; replace BK507 := bkb BK507 hb; replace BK512 := bkb BK512 hb; replace HB := blw HB hb; clear hb hbox hg; have hnb31 := NB512_502.out; have hnc31 := NB502_512.out; have hnb32 := NB512_503.out; have hnc32 := NB503_512.out; have hnb33 := NB512_504.out; have hnc33 := NB504_512.out; have hnb34 := NB512_507.out; have hnc34 := NB507_512.out; have hnb35 := NB512_513.out; have hnc35 := NB513_512.out; have hcz36_0 : w30.cell? ⟨gb512, 0, none⟩ = some (.int .u64 0) := (blk_cell BK512.out 0).trans rfl; have hcz36_1 : w30.cell? ⟨gb512, 1, none⟩ = some (.int .u64 0) := (blk_cell BK512.out 1).trans rfl; have hfz36_0 := blk_frozen BK512.out 0; have hfz36_1 := blk_frozen BK512.out 1; have hnb37 := NB513_502.out; have hnc37 := NB502_513.out; have hnb38 := NB513_503.out; have hnc38 := NB503_513.out; have hnb39 := NB513_504.out; have hnc39 := NB504_513.out; have hnb40 := NB513_507.out; have hnc40 := NB507_513.out; have hcz41_0 : w30.cell? ⟨gb513, 0, none⟩ = some (.int .u64 0) := (blk_cell BK513.out 0).trans rfl; have hcz41_1 : w30.cell? ⟨gb513, 1, none⟩ = some (.int .u64 0) := (blk_cell BK513.out 1).trans rfl; have hfz41_0 := blk_frozen BK513.out 0; have hfz41_1 := blk_frozen BK513.out 1; have hcz42_0 : w30.cell? ⟨gb503, 0, none⟩ = some (.int .u64 a2_0) := (blk_cell BK503.out 0).trans rfl; have hcz42_1 : w30.cell? ⟨gb503, 1, none⟩ = some (.int .u64 a2_1) := (blk_cell BK503.out 1).trans rfl; have hfz42_0 := blk_frozen BK503.out 0; have hfz42_1 := blk_frozen BK503.out 1; have hcz43_0 : w30.cell? ⟨gb507, 0, none⟩ = some (.int .u64 t505) := (blk_cell BK507.out 0).trans rfl; have hcz43_1 : w30.cell? ⟨gb507, 1, none⟩ = some (.int .u64 t506) := (blk_cell BK507.out 1).trans rfl; have hfz43_0 := blk_frozen BK507.out 0; have hfz43_1 := blk_frozen BK507.out 1) | ((with_reducible refine gate_callee (f := 100) rfl ?_); refine goesL_ (some 30) rfl rfl Try.func100 (by kernel_rfl) rfl #[.agg #[.int .u64 a2_0, .int .u64 a2_1], .agg #[.int .u64 t505, .int .u64 t506]] rfl (by (try simp only [List.map_toArray, List.map_cons, List.map_nil]); first | done | rfl | (simp only [List.length_drop, List.length_take]; rfl)) ?_; (with_reducible refine (timeboundref31_divide.calls k a2_0 a2_1 t505 t506 t514 t515 t516 t517 _ A14.out).mono ?_); rintro e w44 ⟨rfl, hb⟩; refine ⟨_, rfl, ?_⟩; replace BK502 := Aside0.mk (blk_below (g := gb502) (o := .cells #[.int .u64 a1_0, .int .u64 a1_1] 75 (0, 0)) (by (with_reducible repeat (first | refine blk_drewN ?_ _ | refine blk_drew ?_ | refine blk_alloc ?_ _)); refine blk_far ?_ NB502_513.out _; (with_reducible repeat (first | refine blk_drewN ?_ _ | refine blk_drew ?_ | refine blk_alloc ?_ _)); refine blk_far ?_ NB502_513.out _; (with_reducible repeat (first | refine blk_drewN ?_ _ | refine blk_drew ?_ | refine blk_alloc ?_ _)); refine blk_far ?_ NB502_512.out _; (with_reducible repeat (first | refine blk_drewN ?_ _ | refine blk_drew ?_ | refine blk_alloc ?_ _)); refine blk_far ?_ NB502_512.out _; (with_reducible repeat (first | refine blk_drewN ?_ _ | refine blk_drew ?_ | refine blk_alloc ?_ _)); exact BK502.out) hb); replace BK503 := Aside0.mk (blk_below (g := gb503) (o := .cells #[.int .u64 a2_0, .int .u64 a2_1] 75 (0, 0)) (by (with_reducible repeat (first | refine blk_drewN ?_ _ | refine blk_drew ?_ | refine blk_alloc ?_ _)); refine blk_far ?_ NB503_513.out _; (with_reducible repeat (first | refine blk_drewN ?_ _ | refine blk_drew ?_ | refine blk_alloc ?_ _)); refine blk_far ?_ NB503_513.out _; (with_reducible repeat (first | refine blk_drewN ?_ _ | refine blk_drew ?_ | refine blk_alloc ?_ _)); refine blk_far ?_ NB503_512.out _; (with_reducible repeat (first | refine blk_drewN ?_ _ | refine blk_drew ?_ | refine blk_alloc ?_ _)); refine blk_far ?_ NB503_512.out _; (with_reducible repeat (first | refine blk_drewN ?_ _ | refine blk_drew ?_ | refine blk_alloc ?_ _)); exact BK503.out) hb); replace BK504 := Aside0.mk (blk_below (g := gb504) (o := .cells #[.int .i64 0, .int .i64 0] 24 (0, 0)) (by (with_reducible repeat (first | refine blk_drewN ?_ _ | refine blk_drew ?_ | refine blk_alloc ?_ _)); refine blk_far ?_ NB504_513.out _; (with_reducible repeat (first | refine blk_drewN ?_ _ | refine blk_drew ?_ | refine blk_alloc ?_ _)); refine blk_far ?_ NB504_513.out _; (with_reducible repeat (first | refine blk_drewN ?_ _ | refine blk_drew ?_ | refine blk_alloc ?_ _)); refine blk_far ?_ NB504_512.out _; (with_reducible repeat (first | refine blk_drewN ?_ _ | refine blk_drew ?_ | refine blk_alloc ?_ _)); refine blk_far ?_ NB504_512.out _; (with_reducible repeat (first | refine blk_drewN ?_ _ | refine blk_drew ?_ | refine blk_alloc ?_ _)); exact BK504.out) hb); replace BK507 := Aside0.mk (blk_below (g := gb507) (o := .cells #[.int .u64 t505, .int .u64 t506] 75 (0, 0)) (by (with_reducible repeat (first | refine blk_drewN ?_ _ | refine blk_drew ?_ | refine blk_alloc ?_ _)); refine blk_far ?_ NB507_513.out _; (with_reducible repeat (first | refine blk_drewN ?_ _ | refine blk_drew ?_ | refine blk_alloc ?_ _)); refine blk_far ?_ NB507_513.out _; (with_reducible repeat (first | refine blk_drewN ?_ _ | refine blk_drew ?_ | refine blk_alloc ?_ _)); refine blk_far ?_ NB507_512.out _; (with_reducible repeat (first | refine blk_drewN ?_ _ | refine blk_drew ?_ | refine blk_alloc ?_ _)); refine blk_far ?_ NB507_512.out _; (with_reducible repeat (first | refine blk_drewN ?_ _ | refine blk_drew ?_ | refine blk_alloc ?_ _)); exact BK507.out) hb); replace BK512 := Aside0.mk (blk_below (g := gb512) (o := .cells #[.int .u64 t508, .int .u64 t509] 75 (0, 0)) (by (with_reducible repeat (first | refine blk_drewN ?_ _ | refine blk_drew ?_ | refine blk_alloc ?_ _)); refine blk_far ?_ NB512_513.out _; (with_reducible repeat (first | refine blk_drewN ?_ _ | refine blk_drew ?_ | refine blk_alloc ?_ _)); refine blk_far ?_ NB512_513.out _; (with_reducible repeat (first | refine blk_drewN ?_ _ | refine blk_drew ?_ | refine blk_alloc ?_ _)); refine blk_put (cs := #[.int .u64 t508, .int .u64 0]) ?_ 1 _ rfl; (with_reducible repeat (first | refine blk_drewN ?_ _ | refine blk_drew ?_ | refine blk_alloc ?_ _)); refine blk_put (cs := #[.int .u64 0, .int .u64 0]) ?_ 0 _ rfl; (with_reducible repeat (first | refine blk_drewN ?_ _ | refine blk_drew ?_ | refine blk_alloc ?_ _)); exact BK512.out) hb); replace BK513 := Aside0.mk (blk_below (g := gb513) (o := .cells #[.int .u64 t510, .int .u64 t511] 75 (0, 0)) (by (with_reducible repeat (first | refine blk_drewN ?_ _ | refine blk_drew ?_ | refine blk_alloc ?_ _)); refine blk_put (cs := #[.int .u64 t510, .int .u64 0]) ?_ 1 _ rfl; (with_reducible repeat (first | refine blk_drewN ?_ _ | refine blk_drew ?_ | refine blk_alloc ?_ _)); refine blk_put (cs := #[.int .u64 0, .int .u64 0]) ?_ 0 _ rfl; (with_reducible repeat (first | refine blk_drewN ?_ _ | refine blk_drew ?_ | refine blk_alloc ?_ _)); refine blk_far ?_ NB513_512.out _; (with_reducible repeat (first | refine blk_drewN ?_ _ | refine blk_drew ?_ | refine blk_alloc ?_ _)); refine blk_far ?_ NB513_512.out _; (with_reducible repeat (first | refine blk_drewN ?_ _ | refine blk_drew ?_ | refine blk_alloc ?_ _)); exact BK513.out) hb); replace HB := Aside0.mk (below_step (by repeat (first | (with_reducible first | exact HB.out | apply below_alloc | apply pw_below_drewN | apply below_drew1 | refine below_set ?_ GE502.out | refine below_set ?_ GE503.out | refine below_set ?_ GE504.out | refine below_set ?_ GE507.out | refine below_set ?_ GE512.out | refine below_set ?_ GE513.out) | exact HB.out)) hb); (try clear hb); (try clear hb2); (try clear hk); (try clear hi)) | ((with_reducible refine gate_dst (N := 11) rfl ?_); refine box_event ?hg (N := 11) ?hd (cs := #[.int .u64 0, .int .u64 0]) (t := 75) ?hr ?_; (case hd => rfl); (case hg => rfl); (case hr => first | (go_simp; done) | (go_simp; rfl)); intro gb518 hg w45 hbox hb; have BK518 := Aside0.mk (hbox); have GW518 := gww hg HB; have GE518 := gww hg HB; have NB502_518 := nbl hg BK502; have NB518_502 := nbr hg BK502; have NB503_518 := nbl hg BK503; have NB518_503 := nbr hg BK503; have NB504_518 := nbl hg BK504; have NB518_504 := nbr hg BK504; have NB507_518 := nbl hg BK507; have NB518_507 := nbr hg BK507; have NB512_518 := nbl hg BK512; have NB518_512 := nbr hg BK512; have NB513_518 := nbl hg BK513; have NB518_513 := nbr hg BK513; replace BK502 := bkb BK502 hb; replace BK503 := bkb BK503 hb; replace BK504 := bkb BK504 hb; replace BK507 := bkb BK507 hb; replace BK512 := bkb BK512 hb; replace BK513 := bkb BK513 hb; replace HB := blw HB hb; clear hb hbox hg) | ((with_reducible refine gate_dst (N := 12) rfl ?_); refine box_event ?hg (N := 12) ?hd (cs := #[.int .u64 0, .int .u64 0]) (t := 75) ?hr ?_; (case hd => rfl); (case hg => rfl); (case hr => first | (go_simp; done) | (go_simp; rfl)); intro gb519 hg w46 hbox hb; have BK519 := Aside0.mk (hbox); have GW519 := gww hg HB; have GE519 := gww hg HB; have NB502_519 := nbl hg BK502; have NB519_502 := nbr hg BK502; have NB503_519 := nbl hg BK503; have NB519_503 := nbr hg BK503; have NB504_519 := nbl hg BK504; have NB519_504 := nbr hg BK504; have NB507_519 := nbl hg BK507; have NB519_507 := nbr hg BK507; have NB512_519 := nbl hg BK512; have NB519_512 := nbr hg BK512; have NB513_519 := nbl hg BK513; have NB519_513 := nbr hg BK513; have NB518_519 := nbl hg BK518; have NB519_518 := nbr hg BK518; replace BK502 := bkb BK502 hb; replace BK503 := bkb BK503 hb; replace BK504 := bkb BK504 hb; replace BK507 := bkb BK507 hb; replace BK512 := bkb BK512 hb; replace BK513 := bkb BK513 hb; replace BK518 := bkb BK518 hb; replace HB := blw HB hb; clear hb hbox hg; have hnb47 := NB518_502.out; have hnc47 := NB502_518.out; have hnb48 := NB518_503.out; have hnc48 := NB503_518.out; have hnb49 := NB518_504.out; have hnc49 := NB504_518.out; have hnb50 := NB518_507.out; have hnc50 := NB507_518.out; have hnb51 := NB518_512.out; have hnc51 := NB512_518.out; have hnb52 := NB518_513.out; have hnc52 := NB513_518.out; have hnb53 := NB518_519.out; have hnc53 := NB519_518.out; have hcz54_0 : w46.cell? ⟨gb518, 0, none⟩ = some (.int .u64 0) := (blk_cell BK518.out 0).trans rfl; have hcz54_1 : w46.cell? ⟨gb518, 1, none⟩ = some (.int .u64 0) := (blk_cell BK518.out 1).trans rfl; have hfz54_0 := blk_frozen BK518.out 0; have hfz54_1 := blk_frozen BK518.out 1; have hnb55 := NB519_502.out; have hnc55 := NB502_519.out; have hnb56 := NB519_503.out; have hnc56 := NB503_519.out; have hnb57 := NB519_504.out; have hnc57 := NB504_519.out; have hnb58 := NB519_507.out; have hnc58 := NB507_519.out; have hnb59 := NB519_512.out; have hnc59 := NB512_519.out; have hnb60 := NB519_513.out; have hnc60 := NB513_519.out; have hcz61_0 : w46.cell? ⟨gb519, 0, none⟩ = some (.int .u64 0) := (blk_cell BK519.out 0).trans rfl; have hcz61_1 : w46.cell? ⟨gb519, 1, none⟩ = some (.int .u64 0) := (blk_cell BK519.out 1).trans rfl; have hfz61_0 := blk_frozen BK519.out 0; have hfz61_1 := blk_frozen BK519.out 1))
    (try simp only [Act.put, List.setIfInBounds_toArray, List.set_cons_zero, List.set_cons_succ])
    go_cut [50] (fun v50 wc => ∃ (kq : Nat) (x50_14 : Bool), v50 = .bool x50_14 ∧ Aside0 (timeboundref31_reduce.j0 kq a0 x50_14 t508 t509 t514 t515 = some (r1, r2, r3)) ∧ Aside0 (kq ≤ k) ∧ Aside0 (wc.heap[gb502]? = some (.cells #[.int .u64 a1_0, .int .u64 a1_1] 75 (0, 0))) ∧ Aside0 (wc.heap[gb503]? = some (.cells #[.int .u64 a2_0, .int .u64 a2_1] 75 (0, 0))) ∧ Aside0 (wc.heap[gb504]? = some (.cells #[.int .i64 0, .int .i64 0] 24 (0, 0))) ∧ Aside0 (wc.heap[gb507]? = some (.cells #[.int .u64 t505, .int .u64 t506] 75 (0, 0))) ∧ Aside0 (wc.heap[gb512]? = some (.cells #[.int .u64 t508, .int .u64 t509] 75 (0, 0))) ∧ Aside0 (wc.heap[gb513]? = some (.cells #[.int .u64 t510, .int .u64 t511] 75 (0, 0))) ∧ Aside0 (wc.heap[gb518]? = some (.cells #[.int .u64 t514, .int .u64 t515] 75 (0, 0))) ∧ Aside0 (wc.heap[gb519]? = some (.cells #[.int .u64 t516, .int .u64 t517] 75 (0, 0))) ∧ Aside0 (Below w.heap.size w wc))
    case first =>
      have H := HC15.out
      clear HC15
      by_cases c62 : t508 > 0
      · rw [if_pos c62] at H
        have c62b0 : decide (0 < t508) = true := decide_eq_true c62
        clear c62
        (first | rw [c62b0] | (simp only [i64_w, i32_w]; rw [c62b0]) | skip)
        have H' := Aside0.mk H
        clear H
        have hnb63 := NB512_518.out
        have hnc63 := NB518_512.out
        have hnb64 := NB512_519.out
        have hnc64 := NB519_512.out
        have hcz65_0 : w46.cell? ⟨gb512, 0, none⟩ = some (.int .u64 t508) := (blk_cell BK512.out 0).trans rfl
        have hcz65_1 : w46.cell? ⟨gb512, 1, none⟩ = some (.int .u64 t509) := (blk_cell BK512.out 1).trans rfl
        have hfz65_0 := blk_frozen BK512.out 0
        have hfz65_1 := blk_frozen BK512.out 1
        go_wp2
        go_meet
        case rel => exact ⟨_, (true), (by first | rfl | (simp; done) | (simp [*]; done)), H', ⟨by first | omega | exact Nat.le_refl _⟩, ⟨by (with_reducible repeat (first | refine blk_drewN ?_ _ | refine blk_drew ?_ | refine blk_alloc ?_ _)); refine blk_far ?_ NB502_519.out _; (with_reducible repeat (first | refine blk_drewN ?_ _ | refine blk_drew ?_ | refine blk_alloc ?_ _)); refine blk_far ?_ NB502_519.out _; (with_reducible repeat (first | refine blk_drewN ?_ _ | refine blk_drew ?_ | refine blk_alloc ?_ _)); refine blk_far ?_ NB502_518.out _; (with_reducible repeat (first | refine blk_drewN ?_ _ | refine blk_drew ?_ | refine blk_alloc ?_ _)); refine blk_far ?_ NB502_518.out _; (with_reducible repeat (first | refine blk_drewN ?_ _ | refine blk_drew ?_ | refine blk_alloc ?_ _)); exact BK502.out⟩, ⟨by (with_reducible repeat (first | refine blk_drewN ?_ _ | refine blk_drew ?_ | refine blk_alloc ?_ _)); refine blk_far ?_ NB503_519.out _; (with_reducible repeat (first | refine blk_drewN ?_ _ | refine blk_drew ?_ | refine blk_alloc ?_ _)); refine blk_far ?_ NB503_519.out _; (with_reducible repeat (first | refine blk_drewN ?_ _ | refine blk_drew ?_ | refine blk_alloc ?_ _)); refine blk_far ?_ NB503_518.out _; (with_reducible repeat (first | refine blk_drewN ?_ _ | refine blk_drew ?_ | refine blk_alloc ?_ _)); refine blk_far ?_ NB503_518.out _; (with_reducible repeat (first | refine blk_drewN ?_ _ | refine blk_drew ?_ | refine blk_alloc ?_ _)); exact BK503.out⟩, ⟨by (with_reducible repeat (first | refine blk_drewN ?_ _ | refine blk_drew ?_ | refine blk_alloc ?_ _)); refine blk_far ?_ NB504_519.out _; (with_reducible repeat (first | refine blk_drewN ?_ _ | refine blk_drew ?_ | refine blk_alloc ?_ _)); refine blk_far ?_ NB504_519.out _; (with_reducible repeat (first | refine blk_drewN ?_ _ | refine blk_drew ?_ | refine blk_alloc ?_ _)); refine blk_far ?_ NB504_518.out _; (with_reducible repeat (first | refine blk_drewN ?_ _ | refine blk_drew ?_ | refine blk_alloc ?_ _)); refine blk_far ?_ NB504_518.out _; (with_reducible repeat (first | refine blk_drewN ?_ _ | refine blk_drew ?_ | refine blk_alloc ?_ _)); exact BK504.out⟩, ⟨by (with_reducible repeat (first | refine blk_drewN ?_ _ | refine blk_drew ?_ | refine blk_alloc ?_ _)); refine blk_far ?_ NB507_519.out _; (with_reducible repeat (first | refine blk_drewN ?_ _ | refine blk_drew ?_ | refine blk_alloc ?_ _)); refine blk_far ?_ NB507_519.out _; (with_reducible repeat (first | refine blk_drewN ?_ _ | refine blk_drew ?_ | refine blk_alloc ?_ _)); refine blk_far ?_ NB507_518.out _; (with_reducible repeat (first | refine blk_drewN ?_ _ | refine blk_drew ?_ | refine blk_alloc ?_ _)); refine blk_far ?_ NB507_518.out _; (with_reducible repeat (first | refine blk_drewN ?_ _ | refine blk_drew ?_ | refine blk_alloc ?_ _)); exact BK507.out⟩, ⟨by (with_reducible repeat (first | refine blk_drewN ?_ _ | refine blk_drew ?_ | refine blk_alloc ?_ _)); refine blk_far ?_ NB512_519.out _; (with_reducible repeat (first | refine blk_drewN ?_ _ | refine blk_drew ?_ | refine blk_alloc ?_ _)); refine blk_far ?_ NB512_519.out _; (with_reducible repeat (first | refine blk_drewN ?_ _ | refine blk_drew ?_ | refine blk_alloc ?_ _)); refine blk_far ?_ NB512_518.out _; (with_reducible repeat (first | refine blk_drewN ?_ _ | refine blk_drew ?_ | refine blk_alloc ?_ _)); refine blk_far ?_ NB512_518.out _; (with_reducible repeat (first | refine blk_drewN ?_ _ | refine blk_drew ?_ | refine blk_alloc ?_ _)); exact BK512.out⟩, ⟨by (with_reducible repeat (first | refine blk_drewN ?_ _ | refine blk_drew ?_ | refine blk_alloc ?_ _)); refine blk_far ?_ NB513_519.out _; (with_reducible repeat (first | refine blk_drewN ?_ _ | refine blk_drew ?_ | refine blk_alloc ?_ _)); refine blk_far ?_ NB513_519.out _; (with_reducible repeat (first | refine blk_drewN ?_ _ | refine blk_drew ?_ | refine blk_alloc ?_ _)); refine blk_far ?_ NB513_518.out _; (with_reducible repeat (first | refine blk_drewN ?_ _ | refine blk_drew ?_ | refine blk_alloc ?_ _)); refine blk_far ?_ NB513_518.out _; (with_reducible repeat (first | refine blk_drewN ?_ _ | refine blk_drew ?_ | refine blk_alloc ?_ _)); exact BK513.out⟩, ⟨by (with_reducible repeat (first | refine blk_drewN ?_ _ | refine blk_drew ?_ | refine blk_alloc ?_ _)); refine blk_far ?_ NB518_519.out _; (with_reducible repeat (first | refine blk_drewN ?_ _ | refine blk_drew ?_ | refine blk_alloc ?_ _)); refine blk_far ?_ NB518_519.out _; (with_reducible repeat (first | refine blk_drewN ?_ _ | refine blk_drew ?_ | refine blk_alloc ?_ _)); refine blk_put (cs := #[.int .u64 t514, .int .u64 0]) ?_ 1 _ rfl; (with_reducible repeat (first | refine blk_drewN ?_ _ | refine blk_drew ?_ | refine blk_alloc ?_ _)); refine blk_put (cs := #[.int .u64 0, .int .u64 0]) ?_ 0 _ rfl; (with_reducible repeat (first | refine blk_drewN ?_ _ | refine blk_drew ?_ | refine blk_alloc ?_ _)); exact BK518.out⟩, ⟨by (with_reducible repeat (first | refine blk_drewN ?_ _ | refine blk_drew ?_ | refine blk_alloc ?_ _)); refine blk_put (cs := #[.int .u64 t516, .int .u64 0]) ?_ 1 _ rfl; (with_reducible repeat (first | refine blk_drewN ?_ _ | refine blk_drew ?_ | refine blk_alloc ?_ _)); refine blk_put (cs := #[.int .u64 0, .int .u64 0]) ?_ 0 _ rfl; (with_reducible repeat (first | refine blk_drewN ?_ _ | refine blk_drew ?_ | refine blk_alloc ?_ _)); refine blk_far ?_ NB519_518.out _; (with_reducible repeat (first | refine blk_drewN ?_ _ | refine blk_drew ?_ | refine blk_alloc ?_ _)); refine blk_far ?_ NB519_518.out _; (with_reducible repeat (first | refine blk_drewN ?_ _ | refine blk_drew ?_ | refine blk_alloc ?_ _)); exact BK519.out⟩, ⟨by repeat (first | (with_reducible first | exact HB.out | apply below_alloc | apply pw_below_drewN | apply below_drew1 | refine below_set ?_ GE502.out | refine below_set ?_ GE503.out | refine below_set ?_ GE504.out | refine below_set ?_ GE507.out | refine below_set ?_ GE512.out | refine below_set ?_ GE513.out | refine below_set ?_ GE518.out | refine below_set ?_ GE519.out) | exact HB.out)⟩⟩
      · rw [if_neg c62] at H
        have c62b0 : decide (0 < t508) = false := decide_eq_false c62
        clear c62
        (first | rw [c62b0] | (simp only [i64_w, i32_w]; rw [c62b0]) | skip)
        by_cases c66 : t514 > 0
        · rw [if_pos c66] at H
          have c66b0 : decide (0 < t514) = true := decide_eq_true c66
          clear c66
          have H' := Aside0.mk H
          clear H
          have hnb67 := NB512_518.out
          have hnc67 := NB518_512.out
          have hnb68 := NB512_519.out
          have hnc68 := NB519_512.out
          have hcz69_0 : w46.cell? ⟨gb512, 0, none⟩ = some (.int .u64 t508) := (blk_cell BK512.out 0).trans rfl
          have hcz69_1 : w46.cell? ⟨gb512, 1, none⟩ = some (.int .u64 t509) := (blk_cell BK512.out 1).trans rfl
          have hfz69_0 := blk_frozen BK512.out 0
          have hfz69_1 := blk_frozen BK512.out 1
          have hnb70 := NB518_502.out
          have hnc70 := NB502_518.out
          have hnb71 := NB518_503.out
          have hnc71 := NB503_518.out
          have hnb72 := NB518_504.out
          have hnc72 := NB504_518.out
          have hnb73 := NB518_507.out
          have hnc73 := NB507_518.out
          have hnb74 := NB518_513.out
          have hnc74 := NB513_518.out
          have hnb75 := NB518_519.out
          have hnc75 := NB519_518.out
          have hcz76_0 : w46.cell? ⟨gb518, 0, none⟩ = some (.int .u64 0) := (blk_cell BK518.out 0).trans rfl
          have hcz76_1 : w46.cell? ⟨gb518, 1, none⟩ = some (.int .u64 0) := (blk_cell BK518.out 1).trans rfl
          have hfz76_0 := blk_frozen BK518.out 0
          have hfz76_1 := blk_frozen BK518.out 1
          go_wp2
          go_meet
          case rel => exact ⟨_, (true), (by first | rfl | (simp; done) | (simp [*]; done)), H', ⟨by first | omega | exact Nat.le_refl _⟩, ⟨by (with_reducible repeat (first | refine blk_drewN ?_ _ | refine blk_drew ?_ | refine blk_alloc ?_ _)); refine blk_far ?_ NB502_519.out _; (with_reducible repeat (first | refine blk_drewN ?_ _ | refine blk_drew ?_ | refine blk_alloc ?_ _)); refine blk_far ?_ NB502_519.out _; (with_reducible repeat (first | refine blk_drewN ?_ _ | refine blk_drew ?_ | refine blk_alloc ?_ _)); refine blk_far ?_ NB502_518.out _; (with_reducible repeat (first | refine blk_drewN ?_ _ | refine blk_drew ?_ | refine blk_alloc ?_ _)); refine blk_far ?_ NB502_518.out _; (with_reducible repeat (first | refine blk_drewN ?_ _ | refine blk_drew ?_ | refine blk_alloc ?_ _)); exact BK502.out⟩, ⟨by (with_reducible repeat (first | refine blk_drewN ?_ _ | refine blk_drew ?_ | refine blk_alloc ?_ _)); refine blk_far ?_ NB503_519.out _; (with_reducible repeat (first | refine blk_drewN ?_ _ | refine blk_drew ?_ | refine blk_alloc ?_ _)); refine blk_far ?_ NB503_519.out _; (with_reducible repeat (first | refine blk_drewN ?_ _ | refine blk_drew ?_ | refine blk_alloc ?_ _)); refine blk_far ?_ NB503_518.out _; (with_reducible repeat (first | refine blk_drewN ?_ _ | refine blk_drew ?_ | refine blk_alloc ?_ _)); refine blk_far ?_ NB503_518.out _; (with_reducible repeat (first | refine blk_drewN ?_ _ | refine blk_drew ?_ | refine blk_alloc ?_ _)); exact BK503.out⟩, ⟨by (with_reducible repeat (first | refine blk_drewN ?_ _ | refine blk_drew ?_ | refine blk_alloc ?_ _)); refine blk_far ?_ NB504_519.out _; (with_reducible repeat (first | refine blk_drewN ?_ _ | refine blk_drew ?_ | refine blk_alloc ?_ _)); refine blk_far ?_ NB504_519.out _; (with_reducible repeat (first | refine blk_drewN ?_ _ | refine blk_drew ?_ | refine blk_alloc ?_ _)); refine blk_far ?_ NB504_518.out _; (with_reducible repeat (first | refine blk_drewN ?_ _ | refine blk_drew ?_ | refine blk_alloc ?_ _)); refine blk_far ?_ NB504_518.out _; (with_reducible repeat (first | refine blk_drewN ?_ _ | refine blk_drew ?_ | refine blk_alloc ?_ _)); exact BK504.out⟩, ⟨by (with_reducible repeat (first | refine blk_drewN ?_ _ | refine blk_drew ?_ | refine blk_alloc ?_ _)); refine blk_far ?_ NB507_519.out _; (with_reducible repeat (first | refine blk_drewN ?_ _ | refine blk_drew ?_ | refine blk_alloc ?_ _)); refine blk_far ?_ NB507_519.out _; (with_reducible repeat (first | refine blk_drewN ?_ _ | refine blk_drew ?_ | refine blk_alloc ?_ _)); refine blk_far ?_ NB507_518.out _; (with_reducible repeat (first | refine blk_drewN ?_ _ | refine blk_drew ?_ | refine blk_alloc ?_ _)); refine blk_far ?_ NB507_518.out _; (with_reducible repeat (first | refine blk_drewN ?_ _ | refine blk_drew ?_ | refine blk_alloc ?_ _)); exact BK507.out⟩, ⟨by (with_reducible repeat (first | refine blk_drewN ?_ _ | refine blk_drew ?_ | refine blk_alloc ?_ _)); refine blk_far ?_ NB512_519.out _; (with_reducible repeat (first | refine blk_drewN ?_ _ | refine blk_drew ?_ | refine blk_alloc ?_ _)); refine blk_far ?_ NB512_519.out _; (with_reducible repeat (first | refine blk_drewN ?_ _ | refine blk_drew ?_ | refine blk_alloc ?_ _)); refine blk_far ?_ NB512_518.out _; (with_reducible repeat (first | refine blk_drewN ?_ _ | refine blk_drew ?_ | refine blk_alloc ?_ _)); refine blk_far ?_ NB512_518.out _; (with_reducible repeat (first | refine blk_drewN ?_ _ | refine blk_drew ?_ | refine blk_alloc ?_ _)); exact BK512.out⟩, ⟨by (with_reducible repeat (first | refine blk_drewN ?_ _ | refine blk_drew ?_ | refine blk_alloc ?_ _)); refine blk_far ?_ NB513_519.out _; (with_reducible repeat (first | refine blk_drewN ?_ _ | refine blk_drew ?_ | refine blk_alloc ?_ _)); refine blk_far ?_ NB513_519.out _; (with_reducible repeat (first | refine blk_drewN ?_ _ | refine blk_drew ?_ | refine blk_alloc ?_ _)); refine blk_far ?_ NB513_518.out _; (with_reducible repeat (first | refine blk_drewN ?_ _ | refine blk_drew ?_ | refine blk_alloc ?_ _)); refine blk_far ?_ NB513_518.out _; (with_reducible repeat (first | refine blk_drewN ?_ _ | refine blk_drew ?_ | refine blk_alloc ?_ _)); exact BK513.out⟩, ⟨by (with_reducible repeat (first | refine blk_drewN ?_ _ | refine blk_drew ?_ | refine blk_alloc ?_ _)); refine blk_far ?_ NB518_519.out _; (with_reducible repeat (first | refine blk_drewN ?_ _ | refine blk_drew ?_ | refine blk_alloc ?_ _)); refine blk_far ?_ NB518_519.out _; (with_reducible repeat (first | refine blk_drewN ?_ _ | refine blk_drew ?_ | refine blk_alloc ?_ _)); refine blk_put (cs := #[.int .u64 t514, .int .u64 0]) ?_ 1 _ rfl; (with_reducible repeat (first | refine blk_drewN ?_ _ | refine blk_drew ?_ | refine blk_alloc ?_ _)); refine blk_put (cs := #[.int .u64 0, .int .u64 0]) ?_ 0 _ rfl; (with_reducible repeat (first | refine blk_drewN ?_ _ | refine blk_drew ?_ | refine blk_alloc ?_ _)); exact BK518.out⟩, ⟨by (with_reducible repeat (first | refine blk_drewN ?_ _ | refine blk_drew ?_ | refine blk_alloc ?_ _)); refine blk_put (cs := #[.int .u64 t516, .int .u64 0]) ?_ 1 _ rfl; (with_reducible repeat (first | refine blk_drewN ?_ _ | refine blk_drew ?_ | refine blk_alloc ?_ _)); refine blk_put (cs := #[.int .u64 0, .int .u64 0]) ?_ 0 _ rfl; (with_reducible repeat (first | refine blk_drewN ?_ _ | refine blk_drew ?_ | refine blk_alloc ?_ _)); refine blk_far ?_ NB519_518.out _; (with_reducible repeat (first | refine blk_drewN ?_ _ | refine blk_drew ?_ | refine blk_alloc ?_ _)); refine blk_far ?_ NB519_518.out _; (with_reducible repeat (first | refine blk_drewN ?_ _ | refine blk_drew ?_ | refine blk_alloc ?_ _)); exact BK519.out⟩, ⟨by repeat (first | (with_reducible first | exact HB.out | apply below_alloc | apply pw_below_drewN | apply below_drew1 | refine below_set ?_ GE502.out | refine below_set ?_ GE503.out | refine below_set ?_ GE504.out | refine below_set ?_ GE507.out | refine below_set ?_ GE512.out | refine below_set ?_ GE513.out | refine below_set ?_ GE518.out | refine below_set ?_ GE519.out) | exact HB.out)⟩⟩
        · rw [if_neg c66] at H
          have c66b0 : decide (0 < t514) = false := decide_eq_false c66
          clear c66
          by_cases c77 : t509 > 1152921504606846976
          · rw [if_pos c77] at H
            have c77b0 : decide (1152921504606846976 < t509) = true := decide_eq_true c77
            clear c77
            have H' := Aside0.mk H
            clear H
            have hnb78 := NB512_518.out
            have hnc78 := NB518_512.out
            have hnb79 := NB512_519.out
            have hnc79 := NB519_512.out
            have hcz80_0 : w46.cell? ⟨gb512, 0, none⟩ = some (.int .u64 t508) := (blk_cell BK512.out 0).trans rfl
            have hcz80_1 : w46.cell? ⟨gb512, 1, none⟩ = some (.int .u64 t509) := (blk_cell BK512.out 1).trans rfl
            have hfz80_0 := blk_frozen BK512.out 0
            have hfz80_1 := blk_frozen BK512.out 1
            have hnb81 := NB518_502.out
            have hnc81 := NB502_518.out
            have hnb82 := NB518_503.out
            have hnc82 := NB503_518.out
            have hnb83 := NB518_504.out
            have hnc83 := NB504_518.out
            have hnb84 := NB518_507.out
            have hnc84 := NB507_518.out
            have hnb85 := NB518_513.out
            have hnc85 := NB513_518.out
            have hnb86 := NB518_519.out
            have hnc86 := NB519_518.out
            have hcz87_0 : w46.cell? ⟨gb518, 0, none⟩ = some (.int .u64 0) := (blk_cell BK518.out 0).trans rfl
            have hcz87_1 : w46.cell? ⟨gb518, 1, none⟩ = some (.int .u64 0) := (blk_cell BK518.out 1).trans rfl
            have hfz87_0 := blk_frozen BK518.out 0
            have hfz87_1 := blk_frozen BK518.out 1
            go_wp2
            go_meet
            case rel => exact ⟨_, (true), (by first | rfl | (simp; done) | (simp [*]; done)), H', ⟨by first | omega | exact Nat.le_refl _⟩, ⟨by (with_reducible repeat (first | refine blk_drewN ?_ _ | refine blk_drew ?_ | refine blk_alloc ?_ _)); refine blk_far ?_ NB502_519.out _; (with_reducible repeat (first | refine blk_drewN ?_ _ | refine blk_drew ?_ | refine blk_alloc ?_ _)); refine blk_far ?_ NB502_519.out _; (with_reducible repeat (first | refine blk_drewN ?_ _ | refine blk_drew ?_ | refine blk_alloc ?_ _)); refine blk_far ?_ NB502_518.out _; (with_reducible repeat (first | refine blk_drewN ?_ _ | refine blk_drew ?_ | refine blk_alloc ?_ _)); refine blk_far ?_ NB502_518.out _; (with_reducible repeat (first | refine blk_drewN ?_ _ | refine blk_drew ?_ | refine blk_alloc ?_ _)); exact BK502.out⟩, ⟨by (with_reducible repeat (first | refine blk_drewN ?_ _ | refine blk_drew ?_ | refine blk_alloc ?_ _)); refine blk_far ?_ NB503_519.out _; (with_reducible repeat (first | refine blk_drewN ?_ _ | refine blk_drew ?_ | refine blk_alloc ?_ _)); refine blk_far ?_ NB503_519.out _; (with_reducible repeat (first | refine blk_drewN ?_ _ | refine blk_drew ?_ | refine blk_alloc ?_ _)); refine blk_far ?_ NB503_518.out _; (with_reducible repeat (first | refine blk_drewN ?_ _ | refine blk_drew ?_ | refine blk_alloc ?_ _)); refine blk_far ?_ NB503_518.out _; (with_reducible repeat (first | refine blk_drewN ?_ _ | refine blk_drew ?_ | refine blk_alloc ?_ _)); exact BK503.out⟩, ⟨by (with_reducible repeat (first | refine blk_drewN ?_ _ | refine blk_drew ?_ | refine blk_alloc ?_ _)); refine blk_far ?_ NB504_519.out _; (with_reducible repeat (first | refine blk_drewN ?_ _ | refine blk_drew ?_ | refine blk_alloc ?_ _)); refine blk_far ?_ NB504_519.out _; (with_reducible repeat (first | refine blk_drewN ?_ _ | refine blk_drew ?_ | refine blk_alloc ?_ _)); refine blk_far ?_ NB504_518.out _; (with_reducible repeat (first | refine blk_drewN ?_ _ | refine blk_drew ?_ | refine blk_alloc ?_ _)); refine blk_far ?_ NB504_518.out _; (with_reducible repeat (first | refine blk_drewN ?_ _ | refine blk_drew ?_ | refine blk_alloc ?_ _)); exact BK504.out⟩, ⟨by (with_reducible repeat (first | refine blk_drewN ?_ _ | refine blk_drew ?_ | refine blk_alloc ?_ _)); refine blk_far ?_ NB507_519.out _; (with_reducible repeat (first | refine blk_drewN ?_ _ | refine blk_drew ?_ | refine blk_alloc ?_ _)); refine blk_far ?_ NB507_519.out _; (with_reducible repeat (first | refine blk_drewN ?_ _ | refine blk_drew ?_ | refine blk_alloc ?_ _)); refine blk_far ?_ NB507_518.out _; (with_reducible repeat (first | refine blk_drewN ?_ _ | refine blk_drew ?_ | refine blk_alloc ?_ _)); refine blk_far ?_ NB507_518.out _; (with_reducible repeat (first | refine blk_drewN ?_ _ | refine blk_drew ?_ | refine blk_alloc ?_ _)); exact BK507.out⟩, ⟨by (with_reducible repeat (first | refine blk_drewN ?_ _ | refine blk_drew ?_ | refine blk_alloc ?_ _)); refine blk_far ?_ NB512_519.out _; (with_reducible repeat (first | refine blk_drewN ?_ _ | refine blk_drew ?_ | refine blk_alloc ?_ _)); refine blk_far ?_ NB512_519.out _; (with_reducible repeat (first | refine blk_drewN ?_ _ | refine blk_drew ?_ | refine blk_alloc ?_ _)); refine blk_far ?_ NB512_518.out _; (with_reducible repeat (first | refine blk_drewN ?_ _ | refine blk_drew ?_ | refine blk_alloc ?_ _)); refine blk_far ?_ NB512_518.out _; (with_reducible repeat (first | refine blk_drewN ?_ _ | refine blk_drew ?_ | refine blk_alloc ?_ _)); exact BK512.out⟩, ⟨by (with_reducible repeat (first | refine blk_drewN ?_ _ | refine blk_drew ?_ | refine blk_alloc ?_ _)); refine blk_far ?_ NB513_519.out _; (with_reducible repeat (first | refine blk_drewN ?_ _ | refine blk_drew ?_ | refine blk_alloc ?_ _)); refine blk_far ?_ NB513_519.out _; (with_reducible repeat (first | refine blk_drewN ?_ _ | refine blk_drew ?_ | refine blk_alloc ?_ _)); refine blk_far ?_ NB513_518.out _; (with_reducible repeat (first | refine blk_drewN ?_ _ | refine blk_drew ?_ | refine blk_alloc ?_ _)); refine blk_far ?_ NB513_518.out _; (with_reducible repeat (first | refine blk_drewN ?_ _ | refine blk_drew ?_ | refine blk_alloc ?_ _)); exact BK513.out⟩, ⟨by (with_reducible repeat (first | refine blk_drewN ?_ _ | refine blk_drew ?_ | refine blk_alloc ?_ _)); refine blk_far ?_ NB518_519.out _; (with_reducible repeat (first | refine blk_drewN ?_ _ | refine blk_drew ?_ | refine blk_alloc ?_ _)); refine blk_far ?_ NB518_519.out _; (with_reducible repeat (first | refine blk_drewN ?_ _ | refine blk_drew ?_ | refine blk_alloc ?_ _)); refine blk_put (cs := #[.int .u64 t514, .int .u64 0]) ?_ 1 _ rfl; (with_reducible repeat (first | refine blk_drewN ?_ _ | refine blk_drew ?_ | refine blk_alloc ?_ _)); refine blk_put (cs := #[.int .u64 0, .int .u64 0]) ?_ 0 _ rfl; (with_reducible repeat (first | refine blk_drewN ?_ _ | refine blk_drew ?_ | refine blk_alloc ?_ _)); exact BK518.out⟩, ⟨by (with_reducible repeat (first | refine blk_drewN ?_ _ | refine blk_drew ?_ | refine blk_alloc ?_ _)); refine blk_put (cs := #[.int .u64 t516, .int .u64 0]) ?_ 1 _ rfl; (with_reducible repeat (first | refine blk_drewN ?_ _ | refine blk_drew ?_ | refine blk_alloc ?_ _)); refine blk_put (cs := #[.int .u64 0, .int .u64 0]) ?_ 0 _ rfl; (with_reducible repeat (first | refine blk_drewN ?_ _ | refine blk_drew ?_ | refine blk_alloc ?_ _)); refine blk_far ?_ NB519_518.out _; (with_reducible repeat (first | refine blk_drewN ?_ _ | refine blk_drew ?_ | refine blk_alloc ?_ _)); refine blk_far ?_ NB519_518.out _; (with_reducible repeat (first | refine blk_drewN ?_ _ | refine blk_drew ?_ | refine blk_alloc ?_ _)); exact BK519.out⟩, ⟨by repeat (first | (with_reducible first | exact HB.out | apply below_alloc | apply pw_below_drewN | apply below_drew1 | refine below_set ?_ GE502.out | refine below_set ?_ GE503.out | refine below_set ?_ GE504.out | refine below_set ?_ GE507.out | refine below_set ?_ GE512.out | refine below_set ?_ GE513.out | refine below_set ?_ GE518.out | refine below_set ?_ GE519.out) | exact HB.out)⟩⟩
          · rw [if_neg c77] at H
            have c77b0 : decide (1152921504606846976 < t509) = false := decide_eq_false c77
            clear c77
            have H' := Aside0.mk H
            clear H
            have hnb88 := NB512_518.out
            have hnc88 := NB518_512.out
            have hnb89 := NB512_519.out
            have hnc89 := NB519_512.out
            have hcz90_0 : w46.cell? ⟨gb512, 0, none⟩ = some (.int .u64 t508) := (blk_cell BK512.out 0).trans rfl
            have hcz90_1 : w46.cell? ⟨gb512, 1, none⟩ = some (.int .u64 t509) := (blk_cell BK512.out 1).trans rfl
            have hfz90_0 := blk_frozen BK512.out 0
            have hfz90_1 := blk_frozen BK512.out 1
            have hnb91 := NB518_502.out
            have hnc91 := NB502_518.out
            have hnb92 := NB518_503.out
            have hnc92 := NB503_518.out
            have hnb93 := NB518_504.out
            have hnc93 := NB504_518.out
            have hnb94 := NB518_507.out
            have hnc94 := NB507_518.out
            have hnb95 := NB518_513.out
            have hnc95 := NB513_518.out
            have hnb96 := NB518_519.out
            have hnc96 := NB519_518.out
            have hcz97_0 : w46.cell? ⟨gb518, 0, none⟩ = some (.int .u64 0) := (blk_cell BK518.out 0).trans rfl
            have hcz97_1 : w46.cell? ⟨gb518, 1, none⟩ = some (.int .u64 0) := (blk_cell BK518.out 1).trans rfl
            have hfz97_0 := blk_frozen BK518.out 0
            have hfz97_1 := blk_frozen BK518.out 1
            go_wp2
            go_meet
            case rel => exact ⟨_, (decide (t515 > 1152921504606846976)), (by first | rfl | (simp; done) | (simp [*]; done)), H', ⟨by first | omega | exact Nat.le_refl _⟩, ⟨by (with_reducible repeat (first | refine blk_drewN ?_ _ | refine blk_drew ?_ | refine blk_alloc ?_ _)); refine blk_far ?_ NB502_519.out _; (with_reducible repeat (first | refine blk_drewN ?_ _ | refine blk_drew ?_ | refine blk_alloc ?_ _)); refine blk_far ?_ NB502_519.out _; (with_reducible repeat (first | refine blk_drewN ?_ _ | refine blk_drew ?_ | refine blk_alloc ?_ _)); refine blk_far ?_ NB502_518.out _; (with_reducible repeat (first | refine blk_drewN ?_ _ | refine blk_drew ?_ | refine blk_alloc ?_ _)); refine blk_far ?_ NB502_518.out _; (with_reducible repeat (first | refine blk_drewN ?_ _ | refine blk_drew ?_ | refine blk_alloc ?_ _)); exact BK502.out⟩, ⟨by (with_reducible repeat (first | refine blk_drewN ?_ _ | refine blk_drew ?_ | refine blk_alloc ?_ _)); refine blk_far ?_ NB503_519.out _; (with_reducible repeat (first | refine blk_drewN ?_ _ | refine blk_drew ?_ | refine blk_alloc ?_ _)); refine blk_far ?_ NB503_519.out _; (with_reducible repeat (first | refine blk_drewN ?_ _ | refine blk_drew ?_ | refine blk_alloc ?_ _)); refine blk_far ?_ NB503_518.out _; (with_reducible repeat (first | refine blk_drewN ?_ _ | refine blk_drew ?_ | refine blk_alloc ?_ _)); refine blk_far ?_ NB503_518.out _; (with_reducible repeat (first | refine blk_drewN ?_ _ | refine blk_drew ?_ | refine blk_alloc ?_ _)); exact BK503.out⟩, ⟨by (with_reducible repeat (first | refine blk_drewN ?_ _ | refine blk_drew ?_ | refine blk_alloc ?_ _)); refine blk_far ?_ NB504_519.out _; (with_reducible repeat (first | refine blk_drewN ?_ _ | refine blk_drew ?_ | refine blk_alloc ?_ _)); refine blk_far ?_ NB504_519.out _; (with_reducible repeat (first | refine blk_drewN ?_ _ | refine blk_drew ?_ | refine blk_alloc ?_ _)); refine blk_far ?_ NB504_518.out _; (with_reducible repeat (first | refine blk_drewN ?_ _ | refine blk_drew ?_ | refine blk_alloc ?_ _)); refine blk_far ?_ NB504_518.out _; (with_reducible repeat (first | refine blk_drewN ?_ _ | refine blk_drew ?_ | refine blk_alloc ?_ _)); exact BK504.out⟩, ⟨by (with_reducible repeat (first | refine blk_drewN ?_ _ | refine blk_drew ?_ | refine blk_alloc ?_ _)); refine blk_far ?_ NB507_519.out _; (with_reducible repeat (first | refine blk_drewN ?_ _ | refine blk_drew ?_ | refine blk_alloc ?_ _)); refine blk_far ?_ NB507_519.out _; (with_reducible repeat (first | refine blk_drewN ?_ _ | refine blk_drew ?_ | refine blk_alloc ?_ _)); refine blk_far ?_ NB507_518.out _; (with_reducible repeat (first | refine blk_drewN ?_ _ | refine blk_drew ?_ | refine blk_alloc ?_ _)); refine blk_far ?_ NB507_518.out _; (with_reducible repeat (first | refine blk_drewN ?_ _ | refine blk_drew ?_ | refine blk_alloc ?_ _)); exact BK507.out⟩, ⟨by (with_reducible repeat (first | refine blk_drewN ?_ _ | refine blk_drew ?_ | refine blk_alloc ?_ _)); refine blk_far ?_ NB512_519.out _; (with_reducible repeat (first | refine blk_drewN ?_ _ | refine blk_drew ?_ | refine blk_alloc ?_ _)); refine blk_far ?_ NB512_519.out _; (with_reducible repeat (first | refine blk_drewN ?_ _ | refine blk_drew ?_ | refine blk_alloc ?_ _)); refine blk_far ?_ NB512_518.out _; (with_reducible repeat (first | refine blk_drewN ?_ _ | refine blk_drew ?_ | refine blk_alloc ?_ _)); refine blk_far ?_ NB512_518.out _; (with_reducible repeat (first | refine blk_drewN ?_ _ | refine blk_drew ?_ | refine blk_alloc ?_ _)); exact BK512.out⟩, ⟨by (with_reducible repeat (first | refine blk_drewN ?_ _ | refine blk_drew ?_ | refine blk_alloc ?_ _)); refine blk_far ?_ NB513_519.out _; (with_reducible repeat (first | refine blk_drewN ?_ _ | refine blk_drew ?_ | refine blk_alloc ?_ _)); refine blk_far ?_ NB513_519.out _; (with_reducible repeat (first | refine blk_drewN ?_ _ | refine blk_drew ?_ | refine blk_alloc ?_ _)); refine blk_far ?_ NB513_518.out _; (with_reducible repeat (first | refine blk_drewN ?_ _ | refine blk_drew ?_ | refine blk_alloc ?_ _)); refine blk_far ?_ NB513_518.out _; (with_reducible repeat (first | refine blk_drewN ?_ _ | refine blk_drew ?_ | refine blk_alloc ?_ _)); exact BK513.out⟩, ⟨by (with_reducible repeat (first | refine blk_drewN ?_ _ | refine blk_drew ?_ | refine blk_alloc ?_ _)); refine blk_far ?_ NB518_519.out _; (with_reducible repeat (first | refine blk_drewN ?_ _ | refine blk_drew ?_ | refine blk_alloc ?_ _)); refine blk_far ?_ NB518_519.out _; (with_reducible repeat (first | refine blk_drewN ?_ _ | refine blk_drew ?_ | refine blk_alloc ?_ _)); refine blk_put (cs := #[.int .u64 t514, .int .u64 0]) ?_ 1 _ rfl; (with_reducible repeat (first | refine blk_drewN ?_ _ | refine blk_drew ?_ | refine blk_alloc ?_ _)); refine blk_put (cs := #[.int .u64 0, .int .u64 0]) ?_ 0 _ rfl; (with_reducible repeat (first | refine blk_drewN ?_ _ | refine blk_drew ?_ | refine blk_alloc ?_ _)); exact BK518.out⟩, ⟨by (with_reducible repeat (first | refine blk_drewN ?_ _ | refine blk_drew ?_ | refine blk_alloc ?_ _)); refine blk_put (cs := #[.int .u64 t516, .int .u64 0]) ?_ 1 _ rfl; (with_reducible repeat (first | refine blk_drewN ?_ _ | refine blk_drew ?_ | refine blk_alloc ?_ _)); refine blk_put (cs := #[.int .u64 0, .int .u64 0]) ?_ 0 _ rfl; (with_reducible repeat (first | refine blk_drewN ?_ _ | refine blk_drew ?_ | refine blk_alloc ?_ _)); refine blk_far ?_ NB519_518.out _; (with_reducible repeat (first | refine blk_drewN ?_ _ | refine blk_drew ?_ | refine blk_alloc ?_ _)); refine blk_far ?_ NB519_518.out _; (with_reducible repeat (first | refine blk_drewN ?_ _ | refine blk_drew ?_ | refine blk_alloc ?_ _)); exact BK519.out⟩, ⟨by repeat (first | (with_reducible first | exact HB.out | apply below_alloc | apply pw_below_drewN | apply below_drew1 | refine below_set ?_ GE502.out | refine below_set ?_ GE503.out | refine below_set ?_ GE504.out | refine below_set ?_ GE507.out | refine below_set ?_ GE512.out | refine below_set ?_ GE513.out | refine below_set ?_ GE518.out | refine below_set ?_ GE519.out) | exact HB.out)⟩⟩
    case rest =>
      clear HC15
      try clear c1
      try clear c2
      try clear p2
      try clear c3
      try clear c4
      try clear c4b0
      try clear c4b1
      try clear c4b2
      try clear c5
      try clear c6
      try clear c7
      try clear c8
      try clear c9
      try clear c10
      try clear c23
      try clear c24
      try clear c25
      try clear c31
      try clear c32
      try clear c33
      try clear c34
      try clear c35
      try clear c37
      try clear c38
      try clear c39
      try clear c40
      try clear c47
      try clear c48
      try clear c49
      try clear c50
      try clear c51
      try clear c52
      try clear c53
      try clear c55
      try clear c56
      try clear c57
      try clear c58
      try clear c59
      try clear c60
      try clear c62
      try clear c62b0
      try clear c63
      try clear c64
      try clear c66
      try clear c66b0
      try clear c67
      try clear c68
      try clear c69
      try clear c70
      try clear c71
      try clear c72
      try clear c73
      try clear c74
      try clear c75
      try clear c77
      try clear c77b0
      try clear c78
      try clear c79
      try clear c81
      try clear c82
      try clear c83
      try clear c84
      try clear c85
      try clear c86
      try clear c88
      try clear c89
      try clear c91
      try clear c92
      try clear c93
      try clear c94
      try clear c95
      try clear c96
      try clear hcz11_0
      try clear hcz11_1
      try clear hcz19_0
      try clear hcz19_1
      try clear hcz20_0
      try clear hcz20_1
      try clear hcz26_0
      try clear hcz26_1
      try clear hcz27_0
      try clear hcz27_1
      try clear hcz36_0
      try clear hcz36_1
      try clear hcz41_0
      try clear hcz41_1
      try clear hcz42_0
      try clear hcz42_1
      try clear hcz43_0
      try clear hcz43_1
      try clear hcz54_0
      try clear hcz54_1
      try clear hcz61_0
      try clear hcz61_1
      try clear hcz65_0
      try clear hcz65_1
      try clear hcz69_0
      try clear hcz69_1
      try clear hcz76_0
      try clear hcz76_1
      try clear hcz80_0
      try clear hcz80_1
      try clear hcz87_0
      try clear hcz87_1
      try clear hcz8_0
      try clear hcz8_1
      try clear hcz90_0
      try clear hcz90_1
      try clear hcz97_0
      try clear hcz97_1
      try clear hfz11_0
      try clear hfz11_1
      try clear hfz19_0
      try clear hfz19_1
      try clear hfz20_0
      try clear hfz20_1
      try clear hfz26_0
      try clear hfz26_1
      try clear hfz27_0
      try clear hfz27_1
      try clear hfz36_0
      try clear hfz36_1
      try clear hfz41_0
      try clear hfz41_1
      try clear hfz42_0
      try clear hfz42_1
      try clear hfz43_0
      try clear hfz43_1
      try clear hfz54_0
      try clear hfz54_1
      try clear hfz61_0
      try clear hfz61_1
      try clear hfz65_0
      try clear hfz65_1
      try clear hfz69_0
      try clear hfz69_1
      try clear hfz76_0
      try clear hfz76_1
      try clear hfz80_0
      try clear hfz80_1
      try clear hfz87_0
      try clear hfz87_1
      try clear hfz8_0
      try clear hfz8_1
      try clear hfz90_0
      try clear hfz90_1
      try clear hfz97_0
      try clear hfz97_1
      obtain ⟨kq, x50_14, rfl, HA, HJ14, BK502, BK503, BK504, BK507, BK512, BK513, BK518, BK519, HB⟩ := hcut
      cases kq with
      | zero => exact absurd HA.out (by simp [timeboundref31_reduce.j0])
      | succ kj14 =>
        have H := HA.out
        clear HA
        simp only [timeboundref31_reduce.j0] at H
        by_cases c98 : x50_14 = true
        · subst c98
          have H1 : (some (0, 0, 4)) = some (r1, r2, r3) := by rw [if_pos rfl] at H; exact H
          clear H
          have H := H1
          clear H1
          simp only [Option.some.injEq, Prod.mk.injEq] at H
          obtain ⟨rfl, rfl, rfl⟩ := H
          have hnb99 := NB504_502.out
          have hnc99 := NB502_504.out
          have hnb100 := NB504_503.out
          have hnc100 := NB503_504.out
          have hnb101 := NB504_507.out
          have hnc101 := NB507_504.out
          have hnb102 := NB504_512.out
          have hnc102 := NB512_504.out
          have hnb103 := NB504_513.out
          have hnc103 := NB513_504.out
          have hnb104 := NB504_518.out
          have hnc104 := NB518_504.out
          have hnb105 := NB504_519.out
          have hnc105 := NB519_504.out
          have hcz106_0 : wc.cell? ⟨gb504, 0, none⟩ = some (.int .i64 0) := (blk_cell BK504.out 0).trans rfl
          have hcz106_1 : wc.cell? ⟨gb504, 1, none⟩ = some (.int .i64 0) := (blk_cell BK504.out 1).trans rfl
          have hfz106_0 := blk_frozen BK504.out 0
          have hfz106_1 := blk_frozen BK504.out 1
          go_wp2
          refine bodyPost_ret (results_ct rfl _ _ gb504 24 #[.int .i64 0, .int .i64 0] (0, 0) _ rfl (by (with_reducible repeat (first | refine blk_drewN ?_ _ | refine blk_drew ?_ | refine blk_alloc ?_ _)); refine blk_put (cs := #[.int .i64 0, .int .i64 0]) ?_ 1 _ rfl; (with_reducible repeat (first | refine blk_drewN ?_ _ | refine blk_drew ?_ | refine blk_alloc ?_ _)); refine blk_put (cs := #[.int .i64 0, .int .i64 0]) ?_ 0 _ rfl; (with_reducible repeat (first | refine blk_drewN ?_ _ | refine blk_drew ?_ | refine blk_alloc ?_ _)); exact BK504.out) Try.underlying24 rfl (by kernel_rfl)) rfl ?_
          exact ⟨by first | rfl | (simp [errW_none, errW_some] <;> rfl) | (simp [*, errW_none, errW_some] <;> rfl), by repeat (first | (with_reducible first | exact HB.out | apply below_alloc | apply pw_below_drewN | apply below_drew1 | refine below_set ?_ GE502.out | refine below_set ?_ GE503.out | refine below_set ?_ GE504.out | refine below_set ?_ GE507.out | refine below_set ?_ GE512.out | refine below_set ?_ GE513.out | refine below_set ?_ GE518.out | refine below_set ?_ GE519.out) | exact HB.out)⟩
        · replace c98 := Bool.eq_false_iff.mpr c98
          subst c98
          have H1 : (if a0 = true then (some (wrap64 (-(wrap64 (t509))), wrap64 (t515), 0)) else (some (wrap64 (t509), wrap64 (t515), 0))) = some (r1, r2, r3) := by rw [if_neg (show ¬ (false = true) by decide)] at H; exact H
          clear H
          have H := H1
          clear H1
          by_cases c107 : a0 = true
          · subst c107
            have H1 : (some (wrap64 (-(wrap64 (t509))), wrap64 (t515), 0)) = some (r1, r2, r3) := by rw [if_pos rfl] at H; exact H
            clear H
            have H := H1
            clear H1
            simp only [Option.some.injEq, Prod.mk.injEq] at H
            obtain ⟨rfl, rfl, rfl⟩ := H
            have hcz108_0 : wc.cell? ⟨gb512, 0, none⟩ = some (.int .u64 t508) := (blk_cell BK512.out 0).trans rfl
            have hcz108_1 : wc.cell? ⟨gb512, 1, none⟩ = some (.int .u64 t509) := (blk_cell BK512.out 1).trans rfl
            have hfz108_0 := blk_frozen BK512.out 0
            have hfz108_1 := blk_frozen BK512.out 1
            have hcz109_0 : wc.cell? ⟨gb518, 0, none⟩ = some (.int .u64 t514) := (blk_cell BK518.out 0).trans rfl
            have hcz109_1 : wc.cell? ⟨gb518, 1, none⟩ = some (.int .u64 t515) := (blk_cell BK518.out 1).trans rfl
            have hfz109_0 := blk_frozen BK518.out 0
            have hfz109_1 := blk_frozen BK518.out 1
            go_wp2_with (first | ((with_reducible refine gate_dst (N := 13) rfl ?_); refine box_event ?hg (N := 13) ?hd (cs := #[.int .i64 0, .int .i64 0]) (t := 24) ?hr ?_; (case hd => rfl); (case hg => rfl); (case hr => first | (go_simp; done) | (go_simp; rfl)); intro gb520 hg w110 hbox hb; have BK520 := Aside0.mk (hbox); have GW520 := gww hg HB; have GE520 := gww hg HB; have NB502_520 := nbl hg BK502; have NB520_502 := nbr hg BK502; have NB503_520 := nbl hg BK503; have NB520_503 := nbr hg BK503; have NB504_520 := nbl hg BK504; have NB520_504 := nbr hg BK504; have NB507_520 := nbl hg BK507; have NB520_507 := nbr hg BK507; have NB512_520 := nbl hg BK512; have NB520_512 := nbr hg BK512; have NB513_520 := nbl hg BK513; have NB520_513 := nbr hg BK513; have NB518_520 := nbl hg BK518; have NB520_518 := nbr hg BK518; have NB519_520 := nbl hg BK519; have NB520_519 := nbr hg BK519; replace BK502 := bkb BK502 hb; replace BK503 := bkb BK503 hb; replace BK504 := bkb BK504 hb; replace BK507 := bkb BK507 hb; replace BK512 := bkb BK512 hb; replace BK513 := bkb BK513 hb; replace BK518 := bkb BK518 hb; replace BK519 := bkb BK519 hb; replace HB := blw HB hb; clear hb hbox hg; have hnb111 := NB520_502.out; have hnc111 := NB502_520.out; have hnb112 := NB520_503.out; have hnc112 := NB503_520.out; have hnb113 := NB520_504.out; have hnc113 := NB504_520.out; have hnb114 := NB520_507.out; have hnc114 := NB507_520.out; have hnb115 := NB520_512.out; have hnc115 := NB512_520.out; have hnb116 := NB520_513.out; have hnc116 := NB513_520.out; have hnb117 := NB520_518.out; have hnc117 := NB518_520.out; have hnb118 := NB520_519.out; have hnc118 := NB519_520.out; have hcz119_0 : w110.cell? ⟨gb520, 0, none⟩ = some (.int .i64 0) := (blk_cell BK520.out 0).trans rfl; have hcz119_1 : w110.cell? ⟨gb520, 1, none⟩ = some (.int .i64 0) := (blk_cell BK520.out 1).trans rfl; have hfz119_0 := blk_frozen BK520.out 0; have hfz119_1 := blk_frozen BK520.out 1; have hnb120 := NB504_502.out; have hnc120 := NB502_504.out; have hnb121 := NB504_503.out; have hnc121 := NB503_504.out; have hnb122 := NB504_507.out; have hnc122 := NB507_504.out; have hnb123 := NB504_512.out; have hnc123 := NB512_504.out; have hnb124 := NB504_513.out; have hnc124 := NB513_504.out; have hnb125 := NB504_518.out; have hnc125 := NB518_504.out; have hnb126 := NB504_519.out; have hnc126 := NB519_504.out; have hcz127_0 : w110.cell? ⟨gb504, 0, none⟩ = some (.int .i64 0) := (blk_cell BK504.out 0).trans rfl; have hcz127_1 : w110.cell? ⟨gb504, 1, none⟩ = some (.int .i64 0) := (blk_cell BK504.out 1).trans rfl; have hfz127_0 := blk_frozen BK504.out 0; have hfz127_1 := blk_frozen BK504.out 1))
            refine bodyPost_ret (results_ct rfl _ _ gb504 24 #[.int .i64 (wrap64 (-(wrap64 (t509)))), .int .i64 (wrap64 (t515))] (0, 0) _ rfl (by (with_reducible repeat (first | refine blk_drewN ?_ _ | refine blk_drew ?_ | refine blk_alloc ?_ _)); refine blk_put (cs := #[.int .i64 (wrap64 (-(wrap64 (t509)))), .int .i64 0]) ?_ 1 _ rfl; (with_reducible repeat (first | refine blk_drewN ?_ _ | refine blk_drew ?_ | refine blk_alloc ?_ _)); refine blk_put (cs := #[.int .i64 0, .int .i64 0]) ?_ 0 _ rfl; (with_reducible repeat (first | refine blk_drewN ?_ _ | refine blk_drew ?_ | refine blk_alloc ?_ _)); refine blk_far ?_ NB504_520.out _; (with_reducible repeat (first | refine blk_drewN ?_ _ | refine blk_drew ?_ | refine blk_alloc ?_ _)); refine blk_far ?_ NB504_520.out _; (with_reducible repeat (first | refine blk_drewN ?_ _ | refine blk_drew ?_ | refine blk_alloc ?_ _)); refine blk_far ?_ NB504_520.out _; (with_reducible repeat (first | refine blk_drewN ?_ _ | refine blk_drew ?_ | refine blk_alloc ?_ _)); exact BK504.out) Try.underlying24 rfl (by kernel_rfl)) rfl ?_
            exact ⟨by first | rfl | (simp [errW_none, errW_some] <;> rfl) | (simp [*, errW_none, errW_some] <;> rfl), by repeat (first | (with_reducible first | exact HB.out | apply below_alloc | apply pw_below_drewN | apply below_drew1 | refine below_set ?_ GE502.out | refine below_set ?_ GE503.out | refine below_set ?_ GE504.out | refine below_set ?_ GE507.out | refine below_set ?_ GE512.out | refine below_set ?_ GE513.out | refine below_set ?_ GE518.out | refine below_set ?_ GE519.out | refine below_set ?_ GE520.out) | exact HB.out)⟩
          · replace c107 := Bool.eq_false_iff.mpr c107
            subst c107
            have H1 : (some (wrap64 (t509), wrap64 (t515), 0)) = some (r1, r2, r3) := by rw [if_neg (show ¬ (false = true) by decide)] at H; exact H
            clear H
            have H := H1
            clear H1
            simp only [Option.some.injEq, Prod.mk.injEq] at H
            obtain ⟨rfl, rfl, rfl⟩ := H
            have hcz128_0 : wc.cell? ⟨gb512, 0, none⟩ = some (.int .u64 t508) := (blk_cell BK512.out 0).trans rfl
            have hcz128_1 : wc.cell? ⟨gb512, 1, none⟩ = some (.int .u64 t509) := (blk_cell BK512.out 1).trans rfl
            have hfz128_0 := blk_frozen BK512.out 0
            have hfz128_1 := blk_frozen BK512.out 1
            have hcz129_0 : wc.cell? ⟨gb518, 0, none⟩ = some (.int .u64 t514) := (blk_cell BK518.out 0).trans rfl
            have hcz129_1 : wc.cell? ⟨gb518, 1, none⟩ = some (.int .u64 t515) := (blk_cell BK518.out 1).trans rfl
            have hfz129_0 := blk_frozen BK518.out 0
            have hfz129_1 := blk_frozen BK518.out 1
            go_wp2_with (first | ((with_reducible refine gate_dst (N := 13) rfl ?_); refine box_event ?hg (N := 13) ?hd (cs := #[.int .i64 0, .int .i64 0]) (t := 24) ?hr ?_; (case hd => rfl); (case hg => rfl); (case hr => first | (go_simp; done) | (go_simp; rfl)); intro gb520 hg w130 hbox hb; have BK520 := Aside0.mk (hbox); have GW520 := gww hg HB; have GE520 := gww hg HB; have NB502_520 := nbl hg BK502; have NB520_502 := nbr hg BK502; have NB503_520 := nbl hg BK503; have NB520_503 := nbr hg BK503; have NB504_520 := nbl hg BK504; have NB520_504 := nbr hg BK504; have NB507_520 := nbl hg BK507; have NB520_507 := nbr hg BK507; have NB512_520 := nbl hg BK512; have NB520_512 := nbr hg BK512; have NB513_520 := nbl hg BK513; have NB520_513 := nbr hg BK513; have NB518_520 := nbl hg BK518; have NB520_518 := nbr hg BK518; have NB519_520 := nbl hg BK519; have NB520_519 := nbr hg BK519; replace BK502 := bkb BK502 hb; replace BK503 := bkb BK503 hb; replace BK504 := bkb BK504 hb; replace BK507 := bkb BK507 hb; replace BK512 := bkb BK512 hb; replace BK513 := bkb BK513 hb; replace BK518 := bkb BK518 hb; replace BK519 := bkb BK519 hb; replace HB := blw HB hb; clear hb hbox hg; have hnb131 := NB520_502.out; have hnc131 := NB502_520.out; have hnb132 := NB520_503.out; have hnc132 := NB503_520.out; have hnb133 := NB520_504.out; have hnc133 := NB504_520.out; have hnb134 := NB520_507.out; have hnc134 := NB507_520.out; have hnb135 := NB520_512.out; have hnc135 := NB512_520.out; have hnb136 := NB520_513.out; have hnc136 := NB513_520.out; have hnb137 := NB520_518.out; have hnc137 := NB518_520.out; have hnb138 := NB520_519.out; have hnc138 := NB519_520.out; have hcz139_0 : w130.cell? ⟨gb520, 0, none⟩ = some (.int .i64 0) := (blk_cell BK520.out 0).trans rfl; have hcz139_1 : w130.cell? ⟨gb520, 1, none⟩ = some (.int .i64 0) := (blk_cell BK520.out 1).trans rfl; have hfz139_0 := blk_frozen BK520.out 0; have hfz139_1 := blk_frozen BK520.out 1; have hnb140 := NB504_502.out; have hnc140 := NB502_504.out; have hnb141 := NB504_503.out; have hnc141 := NB503_504.out; have hnb142 := NB504_507.out; have hnc142 := NB507_504.out; have hnb143 := NB504_512.out; have hnc143 := NB512_504.out; have hnb144 := NB504_513.out; have hnc144 := NB513_504.out; have hnb145 := NB504_518.out; have hnc145 := NB518_504.out; have hnb146 := NB504_519.out; have hnc146 := NB519_504.out; have hcz147_0 : w130.cell? ⟨gb504, 0, none⟩ = some (.int .i64 0) := (blk_cell BK504.out 0).trans rfl; have hcz147_1 : w130.cell? ⟨gb504, 1, none⟩ = some (.int .i64 0) := (blk_cell BK504.out 1).trans rfl; have hfz147_0 := blk_frozen BK504.out 0; have hfz147_1 := blk_frozen BK504.out 1))
            refine bodyPost_ret (results_ct rfl _ _ gb504 24 #[.int .i64 (wrap64 (t509)), .int .i64 (wrap64 (t515))] (0, 0) _ rfl (by (with_reducible repeat (first | refine blk_drewN ?_ _ | refine blk_drew ?_ | refine blk_alloc ?_ _)); refine blk_put (cs := #[.int .i64 (wrap64 (t509)), .int .i64 0]) ?_ 1 _ rfl; (with_reducible repeat (first | refine blk_drewN ?_ _ | refine blk_drew ?_ | refine blk_alloc ?_ _)); refine blk_put (cs := #[.int .i64 0, .int .i64 0]) ?_ 0 _ rfl; (with_reducible repeat (first | refine blk_drewN ?_ _ | refine blk_drew ?_ | refine blk_alloc ?_ _)); refine blk_far ?_ NB504_520.out _; (with_reducible repeat (first | refine blk_drewN ?_ _ | refine blk_drew ?_ | refine blk_alloc ?_ _)); refine blk_far ?_ NB504_520.out _; (with_reducible repeat (first | refine blk_drewN ?_ _ | refine blk_drew ?_ | refine blk_alloc ?_ _)); exact BK504.out) Try.underlying24 rfl (by kernel_rfl)) rfl ?_
            exact ⟨by first | rfl | (simp [errW_none, errW_some] <;> rfl) | (simp [*, errW_none, errW_some] <;> rfl), by repeat (first | (with_reducible first | exact HB.out | apply below_alloc | apply pw_below_drewN | apply below_drew1 | refine below_set ?_ GE502.out | refine below_set ?_ GE503.out | refine below_set ?_ GE504.out | refine below_set ?_ GE507.out | refine below_set ?_ GE512.out | refine below_set ?_ GE513.out | refine below_set ?_ GE518.out | refine below_set ?_ GE519.out | refine below_set ?_ GE520.out) | exact HB.out)⟩

/-! ### timeboundref31_Make: function 36 -/
def timeboundref31_Make.f (k : Nat) (a0 : Int) (a1 : Int) : Option (Int × Int × Int) := if a1 = 0 then (some (0, 0, 36)) else ((timeboundref31_size.f a0).bind fun t522 => ((timeboundref31_size.f a1).bind fun t523 => ((timeboundref31_reduce.f k ((decide (a0 < 0)) != (decide (a1 < 0))) 0 t522 0 t523).bind fun bt524 => (some (bt524.1, bt524.2.1, bt524.2.2)))))
theorem timeboundref31_Make.mono : ∀ a0 a1 k, LeO (timeboundref31_Make.f k a0 a1) (timeboundref31_Make.f (k + 1) a0 a1) := by
  intro a0 a1 k
  unfold timeboundref31_Make.f
  repeat' first
      | (with_reducible exact timeboundref31_reduce.mono _ _ _ _ _ _)
      | (with_reducible exact LeO.refl _)
      | (with_reducible exact LeO.none _)
      | (with_reducible refine LeO.ite ?_ ?_)
      | (with_reducible refine LeO.bind ?_ (fun _ => ?_))
      | exact timeboundref31_reduce.mono _ _ _ _ _ _
      | exact LeO.none _
      | refine LeO.ite ?_ ?_
      | refine LeO.bind ?_ (fun _ => ?_)
set_option maxHeartbeats 8000000 in
set_option maxRecDepth 100000 in
theorem timeboundref31_Make.calls (k : Nat) (a0 : Int) (a1 : Int) (r1 : Int) (r2 : Int) (r3 : Int) (w : World) (h : timeboundref31_Make.f k a0 a1 = some (r1, r2, r3)) :
    Calls Try.prog 36 #[.int .i64 a0, .int .i64 a1] w fun e w' => e = .returned (.tuple #[.agg #[.int .i64 r1, .int .i64 r2], .int .i64 r3]) ∧ Below w.heap.size w w' := by
  have hu24 := Try.underlying24
  have hu75 := Try.underlying75
  have HB := Aside0.mk (Below.refl w.heap.size w)
  have H : (if a1 = 0 then (some (0, 0, 36)) else ((timeboundref31_size.f a0).bind fun t522 => ((timeboundref31_size.f a1).bind fun t523 => ((timeboundref31_reduce.f k ((decide (a0 < 0)) != (decide (a1 < 0))) 0 t522 0 t523).bind fun bt524 => (some (bt524.1, bt524.2.1, bt524.2.2)))))) = some (r1, r2, r3) := h
  clear h
  by_cases c3 : a1 = 0
  · rw [if_pos c3] at H
    have c3b0 : (a1 == 0) = true := beq_iff_eq.mpr c3
    have c3b1 : (a1 != 0) = false := bne_eq_false_iff_eq.mpr c3
    clear c3
    simp only [Option.some.injEq, Prod.mk.injEq] at H
    obtain ⟨rfl, rfl, rfl⟩ := H
    go_enter Try.func36, Try.ntmps36
    go_wp2_with (first | ((with_reducible refine gate_dst (N := 4) rfl ?_); refine box_event ?hg (N := 4) ?hd (cs := #[.int .i64 0, .int .i64 0]) (t := 24) ?hr ?_; (case hd => rfl); (case hg => rfl); (case hr => first | (go_simp; done) | (go_simp; rfl)); intro gb521 hg w4 hbox hb; have BK521 := Aside0.mk (hbox); have GW521 := gww hg HB; have GE521 := gww hg HB; replace HB := blw HB hb; clear hb hbox hg; have hcz5_0 : w4.cell? ⟨gb521, 0, none⟩ = some (.int .i64 0) := (blk_cell BK521.out 0).trans rfl; have hcz5_1 : w4.cell? ⟨gb521, 1, none⟩ = some (.int .i64 0) := (blk_cell BK521.out 1).trans rfl; have hfz5_0 := blk_frozen BK521.out 0; have hfz5_1 := blk_frozen BK521.out 1))
    refine bodyPost_ret (results_ct rfl _ _ gb521 24 #[.int .i64 0, .int .i64 0] (0, 0) _ rfl (by (with_reducible repeat (first | refine blk_drewN ?_ _ | refine blk_drew ?_ | refine blk_alloc ?_ _)); refine blk_put (cs := #[.int .i64 0, .int .i64 0]) ?_ 1 _ rfl; (with_reducible repeat (first | refine blk_drewN ?_ _ | refine blk_drew ?_ | refine blk_alloc ?_ _)); refine blk_put (cs := #[.int .i64 0, .int .i64 0]) ?_ 0 _ rfl; (with_reducible repeat (first | refine blk_drewN ?_ _ | refine blk_drew ?_ | refine blk_alloc ?_ _)); exact BK521.out) Try.underlying24 rfl (by kernel_rfl)) rfl ?_
    exact ⟨by first | rfl | (simp [errW_none, errW_some] <;> rfl) | (simp [*, errW_none, errW_some] <;> rfl), by repeat (first | (with_reducible first | exact HB.out | apply below_alloc | apply pw_below_drewN | apply below_drew1 | refine below_set ?_ GE521.out) | exact HB.out)⟩
  · rw [if_neg c3] at H
    have c3b0 : (a1 == 0) = false := beq_eq_false_iff_ne.mpr c3
    have c3b1 : (a1 != 0) = true := bne_iff_ne.mpr c3
    replace H := Option.bind_eq_some_iff.mp H
    obtain ⟨t522, A60, H⟩ := H
    replace H : ((timeboundref31_size.f a1).bind fun t523 => ((timeboundref31_reduce.f k ((decide (a0 < 0)) != (decide (a1 < 0))) 0 t522 0 t523).bind fun bt524 => (some (bt524.1, bt524.2.1, bt524.2.2)))) = some (r1, r2, r3) := H
    have A6 := Aside0.mk A60
    clear A60
    replace H := Option.bind_eq_some_iff.mp H
    obtain ⟨t523, A70, H⟩ := H
    replace H : ((timeboundref31_reduce.f k ((decide (a0 < 0)) != (decide (a1 < 0))) 0 t522 0 t523).bind fun bt524 => (some (bt524.1, bt524.2.1, bt524.2.2))) = some (r1, r2, r3) := H
    have A7 := Aside0.mk A70
    clear A70
    replace H := Option.bind_eq_some_iff.mp H
    obtain ⟨⟨t524, t525, t526⟩, A80, H⟩ := H
    replace H : (some (t524, t525, t526)) = some (r1, r2, r3) := H
    have A8 := Aside0.mk A80
    clear A80
    simp only [Option.some.injEq, Prod.mk.injEq] at H
    obtain ⟨rfl, rfl, rfl⟩ := H
    go_enter Try.func36, Try.ntmps36
    go_wp2_with (first | ((with_reducible refine gate_dst (N := 4) rfl ?_); refine box_event ?hg (N := 4) ?hd (cs := #[.int .i64 0, .int .i64 0]) (t := 24) ?hr ?_; (case hd => rfl); (case hg => rfl); (case hr => first | (go_simp; done) | (go_simp; rfl)); intro gb521 hg w9 hbox hb; have BK521 := Aside0.mk (hbox); have GW521 := gww hg HB; have GE521 := gww hg HB; replace HB := blw HB hb; clear hb hbox hg) | ((with_reducible refine gate_callee (f := 57) rfl ?_); refine goesL_ (some 15) rfl rfl Try.func57 (by kernel_rfl) rfl #[.int .i64 a0] rfl (by (try simp only [List.map_toArray, List.map_cons, List.map_nil]); first | done | rfl | (simp only [List.length_drop, List.length_take]; rfl)) ?_; (with_reducible refine (timeboundref31_size.calls a0 t522 _ A6.out).mono ?_); rintro e w' ⟨rfl, ⟨nd, rfl⟩⟩; refine ⟨_, rfl, ?_⟩; (try (rw [drewN_self w9]; generalize hq_ : World.drewN w9 _ = w9; have n0_ : Aside0 (w9.heap[gb521]? = some (.cells #[.int .i64 0, .int .i64 0] 24 (0, 0))) := ⟨by rw [← hq_]; exact (by (with_reducible repeat (first | refine blk_drewN ?_ _ | refine blk_drew ?_ | refine blk_alloc ?_ _)); exact BK521.out)⟩; have n1_ : Aside0 (Below w.heap.size w w9) := ⟨by rw [← hq_]; exact (by repeat (first | (with_reducible first | exact HB.out | apply below_alloc | apply pw_below_drewN | apply below_drew1 | refine below_set ?_ GE521.out) | exact HB.out))⟩; clear BK521 HB hq_; have BK521 := n0_; have HB := n1_; clear n0_ n1_))) | ((with_reducible refine gate_callee (f := 57) rfl ?_); refine goesL_ (some 18) rfl rfl Try.func57 (by kernel_rfl) rfl #[.int .i64 a1] rfl (by (try simp only [List.map_toArray, List.map_cons, List.map_nil]); first | done | rfl | (simp only [List.length_drop, List.length_take]; rfl)) ?_; (with_reducible refine (timeboundref31_size.calls a1 t523 _ A7.out).mono ?_); rintro e w' ⟨rfl, ⟨nd, rfl⟩⟩; refine ⟨_, rfl, ?_⟩; (try (rw [drewN_self w9]; generalize hq_ : World.drewN w9 _ = w9; have n0_ : Aside0 (w9.heap[gb521]? = some (.cells #[.int .i64 0, .int .i64 0] 24 (0, 0))) := ⟨by rw [← hq_]; exact (by (with_reducible repeat (first | refine blk_drewN ?_ _ | refine blk_drew ?_ | refine blk_alloc ?_ _)); exact BK521.out)⟩; have n1_ : Aside0 (Below w.heap.size w w9) := ⟨by rw [← hq_]; exact (by repeat (first | (with_reducible first | exact HB.out | apply below_alloc | apply pw_below_drewN | apply below_drew1 | refine below_set ?_ GE521.out) | exact HB.out))⟩; clear BK521 HB hq_; have BK521 := n0_; have HB := n1_; clear n0_ n1_))) | ((with_reducible refine gate_callee (f := 69) rfl ?_); refine goesL_ (some 20) rfl rfl Try.func69 (by kernel_rfl) rfl #[.bool ((decide (a0 < 0)) != (decide (a1 < 0))), .agg #[.int .u64 0, .int .u64 t522], .agg #[.int .u64 0, .int .u64 t523]] rfl (by (try simp only [List.map_toArray, List.map_cons, List.map_nil]); first | done | rfl | (simp only [List.length_drop, List.length_take]; rfl)) ?_; (with_reducible refine (timeboundref31_reduce.calls k ((decide (a0 < 0)) != (decide (a1 < 0))) 0 t522 0 t523 t524 t525 t526 _ A8.out).mono ?_); rintro e w10 ⟨rfl, hb⟩; refine ⟨_, rfl, ?_⟩; replace BK521 := bkb BK521 hb; replace HB := blw HB hb; (try clear hb); (try clear hb2); (try clear hk); (try clear hi); have hcz11_0 : w10.cell? ⟨gb521, 0, none⟩ = some (.int .i64 0) := (blk_cell BK521.out 0).trans rfl; have hcz11_1 : w10.cell? ⟨gb521, 1, none⟩ = some (.int .i64 0) := (blk_cell BK521.out 1).trans rfl; have hfz11_0 := blk_frozen BK521.out 0; have hfz11_1 := blk_frozen BK521.out 1))
    refine bodyPost_ret (results_ct rfl _ _ gb521 24 #[.int .i64 t524, .int .i64 t525] (0, 0) _ rfl (by (with_reducible repeat (first | refine blk_drewN ?_ _ | refine blk_drew ?_ | refine blk_alloc ?_ _)); refine blk_put (cs := #[.int .i64 t524, .int .i64 0]) ?_ 1 _ rfl; (with_reducible repeat (first | refine blk_drewN ?_ _ | refine blk_drew ?_ | refine blk_alloc ?_ _)); refine blk_put (cs := #[.int .i64 0, .int .i64 0]) ?_ 0 _ rfl; (with_reducible repeat (first | refine blk_drewN ?_ _ | refine blk_drew ?_ | refine blk_alloc ?_ _)); exact BK521.out) Try.underlying24 rfl (by kernel_rfl)) rfl ?_
    exact ⟨by first | rfl | (simp [errW_none, errW_some] <;> rfl) | (simp [*, errW_none, errW_some] <;> rfl), by repeat (first | (with_reducible first | exact HB.out | apply below_alloc | apply pw_below_drewN | apply below_drew1 | refine below_set ?_ GE521.out) | exact HB.out)⟩

/-! ### timeboundref31_mul: function 68 -/
def timeboundref31_mul.f (a0 : Int) (a1 : Int) : Option (Int × Int) := some (IntKind.u64.wrap ((IntKind.u64.wrap ((IntKind.u64.wrap ((a0 / 4294967296) * (a1 / 4294967296))) + ((IntKind.u64.wrap ((IntKind.u64.wrap ((a0 / 4294967296) * (Go.bits .and .u64 a1 4294967295))) + ((IntKind.u64.wrap ((Go.bits .and .u64 a0 4294967295) * (Go.bits .and .u64 a1 4294967295))) / 4294967296))) / 4294967296))) + ((IntKind.u64.wrap ((IntKind.u64.wrap ((Go.bits .and .u64 a0 4294967295) * (a1 / 4294967296))) + (Go.bits .and .u64 (IntKind.u64.wrap ((IntKind.u64.wrap ((a0 / 4294967296) * (Go.bits .and .u64 a1 4294967295))) + ((IntKind.u64.wrap ((Go.bits .and .u64 a0 4294967295) * (Go.bits .and .u64 a1 4294967295))) / 4294967296))) 4294967295))) / 4294967296)), Go.bits .or .u64 (IntKind.u64.wrap ((IntKind.u64.wrap ((IntKind.u64.wrap ((Go.bits .and .u64 a0 4294967295) * (a1 / 4294967296))) + (Go.bits .and .u64 (IntKind.u64.wrap ((IntKind.u64.wrap ((a0 / 4294967296) * (Go.bits .and .u64 a1 4294967295))) + ((IntKind.u64.wrap ((Go.bits .and .u64 a0 4294967295) * (Go.bits .and .u64 a1 4294967295))) / 4294967296))) 4294967295))) * 4294967296)) (Go.bits .and .u64 (IntKind.u64.wrap ((Go.bits .and .u64 a0 4294967295) * (Go.bits .and .u64 a1 4294967295))) 4294967295))
set_option maxHeartbeats 8000000 in
set_option maxRecDepth 100000 in
theorem timeboundref31_mul.calls (a0 : Int) (a1 : Int) (r1 : Int) (r2 : Int) (w : World) (h : timeboundref31_mul.f a0 a1 = some (r1, r2)) :
    Calls Try.prog 68 #[.int .u64 a0, .int .u64 a1] w fun e w' => e = .returned (.agg #[.int .u64 r1, .int .u64 r2]) ∧ Below w.heap.size w w' := by
  have hu75 := Try.underlying75
  have HB := Aside0.mk (Below.refl w.heap.size w)
  have H : (some (IntKind.u64.wrap ((IntKind.u64.wrap ((IntKind.u64.wrap ((a0 / 4294967296) * (a1 / 4294967296))) + ((IntKind.u64.wrap ((IntKind.u64.wrap ((a0 / 4294967296) * (Go.bits .and .u64 a1 4294967295))) + ((IntKind.u64.wrap ((Go.bits .and .u64 a0 4294967295) * (Go.bits .and .u64 a1 4294967295))) / 4294967296))) / 4294967296))) + ((IntKind.u64.wrap ((IntKind.u64.wrap ((Go.bits .and .u64 a0 4294967295) * (a1 / 4294967296))) + (Go.bits .and .u64 (IntKind.u64.wrap ((IntKind.u64.wrap ((a0 / 4294967296) * (Go.bits .and .u64 a1 4294967295))) + ((IntKind.u64.wrap ((Go.bits .and .u64 a0 4294967295) * (Go.bits .and .u64 a1 4294967295))) / 4294967296))) 4294967295))) / 4294967296)), Go.bits .or .u64 (IntKind.u64.wrap ((IntKind.u64.wrap ((IntKind.u64.wrap ((Go.bits .and .u64 a0 4294967295) * (a1 / 4294967296))) + (Go.bits .and .u64 (IntKind.u64.wrap ((IntKind.u64.wrap ((a0 / 4294967296) * (Go.bits .and .u64 a1 4294967295))) + ((IntKind.u64.wrap ((Go.bits .and .u64 a0 4294967295) * (Go.bits .and .u64 a1 4294967295))) / 4294967296))) 4294967295))) * 4294967296)) (Go.bits .and .u64 (IntKind.u64.wrap ((Go.bits .and .u64 a0 4294967295) * (Go.bits .and .u64 a1 4294967295))) 4294967295))) = some (r1, r2) := h
  clear h
  simp only [Option.some.injEq, Prod.mk.injEq] at H
  obtain ⟨rfl, rfl⟩ := H
  go_enter Try.func68, Try.ntmps68
  go_wp2_with (first | ((with_reducible refine gate_dst (N := 4) rfl ?_); refine box_event ?hg (N := 4) ?hd (cs := #[.int .u64 0, .int .u64 0]) (t := 75) ?hr ?_; (case hd => rfl); (case hg => rfl); (case hr => first | (go_simp; done) | (go_simp; rfl)); intro gb555 hg w3 hbox hb; have BK555 := Aside0.mk (hbox); have GW555 := gww hg HB; have GE555 := gww hg HB; replace HB := blw HB hb; clear hb hbox hg; have hcz4_0 : w3.cell? ⟨gb555, 0, none⟩ = some (.int .u64 0) := (blk_cell BK555.out 0).trans rfl; have hcz4_1 : w3.cell? ⟨gb555, 1, none⟩ = some (.int .u64 0) := (blk_cell BK555.out 1).trans rfl; have hfz4_0 := blk_frozen BK555.out 0; have hfz4_1 := blk_frozen BK555.out 1))
  refine bodyPost_ret (results_cell_row rfl _ _ gb555 75 #[.int .u64 (IntKind.u64.wrap ((IntKind.u64.wrap ((IntKind.u64.wrap ((a0 / 4294967296) * (a1 / 4294967296))) + ((IntKind.u64.wrap ((IntKind.u64.wrap ((a0 / 4294967296) * (Go.bits .and .u64 a1 4294967295))) + ((IntKind.u64.wrap ((Go.bits .and .u64 a0 4294967295) * (Go.bits .and .u64 a1 4294967295))) / 4294967296))) / 4294967296))) + ((IntKind.u64.wrap ((IntKind.u64.wrap ((Go.bits .and .u64 a0 4294967295) * (a1 / 4294967296))) + (Go.bits .and .u64 (IntKind.u64.wrap ((IntKind.u64.wrap ((a0 / 4294967296) * (Go.bits .and .u64 a1 4294967295))) + ((IntKind.u64.wrap ((Go.bits .and .u64 a0 4294967295) * (Go.bits .and .u64 a1 4294967295))) / 4294967296))) 4294967295))) / 4294967296))), .int .u64 (Go.bits .or .u64 (IntKind.u64.wrap ((IntKind.u64.wrap ((IntKind.u64.wrap ((Go.bits .and .u64 a0 4294967295) * (a1 / 4294967296))) + (Go.bits .and .u64 (IntKind.u64.wrap ((IntKind.u64.wrap ((a0 / 4294967296) * (Go.bits .and .u64 a1 4294967295))) + ((IntKind.u64.wrap ((Go.bits .and .u64 a0 4294967295) * (Go.bits .and .u64 a1 4294967295))) / 4294967296))) 4294967295))) * 4294967296)) (Go.bits .and .u64 (IntKind.u64.wrap ((Go.bits .and .u64 a0 4294967295) * (Go.bits .and .u64 a1 4294967295))) 4294967295))] (0, 0) _ rfl (by (with_reducible repeat (first | refine blk_drewN ?_ _ | refine blk_drew ?_ | refine blk_alloc ?_ _)); refine blk_put (cs := #[.int .u64 (IntKind.u64.wrap ((IntKind.u64.wrap ((IntKind.u64.wrap ((a0 / 4294967296) * (a1 / 4294967296))) + ((IntKind.u64.wrap ((IntKind.u64.wrap ((a0 / 4294967296) * (Go.bits .and .u64 a1 4294967295))) + ((IntKind.u64.wrap ((Go.bits .and .u64 a0 4294967295) * (Go.bits .and .u64 a1 4294967295))) / 4294967296))) / 4294967296))) + ((IntKind.u64.wrap ((IntKind.u64.wrap ((Go.bits .and .u64 a0 4294967295) * (a1 / 4294967296))) + (Go.bits .and .u64 (IntKind.u64.wrap ((IntKind.u64.wrap ((a0 / 4294967296) * (Go.bits .and .u64 a1 4294967295))) + ((IntKind.u64.wrap ((Go.bits .and .u64 a0 4294967295) * (Go.bits .and .u64 a1 4294967295))) / 4294967296))) 4294967295))) / 4294967296))), .int .u64 0]) ?_ 1 _ rfl; (with_reducible repeat (first | refine blk_drewN ?_ _ | refine blk_drew ?_ | refine blk_alloc ?_ _)); refine blk_put (cs := #[.int .u64 0, .int .u64 0]) ?_ 0 _ rfl; (with_reducible repeat (first | refine blk_drewN ?_ _ | refine blk_drew ?_ | refine blk_alloc ?_ _)); exact BK555.out) Try.underlying75 rfl (by kernel_rfl)) rfl ?_
  exact ⟨by first | rfl | (simp [errW_none, errW_some] <;> rfl) | (simp [*, errW_none, errW_some] <;> rfl), by repeat (first | (with_reducible first | exact HB.out | apply below_alloc | apply pw_below_drewN | apply below_drew1 | refine below_set ?_ GE555.out) | exact HB.out)⟩

/-! ### timeboundref31_add: function 70 -/
def timeboundref31_add.f (a0_0 : Int) (a0_1 : Int) (a1_0 : Int) (a1_1 : Int) : Option (Int × Int) := if (IntKind.u64.wrap (a0_1 + a1_1)) < a0_1 then (some (IntKind.u64.wrap ((IntKind.u64.wrap (a0_0 + a1_0)) + 1), IntKind.u64.wrap (a0_1 + a1_1))) else (some (IntKind.u64.wrap (a0_0 + a1_0), IntKind.u64.wrap (a0_1 + a1_1)))
set_option maxHeartbeats 8000000 in
set_option maxRecDepth 100000 in
theorem timeboundref31_add.calls (a0_0 : Int) (a0_1 : Int) (a1_0 : Int) (a1_1 : Int) (r1 : Int) (r2 : Int) (w : World) (h : timeboundref31_add.f a0_0 a0_1 a1_0 a1_1 = some (r1, r2)) :
    Calls Try.prog 70 #[.agg #[.int .u64 a0_0, .int .u64 a0_1], .agg #[.int .u64 a1_0, .int .u64 a1_1]] w fun e w' => e = .returned (.agg #[.int .u64 r1, .int .u64 r2]) ∧ Below w.heap.size w w' := by
  have hu75 := Try.underlying75
  have HB := Aside0.mk (Below.refl w.heap.size w)
  have H : (if (IntKind.u64.wrap (a0_1 + a1_1)) < a0_1 then (some (IntKind.u64.wrap ((IntKind.u64.wrap (a0_0 + a1_0)) + 1), IntKind.u64.wrap (a0_1 + a1_1))) else (some (IntKind.u64.wrap (a0_0 + a1_0), IntKind.u64.wrap (a0_1 + a1_1)))) = some (r1, r2) := h
  clear h
  by_cases c3 : (IntKind.u64.wrap (a0_1 + a1_1)) < a0_1
  · rw [if_pos c3] at H
    have c3b0 : decide ((IntKind.u64.wrap (a0_1 + a1_1)) < a0_1) = true := decide_eq_true c3
    clear c3
    simp only [Option.some.injEq, Prod.mk.injEq] at H
    obtain ⟨rfl, rfl⟩ := H
    go_enter Try.func70, Try.ntmps70
    go_wp2_with (first | ((with_reducible refine gate_dst (N := 2) rfl ?_); refine box_event ?hg (N := 2) ?hd (cs := #[.int .u64 a0_0, .int .u64 a0_1]) (t := 75) ?hr ?_; (case hd => rfl); (case hg => rfl); (case hr => first | (go_simp; done) | (go_simp; rfl)); intro gb556 hg w4 hbox hb; have BK556 := Aside0.mk (hbox); have GW556 := gww hg HB; have GE556 := gww hg HB; replace HB := blw HB hb; clear hb hbox hg) | ((with_reducible refine gate_dst (N := 3) rfl ?_); refine box_event ?hg (N := 3) ?hd (cs := #[.int .u64 a1_0, .int .u64 a1_1]) (t := 75) ?hr ?_; (case hd => rfl); (case hg => rfl); (case hr => first | (go_simp; done) | (go_simp; rfl)); intro gb557 hg w5 hbox hb; have BK557 := Aside0.mk (hbox); have GW557 := gww hg HB; have GE557 := gww hg HB; have NB556_557 := nbl hg BK556; have NB557_556 := nbr hg BK556; replace BK556 := bkb BK556 hb; replace HB := blw HB hb; clear hb hbox hg) | ((with_reducible refine gate_dst (N := 4) rfl ?_); refine box_event ?hg (N := 4) ?hd (cs := #[.int .u64 0, .int .u64 0]) (t := 75) ?hr ?_; (case hd => rfl); (case hg => rfl); (case hr => first | (go_simp; done) | (go_simp; rfl)); intro gb558 hg w6 hbox hb; have BK558 := Aside0.mk (hbox); have GW558 := gww hg HB; have GE558 := gww hg HB; have NB556_558 := nbl hg BK556; have NB558_556 := nbr hg BK556; have NB557_558 := nbl hg BK557; have NB558_557 := nbr hg BK557; replace BK556 := bkb BK556 hb; replace BK557 := bkb BK557 hb; replace HB := blw HB hb; clear hb hbox hg; have hcz7_0 : w6.cell? ⟨gb556, 0, none⟩ = some (.int .u64 a0_0) := (blk_cell BK556.out 0).trans rfl; have hcz7_1 : w6.cell? ⟨gb556, 1, none⟩ = some (.int .u64 a0_1) := (blk_cell BK556.out 1).trans rfl; have hfz7_0 := blk_frozen BK556.out 0; have hfz7_1 := blk_frozen BK556.out 1; have hcz8_0 : w6.cell? ⟨gb557, 0, none⟩ = some (.int .u64 a1_0) := (blk_cell BK557.out 0).trans rfl; have hcz8_1 : w6.cell? ⟨gb557, 1, none⟩ = some (.int .u64 a1_1) := (blk_cell BK557.out 1).trans rfl; have hfz8_0 := blk_frozen BK557.out 0; have hfz8_1 := blk_frozen BK557.out 1; have hnb9 := NB558_556.out; have hnc9 := NB556_558.out; have hnb10 := NB558_557.out; have hnc10 := NB557_558.out; have hcz11_0 : w6.cell? ⟨gb558, 0, none⟩ = some (.int .u64 0) := (blk_cell BK558.out 0).trans rfl; have hcz11_1 : w6.cell? ⟨gb558, 1, none⟩ = some (.int .u64 0) := (blk_cell BK558.out 1).trans rfl; have hfz11_0 := blk_frozen BK558.out 0; have hfz11_1 := blk_frozen BK558.out 1))
    refine bodyPost_ret (results_cell_row rfl _ _ gb558 75 #[.int .u64 (IntKind.u64.wrap ((IntKind.u64.wrap (a0_0 + a1_0)) + 1)), .int .u64 (IntKind.u64.wrap (a0_1 + a1_1))] (0, 0) _ rfl (by (with_reducible repeat (first | refine blk_drewN ?_ _ | refine blk_drew ?_ | refine blk_alloc ?_ _)); refine blk_put (cs := #[.int .u64 (IntKind.u64.wrap ((IntKind.u64.wrap (a0_0 + a1_0)) + 1)), .int .u64 0]) ?_ 1 _ rfl; (with_reducible repeat (first | refine blk_drewN ?_ _ | refine blk_drew ?_ | refine blk_alloc ?_ _)); refine blk_put (cs := #[.int .u64 0, .int .u64 0]) ?_ 0 _ rfl; (with_reducible repeat (first | refine blk_drewN ?_ _ | refine blk_drew ?_ | refine blk_alloc ?_ _)); exact BK558.out) Try.underlying75 rfl (by kernel_rfl)) rfl ?_
    exact ⟨by first | rfl | (simp [errW_none, errW_some] <;> rfl) | (simp [*, errW_none, errW_some] <;> rfl), by repeat (first | (with_reducible first | exact HB.out | apply below_alloc | apply pw_below_drewN | apply below_drew1 | refine below_set ?_ GE556.out | refine below_set ?_ GE557.out | refine below_set ?_ GE558.out) | exact HB.out)⟩
  · rw [if_neg c3] at H
    have c3b0 : decide ((IntKind.u64.wrap (a0_1 + a1_1)) < a0_1) = false := decide_eq_false c3
    clear c3
    simp only [Option.some.injEq, Prod.mk.injEq] at H
    obtain ⟨rfl, rfl⟩ := H
    go_enter Try.func70, Try.ntmps70
    go_wp2_with (first | ((with_reducible refine gate_dst (N := 2) rfl ?_); refine box_event ?hg (N := 2) ?hd (cs := #[.int .u64 a0_0, .int .u64 a0_1]) (t := 75) ?hr ?_; (case hd => rfl); (case hg => rfl); (case hr => first | (go_simp; done) | (go_simp; rfl)); intro gb556 hg w12 hbox hb; have BK556 := Aside0.mk (hbox); have GW556 := gww hg HB; have GE556 := gww hg HB; replace HB := blw HB hb; clear hb hbox hg) | ((with_reducible refine gate_dst (N := 3) rfl ?_); refine box_event ?hg (N := 3) ?hd (cs := #[.int .u64 a1_0, .int .u64 a1_1]) (t := 75) ?hr ?_; (case hd => rfl); (case hg => rfl); (case hr => first | (go_simp; done) | (go_simp; rfl)); intro gb557 hg w13 hbox hb; have BK557 := Aside0.mk (hbox); have GW557 := gww hg HB; have GE557 := gww hg HB; have NB556_557 := nbl hg BK556; have NB557_556 := nbr hg BK556; replace BK556 := bkb BK556 hb; replace HB := blw HB hb; clear hb hbox hg) | ((with_reducible refine gate_dst (N := 4) rfl ?_); refine box_event ?hg (N := 4) ?hd (cs := #[.int .u64 0, .int .u64 0]) (t := 75) ?hr ?_; (case hd => rfl); (case hg => rfl); (case hr => first | (go_simp; done) | (go_simp; rfl)); intro gb558 hg w14 hbox hb; have BK558 := Aside0.mk (hbox); have GW558 := gww hg HB; have GE558 := gww hg HB; have NB556_558 := nbl hg BK556; have NB558_556 := nbr hg BK556; have NB557_558 := nbl hg BK557; have NB558_557 := nbr hg BK557; replace BK556 := bkb BK556 hb; replace BK557 := bkb BK557 hb; replace HB := blw HB hb; clear hb hbox hg; have hcz15_0 : w14.cell? ⟨gb556, 0, none⟩ = some (.int .u64 a0_0) := (blk_cell BK556.out 0).trans rfl; have hcz15_1 : w14.cell? ⟨gb556, 1, none⟩ = some (.int .u64 a0_1) := (blk_cell BK556.out 1).trans rfl; have hfz15_0 := blk_frozen BK556.out 0; have hfz15_1 := blk_frozen BK556.out 1; have hcz16_0 : w14.cell? ⟨gb557, 0, none⟩ = some (.int .u64 a1_0) := (blk_cell BK557.out 0).trans rfl; have hcz16_1 : w14.cell? ⟨gb557, 1, none⟩ = some (.int .u64 a1_1) := (blk_cell BK557.out 1).trans rfl; have hfz16_0 := blk_frozen BK557.out 0; have hfz16_1 := blk_frozen BK557.out 1; have hnb17 := NB558_556.out; have hnc17 := NB556_558.out; have hnb18 := NB558_557.out; have hnc18 := NB557_558.out; have hcz19_0 : w14.cell? ⟨gb558, 0, none⟩ = some (.int .u64 0) := (blk_cell BK558.out 0).trans rfl; have hcz19_1 : w14.cell? ⟨gb558, 1, none⟩ = some (.int .u64 0) := (blk_cell BK558.out 1).trans rfl; have hfz19_0 := blk_frozen BK558.out 0; have hfz19_1 := blk_frozen BK558.out 1))
    refine bodyPost_ret (results_cell_row rfl _ _ gb558 75 #[.int .u64 (IntKind.u64.wrap (a0_0 + a1_0)), .int .u64 (IntKind.u64.wrap (a0_1 + a1_1))] (0, 0) _ rfl (by (with_reducible repeat (first | refine blk_drewN ?_ _ | refine blk_drew ?_ | refine blk_alloc ?_ _)); refine blk_put (cs := #[.int .u64 (IntKind.u64.wrap (a0_0 + a1_0)), .int .u64 0]) ?_ 1 _ rfl; (with_reducible repeat (first | refine blk_drewN ?_ _ | refine blk_drew ?_ | refine blk_alloc ?_ _)); refine blk_put (cs := #[.int .u64 0, .int .u64 0]) ?_ 0 _ rfl; (with_reducible repeat (first | refine blk_drewN ?_ _ | refine blk_drew ?_ | refine blk_alloc ?_ _)); exact BK558.out) Try.underlying75 rfl (by kernel_rfl)) rfl ?_
    exact ⟨by first | rfl | (simp [errW_none, errW_some] <;> rfl) | (simp [*, errW_none, errW_some] <;> rfl), by repeat (first | (with_reducible first | exact HB.out | apply below_alloc | apply pw_below_drewN | apply below_drew1 | refine below_set ?_ GE556.out | refine below_set ?_ GE557.out | refine below_set ?_ GE558.out) | exact HB.out)⟩

end Go.Proofs.Ytjoddcfcolhimaa.QFr
