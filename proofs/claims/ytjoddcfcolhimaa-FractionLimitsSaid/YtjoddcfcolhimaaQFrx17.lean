-- Printed by wip/drv/drv.py of this session, over the kit's print tool. Not trusted: Lean checks it.
import Derived.Test.YtjoddcfcolhimaaQFrx0
import Derived.Test.YtjoddcfcolhimaaQFrx1
import Derived.Test.YtjoddcfcolhimaaQFrx3
import Derived.Test.YtjoddcfcolhimaaQFrx6
import Derived.Test.YtjoddcfcolhimaaQFrx8
import Derived.Test.YtjoddcfcolhimaaQFrx13
import Derived.Test.YtjoddcfcolhimaaQFrx14
import Derived.Test.YtjoddcfcolhimaaQFrx16
namespace Go.Proofs.Ytjoddcfcolhimaa.QFr
open Go.RowKit Go.Proofs.YtjoddcfcolhimaaW.PrintWords Go.Proofs.YtjoddcfcolhimaaW.PrintLast Go.Proofs.YtjoddcfcolhimaaW.PrintMore
attribute [local go_sem] max2_int min2_int max_two min_two max_three min_three max_four min_four   -- for this text's walks alone
set_option linter.unusedVariables false
set_option linter.unusedSimpArgs false

attribute [local go_sem high] eqA24
/-! ### timeboundlaw31_FractionLimits: function 7 -/
def timeboundlaw31_FractionLimits.j0 : Nat → Int → Int → Bool → Int → Int → Int → Int → Option (Bool)
  | 0, _, _, _, _, _, _, _ => none
  | k + 1, x7, x8, x48, x534000, x534001, x538000, x538001 => if x48 = true then (some false) else ((fraction_Mul.f k x534000 x534001 x538000 x538001).bind fun bt538 => ((timeboundref31_Make.f k x8 x7).bind fun bt542 => ((fraction_Div.f k x534000 x534001 x534000 x534001).bind fun bt546 => ((fraction_Sub.f k x534000 x534001 x534000 x534001).bind fun bt550 => (if bt538.2.2 = 0 then (if bt542.2.2 = 0 then (if (bt538.1 == bt542.1 && (bt538.2.1 == bt542.2.1)) = true then (if bt546.2.2 = 0 then (if (bt546.1 == 1 && (bt546.2.1 == 1)) = true then (if bt550.2.2 = 0 then (if (bt550.1 == 0 && (bt550.2.1 == 1)) = true then ((timeboundlaw31_awake.f k).bind fun t554 => (some t554)) else (some false)) else (some false)) else (some false)) else (some false)) else (some false)) else (some false)) else (some false))))))
def timeboundlaw31_FractionLimits.f (k : Nat) (a0 : Int) (a1 : Int) (a2 : Int) : Option (Bool) := (timeboundmake_Mod.f a0 1000).bind fun t527 => ((timeboundmake_Mod.f a1 1000).bind fun t528 => ((timeboundmake_Mod.f a2 100000).bind fun t529 => ((fraction_Make.f k (wrap64 (1152921504606846976 - t529)) (wrap64 (1 + t527))).bind fun bt530 => ((fraction_Make.f k (wrap64 (1 + t528)) (wrap64 (1152921504606846976 - t529))).bind fun bt534 => (if bt530.2.2 = 0 then (timeboundlaw31_FractionLimits.j0 k (wrap64 (1 + t527)) (wrap64 (1 + t528)) (bt534.2.2 != 0) bt530.1 bt530.2.1 bt534.1 bt534.2.1) else (timeboundlaw31_FractionLimits.j0 k (wrap64 (1 + t527)) (wrap64 (1 + t528)) true bt530.1 bt530.2.1 bt534.1 bt534.2.1))))))
theorem timeboundlaw31_FractionLimits.mono_l : ∀ k, (∀ y0 y1 y2 y3 y4 y5 y6, LeO (timeboundlaw31_FractionLimits.j0 k y0 y1 y2 y3 y4 y5 y6) (timeboundlaw31_FractionLimits.j0 (k + 1) y0 y1 y2 y3 y4 y5 y6))
  | 0 => fun _ _ _ _ _ _ _ r h => by simp [timeboundlaw31_FractionLimits.j0] at h
  | k + 1 => by
    have ih0 := timeboundlaw31_FractionLimits.mono_l k
    · intro y0 y1 y2 y3 y4 y5 y6
      unfold timeboundlaw31_FractionLimits.j0
      repeat' first
      | (with_reducible exact ih0 _ _ _ _ _ _ _)
      | (with_reducible exact fraction_Div.mono _ _ _ _ _)
      | (with_reducible exact fraction_Make.mono _ _ _)
      | (with_reducible exact fraction_Mul.mono _ _ _ _ _)
      | (with_reducible exact fraction_Sub.mono _ _ _ _ _)
      | (with_reducible exact timeboundlaw31_awake.mono _)
      | (with_reducible exact timeboundref31_Make.mono _ _ _)
      | (with_reducible exact LeO.refl _)
      | (with_reducible exact LeO.none _)
      | (with_reducible refine LeO.ite ?_ ?_)
      | (with_reducible refine LeO.bind ?_ (fun _ => ?_))
      | exact ih0 _ _ _ _ _ _ _
      | exact fraction_Div.mono _ _ _ _ _
      | exact fraction_Make.mono _ _ _
      | exact fraction_Mul.mono _ _ _ _ _
      | exact fraction_Sub.mono _ _ _ _ _
      | exact timeboundlaw31_awake.mono _
      | exact timeboundref31_Make.mono _ _ _
      | exact LeO.none _
      | refine LeO.ite ?_ ?_
      | refine LeO.bind ?_ (fun _ => ?_)
theorem timeboundlaw31_FractionLimits.mono : ∀ a0 a1 a2 k, LeO (timeboundlaw31_FractionLimits.f k a0 a1 a2) (timeboundlaw31_FractionLimits.f (k + 1) a0 a1 a2) := by
  intro a0 a1 a2 k
  have ih0 := timeboundlaw31_FractionLimits.mono_l k
  unfold timeboundlaw31_FractionLimits.f
  repeat' first
      | (with_reducible exact ih0 _ _ _ _ _ _ _)
      | (with_reducible exact fraction_Div.mono _ _ _ _ _)
      | (with_reducible exact fraction_Make.mono _ _ _)
      | (with_reducible exact fraction_Mul.mono _ _ _ _ _)
      | (with_reducible exact fraction_Sub.mono _ _ _ _ _)
      | (with_reducible exact timeboundlaw31_awake.mono _)
      | (with_reducible exact timeboundref31_Make.mono _ _ _)
      | (with_reducible exact LeO.refl _)
      | (with_reducible exact LeO.none _)
      | (with_reducible refine LeO.ite ?_ ?_)
      | (with_reducible refine LeO.bind ?_ (fun _ => ?_))
      | exact ih0 _ _ _ _ _ _ _
      | exact fraction_Div.mono _ _ _ _ _
      | exact fraction_Make.mono _ _ _
      | exact fraction_Mul.mono _ _ _ _ _
      | exact fraction_Sub.mono _ _ _ _ _
      | exact timeboundlaw31_awake.mono _
      | exact timeboundref31_Make.mono _ _ _
      | exact LeO.none _
      | refine LeO.ite ?_ ?_
      | refine LeO.bind ?_ (fun _ => ?_)
set_option maxHeartbeats 8000000 in
set_option maxRecDepth 100000 in
theorem timeboundlaw31_FractionLimits.calls (k : Nat) (a0 : Int) (a1 : Int) (a2 : Int) (r : Bool) (w : World) (hr_ : r = true) (h : timeboundlaw31_FractionLimits.f k a0 a1 a2 = some r) :
    Calls Try.prog 7 #[.int .i64 a0, .int .i64 a1, .int .i64 a2] w fun e w' => e = .returned (.bool r) ∧ Below w.heap.size w w' := by
  have hu24 := Try.underlying24
  have HB := Aside0.mk (Below.refl w.heap.size w)
  have H : ((timeboundmake_Mod.f a0 1000).bind fun t527 => ((timeboundmake_Mod.f a1 1000).bind fun t528 => ((timeboundmake_Mod.f a2 100000).bind fun t529 => ((fraction_Make.f k (wrap64 (1152921504606846976 - t529)) (wrap64 (1 + t527))).bind fun bt530 => ((fraction_Make.f k (wrap64 (1 + t528)) (wrap64 (1152921504606846976 - t529))).bind fun bt534 => (if bt530.2.2 = 0 then (timeboundlaw31_FractionLimits.j0 k (wrap64 (1 + t527)) (wrap64 (1 + t528)) (bt534.2.2 != 0) bt530.1 bt530.2.1 bt534.1 bt534.2.1) else (timeboundlaw31_FractionLimits.j0 k (wrap64 (1 + t527)) (wrap64 (1 + t528)) true bt530.1 bt530.2.1 bt534.1 bt534.2.1))))))) = some r := h
  clear h
  replace H := Option.bind_eq_some_iff.mp H
  obtain ⟨t527, A40, H⟩ := H
  replace H : ((timeboundmake_Mod.f a1 1000).bind fun t528 => ((timeboundmake_Mod.f a2 100000).bind fun t529 => ((fraction_Make.f k (wrap64 (1152921504606846976 - t529)) (wrap64 (1 + t527))).bind fun bt530 => ((fraction_Make.f k (wrap64 (1 + t528)) (wrap64 (1152921504606846976 - t529))).bind fun bt534 => (if bt530.2.2 = 0 then (timeboundlaw31_FractionLimits.j0 k (wrap64 (1 + t527)) (wrap64 (1 + t528)) (bt534.2.2 != 0) bt530.1 bt530.2.1 bt534.1 bt534.2.1) else (timeboundlaw31_FractionLimits.j0 k (wrap64 (1 + t527)) (wrap64 (1 + t528)) true bt530.1 bt530.2.1 bt534.1 bt534.2.1)))))) = some r := H
  have A4 := Aside0.mk A40
  clear A40
  replace H := Option.bind_eq_some_iff.mp H
  obtain ⟨t528, A50, H⟩ := H
  replace H : ((timeboundmake_Mod.f a2 100000).bind fun t529 => ((fraction_Make.f k (wrap64 (1152921504606846976 - t529)) (wrap64 (1 + t527))).bind fun bt530 => ((fraction_Make.f k (wrap64 (1 + t528)) (wrap64 (1152921504606846976 - t529))).bind fun bt534 => (if bt530.2.2 = 0 then (timeboundlaw31_FractionLimits.j0 k (wrap64 (1 + t527)) (wrap64 (1 + t528)) (bt534.2.2 != 0) bt530.1 bt530.2.1 bt534.1 bt534.2.1) else (timeboundlaw31_FractionLimits.j0 k (wrap64 (1 + t527)) (wrap64 (1 + t528)) true bt530.1 bt530.2.1 bt534.1 bt534.2.1))))) = some r := H
  have A5 := Aside0.mk A50
  clear A50
  replace H := Option.bind_eq_some_iff.mp H
  obtain ⟨t529, A60, H⟩ := H
  replace H : ((fraction_Make.f k (wrap64 (1152921504606846976 - t529)) (wrap64 (1 + t527))).bind fun bt530 => ((fraction_Make.f k (wrap64 (1 + t528)) (wrap64 (1152921504606846976 - t529))).bind fun bt534 => (if bt530.2.2 = 0 then (timeboundlaw31_FractionLimits.j0 k (wrap64 (1 + t527)) (wrap64 (1 + t528)) (bt534.2.2 != 0) bt530.1 bt530.2.1 bt534.1 bt534.2.1) else (timeboundlaw31_FractionLimits.j0 k (wrap64 (1 + t527)) (wrap64 (1 + t528)) true bt530.1 bt530.2.1 bt534.1 bt534.2.1)))) = some r := H
  have A6 := Aside0.mk A60
  clear A60
  replace H := Option.bind_eq_some_iff.mp H
  obtain ⟨⟨t530, t531, t532⟩, A70, H⟩ := H
  replace H : ((fraction_Make.f k (wrap64 (1 + t528)) (wrap64 (1152921504606846976 - t529))).bind fun bt534 => (if t532 = 0 then (timeboundlaw31_FractionLimits.j0 k (wrap64 (1 + t527)) (wrap64 (1 + t528)) (bt534.2.2 != 0) t530 t531 bt534.1 bt534.2.1) else (timeboundlaw31_FractionLimits.j0 k (wrap64 (1 + t527)) (wrap64 (1 + t528)) true t530 t531 bt534.1 bt534.2.1))) = some r := H
  have A7 := Aside0.mk A70
  clear A70
  replace H := Option.bind_eq_some_iff.mp H
  obtain ⟨⟨t534, t535, t536⟩, A80, H⟩ := H
  replace H : (if t532 = 0 then (timeboundlaw31_FractionLimits.j0 k (wrap64 (1 + t527)) (wrap64 (1 + t528)) (t536 != 0) t530 t531 t534 t535) else (timeboundlaw31_FractionLimits.j0 k (wrap64 (1 + t527)) (wrap64 (1 + t528)) true t530 t531 t534 t535)) = some r := H
  have A8 := Aside0.mk A80
  clear A80
  have HC9 := Aside0.mk H
  clear H
  go_enter Try.func7, Try.ntmps7
  go_upto_region 5 with (first | ((with_reducible refine gate_callee (f := 14) rfl ?_); refine goesL_ (some 23) rfl rfl Try.func14 (by kernel_rfl) rfl #[.int .i64 a0, .int .i64 1000] rfl (by (try simp only [List.map_toArray, List.map_cons, List.map_nil]); first | done | rfl | (simp only [List.length_drop, List.length_take]; rfl)) ?_; (with_reducible refine (timeboundmake_Mod.calls a0 1000 t527 _ A4.out).mono ?_); rintro e w' ⟨rfl, ⟨nd, rfl⟩⟩; refine ⟨_, rfl, ?_⟩) | ((with_reducible refine gate_callee (f := 14) rfl ?_); refine goesL_ (some 26) rfl rfl Try.func14 (by kernel_rfl) rfl #[.int .i64 a1, .int .i64 1000] rfl (by (try simp only [List.map_toArray, List.map_cons, List.map_nil]); first | done | rfl | (simp only [List.length_drop, List.length_take]; rfl)) ?_; (with_reducible refine (timeboundmake_Mod.calls a1 1000 t528 _ A5.out).mono ?_); rintro e w' ⟨rfl, ⟨nd, rfl⟩⟩; refine ⟨_, rfl, ?_⟩) | ((with_reducible refine gate_callee (f := 14) rfl ?_); refine goesL_ (some 29) rfl rfl Try.func14 (by kernel_rfl) rfl #[.int .i64 a2, .int .i64 100000] rfl (by (try simp only [List.map_toArray, List.map_cons, List.map_nil]); first | done | rfl | (simp only [List.length_drop, List.length_take]; rfl)) ?_; (with_reducible refine (timeboundmake_Mod.calls a2 100000 t529 _ A6.out).mono ?_); rintro e w' ⟨rfl, ⟨nd, rfl⟩⟩; refine ⟨_, rfl, ?_⟩) | ((with_reducible refine gate_callee (f := 15) rfl ?_); refine goesL_ (some 34) rfl rfl Try.func15 (by kernel_rfl) rfl #[.int .i64 (wrap64 (1152921504606846976 - t529)), .int .i64 (wrap64 (1 + t527))] rfl (by (try simp only [List.map_toArray, List.map_cons, List.map_nil]); first | done | rfl | (simp only [List.length_drop, List.length_take]; rfl)) ?_; (with_reducible refine (fraction_Make.calls k (wrap64 (1152921504606846976 - t529)) (wrap64 (1 + t527)) t530 t531 t532 _ A7.out).mono ?_); rintro e w10 ⟨rfl, hb⟩; refine ⟨_, rfl, ?_⟩; replace HB := blw HB hb; (try clear hb); (try clear hb2); (try clear hk); (try clear hi)) | ((with_reducible refine gate_dst (N := 10) rfl ?_); refine box_event ?hg (N := 10) ?hd (cs := #[.int .i64 0, .int .i64 0]) (t := 24) ?hr ?_; (case hd => rfl); (case hg => rfl); (case hr => first | (go_simp; done) | (go_simp; rfl)); intro gb533 hg w11 hbox hb; have BK533 := Aside0.mk (hbox); have GW533 := gww hg HB; have GE533 := gww hg HB; replace HB := blw HB hb; clear hb hbox hg; have hcz12_0 : w11.cell? ⟨gb533, 0, none⟩ = some (.int .i64 0) := (blk_cell BK533.out 0).trans rfl; have hcz12_1 : w11.cell? ⟨gb533, 1, none⟩ = some (.int .i64 0) := (blk_cell BK533.out 1).trans rfl; have hfz12_0 := blk_frozen BK533.out 0; have hfz12_1 := blk_frozen BK533.out 1) | ((with_reducible refine gate_callee (f := 15) rfl ?_); refine goesL_ (some 40) rfl rfl Try.func15 (by kernel_rfl) rfl #[.int .i64 (wrap64 (1 + t528)), .int .i64 (wrap64 (1152921504606846976 - t529))] rfl (by (try simp only [List.map_toArray, List.map_cons, List.map_nil]); first | done | rfl | (simp only [List.length_drop, List.length_take]; rfl)) ?_; (with_reducible refine (fraction_Make.calls k (wrap64 (1 + t528)) (wrap64 (1152921504606846976 - t529)) t534 t535 t536 _ A8.out).mono ?_); rintro e w13 ⟨rfl, hb⟩; refine ⟨_, rfl, ?_⟩; replace BK533 := Aside0.mk (blk_below (g := gb533) (o := .cells #[.int .i64 t530, .int .i64 t531] 24 (0, 0)) (by (with_reducible repeat (first | refine blk_drewN ?_ _ | refine blk_drew ?_ | refine blk_alloc ?_ _)); refine blk_put (cs := #[.int .i64 t530, .int .i64 0]) ?_ 1 _ rfl; (with_reducible repeat (first | refine blk_drewN ?_ _ | refine blk_drew ?_ | refine blk_alloc ?_ _)); refine blk_put (cs := #[.int .i64 0, .int .i64 0]) ?_ 0 _ rfl; (with_reducible repeat (first | refine blk_drewN ?_ _ | refine blk_drew ?_ | refine blk_alloc ?_ _)); exact BK533.out) hb); replace HB := Aside0.mk (below_step (by repeat (first | (with_reducible first | exact HB.out | apply below_alloc | apply pw_below_drewN | apply below_drew1 | refine below_set ?_ GE533.out) | exact HB.out)) hb); (try clear hb); (try clear hb2); (try clear hk); (try clear hi)) | ((with_reducible refine gate_dst (N := 12) rfl ?_); refine box_event ?hg (N := 12) ?hd (cs := #[.int .i64 0, .int .i64 0]) (t := 24) ?hr ?_; (case hd => rfl); (case hg => rfl); (case hr => first | (go_simp; done) | (go_simp; rfl)); intro gb537 hg w14 hbox hb; have BK537 := Aside0.mk (hbox); have GW537 := gww hg HB; have GE537 := gww hg HB; have NB533_537 := nbl hg BK533; have NB537_533 := nbr hg BK533; replace BK533 := bkb BK533 hb; replace HB := blw HB hb; clear hb hbox hg; have hnb15 := NB537_533.out; have hnc15 := NB533_537.out; have hcz16_0 : w14.cell? ⟨gb537, 0, none⟩ = some (.int .i64 0) := (blk_cell BK537.out 0).trans rfl; have hcz16_1 : w14.cell? ⟨gb537, 1, none⟩ = some (.int .i64 0) := (blk_cell BK537.out 1).trans rfl; have hfz16_0 := blk_frozen BK537.out 0; have hfz16_1 := blk_frozen BK537.out 1))
  (try simp only [Act.put, List.setIfInBounds_toArray, List.set_cons_zero, List.set_cons_succ])
  go_cut [48] (fun v48 wc => ∃ (kq : Nat) (x48_8 : Bool), v48 = .bool x48_8 ∧ Aside0 (timeboundlaw31_FractionLimits.j0 kq (wrap64 (1 + t527)) (wrap64 (1 + t528)) x48_8 t530 t531 t534 t535 = some r) ∧ Aside0 (kq ≤ k) ∧ Aside0 (wc.heap[gb533]? = some (.cells #[.int .i64 t530, .int .i64 t531] 24 (0, 0))) ∧ Aside0 (wc.heap[gb537]? = some (.cells #[.int .i64 t534, .int .i64 t535] 24 (0, 0))) ∧ Aside0 (Below w.heap.size w wc))
  case first =>
    have H := HC9.out
    clear HC9
    by_cases c17 : t532 = 0
    · rw [if_pos c17] at H
      have c17b0 : (t532 == 0) = true := beq_iff_eq.mpr c17
      have c17b1 : (t532 != 0) = false := bne_eq_false_iff_eq.mpr c17
      clear c17
      (first | rw [c17b0] | (simp only [i64_w, i32_w]; rw [c17b0]) | skip)
      have H' := Aside0.mk H
      clear H
      go_wp2
      go_meet
      case rel => exact ⟨_, ((t536 != 0)), (by first | rfl | (simp; done) | (simp [*]; done)), H', ⟨by first | omega | exact Nat.le_refl _⟩, ⟨by (with_reducible repeat (first | refine blk_drewN ?_ _ | refine blk_drew ?_ | refine blk_alloc ?_ _)); refine blk_far ?_ NB533_537.out _; (with_reducible repeat (first | refine blk_drewN ?_ _ | refine blk_drew ?_ | refine blk_alloc ?_ _)); refine blk_far ?_ NB533_537.out _; (with_reducible repeat (first | refine blk_drewN ?_ _ | refine blk_drew ?_ | refine blk_alloc ?_ _)); exact BK533.out⟩, ⟨by (with_reducible repeat (first | refine blk_drewN ?_ _ | refine blk_drew ?_ | refine blk_alloc ?_ _)); refine blk_put (cs := #[.int .i64 t534, .int .i64 0]) ?_ 1 _ rfl; (with_reducible repeat (first | refine blk_drewN ?_ _ | refine blk_drew ?_ | refine blk_alloc ?_ _)); refine blk_put (cs := #[.int .i64 0, .int .i64 0]) ?_ 0 _ rfl; (with_reducible repeat (first | refine blk_drewN ?_ _ | refine blk_drew ?_ | refine blk_alloc ?_ _)); exact BK537.out⟩, ⟨by repeat (first | (with_reducible first | exact HB.out | apply below_alloc | apply pw_below_drewN | apply below_drew1 | refine below_set ?_ GE533.out | refine below_set ?_ GE537.out) | exact HB.out)⟩⟩
    · rw [if_neg c17] at H
      have c17b0 : (t532 == 0) = false := beq_eq_false_iff_ne.mpr c17
      have c17b1 : (t532 != 0) = true := bne_iff_ne.mpr c17
      (first | rw [c17b0] | (simp only [i64_w, i32_w]; rw [c17b0]) | skip)
      have H' := Aside0.mk H
      clear H
      go_wp2
      go_meet
      case rel => exact ⟨_, (true), (by first | rfl | (simp; done) | (simp [*]; done)), H', ⟨by first | omega | exact Nat.le_refl _⟩, ⟨by (with_reducible repeat (first | refine blk_drewN ?_ _ | refine blk_drew ?_ | refine blk_alloc ?_ _)); refine blk_far ?_ NB533_537.out _; (with_reducible repeat (first | refine blk_drewN ?_ _ | refine blk_drew ?_ | refine blk_alloc ?_ _)); refine blk_far ?_ NB533_537.out _; (with_reducible repeat (first | refine blk_drewN ?_ _ | refine blk_drew ?_ | refine blk_alloc ?_ _)); exact BK533.out⟩, ⟨by (with_reducible repeat (first | refine blk_drewN ?_ _ | refine blk_drew ?_ | refine blk_alloc ?_ _)); refine blk_put (cs := #[.int .i64 t534, .int .i64 0]) ?_ 1 _ rfl; (with_reducible repeat (first | refine blk_drewN ?_ _ | refine blk_drew ?_ | refine blk_alloc ?_ _)); refine blk_put (cs := #[.int .i64 0, .int .i64 0]) ?_ 0 _ rfl; (with_reducible repeat (first | refine blk_drewN ?_ _ | refine blk_drew ?_ | refine blk_alloc ?_ _)); exact BK537.out⟩, ⟨by repeat (first | (with_reducible first | exact HB.out | apply below_alloc | apply pw_below_drewN | apply below_drew1 | refine below_set ?_ GE533.out | refine below_set ?_ GE537.out) | exact HB.out)⟩⟩
  case rest =>
    clear HC9
    try clear c1
    try clear p2
    try clear p6
    try clear c7
    try clear c14
    try clear c15
    try clear c17
    try clear c17b0
    try clear c17b1
    try clear hcz12_0
    try clear hcz12_1
    try clear hcz16_0
    try clear hcz16_1
    try clear hfz12_0
    try clear hfz12_1
    try clear hfz16_0
    try clear hfz16_1
    obtain ⟨kq, x48_8, rfl, HA, HJ8, BK533, BK537, HB⟩ := hcut
    cases kq with
    | zero => exact absurd HA.out (by simp [timeboundlaw31_FractionLimits.j0])
    | succ kj8 =>
      have H := HA.out
      clear HA
      simp only [timeboundlaw31_FractionLimits.j0] at H
      by_cases c18 : x48_8 = true
      · subst c18
        have H1 : (some false) = some r := by rw [if_pos rfl] at H; exact H
        clear H
        have H := H1
        clear H1
        exact absurd (H.trans (congrArg some hr_)) (by simp)
      · replace c18 := Bool.eq_false_iff.mpr c18
        subst c18
        have H1 : ((fraction_Mul.f kj8 t530 t531 t534 t535).bind fun bt538 => ((timeboundref31_Make.f kj8 (wrap64 (1 + t528)) (wrap64 (1 + t527))).bind fun bt542 => ((fraction_Div.f kj8 t530 t531 t530 t531).bind fun bt546 => ((fraction_Sub.f kj8 t530 t531 t530 t531).bind fun bt550 => (if bt538.2.2 = 0 then (if bt542.2.2 = 0 then (if (bt538.1 == bt542.1 && (bt538.2.1 == bt542.2.1)) = true then (if bt546.2.2 = 0 then (if (bt546.1 == 1 && (bt546.2.1 == 1)) = true then (if bt550.2.2 = 0 then (if (bt550.1 == 0 && (bt550.2.1 == 1)) = true then ((timeboundlaw31_awake.f kj8).bind fun t554 => (some t554)) else (some false)) else (some false)) else (some false)) else (some false)) else (some false)) else (some false)) else (some false)))))) = some r := by rw [if_neg (show ¬ (false = true) by decide)] at H; exact H
        clear H
        have H := H1
        clear H1
        replace H := Option.bind_eq_some_iff.mp H
        obtain ⟨⟨t538, t539, t540⟩, A190, H⟩ := H
        replace H : ((timeboundref31_Make.f kj8 (wrap64 (1 + t528)) (wrap64 (1 + t527))).bind fun bt542 => ((fraction_Div.f kj8 t530 t531 t530 t531).bind fun bt546 => ((fraction_Sub.f kj8 t530 t531 t530 t531).bind fun bt550 => (if t540 = 0 then (if bt542.2.2 = 0 then (if (t538 == bt542.1 && (t539 == bt542.2.1)) = true then (if bt546.2.2 = 0 then (if (bt546.1 == 1 && (bt546.2.1 == 1)) = true then (if bt550.2.2 = 0 then (if (bt550.1 == 0 && (bt550.2.1 == 1)) = true then ((timeboundlaw31_awake.f kj8).bind fun t554 => (some t554)) else (some false)) else (some false)) else (some false)) else (some false)) else (some false)) else (some false)) else (some false))))) = some r := H
        have A19 := Aside0.mk A190
        clear A190
        replace H := Option.bind_eq_some_iff.mp H
        obtain ⟨⟨t542, t543, t544⟩, A200, H⟩ := H
        replace H : ((fraction_Div.f kj8 t530 t531 t530 t531).bind fun bt546 => ((fraction_Sub.f kj8 t530 t531 t530 t531).bind fun bt550 => (if t540 = 0 then (if t544 = 0 then (if (t538 == t542 && (t539 == t543)) = true then (if bt546.2.2 = 0 then (if (bt546.1 == 1 && (bt546.2.1 == 1)) = true then (if bt550.2.2 = 0 then (if (bt550.1 == 0 && (bt550.2.1 == 1)) = true then ((timeboundlaw31_awake.f kj8).bind fun t554 => (some t554)) else (some false)) else (some false)) else (some false)) else (some false)) else (some false)) else (some false)) else (some false)))) = some r := H
        have A20 := Aside0.mk A200
        clear A200
        replace H := Option.bind_eq_some_iff.mp H
        obtain ⟨⟨t546, t547, t548⟩, A210, H⟩ := H
        replace H : ((fraction_Sub.f kj8 t530 t531 t530 t531).bind fun bt550 => (if t540 = 0 then (if t544 = 0 then (if (t538 == t542 && (t539 == t543)) = true then (if t548 = 0 then (if (t546 == 1 && (t547 == 1)) = true then (if bt550.2.2 = 0 then (if (bt550.1 == 0 && (bt550.2.1 == 1)) = true then ((timeboundlaw31_awake.f kj8).bind fun t554 => (some t554)) else (some false)) else (some false)) else (some false)) else (some false)) else (some false)) else (some false)) else (some false))) = some r := H
        have A21 := Aside0.mk A210
        clear A210
        replace H := Option.bind_eq_some_iff.mp H
        obtain ⟨⟨t550, t551, t552⟩, A220, H⟩ := H
        replace H : (if t540 = 0 then (if t544 = 0 then (if (t538 == t542 && (t539 == t543)) = true then (if t548 = 0 then (if (t546 == 1 && (t547 == 1)) = true then (if t552 = 0 then (if (t550 == 0 && (t551 == 1)) = true then ((timeboundlaw31_awake.f kj8).bind fun t554 => (some t554)) else (some false)) else (some false)) else (some false)) else (some false)) else (some false)) else (some false)) else (some false)) = some r := H
        have A22 := Aside0.mk A220
        clear A220
        by_cases c23 : t540 = 0
        · rw [if_pos c23] at H
          have c23b0 : (t540 == 0) = true := beq_iff_eq.mpr c23
          have c23b1 : (t540 != 0) = false := bne_eq_false_iff_eq.mpr c23
          clear c23
          by_cases c24 : t544 = 0
          · rw [if_pos c24] at H
            have c24b0 : (t544 == 0) = true := beq_iff_eq.mpr c24
            have c24b1 : (t544 != 0) = false := bne_eq_false_iff_eq.mpr c24
            clear c24
            by_cases c25 : (t538 == t542 && (t539 == t543)) = true
            · rw [if_pos c25] at H
              have c25b0 : (t538 == t542 && (t539 == t543)) = true := c25
              (try (have c25b1 : decide (t538 = t542 && (t539 == t543)) = true := by simpa using c25))
              (try (have c25b2 : (t538 == t542 && (t539 == t543)) = true := by simpa using c25))
              clear c25
              by_cases c26 : t548 = 0
              · rw [if_pos c26] at H
                have c26b0 : (t548 == 0) = true := beq_iff_eq.mpr c26
                have c26b1 : (t548 != 0) = false := bne_eq_false_iff_eq.mpr c26
                clear c26
                by_cases c27 : (t546 == 1 && (t547 == 1)) = true
                · rw [if_pos c27] at H
                  have c27b0 : (t546 == 1 && (t547 == 1)) = true := c27
                  (try (have c27b1 : decide (t546 = 1 && (t547 == 1)) = true := by simpa using c27))
                  (try (have c27b2 : (t546 == 1 && (t547 == 1)) = true := by simpa using c27))
                  clear c27
                  by_cases c28 : t552 = 0
                  · rw [if_pos c28] at H
                    have c28b0 : (t552 == 0) = true := beq_iff_eq.mpr c28
                    have c28b1 : (t552 != 0) = false := bne_eq_false_iff_eq.mpr c28
                    clear c28
                    by_cases c29 : (t550 == 0 && (t551 == 1)) = true
                    · rw [if_pos c29] at H
                      have c29b0 : (t550 == 0 && (t551 == 1)) = true := c29
                      (try (have c29b1 : decide (t550 = 0 && (t551 == 1)) = true := by simpa using c29))
                      (try (have c29b2 : (t550 == 0 && (t551 == 1)) = true := by simpa using c29))
                      clear c29
                      replace H := Option.bind_eq_some_iff.mp H
                      obtain ⟨t554, A300, H⟩ := H
                      replace H : (some t554) = some r := H
                      have A30 := Aside0.mk A300
                      clear A300
                      obtain rfl := Option.some.inj H
                      have hnb31 := NB533_537.out
                      have hnc31 := NB537_533.out
                      have hcz32_0 : wc.cell? ⟨gb533, 0, none⟩ = some (.int .i64 t530) := (blk_cell BK533.out 0).trans rfl
                      have hcz32_1 : wc.cell? ⟨gb533, 1, none⟩ = some (.int .i64 t531) := (blk_cell BK533.out 1).trans rfl
                      have hfz32_0 := blk_frozen BK533.out 0
                      have hfz32_1 := blk_frozen BK533.out 1
                      have hcz33_0 : wc.cell? ⟨gb537, 0, none⟩ = some (.int .i64 t534) := (blk_cell BK537.out 0).trans rfl
                      have hcz33_1 : wc.cell? ⟨gb537, 1, none⟩ = some (.int .i64 t535) := (blk_cell BK537.out 1).trans rfl
                      have hfz33_0 := blk_frozen BK537.out 0
                      have hfz33_1 := blk_frozen BK537.out 1
                      go_wp2_with (first | ((with_reducible refine gate_callee (f := 35) rfl ?_); refine goesL_ (some 52) rfl rfl Try.func35 (by kernel_rfl) rfl #[.agg #[.int .i64 t530, .int .i64 t531], .agg #[.int .i64 t534, .int .i64 t535]] rfl (by (try simp only [List.map_toArray, List.map_cons, List.map_nil]); first | done | rfl | (simp only [List.length_drop, List.length_take]; rfl)) ?_; (with_reducible refine (fraction_Mul.calls kj8 t530 t531 t534 t535 t538 t539 t540 _ A19.out).mono ?_); rintro e w34 ⟨rfl, hb⟩; refine ⟨_, rfl, ?_⟩; replace BK533 := bkb BK533 hb; replace BK537 := bkb BK537 hb; replace HB := blw HB hb; (try clear hb); (try clear hb2); (try clear hk); (try clear hi)) | ((with_reducible refine gate_dst (N := 14) rfl ?_); refine box_event ?hg (N := 14) ?hd (cs := #[.int .i64 0, .int .i64 0]) (t := 24) ?hr ?_; (case hd => rfl); (case hg => rfl); (case hr => first | (go_simp; done) | (go_simp; rfl)); intro gb541 hg w35 hbox hb; have BK541 := Aside0.mk (hbox); have GW541 := gww hg HB; have GE541 := gww hg HB; have NB533_541 := nbl hg BK533; have NB541_533 := nbr hg BK533; have NB537_541 := nbl hg BK537; have NB541_537 := nbr hg BK537; replace BK533 := bkb BK533 hb; replace BK537 := bkb BK537 hb; replace HB := blw HB hb; clear hb hbox hg; have hnb36 := NB541_533.out; have hnc36 := NB533_541.out; have hnb37 := NB541_537.out; have hnc37 := NB537_541.out; have hcz38_0 : w35.cell? ⟨gb541, 0, none⟩ = some (.int .i64 0) := (blk_cell BK541.out 0).trans rfl; have hcz38_1 : w35.cell? ⟨gb541, 1, none⟩ = some (.int .i64 0) := (blk_cell BK541.out 1).trans rfl; have hfz38_0 := blk_frozen BK541.out 0; have hfz38_1 := blk_frozen BK541.out 1) | ((with_reducible refine gate_callee (f := 36) rfl ?_); refine goesL_ (some 58) rfl rfl Try.func36 (by kernel_rfl) rfl #[.int .i64 (wrap64 (1 + t528)), .int .i64 (wrap64 (1 + t527))] rfl (by (try simp only [List.map_toArray, List.map_cons, List.map_nil]); first | done | rfl | (simp only [List.length_drop, List.length_take]; rfl)) ?_; (with_reducible refine (timeboundref31_Make.calls kj8 (wrap64 (1 + t528)) (wrap64 (1 + t527)) t542 t543 t544 _ A20.out).mono ?_); rintro e w39 ⟨rfl, hb⟩; refine ⟨_, rfl, ?_⟩; replace BK533 := Aside0.mk (blk_below (g := gb533) (o := .cells #[.int .i64 t530, .int .i64 t531] 24 (0, 0)) (by (with_reducible repeat (first | refine blk_drewN ?_ _ | refine blk_drew ?_ | refine blk_alloc ?_ _)); refine blk_far ?_ NB533_541.out _; (with_reducible repeat (first | refine blk_drewN ?_ _ | refine blk_drew ?_ | refine blk_alloc ?_ _)); refine blk_far ?_ NB533_541.out _; (with_reducible repeat (first | refine blk_drewN ?_ _ | refine blk_drew ?_ | refine blk_alloc ?_ _)); exact BK533.out) hb); replace BK537 := Aside0.mk (blk_below (g := gb537) (o := .cells #[.int .i64 t534, .int .i64 t535] 24 (0, 0)) (by (with_reducible repeat (first | refine blk_drewN ?_ _ | refine blk_drew ?_ | refine blk_alloc ?_ _)); refine blk_far ?_ NB537_541.out _; (with_reducible repeat (first | refine blk_drewN ?_ _ | refine blk_drew ?_ | refine blk_alloc ?_ _)); refine blk_far ?_ NB537_541.out _; (with_reducible repeat (first | refine blk_drewN ?_ _ | refine blk_drew ?_ | refine blk_alloc ?_ _)); exact BK537.out) hb); replace BK541 := Aside0.mk (blk_below (g := gb541) (o := .cells #[.int .i64 t538, .int .i64 t539] 24 (0, 0)) (by (with_reducible repeat (first | refine blk_drewN ?_ _ | refine blk_drew ?_ | refine blk_alloc ?_ _)); refine blk_put (cs := #[.int .i64 t538, .int .i64 0]) ?_ 1 _ rfl; (with_reducible repeat (first | refine blk_drewN ?_ _ | refine blk_drew ?_ | refine blk_alloc ?_ _)); refine blk_put (cs := #[.int .i64 0, .int .i64 0]) ?_ 0 _ rfl; (with_reducible repeat (first | refine blk_drewN ?_ _ | refine blk_drew ?_ | refine blk_alloc ?_ _)); exact BK541.out) hb); replace HB := Aside0.mk (below_step (by repeat (first | (with_reducible first | exact HB.out | apply below_alloc | apply pw_below_drewN | apply below_drew1 | refine below_set ?_ GE533.out | refine below_set ?_ GE537.out | refine below_set ?_ GE541.out) | exact HB.out)) hb); (try clear hb); (try clear hb2); (try clear hk); (try clear hi)) | ((with_reducible refine gate_dst (N := 16) rfl ?_); refine box_event ?hg (N := 16) ?hd (cs := #[.int .i64 0, .int .i64 0]) (t := 24) ?hr ?_; (case hd => rfl); (case hg => rfl); (case hr => first | (go_simp; done) | (go_simp; rfl)); intro gb545 hg w40 hbox hb; have BK545 := Aside0.mk (hbox); have GW545 := gww hg HB; have GE545 := gww hg HB; have NB533_545 := nbl hg BK533; have NB545_533 := nbr hg BK533; have NB537_545 := nbl hg BK537; have NB545_537 := nbr hg BK537; have NB541_545 := nbl hg BK541; have NB545_541 := nbr hg BK541; replace BK533 := bkb BK533 hb; replace BK537 := bkb BK537 hb; replace BK541 := bkb BK541 hb; replace HB := blw HB hb; clear hb hbox hg; have hnb41 := NB545_533.out; have hnc41 := NB533_545.out; have hnb42 := NB545_537.out; have hnc42 := NB537_545.out; have hnb43 := NB545_541.out; have hnc43 := NB541_545.out; have hcz44_0 : w40.cell? ⟨gb545, 0, none⟩ = some (.int .i64 0) := (blk_cell BK545.out 0).trans rfl; have hcz44_1 : w40.cell? ⟨gb545, 1, none⟩ = some (.int .i64 0) := (blk_cell BK545.out 1).trans rfl; have hfz44_0 := blk_frozen BK545.out 0; have hfz44_1 := blk_frozen BK545.out 1; have hcz45_0 : w40.cell? ⟨gb533, 0, none⟩ = some (.int .i64 t530) := (blk_cell BK533.out 0).trans rfl; have hcz45_1 : w40.cell? ⟨gb533, 1, none⟩ = some (.int .i64 t531) := (blk_cell BK533.out 1).trans rfl; have hfz45_0 := blk_frozen BK533.out 0; have hfz45_1 := blk_frozen BK533.out 1) | ((with_reducible refine gate_callee (f := 37) rfl ?_); refine goesL_ (some 64) rfl rfl Try.func37 (by kernel_rfl) rfl #[.agg #[.int .i64 t530, .int .i64 t531], .agg #[.int .i64 t530, .int .i64 t531]] rfl (by (try simp only [List.map_toArray, List.map_cons, List.map_nil]); first | done | rfl | (simp only [List.length_drop, List.length_take]; rfl)) ?_; (with_reducible refine (fraction_Div.calls kj8 t530 t531 t530 t531 t546 t547 t548 _ A21.out).mono ?_); rintro e w46 ⟨rfl, hb⟩; refine ⟨_, rfl, ?_⟩; replace BK533 := Aside0.mk (blk_below (g := gb533) (o := .cells #[.int .i64 t530, .int .i64 t531] 24 (0, 0)) (by (with_reducible repeat (first | refine blk_drewN ?_ _ | refine blk_drew ?_ | refine blk_alloc ?_ _)); refine blk_far ?_ NB533_545.out _; (with_reducible repeat (first | refine blk_drewN ?_ _ | refine blk_drew ?_ | refine blk_alloc ?_ _)); refine blk_far ?_ NB533_545.out _; (with_reducible repeat (first | refine blk_drewN ?_ _ | refine blk_drew ?_ | refine blk_alloc ?_ _)); exact BK533.out) hb); replace BK537 := Aside0.mk (blk_below (g := gb537) (o := .cells #[.int .i64 t534, .int .i64 t535] 24 (0, 0)) (by (with_reducible repeat (first | refine blk_drewN ?_ _ | refine blk_drew ?_ | refine blk_alloc ?_ _)); refine blk_far ?_ NB537_545.out _; (with_reducible repeat (first | refine blk_drewN ?_ _ | refine blk_drew ?_ | refine blk_alloc ?_ _)); refine blk_far ?_ NB537_545.out _; (with_reducible repeat (first | refine blk_drewN ?_ _ | refine blk_drew ?_ | refine blk_alloc ?_ _)); exact BK537.out) hb); replace BK541 := Aside0.mk (blk_below (g := gb541) (o := .cells #[.int .i64 t538, .int .i64 t539] 24 (0, 0)) (by (with_reducible repeat (first | refine blk_drewN ?_ _ | refine blk_drew ?_ | refine blk_alloc ?_ _)); refine blk_far ?_ NB541_545.out _; (with_reducible repeat (first | refine blk_drewN ?_ _ | refine blk_drew ?_ | refine blk_alloc ?_ _)); refine blk_far ?_ NB541_545.out _; (with_reducible repeat (first | refine blk_drewN ?_ _ | refine blk_drew ?_ | refine blk_alloc ?_ _)); exact BK541.out) hb); replace BK545 := Aside0.mk (blk_below (g := gb545) (o := .cells #[.int .i64 t542, .int .i64 t543] 24 (0, 0)) (by (with_reducible repeat (first | refine blk_drewN ?_ _ | refine blk_drew ?_ | refine blk_alloc ?_ _)); refine blk_put (cs := #[.int .i64 t542, .int .i64 0]) ?_ 1 _ rfl; (with_reducible repeat (first | refine blk_drewN ?_ _ | refine blk_drew ?_ | refine blk_alloc ?_ _)); refine blk_put (cs := #[.int .i64 0, .int .i64 0]) ?_ 0 _ rfl; (with_reducible repeat (first | refine blk_drewN ?_ _ | refine blk_drew ?_ | refine blk_alloc ?_ _)); exact BK545.out) hb); replace HB := Aside0.mk (below_step (by repeat (first | (with_reducible first | exact HB.out | apply below_alloc | apply pw_below_drewN | apply below_drew1 | refine below_set ?_ GE533.out | refine below_set ?_ GE537.out | refine below_set ?_ GE541.out | refine below_set ?_ GE545.out) | exact HB.out)) hb); (try clear hb); (try clear hb2); (try clear hk); (try clear hi)) | ((with_reducible refine gate_dst (N := 18) rfl ?_); refine box_event ?hg (N := 18) ?hd (cs := #[.int .i64 0, .int .i64 0]) (t := 24) ?hr ?_; (case hd => rfl); (case hg => rfl); (case hr => first | (go_simp; done) | (go_simp; rfl)); intro gb549 hg w47 hbox hb; have BK549 := Aside0.mk (hbox); have GW549 := gww hg HB; have GE549 := gww hg HB; have NB533_549 := nbl hg BK533; have NB549_533 := nbr hg BK533; have NB537_549 := nbl hg BK537; have NB549_537 := nbr hg BK537; have NB541_549 := nbl hg BK541; have NB549_541 := nbr hg BK541; have NB545_549 := nbl hg BK545; have NB549_545 := nbr hg BK545; replace BK533 := bkb BK533 hb; replace BK537 := bkb BK537 hb; replace BK541 := bkb BK541 hb; replace BK545 := bkb BK545 hb; replace HB := blw HB hb; clear hb hbox hg; have hnb48 := NB549_533.out; have hnc48 := NB533_549.out; have hnb49 := NB549_537.out; have hnc49 := NB537_549.out; have hnb50 := NB549_541.out; have hnc50 := NB541_549.out; have hnb51 := NB549_545.out; have hnc51 := NB545_549.out; have hcz52_0 : w47.cell? ⟨gb549, 0, none⟩ = some (.int .i64 0) := (blk_cell BK549.out 0).trans rfl; have hcz52_1 : w47.cell? ⟨gb549, 1, none⟩ = some (.int .i64 0) := (blk_cell BK549.out 1).trans rfl; have hfz52_0 := blk_frozen BK549.out 0; have hfz52_1 := blk_frozen BK549.out 1; have hcz53_0 : w47.cell? ⟨gb533, 0, none⟩ = some (.int .i64 t530) := (blk_cell BK533.out 0).trans rfl; have hcz53_1 : w47.cell? ⟨gb533, 1, none⟩ = some (.int .i64 t531) := (blk_cell BK533.out 1).trans rfl; have hfz53_0 := blk_frozen BK533.out 0; have hfz53_1 := blk_frozen BK533.out 1) | ((with_reducible refine gate_callee (f := 38) rfl ?_); refine goesL_ (some 70) rfl rfl Try.func38 (by kernel_rfl) rfl #[.agg #[.int .i64 t530, .int .i64 t531], .agg #[.int .i64 t530, .int .i64 t531]] rfl (by (try simp only [List.map_toArray, List.map_cons, List.map_nil]); first | done | rfl | (simp only [List.length_drop, List.length_take]; rfl)) ?_; (with_reducible refine (fraction_Sub.calls kj8 t530 t531 t530 t531 t550 t551 t552 _ A22.out).mono ?_); rintro e w54 ⟨rfl, hb⟩; refine ⟨_, rfl, ?_⟩; replace BK533 := Aside0.mk (blk_below (g := gb533) (o := .cells #[.int .i64 t530, .int .i64 t531] 24 (0, 0)) (by (with_reducible repeat (first | refine blk_drewN ?_ _ | refine blk_drew ?_ | refine blk_alloc ?_ _)); refine blk_far ?_ NB533_549.out _; (with_reducible repeat (first | refine blk_drewN ?_ _ | refine blk_drew ?_ | refine blk_alloc ?_ _)); refine blk_far ?_ NB533_549.out _; (with_reducible repeat (first | refine blk_drewN ?_ _ | refine blk_drew ?_ | refine blk_alloc ?_ _)); exact BK533.out) hb); replace BK537 := Aside0.mk (blk_below (g := gb537) (o := .cells #[.int .i64 t534, .int .i64 t535] 24 (0, 0)) (by (with_reducible repeat (first | refine blk_drewN ?_ _ | refine blk_drew ?_ | refine blk_alloc ?_ _)); refine blk_far ?_ NB537_549.out _; (with_reducible repeat (first | refine blk_drewN ?_ _ | refine blk_drew ?_ | refine blk_alloc ?_ _)); refine blk_far ?_ NB537_549.out _; (with_reducible repeat (first | refine blk_drewN ?_ _ | refine blk_drew ?_ | refine blk_alloc ?_ _)); exact BK537.out) hb); replace BK541 := Aside0.mk (blk_below (g := gb541) (o := .cells #[.int .i64 t538, .int .i64 t539] 24 (0, 0)) (by (with_reducible repeat (first | refine blk_drewN ?_ _ | refine blk_drew ?_ | refine blk_alloc ?_ _)); refine blk_far ?_ NB541_549.out _; (with_reducible repeat (first | refine blk_drewN ?_ _ | refine blk_drew ?_ | refine blk_alloc ?_ _)); refine blk_far ?_ NB541_549.out _; (with_reducible repeat (first | refine blk_drewN ?_ _ | refine blk_drew ?_ | refine blk_alloc ?_ _)); exact BK541.out) hb); replace BK545 := Aside0.mk (blk_below (g := gb545) (o := .cells #[.int .i64 t542, .int .i64 t543] 24 (0, 0)) (by (with_reducible repeat (first | refine blk_drewN ?_ _ | refine blk_drew ?_ | refine blk_alloc ?_ _)); refine blk_far ?_ NB545_549.out _; (with_reducible repeat (first | refine blk_drewN ?_ _ | refine blk_drew ?_ | refine blk_alloc ?_ _)); refine blk_far ?_ NB545_549.out _; (with_reducible repeat (first | refine blk_drewN ?_ _ | refine blk_drew ?_ | refine blk_alloc ?_ _)); exact BK545.out) hb); replace BK549 := Aside0.mk (blk_below (g := gb549) (o := .cells #[.int .i64 t546, .int .i64 t547] 24 (0, 0)) (by (with_reducible repeat (first | refine blk_drewN ?_ _ | refine blk_drew ?_ | refine blk_alloc ?_ _)); refine blk_put (cs := #[.int .i64 t546, .int .i64 0]) ?_ 1 _ rfl; (with_reducible repeat (first | refine blk_drewN ?_ _ | refine blk_drew ?_ | refine blk_alloc ?_ _)); refine blk_put (cs := #[.int .i64 0, .int .i64 0]) ?_ 0 _ rfl; (with_reducible repeat (first | refine blk_drewN ?_ _ | refine blk_drew ?_ | refine blk_alloc ?_ _)); exact BK549.out) hb); replace HB := Aside0.mk (below_step (by repeat (first | (with_reducible first | exact HB.out | apply below_alloc | apply pw_below_drewN | apply below_drew1 | refine below_set ?_ GE533.out | refine below_set ?_ GE537.out | refine below_set ?_ GE541.out | refine below_set ?_ GE545.out | refine below_set ?_ GE549.out) | exact HB.out)) hb); (try clear hb); (try clear hb2); (try clear hk); (try clear hi)) | ((with_reducible refine gate_dst (N := 20) rfl ?_); refine box_event ?hg (N := 20) ?hd (cs := #[.int .i64 0, .int .i64 0]) (t := 24) ?hr ?_; (case hd => rfl); (case hg => rfl); (case hr => first | (go_simp; done) | (go_simp; rfl)); intro gb553 hg w55 hbox hb; have BK553 := Aside0.mk (hbox); have GW553 := Aside0.mk ((by rw [hg]; exact (below_size (by repeat (first | (with_reducible first | exact HB.out | apply below_alloc | apply pw_below_drewN | apply below_drew1 | refine below_set ?_ GE533.out | refine below_set ?_ GE537.out | refine below_set ?_ GE541.out | refine below_set ?_ GE545.out | refine below_set ?_ GE549.out) | exact HB.out))) : w.heap.size ≤ gb553)); have GE553 := Aside0.mk ((by rw [hg]; exact (below_size (by repeat (first | (with_reducible first | exact HB.out | apply below_alloc | apply pw_below_drewN | apply below_drew1 | refine below_set ?_ GE533.out | refine below_set ?_ GE537.out | refine below_set ?_ GE541.out | refine below_set ?_ GE545.out | refine below_set ?_ GE549.out) | exact HB.out))) : w.heap.size ≤ gb553)); have NB533_553 := nbl hg BK533; have NB553_533 := nbr hg BK533; have NB537_553 := nbl hg BK537; have NB553_537 := nbr hg BK537; have NB541_553 := nbl hg BK541; have NB553_541 := nbr hg BK541; have NB545_553 := nbl hg BK545; have NB553_545 := nbr hg BK545; have NB549_553 := nbl hg BK549; have NB553_549 := nbr hg BK549; replace BK533 := bkb BK533 hb; replace BK537 := bkb BK537 hb; replace BK541 := bkb BK541 hb; replace BK545 := bkb BK545 hb; replace BK549 := bkb BK549 hb; replace HB := Aside0.mk (below_step (by repeat (first | (with_reducible first | exact HB.out | apply below_alloc | apply pw_below_drewN | apply below_drew1 | refine below_set ?_ GE533.out | refine below_set ?_ GE537.out | refine below_set ?_ GE541.out | refine below_set ?_ GE545.out | refine below_set ?_ GE549.out) | exact HB.out)) hb); clear hb hbox hg; have hnb56 := NB553_533.out; have hnc56 := NB533_553.out; have hnb57 := NB553_537.out; have hnc57 := NB537_553.out; have hnb58 := NB553_541.out; have hnc58 := NB541_553.out; have hnb59 := NB553_545.out; have hnc59 := NB545_553.out; have hnb60 := NB553_549.out; have hnc60 := NB549_553.out; have hcz61_0 : w55.cell? ⟨gb553, 0, none⟩ = some (.int .i64 0) := (blk_cell BK553.out 0).trans rfl; have hcz61_1 : w55.cell? ⟨gb553, 1, none⟩ = some (.int .i64 0) := (blk_cell BK553.out 1).trans rfl; have hfz61_0 := blk_frozen BK553.out 0; have hfz61_1 := blk_frozen BK553.out 1; have hcz62_0 : w55.cell? ⟨gb541, 0, none⟩ = some (.int .i64 t538) := (blk_cell BK541.out 0).trans rfl; have hcz62_1 : w55.cell? ⟨gb541, 1, none⟩ = some (.int .i64 t539) := (blk_cell BK541.out 1).trans rfl; have hfz62_0 := blk_frozen BK541.out 0; have hfz62_1 := blk_frozen BK541.out 1; have hcz63_0 : w55.cell? ⟨gb545, 0, none⟩ = some (.int .i64 t542) := (blk_cell BK545.out 0).trans rfl; have hcz63_1 : w55.cell? ⟨gb545, 1, none⟩ = some (.int .i64 t543) := (blk_cell BK545.out 1).trans rfl; have hfz63_0 := blk_frozen BK545.out 0; have hfz63_1 := blk_frozen BK545.out 1; have hcz64_0 : w55.cell? ⟨gb549, 0, none⟩ = some (.int .i64 t546) := (blk_cell BK549.out 0).trans rfl; have hcz64_1 : w55.cell? ⟨gb549, 1, none⟩ = some (.int .i64 t547) := (blk_cell BK549.out 1).trans rfl; have hfz64_0 := blk_frozen BK549.out 0; have hfz64_1 := blk_frozen BK549.out 1) | (go_at_call 17; (with_reducible refine (timeboundlaw31_awake.calls kj8  t554 _ A30.out).mono ?_); rintro e w65 ⟨rfl, hb⟩; replace BK533 := Aside0.mk (blk_below (g := gb533) (o := .cells #[.int .i64 t530, .int .i64 t531] 24 (0, 0)) (by (with_reducible repeat (first | refine blk_drewN ?_ _ | refine blk_drew ?_ | refine blk_alloc ?_ _)); refine blk_far ?_ NB533_553.out _; (with_reducible repeat (first | refine blk_drewN ?_ _ | refine blk_drew ?_ | refine blk_alloc ?_ _)); refine blk_far ?_ NB533_553.out _; (with_reducible repeat (first | refine blk_drewN ?_ _ | refine blk_drew ?_ | refine blk_alloc ?_ _)); exact BK533.out) hb); replace BK537 := Aside0.mk (blk_below (g := gb537) (o := .cells #[.int .i64 t534, .int .i64 t535] 24 (0, 0)) (by (with_reducible repeat (first | refine blk_drewN ?_ _ | refine blk_drew ?_ | refine blk_alloc ?_ _)); refine blk_far ?_ NB537_553.out _; (with_reducible repeat (first | refine blk_drewN ?_ _ | refine blk_drew ?_ | refine blk_alloc ?_ _)); refine blk_far ?_ NB537_553.out _; (with_reducible repeat (first | refine blk_drewN ?_ _ | refine blk_drew ?_ | refine blk_alloc ?_ _)); exact BK537.out) hb); replace BK541 := Aside0.mk (blk_below (g := gb541) (o := .cells #[.int .i64 t538, .int .i64 t539] 24 (0, 0)) (by (with_reducible repeat (first | refine blk_drewN ?_ _ | refine blk_drew ?_ | refine blk_alloc ?_ _)); refine blk_far ?_ NB541_553.out _; (with_reducible repeat (first | refine blk_drewN ?_ _ | refine blk_drew ?_ | refine blk_alloc ?_ _)); refine blk_far ?_ NB541_553.out _; (with_reducible repeat (first | refine blk_drewN ?_ _ | refine blk_drew ?_ | refine blk_alloc ?_ _)); exact BK541.out) hb); replace BK545 := Aside0.mk (blk_below (g := gb545) (o := .cells #[.int .i64 t542, .int .i64 t543] 24 (0, 0)) (by (with_reducible repeat (first | refine blk_drewN ?_ _ | refine blk_drew ?_ | refine blk_alloc ?_ _)); refine blk_far ?_ NB545_553.out _; (with_reducible repeat (first | refine blk_drewN ?_ _ | refine blk_drew ?_ | refine blk_alloc ?_ _)); refine blk_far ?_ NB545_553.out _; (with_reducible repeat (first | refine blk_drewN ?_ _ | refine blk_drew ?_ | refine blk_alloc ?_ _)); exact BK545.out) hb); replace BK549 := Aside0.mk (blk_below (g := gb549) (o := .cells #[.int .i64 t546, .int .i64 t547] 24 (0, 0)) (by (with_reducible repeat (first | refine blk_drewN ?_ _ | refine blk_drew ?_ | refine blk_alloc ?_ _)); refine blk_far ?_ NB549_553.out _; (with_reducible repeat (first | refine blk_drewN ?_ _ | refine blk_drew ?_ | refine blk_alloc ?_ _)); refine blk_far ?_ NB549_553.out _; (with_reducible repeat (first | refine blk_drewN ?_ _ | refine blk_drew ?_ | refine blk_alloc ?_ _)); exact BK549.out) hb); replace BK553 := Aside0.mk (blk_below (g := gb553) (o := .cells #[.int .i64 t550, .int .i64 t551] 24 (0, 0)) (by (with_reducible repeat (first | refine blk_drewN ?_ _ | refine blk_drew ?_ | refine blk_alloc ?_ _)); refine blk_put (cs := #[.int .i64 t550, .int .i64 0]) ?_ 1 _ rfl; (with_reducible repeat (first | refine blk_drewN ?_ _ | refine blk_drew ?_ | refine blk_alloc ?_ _)); refine blk_put (cs := #[.int .i64 0, .int .i64 0]) ?_ 0 _ rfl; (with_reducible repeat (first | refine blk_drewN ?_ _ | refine blk_drew ?_ | refine blk_alloc ?_ _)); exact BK553.out) hb); replace HB := Aside0.mk (below_step (by repeat (first | (with_reducible first | exact HB.out | apply below_alloc | apply pw_below_drewN | apply below_drew1 | refine below_set ?_ GE533.out | refine below_set ?_ GE537.out | refine below_set ?_ GE541.out | refine below_set ?_ GE545.out | refine below_set ?_ GE549.out | refine below_set ?_ GE553.out) | exact HB.out)) hb); (try clear hb); (try clear hb2); (try clear hk); (try clear hi)))
                      go_ret
                      exact ⟨by first | rfl | (simp [errW_none, errW_some] <;> rfl) | (simp [*, errW_none, errW_some] <;> rfl), by repeat (first | (with_reducible first | exact HB.out | apply below_alloc | apply pw_below_drewN | apply below_drew1 | refine below_set ?_ GE533.out | refine below_set ?_ GE537.out | refine below_set ?_ GE541.out | refine below_set ?_ GE545.out | refine below_set ?_ GE549.out | refine below_set ?_ GE553.out) | exact HB.out)⟩
                    · rw [if_neg c29] at H
                      have c29b0 : (t550 == 0 && (t551 == 1)) = false := by simpa using c29
                      (try (have c29b1 : decide (t550 = 0 && (t551 == 1)) = false := by simpa using c29))
                      (try (have c29b2 : (t550 == 0 && (t551 == 1)) = false := by simpa using c29))
                      (try (have c29b3 : ¬ (t550 = 0 && (t551 == 1)) := by simpa using c29))
                      clear c29
                      exact absurd (H.trans (congrArg some hr_)) (by simp)
                  · rw [if_neg c28] at H
                    have c28b0 : (t552 == 0) = false := beq_eq_false_iff_ne.mpr c28
                    have c28b1 : (t552 != 0) = true := bne_iff_ne.mpr c28
                    exact absurd (H.trans (congrArg some hr_)) (by simp)
                · rw [if_neg c27] at H
                  have c27b0 : (t546 == 1 && (t547 == 1)) = false := by simpa using c27
                  (try (have c27b1 : decide (t546 = 1 && (t547 == 1)) = false := by simpa using c27))
                  (try (have c27b2 : (t546 == 1 && (t547 == 1)) = false := by simpa using c27))
                  (try (have c27b3 : ¬ (t546 = 1 && (t547 == 1)) := by simpa using c27))
                  clear c27
                  exact absurd (H.trans (congrArg some hr_)) (by simp)
              · rw [if_neg c26] at H
                have c26b0 : (t548 == 0) = false := beq_eq_false_iff_ne.mpr c26
                have c26b1 : (t548 != 0) = true := bne_iff_ne.mpr c26
                exact absurd (H.trans (congrArg some hr_)) (by simp)
            · rw [if_neg c25] at H
              have c25b0 : (t538 == t542 && (t539 == t543)) = false := by simpa using c25
              (try (have c25b1 : decide (t538 = t542 && (t539 == t543)) = false := by simpa using c25))
              (try (have c25b2 : (t538 == t542 && (t539 == t543)) = false := by simpa using c25))
              (try (have c25b3 : ¬ (t538 = t542 && (t539 == t543)) := by simpa using c25))
              clear c25
              exact absurd (H.trans (congrArg some hr_)) (by simp)
          · rw [if_neg c24] at H
            have c24b0 : (t544 == 0) = false := beq_eq_false_iff_ne.mpr c24
            have c24b1 : (t544 != 0) = true := bne_iff_ne.mpr c24
            exact absurd (H.trans (congrArg some hr_)) (by simp)
        · rw [if_neg c23] at H
          have c23b0 : (t540 == 0) = false := beq_eq_false_iff_ne.mpr c23
          have c23b1 : (t540 != 0) = true := bne_iff_ne.mpr c23
          exact absurd (H.trans (congrArg some hr_)) (by simp)

/-- THE ONE PURE STATEMENT of timeboundlaw31_FractionLimits: yours. -/
def timeboundlaw31_FractionLimits.Pure : Prop := ∀ (a0 : Int) (a1 : Int) (a2 : Int), (Lit.int .i64 a0).wf = true → (Lit.int .i64 a1).wf = true → (Lit.int .i64 a2).wf = true → ∃ k, timeboundlaw31_FractionLimits.f k a0 a1 a2 = some true
theorem timeboundlaw31_FractionLimits.walk (P : timeboundlaw31_FractionLimits.Pure) (a0 : Int) (a1 : Int) (a2 : Int) (w : World) (w0 : (Lit.int .i64 a0).wf = true) (w1 : (Lit.int .i64 a1).wf = true) (w2 : (Lit.int .i64 a2).wf = true) :
    Calls Try.prog 7 #[.int .i64 a0, .int .i64 a1, .int .i64 a2] w fun e w' => e = .returned (.bool true) ∧ Below w.heap.size w w' := by
  obtain ⟨k, h⟩ := P a0 a1 a2 w0 w1 w2
  refine (timeboundlaw31_FractionLimits.calls k a0 a1 a2 true w rfl h).mono ?_
  rintro e w' ⟨rfl, hd⟩
  exact ⟨rfl, hd⟩

/-! ### timeboundref31_mul: function 68 -/
def timeboundref31_mul.f (a0 : Int) (a1 : Int) : Option (Int × Int) := some (IntKind.u64.wrap ((IntKind.u64.wrap ((IntKind.u64.wrap ((a0 / 4294967296) * (a1 / 4294967296))) + ((IntKind.u64.wrap ((IntKind.u64.wrap ((a0 / 4294967296) * (Go.bits .and .u64 a1 4294967295))) + ((IntKind.u64.wrap ((Go.bits .and .u64 a0 4294967295) * (Go.bits .and .u64 a1 4294967295))) / 4294967296))) / 4294967296))) + ((IntKind.u64.wrap ((IntKind.u64.wrap ((Go.bits .and .u64 a0 4294967295) * (a1 / 4294967296))) + (Go.bits .and .u64 (IntKind.u64.wrap ((IntKind.u64.wrap ((a0 / 4294967296) * (Go.bits .and .u64 a1 4294967295))) + ((IntKind.u64.wrap ((Go.bits .and .u64 a0 4294967295) * (Go.bits .and .u64 a1 4294967295))) / 4294967296))) 4294967295))) / 4294967296)), Go.bits .or .u64 (IntKind.u64.wrap ((IntKind.u64.wrap ((IntKind.u64.wrap ((Go.bits .and .u64 a0 4294967295) * (a1 / 4294967296))) + (Go.bits .and .u64 (IntKind.u64.wrap ((IntKind.u64.wrap ((a0 / 4294967296) * (Go.bits .and .u64 a1 4294967295))) + ((IntKind.u64.wrap ((Go.bits .and .u64 a0 4294967295) * (Go.bits .and .u64 a1 4294967295))) / 4294967296))) 4294967295))) * 4294967296)) (Go.bits .and .u64 (IntKind.u64.wrap ((Go.bits .and .u64 a0 4294967295) * (Go.bits .and .u64 a1 4294967295))) 4294967295))
set_option maxHeartbeats 8000000 in
set_option maxRecDepth 100000 in
theorem timeboundref31_mul.calls (a0 : Int) (a1 : Int) (r1 : Int) (r2 : Int) (w : World) (h : timeboundref31_mul.f a0 a1 = some (r1, r2)) :
    Calls Try.prog 68 #[.int .u64 a0, .int .u64 a1] w fun e w' => e = .returned (.agg #[.int .u64 r1, .int .u64 r2]) ∧ Below w.heap.size w w' := by
  have hu75 := Try.underlying75
  have HB := Aside0.mk (Below.refl w.heap.size w)
  have H : (some (IntKind.u64.wrap ((IntKind.u64.wrap ((IntKind.u64.wrap ((a0 / 4294967296) * (a1 / 4294967296))) + ((IntKind.u64.wrap ((IntKind.u64.wrap ((a0 / 4294967296) * (Go.bits .and .u64 a1 4294967295))) + ((IntKind.u64.wrap ((Go.bits .and .u64 a0 4294967295) * (Go.bits .and .u64 a1 4294967295))) / 4294967296))) / 4294967296))) + ((IntKind.u64.wrap ((IntKind.u64.wrap ((Go.bits .and .u64 a0 4294967295) * (a1 / 4294967296))) + (Go.bits .and .u64 (IntKind.u64.wrap ((IntKind.u64.wrap ((a0 / 4294967296) * (Go.bits .and .u64 a1 4294967295))) + ((IntKind.u64.wrap ((Go.bits .and .u64 a0 4294967295) * (Go.bits .and .u64 a1 4294967295))) / 4294967296))) 4294967295))) / 4294967296)), Go.bits .or .u64 (IntKind.u64.wrap ((IntKind.u64.wrap ((IntKind.u64.wrap ((Go.bits .and .u64 a0 4294967295) * (a1 / 4294967296))) + (Go.bits .and .u64 (IntKind.u64.wrap ((IntKind.u64.wrap ((a0 / 4294967296) * (Go.bits .and .u64 a1 4294967295))) + ((IntKind.u64.wrap ((Go.bits .and .u64 a0 4294967295) * (Go.bits .and .u64 a1 4294967295))) / 4294967296))) 4294967295))) * 4294967296)) (Go.bits .and .u64 (IntKind.u64.wrap ((Go.bits .and .u64 a0 4294967295) * (Go.bits .and .u64 a1 4294967295))) 4294967295))) = some (r1, r2) := h
  clear h
  simp only [Option.some.injEq, Prod.mk.injEq] at H
  obtain ⟨rfl, rfl⟩ := H
  go_enter Try.func68, Try.ntmps68
  go_wp2_with (first | ((with_reducible refine gate_dst (N := 4) rfl ?_); refine box_event ?hg (N := 4) ?hd (cs := #[.int .u64 0, .int .u64 0]) (t := 75) ?hr ?_; (case hd => rfl); (case hg => rfl); (case hr => first | (go_simp; done) | (go_simp; rfl)); intro gb555 hg w3 hbox hb; have BK555 := Aside0.mk (hbox); have GW555 := gww hg HB; have GE555 := gww hg HB; replace HB := blw HB hb; clear hb hbox hg; have hcz4_0 : w3.cell? ⟨gb555, 0, none⟩ = some (.int .u64 0) := (blk_cell BK555.out 0).trans rfl; have hcz4_1 : w3.cell? ⟨gb555, 1, none⟩ = some (.int .u64 0) := (blk_cell BK555.out 1).trans rfl; have hfz4_0 := blk_frozen BK555.out 0; have hfz4_1 := blk_frozen BK555.out 1))
  refine bodyPost_ret (results_cell_row rfl _ _ gb555 75 #[.int .u64 (IntKind.u64.wrap ((IntKind.u64.wrap ((IntKind.u64.wrap ((a0 / 4294967296) * (a1 / 4294967296))) + ((IntKind.u64.wrap ((IntKind.u64.wrap ((a0 / 4294967296) * (Go.bits .and .u64 a1 4294967295))) + ((IntKind.u64.wrap ((Go.bits .and .u64 a0 4294967295) * (Go.bits .and .u64 a1 4294967295))) / 4294967296))) / 4294967296))) + ((IntKind.u64.wrap ((IntKind.u64.wrap ((Go.bits .and .u64 a0 4294967295) * (a1 / 4294967296))) + (Go.bits .and .u64 (IntKind.u64.wrap ((IntKind.u64.wrap ((a0 / 4294967296) * (Go.bits .and .u64 a1 4294967295))) + ((IntKind.u64.wrap ((Go.bits .and .u64 a0 4294967295) * (Go.bits .and .u64 a1 4294967295))) / 4294967296))) 4294967295))) / 4294967296))), .int .u64 (Go.bits .or .u64 (IntKind.u64.wrap ((IntKind.u64.wrap ((IntKind.u64.wrap ((Go.bits .and .u64 a0 4294967295) * (a1 / 4294967296))) + (Go.bits .and .u64 (IntKind.u64.wrap ((IntKind.u64.wrap ((a0 / 4294967296) * (Go.bits .and .u64 a1 4294967295))) + ((IntKind.u64.wrap ((Go.bits .and .u64 a0 4294967295) * (Go.bits .and .u64 a1 4294967295))) / 4294967296))) 4294967295))) * 4294967296)) (Go.bits .and .u64 (IntKind.u64.wrap ((Go.bits .and .u64 a0 4294967295) * (Go.bits .and .u64 a1 4294967295))) 4294967295))] (0, 0) _ rfl (by (with_reducible repeat (first | refine blk_drewN ?_ _ | refine blk_drew ?_ | refine blk_alloc ?_ _)); refine blk_put (cs := #[.int .u64 (IntKind.u64.wrap ((IntKind.u64.wrap ((IntKind.u64.wrap ((a0 / 4294967296) * (a1 / 4294967296))) + ((IntKind.u64.wrap ((IntKind.u64.wrap ((a0 / 4294967296) * (Go.bits .and .u64 a1 4294967295))) + ((IntKind.u64.wrap ((Go.bits .and .u64 a0 4294967295) * (Go.bits .and .u64 a1 4294967295))) / 4294967296))) / 4294967296))) + ((IntKind.u64.wrap ((IntKind.u64.wrap ((Go.bits .and .u64 a0 4294967295) * (a1 / 4294967296))) + (Go.bits .and .u64 (IntKind.u64.wrap ((IntKind.u64.wrap ((a0 / 4294967296) * (Go.bits .and .u64 a1 4294967295))) + ((IntKind.u64.wrap ((Go.bits .and .u64 a0 4294967295) * (Go.bits .and .u64 a1 4294967295))) / 4294967296))) 4294967295))) / 4294967296))), .int .u64 0]) ?_ 1 _ rfl; (with_reducible repeat (first | refine blk_drewN ?_ _ | refine blk_drew ?_ | refine blk_alloc ?_ _)); refine blk_put (cs := #[.int .u64 0, .int .u64 0]) ?_ 0 _ rfl; (with_reducible repeat (first | refine blk_drewN ?_ _ | refine blk_drew ?_ | refine blk_alloc ?_ _)); exact BK555.out) Try.underlying75 rfl (by kernel_rfl)) rfl ?_
  exact ⟨by first | rfl | (simp [errW_none, errW_some] <;> rfl) | (simp [*, errW_none, errW_some] <;> rfl), by repeat (first | (with_reducible first | exact HB.out | apply below_alloc | apply pw_below_drewN | apply below_drew1 | refine below_set ?_ GE555.out) | exact HB.out)⟩

/-! ### timeboundref31_add: function 70 -/
def timeboundref31_add.f (a0_0 : Int) (a0_1 : Int) (a1_0 : Int) (a1_1 : Int) : Option (Int × Int) := if (IntKind.u64.wrap (a0_1 + a1_1)) < a0_1 then (some (IntKind.u64.wrap ((IntKind.u64.wrap (a0_0 + a1_0)) + 1), IntKind.u64.wrap (a0_1 + a1_1))) else (some (IntKind.u64.wrap (a0_0 + a1_0), IntKind.u64.wrap (a0_1 + a1_1)))
set_option maxHeartbeats 8000000 in
set_option maxRecDepth 100000 in
theorem timeboundref31_add.calls (a0_0 : Int) (a0_1 : Int) (a1_0 : Int) (a1_1 : Int) (r1 : Int) (r2 : Int) (w : World) (h : timeboundref31_add.f a0_0 a0_1 a1_0 a1_1 = some (r1, r2)) :
    Calls Try.prog 70 #[.agg #[.int .u64 a0_0, .int .u64 a0_1], .agg #[.int .u64 a1_0, .int .u64 a1_1]] w fun e w' => e = .returned (.agg #[.int .u64 r1, .int .u64 r2]) ∧ Below w.heap.size w w' := by
  have hu75 := Try.underlying75
  have HB := Aside0.mk (Below.refl w.heap.size w)
  have H : (if (IntKind.u64.wrap (a0_1 + a1_1)) < a0_1 then (some (IntKind.u64.wrap ((IntKind.u64.wrap (a0_0 + a1_0)) + 1), IntKind.u64.wrap (a0_1 + a1_1))) else (some (IntKind.u64.wrap (a0_0 + a1_0), IntKind.u64.wrap (a0_1 + a1_1)))) = some (r1, r2) := h
  clear h
  by_cases c3 : (IntKind.u64.wrap (a0_1 + a1_1)) < a0_1
  · rw [if_pos c3] at H
    have c3b0 : decide ((IntKind.u64.wrap (a0_1 + a1_1)) < a0_1) = true := decide_eq_true c3
    clear c3
    simp only [Option.some.injEq, Prod.mk.injEq] at H
    obtain ⟨rfl, rfl⟩ := H
    go_enter Try.func70, Try.ntmps70
    go_wp2_with (first | ((with_reducible refine gate_dst (N := 2) rfl ?_); refine box_event ?hg (N := 2) ?hd (cs := #[.int .u64 a0_0, .int .u64 a0_1]) (t := 75) ?hr ?_; (case hd => rfl); (case hg => rfl); (case hr => first | (go_simp; done) | (go_simp; rfl)); intro gb556 hg w4 hbox hb; have BK556 := Aside0.mk (hbox); have GW556 := gww hg HB; have GE556 := gww hg HB; replace HB := blw HB hb; clear hb hbox hg) | ((with_reducible refine gate_dst (N := 3) rfl ?_); refine box_event ?hg (N := 3) ?hd (cs := #[.int .u64 a1_0, .int .u64 a1_1]) (t := 75) ?hr ?_; (case hd => rfl); (case hg => rfl); (case hr => first | (go_simp; done) | (go_simp; rfl)); intro gb557 hg w5 hbox hb; have BK557 := Aside0.mk (hbox); have GW557 := gww hg HB; have GE557 := gww hg HB; have NB556_557 := nbl hg BK556; have NB557_556 := nbr hg BK556; replace BK556 := bkb BK556 hb; replace HB := blw HB hb; clear hb hbox hg) | ((with_reducible refine gate_dst (N := 4) rfl ?_); refine box_event ?hg (N := 4) ?hd (cs := #[.int .u64 0, .int .u64 0]) (t := 75) ?hr ?_; (case hd => rfl); (case hg => rfl); (case hr => first | (go_simp; done) | (go_simp; rfl)); intro gb558 hg w6 hbox hb; have BK558 := Aside0.mk (hbox); have GW558 := gww hg HB; have GE558 := gww hg HB; have NB556_558 := nbl hg BK556; have NB558_556 := nbr hg BK556; have NB557_558 := nbl hg BK557; have NB558_557 := nbr hg BK557; replace BK556 := bkb BK556 hb; replace BK557 := bkb BK557 hb; replace HB := blw HB hb; clear hb hbox hg; have hnb7 := NB556_557.out; have hnc7 := NB557_556.out; have hnb8 := NB556_558.out; have hnc8 := NB558_556.out; have hcz9_0 : w6.cell? ⟨gb556, 0, none⟩ = some (.int .u64 a0_0) := (blk_cell BK556.out 0).trans rfl; have hcz9_1 : w6.cell? ⟨gb556, 1, none⟩ = some (.int .u64 a0_1) := (blk_cell BK556.out 1).trans rfl; have hfz9_0 := blk_frozen BK556.out 0; have hfz9_1 := blk_frozen BK556.out 1; have hnb10 := NB557_558.out; have hnc10 := NB558_557.out; have hcz11_0 : w6.cell? ⟨gb557, 0, none⟩ = some (.int .u64 a1_0) := (blk_cell BK557.out 0).trans rfl; have hcz11_1 : w6.cell? ⟨gb557, 1, none⟩ = some (.int .u64 a1_1) := (blk_cell BK557.out 1).trans rfl; have hfz11_0 := blk_frozen BK557.out 0; have hfz11_1 := blk_frozen BK557.out 1; have hcz12_0 : w6.cell? ⟨gb558, 0, none⟩ = some (.int .u64 0) := (blk_cell BK558.out 0).trans rfl; have hcz12_1 : w6.cell? ⟨gb558, 1, none⟩ = some (.int .u64 0) := (blk_cell BK558.out 1).trans rfl; have hfz12_0 := blk_frozen BK558.out 0; have hfz12_1 := blk_frozen BK558.out 1))
    refine bodyPost_ret (results_cell_row rfl _ _ gb558 75 #[.int .u64 (IntKind.u64.wrap ((IntKind.u64.wrap (a0_0 + a1_0)) + 1)), .int .u64 (IntKind.u64.wrap (a0_1 + a1_1))] (0, 0) _ rfl (by (with_reducible repeat (first | refine blk_drewN ?_ _ | refine blk_drew ?_ | refine blk_alloc ?_ _)); refine blk_put (cs := #[.int .u64 (IntKind.u64.wrap ((IntKind.u64.wrap (a0_0 + a1_0)) + 1)), .int .u64 0]) ?_ 1 _ rfl; (with_reducible repeat (first | refine blk_drewN ?_ _ | refine blk_drew ?_ | refine blk_alloc ?_ _)); refine blk_put (cs := #[.int .u64 0, .int .u64 0]) ?_ 0 _ rfl; (with_reducible repeat (first | refine blk_drewN ?_ _ | refine blk_drew ?_ | refine blk_alloc ?_ _)); exact BK558.out) Try.underlying75 rfl (by kernel_rfl)) rfl ?_
    exact ⟨by first | rfl | (simp [errW_none, errW_some] <;> rfl) | (simp [*, errW_none, errW_some] <;> rfl), by repeat (first | (with_reducible first | exact HB.out | apply below_alloc | apply pw_below_drewN | apply below_drew1 | refine below_set ?_ GE556.out | refine below_set ?_ GE557.out | refine below_set ?_ GE558.out) | exact HB.out)⟩
  · rw [if_neg c3] at H
    have c3b0 : decide ((IntKind.u64.wrap (a0_1 + a1_1)) < a0_1) = false := decide_eq_false c3
    clear c3
    simp only [Option.some.injEq, Prod.mk.injEq] at H
    obtain ⟨rfl, rfl⟩ := H
    go_enter Try.func70, Try.ntmps70
    go_wp2_with (first | ((with_reducible refine gate_dst (N := 2) rfl ?_); refine box_event ?hg (N := 2) ?hd (cs := #[.int .u64 a0_0, .int .u64 a0_1]) (t := 75) ?hr ?_; (case hd => rfl); (case hg => rfl); (case hr => first | (go_simp; done) | (go_simp; rfl)); intro gb556 hg w13 hbox hb; have BK556 := Aside0.mk (hbox); have GW556 := gww hg HB; have GE556 := gww hg HB; replace HB := blw HB hb; clear hb hbox hg) | ((with_reducible refine gate_dst (N := 3) rfl ?_); refine box_event ?hg (N := 3) ?hd (cs := #[.int .u64 a1_0, .int .u64 a1_1]) (t := 75) ?hr ?_; (case hd => rfl); (case hg => rfl); (case hr => first | (go_simp; done) | (go_simp; rfl)); intro gb557 hg w14 hbox hb; have BK557 := Aside0.mk (hbox); have GW557 := gww hg HB; have GE557 := gww hg HB; have NB556_557 := nbl hg BK556; have NB557_556 := nbr hg BK556; replace BK556 := bkb BK556 hb; replace HB := blw HB hb; clear hb hbox hg) | ((with_reducible refine gate_dst (N := 4) rfl ?_); refine box_event ?hg (N := 4) ?hd (cs := #[.int .u64 0, .int .u64 0]) (t := 75) ?hr ?_; (case hd => rfl); (case hg => rfl); (case hr => first | (go_simp; done) | (go_simp; rfl)); intro gb558 hg w15 hbox hb; have BK558 := Aside0.mk (hbox); have GW558 := gww hg HB; have GE558 := gww hg HB; have NB556_558 := nbl hg BK556; have NB558_556 := nbr hg BK556; have NB557_558 := nbl hg BK557; have NB558_557 := nbr hg BK557; replace BK556 := bkb BK556 hb; replace BK557 := bkb BK557 hb; replace HB := blw HB hb; clear hb hbox hg; have hnb16 := NB556_557.out; have hnc16 := NB557_556.out; have hnb17 := NB556_558.out; have hnc17 := NB558_556.out; have hcz18_0 : w15.cell? ⟨gb556, 0, none⟩ = some (.int .u64 a0_0) := (blk_cell BK556.out 0).trans rfl; have hcz18_1 : w15.cell? ⟨gb556, 1, none⟩ = some (.int .u64 a0_1) := (blk_cell BK556.out 1).trans rfl; have hfz18_0 := blk_frozen BK556.out 0; have hfz18_1 := blk_frozen BK556.out 1; have hnb19 := NB557_558.out; have hnc19 := NB558_557.out; have hcz20_0 : w15.cell? ⟨gb557, 0, none⟩ = some (.int .u64 a1_0) := (blk_cell BK557.out 0).trans rfl; have hcz20_1 : w15.cell? ⟨gb557, 1, none⟩ = some (.int .u64 a1_1) := (blk_cell BK557.out 1).trans rfl; have hfz20_0 := blk_frozen BK557.out 0; have hfz20_1 := blk_frozen BK557.out 1; have hcz21_0 : w15.cell? ⟨gb558, 0, none⟩ = some (.int .u64 0) := (blk_cell BK558.out 0).trans rfl; have hcz21_1 : w15.cell? ⟨gb558, 1, none⟩ = some (.int .u64 0) := (blk_cell BK558.out 1).trans rfl; have hfz21_0 := blk_frozen BK558.out 0; have hfz21_1 := blk_frozen BK558.out 1))
    refine bodyPost_ret (results_cell_row rfl _ _ gb558 75 #[.int .u64 (IntKind.u64.wrap (a0_0 + a1_0)), .int .u64 (IntKind.u64.wrap (a0_1 + a1_1))] (0, 0) _ rfl (by (with_reducible repeat (first | refine blk_drewN ?_ _ | refine blk_drew ?_ | refine blk_alloc ?_ _)); refine blk_put (cs := #[.int .u64 (IntKind.u64.wrap (a0_0 + a1_0)), .int .u64 0]) ?_ 1 _ rfl; (with_reducible repeat (first | refine blk_drewN ?_ _ | refine blk_drew ?_ | refine blk_alloc ?_ _)); refine blk_put (cs := #[.int .u64 0, .int .u64 0]) ?_ 0 _ rfl; (with_reducible repeat (first | refine blk_drewN ?_ _ | refine blk_drew ?_ | refine blk_alloc ?_ _)); exact BK558.out) Try.underlying75 rfl (by kernel_rfl)) rfl ?_
    exact ⟨by first | rfl | (simp [errW_none, errW_some] <;> rfl) | (simp [*, errW_none, errW_some] <;> rfl), by repeat (first | (with_reducible first | exact HB.out | apply below_alloc | apply pw_below_drewN | apply below_drew1 | refine below_set ?_ GE556.out | refine below_set ?_ GE557.out | refine below_set ?_ GE558.out) | exact HB.out)⟩

end Go.Proofs.Ytjoddcfcolhimaa.QFr
