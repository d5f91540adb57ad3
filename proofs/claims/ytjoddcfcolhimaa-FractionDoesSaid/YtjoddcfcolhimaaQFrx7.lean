-- Printed by wip/drv/drv.py of this session, over the kit's print tool. Not trusted: Lean checks it.
import Derived.Test.YtjoddcfcolhimaaQFrx0
import Derived.Test.YtjoddcfcolhimaaQFrx2
import Derived.Test.YtjoddcfcolhimaaQFrx6
namespace Go.Proofs.Ytjoddcfcolhimaa.QFr
open Go.RowKit Go.Proofs.YtjoddcfcolhimaaW.PrintWords Go.Proofs.YtjoddcfcolhimaaW.PrintLast Go.Proofs.YtjoddcfcolhimaaW.PrintMore
attribute [local go_sem] max2_int min2_int max_two min_two max_three min_three max_four min_four   -- for this text's walks alone
set_option linter.unusedVariables false
set_option linter.unusedSimpArgs false

attribute [local go_sem high] eqA75
/-! ### timeboundref31_divide: function 100 -/
mutual
def timeboundref31_divide.l0 : Nat → Int → Int → Int → Int → Int → Int → Int → Int → Int → Option (Int × Int × Int × Int)
  | 0, _, _, _, _, _, _, _, _, _ => none
  | k + 1, x8, x214000, x214001, x215000, x215001, x218000, x218001, x219000, x219001 => if x8 ≥ 0 then ((timeboundref31_double.f x219000 x219001).bind fun bt219 => (if x8 ≥ 64 then (if 0 ≤ (IntKind.u64.wrap (wrap64 (x8 - 64))) then (if (Go.bits .and .u64 (shr .u64 x214000 (IntKind.u64.wrap (wrap64 (x8 - 64)))) 1) = 1 then (timeboundref31_divide.j1 k x8 true x214000 x214001 x215000 x215001 x218000 x218001 bt219.1 bt219.2) else (if x8 < 64 then (if 0 ≤ (IntKind.u64.wrap (x8)) then (timeboundref31_divide.j1 k x8 ((Go.bits .and .u64 (shr .u64 x214001 (IntKind.u64.wrap (x8))) 1) == 1) x214000 x214001 x215000 x215001 x218000 x218001 bt219.1 bt219.2) else (none)) else (timeboundref31_divide.j1 k x8 false x214000 x214001 x215000 x215001 x218000 x218001 bt219.1 bt219.2))) else (none)) else (if x8 < 64 then (if 0 ≤ (IntKind.u64.wrap (x8)) then (timeboundref31_divide.j1 k x8 ((Go.bits .and .u64 (shr .u64 x214001 (IntKind.u64.wrap (x8))) 1) == 1) x214000 x214001 x215000 x215001 x218000 x218001 bt219.1 bt219.2) else (none)) else (timeboundref31_divide.j1 k x8 false x214000 x214001 x215000 x215001 x218000 x218001 bt219.1 bt219.2)))) else (some (x218000, x218001, x219000, x219001))
def timeboundref31_divide.j1 : Nat → Int → Bool → Int → Int → Int → Int → Int → Int → Int → Int → Option (Int × Int × Int × Int)
  | 0, _, _, _, _, _, _, _, _, _, _ => none
  | k + 1, x8, x39, x214000, x214001, x215000, x215001, x218000, x218001, x219000, x219001 => if x39 = true then (timeboundref31_divide.j2 k x8 x214000 x214001 x215000 x215001 x218000 x218001 x219000 (Go.bits .or .u64 x219001 1)) else (timeboundref31_divide.j2 k x8 x214000 x214001 x215000 x215001 x218000 x218001 x219000 x219001)
def timeboundref31_divide.j2 : Nat → Int → Int → Int → Int → Int → Int → Int → Int → Int → Option (Int × Int × Int × Int)
  | 0, _, _, _, _, _, _, _, _, _ => none
  | k + 1, x8, x214000, x214001, x215000, x215001, x218000, x218001, x219000, x219001 => (timeboundref31_double.f x218000 x218001).bind fun bt221 => ((timeboundref31_less.f x219000 x219001 x215000 x215001).bind fun t223 => (if t223 = true then (timeboundref31_divide.l0 k (wrap64 (x8 - 1)) x214000 x214001 x215000 x215001 bt221.1 bt221.2 x219000 x219001) else ((timeboundref31_sub.f x219000 x219001 x215000 x215001).bind fun bt224 => (timeboundref31_divide.l0 k (wrap64 (x8 - 1)) x214000 x214001 x215000 x215001 bt221.1 (Go.bits .or .u64 bt221.2 1) bt224.1 bt224.2))))
end
def timeboundref31_divide.f (k : Nat) (a0_0 : Int) (a0_1 : Int) (a1_0 : Int) (a1_1 : Int) : Option (Int × Int × Int × Int) := timeboundref31_divide.l0 k 127 a0_0 a0_1 a1_0 a1_1 0 0 0 0
theorem timeboundref31_divide.mono_l : ∀ k, (∀ y0 y1 y2 y3 y4 y5 y6 y7 y8, LeO (timeboundref31_divide.l0 k y0 y1 y2 y3 y4 y5 y6 y7 y8) (timeboundref31_divide.l0 (k + 1) y0 y1 y2 y3 y4 y5 y6 y7 y8)) ∧ (∀ y0 y1 y2 y3 y4 y5 y6 y7 y8 y9, LeO (timeboundref31_divide.j1 k y0 y1 y2 y3 y4 y5 y6 y7 y8 y9) (timeboundref31_divide.j1 (k + 1) y0 y1 y2 y3 y4 y5 y6 y7 y8 y9)) ∧ (∀ y0 y1 y2 y3 y4 y5 y6 y7 y8, LeO (timeboundref31_divide.j2 k y0 y1 y2 y3 y4 y5 y6 y7 y8) (timeboundref31_divide.j2 (k + 1) y0 y1 y2 y3 y4 y5 y6 y7 y8))
  | 0 => ⟨fun _ _ _ _ _ _ _ _ _ r h => by simp [timeboundref31_divide.l0] at h, fun _ _ _ _ _ _ _ _ _ _ r h => by simp [timeboundref31_divide.j1] at h, fun _ _ _ _ _ _ _ _ _ r h => by simp [timeboundref31_divide.j2] at h⟩
  | k + 1 => by
    obtain ⟨ih0, ih1, ih2⟩ := timeboundref31_divide.mono_l k
    refine ⟨?_, ?_, ?_⟩
    · intro y0 y1 y2 y3 y4 y5 y6 y7 y8
      unfold timeboundref31_divide.l0
      repeat' first
      | (with_reducible exact ih0 _ _ _ _ _ _ _ _ _)
      | (with_reducible exact ih1 _ _ _ _ _ _ _ _ _ _)
      | (with_reducible exact ih2 _ _ _ _ _ _ _ _ _)
      | (with_reducible exact LeO.refl _)
      | (with_reducible exact LeO.none _)
      | (with_reducible refine LeO.ite ?_ ?_)
      | (with_reducible refine LeO.bind ?_ (fun _ => ?_))
      | exact ih0 _ _ _ _ _ _ _ _ _
      | exact ih1 _ _ _ _ _ _ _ _ _ _
      | exact ih2 _ _ _ _ _ _ _ _ _
      | exact LeO.none _
      | refine LeO.ite ?_ ?_
      | refine LeO.bind ?_ (fun _ => ?_)
    · intro y0 y1 y2 y3 y4 y5 y6 y7 y8 y9
      unfold timeboundref31_divide.j1
      repeat' first
      | (with_reducible exact ih0 _ _ _ _ _ _ _ _ _)
      | (with_reducible exact ih1 _ _ _ _ _ _ _ _ _ _)
      | (with_reducible exact ih2 _ _ _ _ _ _ _ _ _)
      | (with_reducible exact LeO.refl _)
      | (with_reducible exact LeO.none _)
      | (with_reducible refine LeO.ite ?_ ?_)
      | (with_reducible refine LeO.bind ?_ (fun _ => ?_))
      | exact ih0 _ _ _ _ _ _ _ _ _
      | exact ih1 _ _ _ _ _ _ _ _ _ _
      | exact ih2 _ _ _ _ _ _ _ _ _
      | exact LeO.none _
      | refine LeO.ite ?_ ?_
      | refine LeO.bind ?_ (fun _ => ?_)
    · intro y0 y1 y2 y3 y4 y5 y6 y7 y8
      unfold timeboundref31_divide.j2
      repeat' first
      | (with_reducible exact ih0 _ _ _ _ _ _ _ _ _)
      | (with_reducible exact ih1 _ _ _ _ _ _ _ _ _ _)
      | (with_reducible exact ih2 _ _ _ _ _ _ _ _ _)
      | (with_reducible exact LeO.refl _)
      | (with_reducible exact LeO.none _)
      | (with_reducible refine LeO.ite ?_ ?_)
      | (with_reducible refine LeO.bind ?_ (fun _ => ?_))
      | exact ih0 _ _ _ _ _ _ _ _ _
      | exact ih1 _ _ _ _ _ _ _ _ _ _
      | exact ih2 _ _ _ _ _ _ _ _ _
      | exact LeO.none _
      | refine LeO.ite ?_ ?_
      | refine LeO.bind ?_ (fun _ => ?_)
theorem timeboundref31_divide.mono : ∀ a0 a1 a2 a3 k, LeO (timeboundref31_divide.f k a0 a1 a2 a3) (timeboundref31_divide.f (k + 1) a0 a1 a2 a3) := by
  intro a0 a1 a2 a3 k
  obtain ⟨ih0, ih1, ih2⟩ := timeboundref31_divide.mono_l k
  unfold timeboundref31_divide.f
  repeat' first
      | (with_reducible exact ih0 _ _ _ _ _ _ _ _ _)
      | (with_reducible exact ih1 _ _ _ _ _ _ _ _ _ _)
      | (with_reducible exact ih2 _ _ _ _ _ _ _ _ _)
      | (with_reducible exact LeO.refl _)
      | (with_reducible exact LeO.none _)
      | (with_reducible refine LeO.ite ?_ ?_)
      | (with_reducible refine LeO.bind ?_ (fun _ => ?_))
      | exact ih0 _ _ _ _ _ _ _ _ _
      | exact ih1 _ _ _ _ _ _ _ _ _ _
      | exact ih2 _ _ _ _ _ _ _ _ _
      | exact LeO.none _
      | refine LeO.ite ?_ ?_
      | refine LeO.bind ?_ (fun _ => ?_)
set_option maxHeartbeats 8000000 in
set_option maxRecDepth 100000 in
theorem timeboundref31_divide.calls (k : Nat) (a0_0 : Int) (a0_1 : Int) (a1_0 : Int) (a1_1 : Int) (r1 : Int) (r2 : Int) (r3 : Int) (r4 : Int) (w : World) (h : timeboundref31_divide.f k a0_0 a0_1 a1_0 a1_1 = some (r1, r2, r3, r4)) :
    Calls Try.prog 100 #[.agg #[.int .u64 a0_0, .int .u64 a0_1], .agg #[.int .u64 a1_0, .int .u64 a1_1]] w fun e w' => e = .returned (.tuple #[.agg #[.int .u64 r1, .int .u64 r2], .agg #[.int .u64 r3, .int .u64 r4]]) ∧ Below w.heap.size w w' := by
  have hu75 := Try.underlying75
  have HB := Aside0.mk (Below.refl w.heap.size w)
  have H : (timeboundref31_divide.l0 k 127 a0_0 a0_1 a1_0 a1_1 0 0 0 0) = some (r1, r2, r3, r4) := h
  clear h
  have H' := Aside0.mk H
  clear H
  go_enter Try.func100, Try.ntmps100
  go_wp2_with (first | ((with_reducible refine gate_dst (N := 2) rfl ?_); refine box_event ?hg (N := 2) ?hd (cs := #[.int .u64 a0_0, .int .u64 a0_1]) (t := 75) ?hr ?_; (case hd => rfl); (case hg => rfl); (case hr => first | (go_simp; done) | (go_simp; rfl)); intro gb213 hg w3 hbox hb; have BK213 := Aside0.mk (hbox); have GW213 := gww hg HB; have GE213 := gww hg HB; replace HB := blw HB hb; clear hb hbox hg) | ((with_reducible refine gate_dst (N := 3) rfl ?_); refine box_event ?hg (N := 3) ?hd (cs := #[.int .u64 a1_0, .int .u64 a1_1]) (t := 75) ?hr ?_; (case hd => rfl); (case hg => rfl); (case hr => first | (go_simp; done) | (go_simp; rfl)); intro gb214 hg w4 hbox hb; have BK214 := Aside0.mk (hbox); have GW214 := gww hg HB; have GE214 := gww hg HB; have NB213_214 := nbl hg BK213; have NB214_213 := nbr hg BK213; replace BK213 := bkb BK213 hb; replace HB := blw HB hb; clear hb hbox hg) | ((with_reducible refine gate_dst (N := 4) rfl ?_); refine box_event ?hg (N := 4) ?hd (cs := #[.int .u64 0, .int .u64 0]) (t := 75) ?hr ?_; (case hd => rfl); (case hg => rfl); (case hr => first | (go_simp; done) | (go_simp; rfl)); intro gb215 hg w5 hbox hb; have BK215 := Aside0.mk (hbox); have GW215 := gww hg HB; have GE215 := gww hg HB; have NB213_215 := nbl hg BK213; have NB215_213 := nbr hg BK213; have NB214_215 := nbl hg BK214; have NB215_214 := nbr hg BK214; replace BK213 := bkb BK213 hb; replace BK214 := bkb BK214 hb; replace HB := blw HB hb; clear hb hbox hg) | ((with_reducible refine gate_dst (N := 5) rfl ?_); refine box_event ?hg (N := 5) ?hd (cs := #[.int .u64 0, .int .u64 0]) (t := 75) ?hr ?_; (case hd => rfl); (case hg => rfl); (case hr => first | (go_simp; done) | (go_simp; rfl)); intro gb216 hg w6 hbox hb; have BK216 := Aside0.mk (hbox); have GW216 := gww hg HB; have GE216 := gww hg HB; have NB213_216 := nbl hg BK213; have NB216_213 := nbr hg BK213; have NB214_216 := nbl hg BK214; have NB216_214 := nbr hg BK214; have NB215_216 := nbl hg BK215; have NB216_215 := nbr hg BK215; replace BK213 := bkb BK213 hb; replace BK214 := bkb BK214 hb; replace BK215 := bkb BK215 hb; replace HB := blw HB hb; clear hb hbox hg) | ((with_reducible refine gate_dst (N := 6) rfl ?_); refine box_event ?hg (N := 6) ?hd (cs := #[.int .u64 0, .int .u64 0]) (t := 75) ?hr ?_; (case hd => rfl); (case hg => rfl); (case hr => first | (go_simp; done) | (go_simp; rfl)); intro gb217 hg w7 hbox hb; have BK217 := Aside0.mk (hbox); have GW217 := gww hg HB; have GE217 := gww hg HB; have NB213_217 := nbl hg BK213; have NB217_213 := nbr hg BK213; have NB214_217 := nbl hg BK214; have NB217_214 := nbr hg BK214; have NB215_217 := nbl hg BK215; have NB217_215 := nbr hg BK215; have NB216_217 := nbl hg BK216; have NB217_216 := nbr hg BK216; replace BK213 := bkb BK213 hb; replace BK214 := bkb BK214 hb; replace BK215 := bkb BK215 hb; replace BK216 := bkb BK216 hb; replace HB := blw HB hb; clear hb hbox hg) | ((with_reducible refine gate_dst (N := 7) rfl ?_); refine box_event ?hg (N := 7) ?hd (cs := #[.int .u64 0, .int .u64 0]) (t := 75) ?hr ?_; (case hd => rfl); (case hg => rfl); (case hr => first | (go_simp; done) | (go_simp; rfl)); intro gb218 hg w8 hbox hb; have BK218 := Aside0.mk (hbox); have GW218 := gww hg HB; have GE218 := gww hg HB; have NB213_218 := nbl hg BK213; have NB218_213 := nbr hg BK213; have NB214_218 := nbl hg BK214; have NB218_214 := nbr hg BK214; have NB215_218 := nbl hg BK215; have NB218_215 := nbr hg BK215; have NB216_218 := nbl hg BK216; have NB218_216 := nbr hg BK216; have NB217_218 := nbl hg BK217; have NB218_217 := nbr hg BK217; replace BK213 := bkb BK213 hb; replace BK214 := bkb BK214 hb; replace BK215 := bkb BK215 hb; replace BK216 := bkb BK216 hb; replace BK217 := bkb BK217 hb; replace HB := blw HB hb; clear hb hbox hg))
  (try simp only [Act.put, List.setIfInBounds_toArray, List.set_cons_succ, List.set_cons_zero])
  go_loopg [8] k (fun kq v8 w' => ∃ (x8_1 : Int) (x218000_1 : Int) (x218001_1 : Int) (x219000_1 : Int) (x219001_1 : Int), v8 = .int .i64 x8_1 ∧ Aside0 (timeboundref31_divide.l0 kq x8_1 a0_0 a0_1 a1_0 a1_1 x218000_1 x218001_1 x219000_1 x219001_1 = some (r1, r2, r3, r4)) ∧ Aside0 (kq ≤ k) ∧ Aside0 (w'.heap[gb213]? = some (.cells #[.int .u64 a0_0, .int .u64 a0_1] 75 (0, 0))) ∧ Aside0 (w'.heap[gb214]? = some (.cells #[.int .u64 a1_0, .int .u64 a1_1] 75 (0, 0))) ∧ Aside0 (w'.heap[gb215]? = some (.cells #[.int .u64 0, .int .u64 0] 75 (0, 0))) ∧ Aside0 (w'.heap[gb216]? = some (.cells #[.int .u64 0, .int .u64 0] 75 (0, 0))) ∧ Aside0 (w'.heap[gb217]? = some (.cells #[.int .u64 x218000_1, .int .u64 x218001_1] 75 (0, 0))) ∧ Aside0 (w'.heap[gb218]? = some (.cells #[.int .u64 x219000_1, .int .u64 x219001_1] 75 (0, 0))) ∧ Aside0 (Below w.heap.size w w'))
  case atStart => exact ⟨(127), (0), (0), (0), (0), (by first | rfl | (simp; done) | (simp [*]; done)), H', ⟨Nat.le_refl _⟩, ⟨by (with_reducible repeat (first | refine blk_drewN ?_ _ | refine blk_drew ?_ | refine blk_alloc ?_ _)); exact BK213.out⟩, ⟨by (with_reducible repeat (first | refine blk_drewN ?_ _ | refine blk_drew ?_ | refine blk_alloc ?_ _)); exact BK214.out⟩, ⟨by (with_reducible repeat (first | refine blk_drewN ?_ _ | refine blk_drew ?_ | refine blk_alloc ?_ _)); exact BK215.out⟩, ⟨by (with_reducible repeat (first | refine blk_drewN ?_ _ | refine blk_drew ?_ | refine blk_alloc ?_ _)); exact BK216.out⟩, ⟨by (with_reducible repeat (first | refine blk_drewN ?_ _ | refine blk_drew ?_ | refine blk_alloc ?_ _)); exact BK217.out⟩, ⟨by (with_reducible repeat (first | refine blk_drewN ?_ _ | refine blk_drew ?_ | refine blk_alloc ?_ _)); exact BK218.out⟩, ⟨by repeat (first | (with_reducible first | exact HB.out | apply below_alloc | apply pw_below_drewN | apply below_drew1 | refine below_set ?_ GE213.out | refine below_set ?_ GE214.out | refine below_set ?_ GE215.out | refine below_set ?_ GE216.out | refine below_set ?_ GE217.out | refine below_set ?_ GE218.out) | exact HB.out)⟩⟩
  case round =>
    clear H'
    try clear c1
    try clear p2
    obtain ⟨x8_1, x218000_1, x218001_1, x219000_1, x219001_1, rfl, HA, HK1, BK213, BK214, BK215, BK216, BK217, BK218, HB⟩ := hrel
    cases gk with
    | zero => exact absurd HA.out (by simp [timeboundref31_divide.l0])
    | succ k1 =>
      have H := HA.out
      clear HA
      simp only [timeboundref31_divide.l0] at H
      by_cases c9 : x8_1 ≥ 0
      · rw [if_pos c9] at H
        have c9b0 : decide (0 ≤ x8_1) = true := decide_eq_true c9
        clear c9
        replace H := Option.bind_eq_some_iff.mp H
        obtain ⟨⟨t219, t220⟩, A100, H⟩ := H
        replace H : (if x8_1 ≥ 64 then (if 0 ≤ (IntKind.u64.wrap (wrap64 (x8_1 - 64))) then (if (Go.bits .and .u64 (shr .u64 a0_0 (IntKind.u64.wrap (wrap64 (x8_1 - 64)))) 1) = 1 then (timeboundref31_divide.j1 k1 x8_1 true a0_0 a0_1 a1_0 a1_1 x218000_1 x218001_1 t219 t220) else (if x8_1 < 64 then (if 0 ≤ (IntKind.u64.wrap (x8_1)) then (timeboundref31_divide.j1 k1 x8_1 ((Go.bits .and .u64 (shr .u64 a0_1 (IntKind.u64.wrap (x8_1))) 1) == 1) a0_0 a0_1 a1_0 a1_1 x218000_1 x218001_1 t219 t220) else (none)) else (timeboundref31_divide.j1 k1 x8_1 false a0_0 a0_1 a1_0 a1_1 x218000_1 x218001_1 t219 t220))) else (none)) else (if x8_1 < 64 then (if 0 ≤ (IntKind.u64.wrap (x8_1)) then (timeboundref31_divide.j1 k1 x8_1 ((Go.bits .and .u64 (shr .u64 a0_1 (IntKind.u64.wrap (x8_1))) 1) == 1) a0_0 a0_1 a1_0 a1_1 x218000_1 x218001_1 t219 t220) else (none)) else (timeboundref31_divide.j1 k1 x8_1 false a0_0 a0_1 a1_0 a1_1 x218000_1 x218001_1 t219 t220))) = some (r1, r2, r3, r4) := H
        have A10 := Aside0.mk A100
        clear A100
        have HC11 := Aside0.mk H
        clear H
        have hcz12_0 : wr.cell? ⟨gb218, 0, none⟩ = some (.int .u64 x219000_1) := (blk_cell BK218.out 0).trans rfl
        have hcz12_1 : wr.cell? ⟨gb218, 1, none⟩ = some (.int .u64 x219001_1) := (blk_cell BK218.out 1).trans rfl
        have hfz12_0 := blk_frozen BK218.out 0
        have hfz12_1 := blk_frozen BK218.out 1
        go_upto_region 6 with (first | ((with_reducible refine gate_callee (f := 122) rfl ?_); refine goesL_ (some 14) rfl rfl Try.func122 (by kernel_rfl) rfl #[.agg #[.int .u64 x219000_1, .int .u64 x219001_1]] rfl (by (try simp only [List.map_toArray, List.map_cons, List.map_nil]); first | done | rfl | (simp only [List.length_drop, List.length_take]; rfl)) ?_; (with_reducible refine (timeboundref31_double.calls x219000_1 x219001_1 t219 t220 _ A10.out).mono ?_); rintro e w13 ⟨rfl, hb⟩; refine ⟨_, rfl, ?_⟩; replace BK213 := bkb BK213 hb; replace BK214 := bkb BK214 hb; replace BK215 := bkb BK215 hb; replace BK216 := bkb BK216 hb; replace BK217 := bkb BK217 hb; replace BK218 := bkb BK218 hb; replace HB := blw HB hb; (try clear hb); (try clear hb2); (try clear hk); (try clear hi); have hnb14 := NB218_213.out; have hnc14 := NB213_218.out; have hnb15 := NB218_214.out; have hnc15 := NB214_218.out; have hnb16 := NB218_215.out; have hnc16 := NB215_218.out; have hnb17 := NB218_216.out; have hnc17 := NB216_218.out; have hnb18 := NB218_217.out; have hnc18 := NB217_218.out; have hcz19_0 : w13.cell? ⟨gb218, 0, none⟩ = some (.int .u64 x219000_1) := (blk_cell BK218.out 0).trans rfl; have hcz19_1 : w13.cell? ⟨gb218, 1, none⟩ = some (.int .u64 x219001_1) := (blk_cell BK218.out 1).trans rfl; have hfz19_0 := blk_frozen BK218.out 0; have hfz19_1 := blk_frozen BK218.out 1))
        (try simp only [Act.put, List.setIfInBounds_toArray, List.set_cons_zero, List.set_cons_succ])
        go_cut [39] (fun v39 wc => ∃ (kq : Nat) (x39_10 : Bool), v39 = .bool x39_10 ∧ Aside0 (timeboundref31_divide.j1 kq x8_1 x39_10 a0_0 a0_1 a1_0 a1_1 x218000_1 x218001_1 t219 t220 = some (r1, r2, r3, r4)) ∧ Aside0 (kq ≤ k1) ∧ Aside0 (wc.heap[gb213]? = some (.cells #[.int .u64 a0_0, .int .u64 a0_1] 75 (0, 0))) ∧ Aside0 (wc.heap[gb214]? = some (.cells #[.int .u64 a1_0, .int .u64 a1_1] 75 (0, 0))) ∧ Aside0 (wc.heap[gb215]? = some (.cells #[.int .u64 0, .int .u64 0] 75 (0, 0))) ∧ Aside0 (wc.heap[gb216]? = some (.cells #[.int .u64 0, .int .u64 0] 75 (0, 0))) ∧ Aside0 (wc.heap[gb217]? = some (.cells #[.int .u64 x218000_1, .int .u64 x218001_1] 75 (0, 0))) ∧ Aside0 (wc.heap[gb218]? = some (.cells #[.int .u64 t219, .int .u64 t220] 75 (0, 0))) ∧ Aside0 (Below w.heap.size w wc))
        case first =>
          have H := HC11.out
          clear HC11
          by_cases c20 : x8_1 ≥ 64
          · rw [if_pos c20] at H
            have c20b0 : decide (64 ≤ x8_1) = true := decide_eq_true c20
            clear c20
            (first | rw [c20b0] | (simp only [i64_w, i32_w]; rw [c20b0]) | skip)
            obtain ⟨ji21, hji21⟩ : ∃ j_ : Int, (IntKind.u64.wrap (wrap64 (x8_1 - 64))) = j_ := ⟨_, rfl⟩
            replace H : (if 0 ≤ (ji21) then (if (Go.bits .and .u64 (shr .u64 a0_0 (ji21)) 1) = 1 then (timeboundref31_divide.j1 k1 x8_1 true a0_0 a0_1 a1_0 a1_1 x218000_1 x218001_1 t219 t220) else (if x8_1 < 64 then (if 0 ≤ (IntKind.u64.wrap (x8_1)) then (timeboundref31_divide.j1 k1 x8_1 ((Go.bits .and .u64 (shr .u64 a0_1 (IntKind.u64.wrap (x8_1))) 1) == 1) a0_0 a0_1 a1_0 a1_1 x218000_1 x218001_1 t219 t220) else (none)) else (timeboundref31_divide.j1 k1 x8_1 false a0_0 a0_1 a1_0 a1_1 x218000_1 x218001_1 t219 t220))) else (none)) = some (r1, r2, r3, r4) := by first | (rw [hji21] at H; exact H) | (simp only [hji21] at H ⊢; exact H)
            by_cases c22 : 0 ≤ (ji21)
            · rw [if_pos c22] at H
              have c22b0 := eq_true c22
              have c22b1 : decide (0 ≤ (ji21)) = true := decide_eq_true c22
              clear c22
              obtain ⟨ji23, hji23⟩ : ∃ j_ : Int, (shr .u64 a0_0 (ji21)) = j_ := ⟨_, rfl⟩
              replace H : (if (Go.bits .and .u64 (ji23) 1) = 1 then (timeboundref31_divide.j1 k1 x8_1 true a0_0 a0_1 a1_0 a1_1 x218000_1 x218001_1 t219 t220) else (if x8_1 < 64 then (if 0 ≤ (IntKind.u64.wrap (x8_1)) then (timeboundref31_divide.j1 k1 x8_1 ((Go.bits .and .u64 (shr .u64 a0_1 (IntKind.u64.wrap (x8_1))) 1) == 1) a0_0 a0_1 a1_0 a1_1 x218000_1 x218001_1 t219 t220) else (none)) else (timeboundref31_divide.j1 k1 x8_1 false a0_0 a0_1 a1_0 a1_1 x218000_1 x218001_1 t219 t220))) = some (r1, r2, r3, r4) := by first | (rw [hji23] at H; exact H) | (simp only [hji23] at H ⊢; exact H)
              have hji23_ : (a0_0 / 2 ^ min (ji21).toNat 64) = ji23 := hji23
              have hji23z : (ji21) ≤ 64 → (a0_0 / 2 ^ (ji21).toNat) = ji23 := shr_small hji23
              by_cases c24 : (Go.bits .and .u64 (ji23) 1) = 1
              · rw [if_pos c24] at H
                have c24b0 : ((Go.bits .and .u64 (ji23) 1) == 1) = true := beq_iff_eq.mpr c24
                have c24b1 : ((Go.bits .and .u64 (ji23) 1) != 1) = false := bne_eq_false_iff_eq.mpr c24
                clear c24
                have H' := Aside0.mk H
                clear H
                have hnb25 := NB213_218.out
                have hnc25 := NB218_213.out
                have hcz26_0 : w13.cell? ⟨gb213, 0, none⟩ = some (.int .u64 a0_0) := (blk_cell BK213.out 0).trans rfl
                have hcz26_1 : w13.cell? ⟨gb213, 1, none⟩ = some (.int .u64 a0_1) := (blk_cell BK213.out 1).trans rfl
                have hfz26_0 := blk_frozen BK213.out 0
                have hfz26_1 := blk_frozen BK213.out 1
                go_wp2
                go_meet
                case rel => exact ⟨_, (true), (by first | rfl | (simp; done) | (simp [*]; done)), H', ⟨by have := HK1.out; first | omega | exact Nat.le_refl _⟩, ⟨by (with_reducible repeat (first | refine blk_drewN ?_ _ | refine blk_drew ?_ | refine blk_alloc ?_ _)); refine blk_far ?_ NB213_218.out _; (with_reducible repeat (first | refine blk_drewN ?_ _ | refine blk_drew ?_ | refine blk_alloc ?_ _)); refine blk_far ?_ NB213_218.out _; (with_reducible repeat (first | refine blk_drewN ?_ _ | refine blk_drew ?_ | refine blk_alloc ?_ _)); exact BK213.out⟩, ⟨by (with_reducible repeat (first | refine blk_drewN ?_ _ | refine blk_drew ?_ | refine blk_alloc ?_ _)); refine blk_far ?_ NB214_218.out _; (with_reducible repeat (first | refine blk_drewN ?_ _ | refine blk_drew ?_ | refine blk_alloc ?_ _)); refine blk_far ?_ NB214_218.out _; (with_reducible repeat (first | refine blk_drewN ?_ _ | refine blk_drew ?_ | refine blk_alloc ?_ _)); exact BK214.out⟩, ⟨by (with_reducible repeat (first | refine blk_drewN ?_ _ | refine blk_drew ?_ | refine blk_alloc ?_ _)); refine blk_far ?_ NB215_218.out _; (with_reducible repeat (first | refine blk_drewN ?_ _ | refine blk_drew ?_ | refine blk_alloc ?_ _)); refine blk_far ?_ NB215_218.out _; (with_reducible repeat (first | refine blk_drewN ?_ _ | refine blk_drew ?_ | refine blk_alloc ?_ _)); exact BK215.out⟩, ⟨by (with_reducible repeat (first | refine blk_drewN ?_ _ | refine blk_drew ?_ | refine blk_alloc ?_ _)); refine blk_far ?_ NB216_218.out _; (with_reducible repeat (first | refine blk_drewN ?_ _ | refine blk_drew ?_ | refine blk_alloc ?_ _)); refine blk_far ?_ NB216_218.out _; (with_reducible repeat (first | refine blk_drewN ?_ _ | refine blk_drew ?_ | refine blk_alloc ?_ _)); exact BK216.out⟩, ⟨by (with_reducible repeat (first | refine blk_drewN ?_ _ | refine blk_drew ?_ | refine blk_alloc ?_ _)); refine blk_far ?_ NB217_218.out _; (with_reducible repeat (first | refine blk_drewN ?_ _ | refine blk_drew ?_ | refine blk_alloc ?_ _)); refine blk_far ?_ NB217_218.out _; (with_reducible repeat (first | refine blk_drewN ?_ _ | refine blk_drew ?_ | refine blk_alloc ?_ _)); exact BK217.out⟩, ⟨by (with_reducible repeat (first | refine blk_drewN ?_ _ | refine blk_drew ?_ | refine blk_alloc ?_ _)); refine blk_put (cs := #[.int .u64 t219, .int .u64 x219001_1]) ?_ 1 _ rfl; (with_reducible repeat (first | refine blk_drewN ?_ _ | refine blk_drew ?_ | refine blk_alloc ?_ _)); refine blk_put (cs := #[.int .u64 x219000_1, .int .u64 x219001_1]) ?_ 0 _ rfl; (with_reducible repeat (first | refine blk_drewN ?_ _ | refine blk_drew ?_ | refine blk_alloc ?_ _)); exact BK218.out⟩, ⟨by repeat (first | (with_reducible first | exact HB.out | apply below_alloc | apply pw_below_drewN | apply below_drew1 | refine below_set ?_ GE213.out | refine below_set ?_ GE214.out | refine below_set ?_ GE215.out | refine below_set ?_ GE216.out | refine below_set ?_ GE217.out | refine below_set ?_ GE218.out) | exact HB.out)⟩⟩
              · rw [if_neg c24] at H
                have c24b0 : ((Go.bits .and .u64 (ji23) 1) == 1) = false := beq_eq_false_iff_ne.mpr c24
                have c24b1 : ((Go.bits .and .u64 (ji23) 1) != 1) = true := bne_iff_ne.mpr c24
                by_cases c27 : x8_1 < 64
                · rw [if_pos c27] at H
                  have c27b0 : decide (x8_1 < 64) = true := decide_eq_true c27
                  clear c27
                  obtain ⟨ji28, hji28⟩ : ∃ j_ : Int, (IntKind.u64.wrap (x8_1)) = j_ := ⟨_, rfl⟩
                  replace H : (if 0 ≤ (ji28) then (timeboundref31_divide.j1 k1 x8_1 ((Go.bits .and .u64 (shr .u64 a0_1 (ji28)) 1) == 1) a0_0 a0_1 a1_0 a1_1 x218000_1 x218001_1 t219 t220) else (none)) = some (r1, r2, r3, r4) := by first | (rw [hji28] at H; exact H) | (simp only [hji28] at H ⊢; exact H)
                  by_cases c29 : 0 ≤ (ji28)
                  · rw [if_pos c29] at H
                    have c29b0 := eq_true c29
                    have c29b1 : decide (0 ≤ (ji28)) = true := decide_eq_true c29
                    clear c29
                    obtain ⟨ji30, hji30⟩ : ∃ j_ : Int, (shr .u64 a0_1 (ji28)) = j_ := ⟨_, rfl⟩
                    replace H : (timeboundref31_divide.j1 k1 x8_1 ((Go.bits .and .u64 (ji30) 1) == 1) a0_0 a0_1 a1_0 a1_1 x218000_1 x218001_1 t219 t220) = some (r1, r2, r3, r4) := by first | (rw [hji30] at H; exact H) | (simp only [hji30] at H ⊢; exact H)
                    have hji30_ : (a0_1 / 2 ^ min (ji28).toNat 64) = ji30 := hji30
                    have hji30z : (ji28) ≤ 64 → (a0_1 / 2 ^ (ji28).toNat) = ji30 := shr_small hji30
                    have H' := Aside0.mk H
                    clear H
                    have hnb31 := NB213_218.out
                    have hnc31 := NB218_213.out
                    have hcz32_0 : w13.cell? ⟨gb213, 0, none⟩ = some (.int .u64 a0_0) := (blk_cell BK213.out 0).trans rfl
                    have hcz32_1 : w13.cell? ⟨gb213, 1, none⟩ = some (.int .u64 a0_1) := (blk_cell BK213.out 1).trans rfl
                    have hfz32_0 := blk_frozen BK213.out 0
                    have hfz32_1 := blk_frozen BK213.out 1
                    go_wp2
                    go_meet
                    case rel => exact ⟨_, (((Go.bits .and .u64 (ji30) 1) == 1)), (by first | rfl | (simp; done) | (simp only [← hji30] <;> (first | rfl | simp)) | (simp [*]; done)), H', ⟨by have := HK1.out; first | omega | exact Nat.le_refl _⟩, ⟨by (with_reducible repeat (first | refine blk_drewN ?_ _ | refine blk_drew ?_ | refine blk_alloc ?_ _)); refine blk_far ?_ NB213_218.out _; (with_reducible repeat (first | refine blk_drewN ?_ _ | refine blk_drew ?_ | refine blk_alloc ?_ _)); refine blk_far ?_ NB213_218.out _; (with_reducible repeat (first | refine blk_drewN ?_ _ | refine blk_drew ?_ | refine blk_alloc ?_ _)); exact BK213.out⟩, ⟨by (with_reducible repeat (first | refine blk_drewN ?_ _ | refine blk_drew ?_ | refine blk_alloc ?_ _)); refine blk_far ?_ NB214_218.out _; (with_reducible repeat (first | refine blk_drewN ?_ _ | refine blk_drew ?_ | refine blk_alloc ?_ _)); refine blk_far ?_ NB214_218.out _; (with_reducible repeat (first | refine blk_drewN ?_ _ | refine blk_drew ?_ | refine blk_alloc ?_ _)); exact BK214.out⟩, ⟨by (with_reducible repeat (first | refine blk_drewN ?_ _ | refine blk_drew ?_ | refine blk_alloc ?_ _)); refine blk_far ?_ NB215_218.out _; (with_reducible repeat (first | refine blk_drewN ?_ _ | refine blk_drew ?_ | refine blk_alloc ?_ _)); refine blk_far ?_ NB215_218.out _; (with_reducible repeat (first | refine blk_drewN ?_ _ | refine blk_drew ?_ | refine blk_alloc ?_ _)); exact BK215.out⟩, ⟨by (with_reducible repeat (first | refine blk_drewN ?_ _ | refine blk_drew ?_ | refine blk_alloc ?_ _)); refine blk_far ?_ NB216_218.out _; (with_reducible repeat (first | refine blk_drewN ?_ _ | refine blk_drew ?_ | refine blk_alloc ?_ _)); refine blk_far ?_ NB216_218.out _; (with_reducible repeat (first | refine blk_drewN ?_ _ | refine blk_drew ?_ | refine blk_alloc ?_ _)); exact BK216.out⟩, ⟨by (with_reducible repeat (first | refine blk_drewN ?_ _ | refine blk_drew ?_ | refine blk_alloc ?_ _)); refine blk_far ?_ NB217_218.out _; (with_reducible repeat (first | refine blk_drewN ?_ _ | refine blk_drew ?_ | refine blk_alloc ?_ _)); refine blk_far ?_ NB217_218.out _; (with_reducible repeat (first | refine blk_drewN ?_ _ | refine blk_drew ?_ | refine blk_alloc ?_ _)); exact BK217.out⟩, ⟨by (with_reducible repeat (first | refine blk_drewN ?_ _ | refine blk_drew ?_ | refine blk_alloc ?_ _)); refine blk_put (cs := #[.int .u64 t219, .int .u64 x219001_1]) ?_ 1 _ rfl; (with_reducible repeat (first | refine blk_drewN ?_ _ | refine blk_drew ?_ | refine blk_alloc ?_ _)); refine blk_put (cs := #[.int .u64 x219000_1, .int .u64 x219001_1]) ?_ 0 _ rfl; (with_reducible repeat (first | refine blk_drewN ?_ _ | refine blk_drew ?_ | refine blk_alloc ?_ _)); exact BK218.out⟩, ⟨by repeat (first | (with_reducible first | exact HB.out | apply below_alloc | apply pw_below_drewN | apply below_drew1 | refine below_set ?_ GE213.out | refine below_set ?_ GE214.out | refine below_set ?_ GE215.out | refine below_set ?_ GE216.out | refine below_set ?_ GE217.out | refine below_set ?_ GE218.out) | exact HB.out)⟩⟩
                  · rw [if_neg c29] at H
                    exact absurd H (by simp)
                · rw [if_neg c27] at H
                  have c27b0 : decide (x8_1 < 64) = false := decide_eq_false c27
                  clear c27
                  have H' := Aside0.mk H
                  clear H
                  have hnb33 := NB213_218.out
                  have hnc33 := NB218_213.out
                  have hcz34_0 : w13.cell? ⟨gb213, 0, none⟩ = some (.int .u64 a0_0) := (blk_cell BK213.out 0).trans rfl
                  have hcz34_1 : w13.cell? ⟨gb213, 1, none⟩ = some (.int .u64 a0_1) := (blk_cell BK213.out 1).trans rfl
                  have hfz34_0 := blk_frozen BK213.out 0
                  have hfz34_1 := blk_frozen BK213.out 1
                  go_wp2
                  go_meet
                  case rel => exact ⟨_, (false), (by first | rfl | (simp; done) | (simp [*]; done)), H', ⟨by have := HK1.out; first | omega | exact Nat.le_refl _⟩, ⟨by (with_reducible repeat (first | refine blk_drewN ?_ _ | refine blk_drew ?_ | refine blk_alloc ?_ _)); refine blk_far ?_ NB213_218.out _; (with_reducible repeat (first | refine blk_drewN ?_ _ | refine blk_drew ?_ | refine blk_alloc ?_ _)); refine blk_far ?_ NB213_218.out _; (with_reducible repeat (first | refine blk_drewN ?_ _ | refine blk_drew ?_ | refine blk_alloc ?_ _)); exact BK213.out⟩, ⟨by (with_reducible repeat (first | refine blk_drewN ?_ _ | refine blk_drew ?_ | refine blk_alloc ?_ _)); refine blk_far ?_ NB214_218.out _; (with_reducible repeat (first | refine blk_drewN ?_ _ | refine blk_drew ?_ | refine blk_alloc ?_ _)); refine blk_far ?_ NB214_218.out _; (with_reducible repeat (first | refine blk_drewN ?_ _ | refine blk_drew ?_ | refine blk_alloc ?_ _)); exact BK214.out⟩, ⟨by (with_reducible repeat (first | refine blk_drewN ?_ _ | refine blk_drew ?_ | refine blk_alloc ?_ _)); refine blk_far ?_ NB215_218.out _; (with_reducible repeat (first | refine blk_drewN ?_ _ | refine blk_drew ?_ | refine blk_alloc ?_ _)); refine blk_far ?_ NB215_218.out _; (with_reducible repeat (first | refine blk_drewN ?_ _ | refine blk_drew ?_ | refine blk_alloc ?_ _)); exact BK215.out⟩, ⟨by (with_reducible repeat (first | refine blk_drewN ?_ _ | refine blk_drew ?_ | refine blk_alloc ?_ _)); refine blk_far ?_ NB216_218.out _; (with_reducible repeat (first | refine blk_drewN ?_ _ | refine blk_drew ?_ | refine blk_alloc ?_ _)); refine blk_far ?_ NB216_218.out _; (with_reducible repeat (first | refine blk_drewN ?_ _ | refine blk_drew ?_ | refine blk_alloc ?_ _)); exact BK216.out⟩, ⟨by (with_reducible repeat (first | refine blk_drewN ?_ _ | refine blk_drew ?_ | refine blk_alloc ?_ _)); refine blk_far ?_ NB217_218.out _; (with_reducible repeat (first | refine blk_drewN ?_ _ | refine blk_drew ?_ | refine blk_alloc ?_ _)); refine blk_far ?_ NB217_218.out _; (with_reducible repeat (first | refine blk_drewN ?_ _ | refine blk_drew ?_ | refine blk_alloc ?_ _)); exact BK217.out⟩, ⟨by (with_reducible repeat (first | refine blk_drewN ?_ _ | refine blk_drew ?_ | refine blk_alloc ?_ _)); refine blk_put (cs := #[.int .u64 t219, .int .u64 x219001_1]) ?_ 1 _ rfl; (with_reducible repeat (first | refine blk_drewN ?_ _ | refine blk_drew ?_ | refine blk_alloc ?_ _)); refine blk_put (cs := #[.int .u64 x219000_1, .int .u64 x219001_1]) ?_ 0 _ rfl; (with_reducible repeat (first | refine blk_drewN ?_ _ | refine blk_drew ?_ | refine blk_alloc ?_ _)); exact BK218.out⟩, ⟨by repeat (first | (with_reducible first | exact HB.out | apply below_alloc | apply pw_below_drewN | apply below_drew1 | refine below_set ?_ GE213.out | refine below_set ?_ GE214.out | refine below_set ?_ GE215.out | refine below_set ?_ GE216.out | refine below_set ?_ GE217.out | refine below_set ?_ GE218.out) | exact HB.out)⟩⟩
            · rw [if_neg c22] at H
              exact absurd H (by simp)
          · rw [if_neg c20] at H
            have c20b0 : decide (64 ≤ x8_1) = false := decide_eq_false c20
            clear c20
            (first | rw [c20b0] | (simp only [i64_w, i32_w]; rw [c20b0]) | skip)
            by_cases c35 : x8_1 < 64
            · rw [if_pos c35] at H
              have c35b0 : decide (x8_1 < 64) = true := decide_eq_true c35
              clear c35
              obtain ⟨ji36, hji36⟩ : ∃ j_ : Int, (IntKind.u64.wrap (x8_1)) = j_ := ⟨_, rfl⟩
              replace H : (if 0 ≤ (ji36) then (timeboundref31_divide.j1 k1 x8_1 ((Go.bits .and .u64 (shr .u64 a0_1 (ji36)) 1) == 1) a0_0 a0_1 a1_0 a1_1 x218000_1 x218001_1 t219 t220) else (none)) = some (r1, r2, r3, r4) := by first | (rw [hji36] at H; exact H) | (simp only [hji36] at H ⊢; exact H)
              by_cases c37 : 0 ≤ (ji36)
              · rw [if_pos c37] at H
                have c37b0 := eq_true c37
                have c37b1 : decide (0 ≤ (ji36)) = true := decide_eq_true c37
                clear c37
                obtain ⟨ji38, hji38⟩ : ∃ j_ : Int, (shr .u64 a0_1 (ji36)) = j_ := ⟨_, rfl⟩
                replace H : (timeboundref31_divide.j1 k1 x8_1 ((Go.bits .and .u64 (ji38) 1) == 1) a0_0 a0_1 a1_0 a1_1 x218000_1 x218001_1 t219 t220) = some (r1, r2, r3, r4) := by first | (rw [hji38] at H; exact H) | (simp only [hji38] at H ⊢; exact H)
                have hji38_ : (a0_1 / 2 ^ min (ji36).toNat 64) = ji38 := hji38
                have hji38z : (ji36) ≤ 64 → (a0_1 / 2 ^ (ji36).toNat) = ji38 := shr_small hji38
                have H' := Aside0.mk H
                clear H
                have hnb39 := NB213_218.out
                have hnc39 := NB218_213.out
                have hcz40_0 : w13.cell? ⟨gb213, 0, none⟩ = some (.int .u64 a0_0) := (blk_cell BK213.out 0).trans rfl
                have hcz40_1 : w13.cell? ⟨gb213, 1, none⟩ = some (.int .u64 a0_1) := (blk_cell BK213.out 1).trans rfl
                have hfz40_0 := blk_frozen BK213.out 0
                have hfz40_1 := blk_frozen BK213.out 1
                go_wp2
                go_meet
                case rel => exact ⟨_, (((Go.bits .and .u64 (ji38) 1) == 1)), (by first | rfl | (simp; done) | (simp only [← hji38] <;> (first | rfl | simp)) | (simp [*]; done)), H', ⟨by have := HK1.out; first | omega | exact Nat.le_refl _⟩, ⟨by (with_reducible repeat (first | refine blk_drewN ?_ _ | refine blk_drew ?_ | refine blk_alloc ?_ _)); refine blk_far ?_ NB213_218.out _; (with_reducible repeat (first | refine blk_drewN ?_ _ | refine blk_drew ?_ | refine blk_alloc ?_ _)); refine blk_far ?_ NB213_218.out _; (with_reducible repeat (first | refine blk_drewN ?_ _ | refine blk_drew ?_ | refine blk_alloc ?_ _)); exact BK213.out⟩, ⟨by (with_reducible repeat (first | refine blk_drewN ?_ _ | refine blk_drew ?_ | refine blk_alloc ?_ _)); refine blk_far ?_ NB214_218.out _; (with_reducible repeat (first | refine blk_drewN ?_ _ | refine blk_drew ?_ | refine blk_alloc ?_ _)); refine blk_far ?_ NB214_218.out _; (with_reducible repeat (first | refine blk_drewN ?_ _ | refine blk_drew ?_ | refine blk_alloc ?_ _)); exact BK214.out⟩, ⟨by (with_reducible repeat (first | refine blk_drewN ?_ _ | refine blk_drew ?_ | refine blk_alloc ?_ _)); refine blk_far ?_ NB215_218.out _; (with_reducible repeat (first | refine blk_drewN ?_ _ | refine blk_drew ?_ | refine blk_alloc ?_ _)); refine blk_far ?_ NB215_218.out _; (with_reducible repeat (first | refine blk_drewN ?_ _ | refine blk_drew ?_ | refine blk_alloc ?_ _)); exact BK215.out⟩, ⟨by (with_reducible repeat (first | refine blk_drewN ?_ _ | refine blk_drew ?_ | refine blk_alloc ?_ _)); refine blk_far ?_ NB216_218.out _; (with_reducible repeat (first | refine blk_drewN ?_ _ | refine blk_drew ?_ | refine blk_alloc ?_ _)); refine blk_far ?_ NB216_218.out _; (with_reducible repeat (first | refine blk_drewN ?_ _ | refine blk_drew ?_ | refine blk_alloc ?_ _)); exact BK216.out⟩, ⟨by (with_reducible repeat (first | refine blk_drewN ?_ _ | refine blk_drew ?_ | refine blk_alloc ?_ _)); refine blk_far ?_ NB217_218.out _; (with_reducible repeat (first | refine blk_drewN ?_ _ | refine blk_drew ?_ | refine blk_alloc ?_ _)); refine blk_far ?_ NB217_218.out _; (with_reducible repeat (first | refine blk_drewN ?_ _ | refine blk_drew ?_ | refine blk_alloc ?_ _)); exact BK217.out⟩, ⟨by (with_reducible repeat (first | refine blk_drewN ?_ _ | refine blk_drew ?_ | refine blk_alloc ?_ _)); refine blk_put (cs := #[.int .u64 t219, .int .u64 x219001_1]) ?_ 1 _ rfl; (with_reducible repeat (first | refine blk_drewN ?_ _ | refine blk_drew ?_ | refine blk_alloc ?_ _)); refine blk_put (cs := #[.int .u64 x219000_1, .int .u64 x219001_1]) ?_ 0 _ rfl; (with_reducible repeat (first | refine blk_drewN ?_ _ | refine blk_drew ?_ | refine blk_alloc ?_ _)); exact BK218.out⟩, ⟨by repeat (first | (with_reducible first | exact HB.out | apply below_alloc | apply pw_below_drewN | apply below_drew1 | refine below_set ?_ GE213.out | refine below_set ?_ GE214.out | refine below_set ?_ GE215.out | refine below_set ?_ GE216.out | refine below_set ?_ GE217.out | refine below_set ?_ GE218.out) | exact HB.out)⟩⟩
              · rw [if_neg c37] at H
                exact absurd H (by simp)
            · rw [if_neg c35] at H
              have c35b0 : decide (x8_1 < 64) = false := decide_eq_false c35
              clear c35
              have H' := Aside0.mk H
              clear H
              go_wp2
              go_meet
              case rel => exact ⟨_, (false), (by first | rfl | (simp; done) | (simp [*]; done)), H', ⟨by have := HK1.out; first | omega | exact Nat.le_refl _⟩, ⟨by (with_reducible repeat (first | refine blk_drewN ?_ _ | refine blk_drew ?_ | refine blk_alloc ?_ _)); refine blk_far ?_ NB213_218.out _; (with_reducible repeat (first | refine blk_drewN ?_ _ | refine blk_drew ?_ | refine blk_alloc ?_ _)); refine blk_far ?_ NB213_218.out _; (with_reducible repeat (first | refine blk_drewN ?_ _ | refine blk_drew ?_ | refine blk_alloc ?_ _)); exact BK213.out⟩, ⟨by (with_reducible repeat (first | refine blk_drewN ?_ _ | refine blk_drew ?_ | refine blk_alloc ?_ _)); refine blk_far ?_ NB214_218.out _; (with_reducible repeat (first | refine blk_drewN ?_ _ | refine blk_drew ?_ | refine blk_alloc ?_ _)); refine blk_far ?_ NB214_218.out _; (with_reducible repeat (first | refine blk_drewN ?_ _ | refine blk_drew ?_ | refine blk_alloc ?_ _)); exact BK214.out⟩, ⟨by (with_reducible repeat (first | refine blk_drewN ?_ _ | refine blk_drew ?_ | refine blk_alloc ?_ _)); refine blk_far ?_ NB215_218.out _; (with_reducible repeat (first | refine blk_drewN ?_ _ | refine blk_drew ?_ | refine blk_alloc ?_ _)); refine blk_far ?_ NB215_218.out _; (with_reducible repeat (first | refine blk_drewN ?_ _ | refine blk_drew ?_ | refine blk_alloc ?_ _)); exact BK215.out⟩, ⟨by (with_reducible repeat (first | refine blk_drewN ?_ _ | refine blk_drew ?_ | refine blk_alloc ?_ _)); refine blk_far ?_ NB216_218.out _; (with_reducible repeat (first | refine blk_drewN ?_ _ | refine blk_drew ?_ | refine blk_alloc ?_ _)); refine blk_far ?_ NB216_218.out _; (with_reducible repeat (first | refine blk_drewN ?_ _ | refine blk_drew ?_ | refine blk_alloc ?_ _)); exact BK216.out⟩, ⟨by (with_reducible repeat (first | refine blk_drewN ?_ _ | refine blk_drew ?_ | refine blk_alloc ?_ _)); refine blk_far ?_ NB217_218.out _; (with_reducible repeat (first | refine blk_drewN ?_ _ | refine blk_drew ?_ | refine blk_alloc ?_ _)); refine blk_far ?_ NB217_218.out _; (with_reducible repeat (first | refine blk_drewN ?_ _ | refine blk_drew ?_ | refine blk_alloc ?_ _)); exact BK217.out⟩, ⟨by (with_reducible repeat (first | refine blk_drewN ?_ _ | refine blk_drew ?_ | refine blk_alloc ?_ _)); refine blk_put (cs := #[.int .u64 t219, .int .u64 x219001_1]) ?_ 1 _ rfl; (with_reducible repeat (first | refine blk_drewN ?_ _ | refine blk_drew ?_ | refine blk_alloc ?_ _)); refine blk_put (cs := #[.int .u64 x219000_1, .int .u64 x219001_1]) ?_ 0 _ rfl; (with_reducible repeat (first | refine blk_drewN ?_ _ | refine blk_drew ?_ | refine blk_alloc ?_ _)); exact BK218.out⟩, ⟨by repeat (first | (with_reducible first | exact HB.out | apply below_alloc | apply pw_below_drewN | apply below_drew1 | refine below_set ?_ GE213.out | refine below_set ?_ GE214.out | refine below_set ?_ GE215.out | refine below_set ?_ GE216.out | refine below_set ?_ GE217.out | refine below_set ?_ GE218.out) | exact HB.out)⟩⟩
        case rest =>
          clear HC11
          try clear c1
          try clear c2
          try clear p2
          try clear c3
          try clear p6
          try clear c9
          try clear c9b0
          try clear c10
          try clear c12
          try clear c14
          try clear c15
          try clear c16
          try clear c17
          try clear c18
          try clear c20
          try clear c20b0
          try clear c22
          try clear c22b0
          try clear c22b1
          try clear c24
          try clear c24b0
          try clear c24b1
          try clear c25
          try clear c27
          try clear c27b0
          try clear c29
          try clear c29b0
          try clear c29b1
          try clear c31
          try clear c33
          try clear c35
          try clear c35b0
          try clear c37
          try clear c37b0
          try clear c37b1
          try clear c39
          try clear hcz12_0
          try clear hcz12_1
          try clear hcz19_0
          try clear hcz19_1
          try clear hcz26_0
          try clear hcz26_1
          try clear hcz32_0
          try clear hcz32_1
          try clear hcz34_0
          try clear hcz34_1
          try clear hcz40_0
          try clear hcz40_1
          try clear hfz12_0
          try clear hfz12_1
          try clear hfz19_0
          try clear hfz19_1
          try clear hfz26_0
          try clear hfz26_1
          try clear hfz32_0
          try clear hfz32_1
          try clear hfz34_0
          try clear hfz34_1
          try clear hfz40_0
          try clear hfz40_1
          try clear p2
          obtain ⟨kq, x39_10, rfl, HA, HJ10, BK213, BK214, BK215, BK216, BK217, BK218, HB⟩ := hcut
          cases kq with
          | zero => exact absurd HA.out (by simp [timeboundref31_divide.j1])
          | succ kj10 =>
            have H := HA.out
            clear HA
            simp only [timeboundref31_divide.j1] at H
            have HC41 := Aside0.mk H
            clear H
            go_upto_if 39 with (fail)
            go_cut [] (fun wc => ∃ (kq : Nat) (x219001_40 : Int), Aside0 (timeboundref31_divide.j2 kq x8_1 a0_0 a0_1 a1_0 a1_1 x218000_1 x218001_1 t219 x219001_40 = some (r1, r2, r3, r4)) ∧ Aside0 (kq ≤ kj10) ∧ Aside0 (wc.heap[gb213]? = some (.cells #[.int .u64 a0_0, .int .u64 a0_1] 75 (0, 0))) ∧ Aside0 (wc.heap[gb214]? = some (.cells #[.int .u64 a1_0, .int .u64 a1_1] 75 (0, 0))) ∧ Aside0 (wc.heap[gb215]? = some (.cells #[.int .u64 0, .int .u64 0] 75 (0, 0))) ∧ Aside0 (wc.heap[gb216]? = some (.cells #[.int .u64 0, .int .u64 0] 75 (0, 0))) ∧ Aside0 (wc.heap[gb217]? = some (.cells #[.int .u64 x218000_1, .int .u64 x218001_1] 75 (0, 0))) ∧ Aside0 (wc.heap[gb218]? = some (.cells #[.int .u64 t219, .int .u64 x219001_40] 75 (0, 0))) ∧ Aside0 (Below w.heap.size w wc))
            case first =>
              have H := HC41.out
              clear HC41
              by_cases c42 : x39_10 = true
              · subst c42
                have H1 : (timeboundref31_divide.j2 kj10 x8_1 a0_0 a0_1 a1_0 a1_1 x218000_1 x218001_1 t219 (Go.bits .or .u64 t220 1)) = some (r1, r2, r3, r4) := by rw [if_pos rfl] at H; exact H
                clear H
                have H := H1
                clear H1
                have H' := Aside0.mk H
                clear H
                have hcz43_0 : wc.cell? ⟨gb218, 0, none⟩ = some (.int .u64 t219) := (blk_cell BK218.out 0).trans rfl
                have hcz43_1 : wc.cell? ⟨gb218, 1, none⟩ = some (.int .u64 t220) := (blk_cell BK218.out 1).trans rfl
                have hfz43_0 := blk_frozen BK218.out 0
                have hfz43_1 := blk_frozen BK218.out 1
                have hnb44 := NB218_213.out
                have hnc44 := NB213_218.out
                have hnb45 := NB218_214.out
                have hnc45 := NB214_218.out
                have hnb46 := NB218_215.out
                have hnc46 := NB215_218.out
                have hnb47 := NB218_216.out
                have hnc47 := NB216_218.out
                have hnb48 := NB218_217.out
                have hnc48 := NB217_218.out
                go_wp2
                go_meet
                case rel => exact ⟨_, (Go.bits .or .u64 t220 1), H', ⟨by have := HK1.out; have := HJ10.out; first | omega | exact Nat.le_refl _⟩, ⟨by (with_reducible repeat (first | refine blk_drewN ?_ _ | refine blk_drew ?_ | refine blk_alloc ?_ _)); refine blk_far ?_ NB213_218.out _; (with_reducible repeat (first | refine blk_drewN ?_ _ | refine blk_drew ?_ | refine blk_alloc ?_ _)); exact BK213.out⟩, ⟨by (with_reducible repeat (first | refine blk_drewN ?_ _ | refine blk_drew ?_ | refine blk_alloc ?_ _)); refine blk_far ?_ NB214_218.out _; (with_reducible repeat (first | refine blk_drewN ?_ _ | refine blk_drew ?_ | refine blk_alloc ?_ _)); exact BK214.out⟩, ⟨by (with_reducible repeat (first | refine blk_drewN ?_ _ | refine blk_drew ?_ | refine blk_alloc ?_ _)); refine blk_far ?_ NB215_218.out _; (with_reducible repeat (first | refine blk_drewN ?_ _ | refine blk_drew ?_ | refine blk_alloc ?_ _)); exact BK215.out⟩, ⟨by (with_reducible repeat (first | refine blk_drewN ?_ _ | refine blk_drew ?_ | refine blk_alloc ?_ _)); refine blk_far ?_ NB216_218.out _; (with_reducible repeat (first | refine blk_drewN ?_ _ | refine blk_drew ?_ | refine blk_alloc ?_ _)); exact BK216.out⟩, ⟨by (with_reducible repeat (first | refine blk_drewN ?_ _ | refine blk_drew ?_ | refine blk_alloc ?_ _)); refine blk_far ?_ NB217_218.out _; (with_reducible repeat (first | refine blk_drewN ?_ _ | refine blk_drew ?_ | refine blk_alloc ?_ _)); exact BK217.out⟩, ⟨by (with_reducible repeat (first | refine blk_drewN ?_ _ | refine blk_drew ?_ | refine blk_alloc ?_ _)); refine blk_put (cs := #[.int .u64 t219, .int .u64 t220]) ?_ 1 _ rfl; (with_reducible repeat (first | refine blk_drewN ?_ _ | refine blk_drew ?_ | refine blk_alloc ?_ _)); exact BK218.out⟩, ⟨by repeat (first | (with_reducible first | exact HB.out | apply below_alloc | apply pw_below_drewN | apply below_drew1 | refine below_set ?_ GE213.out | refine below_set ?_ GE214.out | refine below_set ?_ GE215.out | refine below_set ?_ GE216.out | refine below_set ?_ GE217.out | refine below_set ?_ GE218.out) | exact HB.out)⟩⟩
              · replace c42 := Bool.eq_false_iff.mpr c42
                subst c42
                have H1 : (timeboundref31_divide.j2 kj10 x8_1 a0_0 a0_1 a1_0 a1_1 x218000_1 x218001_1 t219 t220) = some (r1, r2, r3, r4) := by rw [if_neg (show ¬ (false = true) by decide)] at H; exact H
                clear H
                have H := H1
                clear H1
                have H' := Aside0.mk H
                clear H
                go_wp2
                go_meet
                case rel => exact ⟨_, (t220), H', ⟨by have := HK1.out; have := HJ10.out; first | omega | exact Nat.le_refl _⟩, ⟨by (with_reducible repeat (first | refine blk_drewN ?_ _ | refine blk_drew ?_ | refine blk_alloc ?_ _)); exact BK213.out⟩, ⟨by (with_reducible repeat (first | refine blk_drewN ?_ _ | refine blk_drew ?_ | refine blk_alloc ?_ _)); exact BK214.out⟩, ⟨by (with_reducible repeat (first | refine blk_drewN ?_ _ | refine blk_drew ?_ | refine blk_alloc ?_ _)); exact BK215.out⟩, ⟨by (with_reducible repeat (first | refine blk_drewN ?_ _ | refine blk_drew ?_ | refine blk_alloc ?_ _)); exact BK216.out⟩, ⟨by (with_reducible repeat (first | refine blk_drewN ?_ _ | refine blk_drew ?_ | refine blk_alloc ?_ _)); exact BK217.out⟩, ⟨by (with_reducible repeat (first | refine blk_drewN ?_ _ | refine blk_drew ?_ | refine blk_alloc ?_ _)); exact BK218.out⟩, ⟨by repeat (first | (with_reducible first | exact HB.out | apply below_alloc | apply pw_below_drewN | apply below_drew1 | refine below_set ?_ GE213.out | refine below_set ?_ GE214.out | refine below_set ?_ GE215.out | refine below_set ?_ GE216.out | refine below_set ?_ GE217.out | refine below_set ?_ GE218.out) | exact HB.out)⟩⟩
            case rest =>
              clear HC41
              try clear c1
              try clear c2
              try clear p2
              try clear c3
              try clear c4
              try clear p6
              try clear c9
              try clear c9b0
              try clear c10
              try clear c12
              try clear c14
              try clear c15
              try clear c16
              try clear c17
              try clear c18
              try clear c20
              try clear c20b0
              try clear c22
              try clear c22b0
              try clear c22b1
              try clear c24
              try clear c24b0
              try clear c24b1
              try clear c25
              try clear c27
              try clear c27b0
              try clear c29
              try clear c29b0
              try clear c29b1
              try clear c31
              try clear c33
              try clear c35
              try clear c35b0
              try clear c37
              try clear c37b0
              try clear c37b1
              try clear c39
              try clear c42
              try clear c44
              try clear c45
              try clear c46
              try clear c47
              try clear c48
              try clear hcz12_0
              try clear hcz12_1
              try clear hcz19_0
              try clear hcz19_1
              try clear hcz26_0
              try clear hcz26_1
              try clear hcz32_0
              try clear hcz32_1
              try clear hcz34_0
              try clear hcz34_1
              try clear hcz40_0
              try clear hcz40_1
              try clear hcz43_0
              try clear hcz43_1
              try clear hfz12_0
              try clear hfz12_1
              try clear hfz19_0
              try clear hfz19_1
              try clear hfz26_0
              try clear hfz26_1
              try clear hfz32_0
              try clear hfz32_1
              try clear hfz34_0
              try clear hfz34_1
              try clear hfz40_0
              try clear hfz40_1
              try clear hfz43_0
              try clear hfz43_1
              try clear p2
              try clear p6
              obtain ⟨kq, x219001_40, HA, HJ40, BK213, BK214, BK215, BK216, BK217, BK218, HB⟩ := hcut
              cases kq with
              | zero => exact absurd HA.out (by simp [timeboundref31_divide.j2])
              | succ kj40 =>
                have H := HA.out
                clear HA
                simp only [timeboundref31_divide.j2] at H
                replace H := Option.bind_eq_some_iff.mp H
                obtain ⟨⟨t221, t222⟩, A490, H⟩ := H
                replace H : ((timeboundref31_less.f t219 x219001_40 a1_0 a1_1).bind fun t223 => (if t223 = true then (timeboundref31_divide.l0 kj40 (wrap64 (x8_1 - 1)) a0_0 a0_1 a1_0 a1_1 t221 t222 t219 x219001_40) else ((timeboundref31_sub.f t219 x219001_40 a1_0 a1_1).bind fun bt224 => (timeboundref31_divide.l0 kj40 (wrap64 (x8_1 - 1)) a0_0 a0_1 a1_0 a1_1 t221 (Go.bits .or .u64 t222 1) bt224.1 bt224.2)))) = some (r1, r2, r3, r4) := H
                have A49 := Aside0.mk A490
                clear A490
                replace H := Option.bind_eq_some_iff.mp H
                obtain ⟨t223, A500, H⟩ := H
                replace H : (if t223 = true then (timeboundref31_divide.l0 kj40 (wrap64 (x8_1 - 1)) a0_0 a0_1 a1_0 a1_1 t221 t222 t219 x219001_40) else ((timeboundref31_sub.f t219 x219001_40 a1_0 a1_1).bind fun bt224 => (timeboundref31_divide.l0 kj40 (wrap64 (x8_1 - 1)) a0_0 a0_1 a1_0 a1_1 t221 (Go.bits .or .u64 t222 1) bt224.1 bt224.2))) = some (r1, r2, r3, r4) := H
                have A50 := Aside0.mk A500
                clear A500
                by_cases c51 : t223 = true
                · subst c51
                  have H1 : (timeboundref31_divide.l0 kj40 (wrap64 (x8_1 - 1)) a0_0 a0_1 a1_0 a1_1 t221 t222 t219 x219001_40) = some (r1, r2, r3, r4) := by rw [if_pos rfl] at H; exact H
                  clear H
                  have H := H1
                  clear H1
                  have H' := Aside0.mk H
                  clear H
                  have hcz52_0 : wc.cell? ⟨gb217, 0, none⟩ = some (.int .u64 x218000_1) := (blk_cell BK217.out 0).trans rfl
                  have hcz52_1 : wc.cell? ⟨gb217, 1, none⟩ = some (.int .u64 x218001_1) := (blk_cell BK217.out 1).trans rfl
                  have hfz52_0 := blk_frozen BK217.out 0
                  have hfz52_1 := blk_frozen BK217.out 1
                  go_wp2_with (first | ((with_reducible refine gate_callee (f := 122) rfl ?_); refine goesL_ (some 45) rfl rfl Try.func122 (by kernel_rfl) rfl #[.agg #[.int .u64 x218000_1, .int .u64 x218001_1]] rfl (by (try simp only [List.map_toArray, List.map_cons, List.map_nil]); first | done | rfl | (simp only [List.length_drop, List.length_take]; rfl)) ?_; (with_reducible refine (timeboundref31_double.calls x218000_1 x218001_1 t221 t222 _ A49.out).mono ?_); rintro e w53 ⟨rfl, hb⟩; refine ⟨_, rfl, ?_⟩; replace BK213 := bkb BK213 hb; replace BK214 := bkb BK214 hb; replace BK215 := bkb BK215 hb; replace BK216 := bkb BK216 hb; replace BK217 := bkb BK217 hb; replace BK218 := bkb BK218 hb; replace HB := blw HB hb; (try clear hb); (try clear hb2); (try clear hk); (try clear hi); have hnb54 := NB217_213.out; have hnc54 := NB213_217.out; have hnb55 := NB217_214.out; have hnc55 := NB214_217.out; have hnb56 := NB217_215.out; have hnc56 := NB215_217.out; have hnb57 := NB217_216.out; have hnc57 := NB216_217.out; have hnb58 := NB217_218.out; have hnc58 := NB218_217.out; have hcz59_0 : w53.cell? ⟨gb217, 0, none⟩ = some (.int .u64 x218000_1) := (blk_cell BK217.out 0).trans rfl; have hcz59_1 : w53.cell? ⟨gb217, 1, none⟩ = some (.int .u64 x218001_1) := (blk_cell BK217.out 1).trans rfl; have hfz59_0 := blk_frozen BK217.out 0; have hfz59_1 := blk_frozen BK217.out 1; have hcz60_0 : w53.cell? ⟨gb218, 0, none⟩ = some (.int .u64 t219) := (blk_cell BK218.out 0).trans rfl; have hcz60_1 : w53.cell? ⟨gb218, 1, none⟩ = some (.int .u64 x219001_40) := (blk_cell BK218.out 1).trans rfl; have hfz60_0 := blk_frozen BK218.out 0; have hfz60_1 := blk_frozen BK218.out 1; have hcz61_0 : w53.cell? ⟨gb214, 0, none⟩ = some (.int .u64 a1_0) := (blk_cell BK214.out 0).trans rfl; have hcz61_1 : w53.cell? ⟨gb214, 1, none⟩ = some (.int .u64 a1_1) := (blk_cell BK214.out 1).trans rfl; have hfz61_0 := blk_frozen BK214.out 0; have hfz61_1 := blk_frozen BK214.out 1) | ((with_reducible refine gate_callee (f := 71) rfl ?_); refine goesL_ (some 48) rfl rfl Try.func71 (by kernel_rfl) rfl #[.agg #[.int .u64 t219, .int .u64 x219001_40], .agg #[.int .u64 a1_0, .int .u64 a1_1]] rfl (by (try simp only [List.map_toArray, List.map_cons, List.map_nil]); first | done | rfl | (simp only [List.length_drop, List.length_take]; rfl)) ?_; (with_reducible refine (timeboundref31_less.calls t219 x219001_40 a1_0 a1_1 true _ A50.out).mono ?_); rintro e w62 ⟨rfl, hb⟩; refine ⟨_, rfl, ?_⟩; replace BK213 := Aside0.mk (blk_below (g := gb213) (o := .cells #[.int .u64 a0_0, .int .u64 a0_1] 75 (0, 0)) (by (with_reducible repeat (first | refine blk_drewN ?_ _ | refine blk_drew ?_ | refine blk_alloc ?_ _)); refine blk_far ?_ NB213_217.out _; (with_reducible repeat (first | refine blk_drewN ?_ _ | refine blk_drew ?_ | refine blk_alloc ?_ _)); refine blk_far ?_ NB213_217.out _; (with_reducible repeat (first | refine blk_drewN ?_ _ | refine blk_drew ?_ | refine blk_alloc ?_ _)); exact BK213.out) hb); replace BK214 := Aside0.mk (blk_below (g := gb214) (o := .cells #[.int .u64 a1_0, .int .u64 a1_1] 75 (0, 0)) (by (with_reducible repeat (first | refine blk_drewN ?_ _ | refine blk_drew ?_ | refine blk_alloc ?_ _)); refine blk_far ?_ NB214_217.out _; (with_reducible repeat (first | refine blk_drewN ?_ _ | refine blk_drew ?_ | refine blk_alloc ?_ _)); refine blk_far ?_ NB214_217.out _; (with_reducible repeat (first | refine blk_drewN ?_ _ | refine blk_drew ?_ | refine blk_alloc ?_ _)); exact BK214.out) hb); replace BK215 := Aside0.mk (blk_below (g := gb215) (o := .cells #[.int .u64 0, .int .u64 0] 75 (0, 0)) (by (with_reducible repeat (first | refine blk_drewN ?_ _ | refine blk_drew ?_ | refine blk_alloc ?_ _)); refine blk_far ?_ NB215_217.out _; (with_reducible repeat (first | refine blk_drewN ?_ _ | refine blk_drew ?_ | refine blk_alloc ?_ _)); refine blk_far ?_ NB215_217.out _; (with_reducible repeat (first | refine blk_drewN ?_ _ | refine blk_drew ?_ | refine blk_alloc ?_ _)); exact BK215.out) hb); replace BK216 := Aside0.mk (blk_below (g := gb216) (o := .cells #[.int .u64 0, .int .u64 0] 75 (0, 0)) (by (with_reducible repeat (first | refine blk_drewN ?_ _ | refine blk_drew ?_ | refine blk_alloc ?_ _)); refine blk_far ?_ NB216_217.out _; (with_reducible repeat (first | refine blk_drewN ?_ _ | refine blk_drew ?_ | refine blk_alloc ?_ _)); refine blk_far ?_ NB216_217.out _; (with_reducible repeat (first | refine blk_drewN ?_ _ | refine blk_drew ?_ | refine blk_alloc ?_ _)); exact BK216.out) hb); replace BK217 := Aside0.mk (blk_below (g := gb217) (o := .cells #[.int .u64 t221, .int .u64 t222] 75 (0, 0)) (by (with_reducible repeat (first | refine blk_drewN ?_ _ | refine blk_drew ?_ | refine blk_alloc ?_ _)); refine blk_put (cs := #[.int .u64 t221, .int .u64 x218001_1]) ?_ 1 _ rfl; (with_reducible repeat (first | refine blk_drewN ?_ _ | refine blk_drew ?_ | refine blk_alloc ?_ _)); refine blk_put (cs := #[.int .u64 x218000_1, .int .u64 x218001_1]) ?_ 0 _ rfl; (with_reducible repeat (first | refine blk_drewN ?_ _ | refine blk_drew ?_ | refine blk_alloc ?_ _)); exact BK217.out) hb); replace BK218 := Aside0.mk (blk_below (g := gb218) (o := .cells #[.int .u64 t219, .int .u64 x219001_40] 75 (0, 0)) (by (with_reducible repeat (first | refine blk_drewN ?_ _ | refine blk_drew ?_ | refine blk_alloc ?_ _)); refine blk_far ?_ NB218_217.out _; (with_reducible repeat (first | refine blk_drewN ?_ _ | refine blk_drew ?_ | refine blk_alloc ?_ _)); refine blk_far ?_ NB218_217.out _; (with_reducible repeat (first | refine blk_drewN ?_ _ | refine blk_drew ?_ | refine blk_alloc ?_ _)); exact BK218.out) hb); replace HB := Aside0.mk (below_step (by repeat (first | (with_reducible first | exact HB.out | apply below_alloc | apply pw_below_drewN | apply below_drew1 | refine below_set ?_ GE213.out | refine below_set ?_ GE214.out | refine below_set ?_ GE215.out | refine below_set ?_ GE216.out | refine below_set ?_ GE217.out | refine below_set ?_ GE218.out) | exact HB.out)) hb); (try clear hb); (try clear hb2); (try clear hk); (try clear hi)))
                  go_roundg kj40
                  case measure => have := HK1.out; have := HJ10.out; have := HJ40.out; omega
                  case rel => exact ⟨(wrap64 (x8_1 - 1)), (t221), (t222), (t219), (x219001_40), (by first | rfl | (simp; done) | (simp [*]; done)), H', ⟨by have := HK1.out; have := HJ10.out; have := HJ40.out; omega⟩, ⟨by (with_reducible repeat (first | refine blk_drewN ?_ _ | refine blk_drew ?_ | refine blk_alloc ?_ _)); exact BK213.out⟩, ⟨by (with_reducible repeat (first | refine blk_drewN ?_ _ | refine blk_drew ?_ | refine blk_alloc ?_ _)); exact BK214.out⟩, ⟨by (with_reducible repeat (first | refine blk_drewN ?_ _ | refine blk_drew ?_ | refine blk_alloc ?_ _)); exact BK215.out⟩, ⟨by (with_reducible repeat (first | refine blk_drewN ?_ _ | refine blk_drew ?_ | refine blk_alloc ?_ _)); exact BK216.out⟩, ⟨by (with_reducible repeat (first | refine blk_drewN ?_ _ | refine blk_drew ?_ | refine blk_alloc ?_ _)); exact BK217.out⟩, ⟨by (with_reducible repeat (first | refine blk_drewN ?_ _ | refine blk_drew ?_ | refine blk_alloc ?_ _)); exact BK218.out⟩, ⟨by repeat (first | (with_reducible first | exact HB.out | apply below_alloc | apply pw_below_drewN | apply below_drew1 | refine below_set ?_ GE213.out | refine below_set ?_ GE214.out | refine below_set ?_ GE215.out | refine below_set ?_ GE216.out | refine below_set ?_ GE217.out | refine below_set ?_ GE218.out) | exact HB.out)⟩⟩
                · replace c51 := Bool.eq_false_iff.mpr c51
                  subst c51
                  have H1 : ((timeboundref31_sub.f t219 x219001_40 a1_0 a1_1).bind fun bt224 => (timeboundref31_divide.l0 kj40 (wrap64 (x8_1 - 1)) a0_0 a0_1 a1_0 a1_1 t221 (Go.bits .or .u64 t222 1) bt224.1 bt224.2)) = some (r1, r2, r3, r4) := by rw [if_neg (show ¬ (false = true) by decide)] at H; exact H
                  clear H
                  have H := H1
                  clear H1
                  replace H := Option.bind_eq_some_iff.mp H
                  obtain ⟨⟨t224, t225⟩, A630, H⟩ := H
                  replace H : (timeboundref31_divide.l0 kj40 (wrap64 (x8_1 - 1)) a0_0 a0_1 a1_0 a1_1 t221 (Go.bits .or .u64 t222 1) t224 t225) = some (r1, r2, r3, r4) := H
                  have A63 := Aside0.mk A630
                  clear A630
                  have H' := Aside0.mk H
                  clear H
                  have hcz64_0 : wc.cell? ⟨gb217, 0, none⟩ = some (.int .u64 x218000_1) := (blk_cell BK217.out 0).trans rfl
                  have hcz64_1 : wc.cell? ⟨gb217, 1, none⟩ = some (.int .u64 x218001_1) := (blk_cell BK217.out 1).trans rfl
                  have hfz64_0 := blk_frozen BK217.out 0
                  have hfz64_1 := blk_frozen BK217.out 1
                  go_wp2_with (first | ((with_reducible refine gate_callee (f := 122) rfl ?_); refine goesL_ (some 45) rfl rfl Try.func122 (by kernel_rfl) rfl #[.agg #[.int .u64 x218000_1, .int .u64 x218001_1]] rfl (by (try simp only [List.map_toArray, List.map_cons, List.map_nil]); first | done | rfl | (simp only [List.length_drop, List.length_take]; rfl)) ?_; (with_reducible refine (timeboundref31_double.calls x218000_1 x218001_1 t221 t222 _ A49.out).mono ?_); rintro e w65 ⟨rfl, hb⟩; refine ⟨_, rfl, ?_⟩; replace BK213 := bkb BK213 hb; replace BK214 := bkb BK214 hb; replace BK215 := bkb BK215 hb; replace BK216 := bkb BK216 hb; replace BK217 := bkb BK217 hb; replace BK218 := bkb BK218 hb; replace HB := blw HB hb; (try clear hb); (try clear hb2); (try clear hk); (try clear hi); have hnb66 := NB217_213.out; have hnc66 := NB213_217.out; have hnb67 := NB217_214.out; have hnc67 := NB214_217.out; have hnb68 := NB217_215.out; have hnc68 := NB215_217.out; have hnb69 := NB217_216.out; have hnc69 := NB216_217.out; have hnb70 := NB217_218.out; have hnc70 := NB218_217.out; have hcz71_0 : w65.cell? ⟨gb217, 0, none⟩ = some (.int .u64 x218000_1) := (blk_cell BK217.out 0).trans rfl; have hcz71_1 : w65.cell? ⟨gb217, 1, none⟩ = some (.int .u64 x218001_1) := (blk_cell BK217.out 1).trans rfl; have hfz71_0 := blk_frozen BK217.out 0; have hfz71_1 := blk_frozen BK217.out 1; have hcz72_0 : w65.cell? ⟨gb218, 0, none⟩ = some (.int .u64 t219) := (blk_cell BK218.out 0).trans rfl; have hcz72_1 : w65.cell? ⟨gb218, 1, none⟩ = some (.int .u64 x219001_40) := (blk_cell BK218.out 1).trans rfl; have hfz72_0 := blk_frozen BK218.out 0; have hfz72_1 := blk_frozen BK218.out 1; have hcz73_0 : w65.cell? ⟨gb214, 0, none⟩ = some (.int .u64 a1_0) := (blk_cell BK214.out 0).trans rfl; have hcz73_1 : w65.cell? ⟨gb214, 1, none⟩ = some (.int .u64 a1_1) := (blk_cell BK214.out 1).trans rfl; have hfz73_0 := blk_frozen BK214.out 0; have hfz73_1 := blk_frozen BK214.out 1) | ((with_reducible refine gate_callee (f := 71) rfl ?_); refine goesL_ (some 48) rfl rfl Try.func71 (by kernel_rfl) rfl #[.agg #[.int .u64 t219, .int .u64 x219001_40], .agg #[.int .u64 a1_0, .int .u64 a1_1]] rfl (by (try simp only [List.map_toArray, List.map_cons, List.map_nil]); first | done | rfl | (simp only [List.length_drop, List.length_take]; rfl)) ?_; (with_reducible refine (timeboundref31_less.calls t219 x219001_40 a1_0 a1_1 false _ A50.out).mono ?_); rintro e w74 ⟨rfl, hb⟩; refine ⟨_, rfl, ?_⟩; replace BK213 := Aside0.mk (blk_below (g := gb213) (o := .cells #[.int .u64 a0_0, .int .u64 a0_1] 75 (0, 0)) (by (with_reducible repeat (first | refine blk_drewN ?_ _ | refine blk_drew ?_ | refine blk_alloc ?_ _)); refine blk_far ?_ NB213_217.out _; (with_reducible repeat (first | refine blk_drewN ?_ _ | refine blk_drew ?_ | refine blk_alloc ?_ _)); refine blk_far ?_ NB213_217.out _; (with_reducible repeat (first | refine blk_drewN ?_ _ | refine blk_drew ?_ | refine blk_alloc ?_ _)); exact BK213.out) hb); replace BK214 := Aside0.mk (blk_below (g := gb214) (o := .cells #[.int .u64 a1_0, .int .u64 a1_1] 75 (0, 0)) (by (with_reducible repeat (first | refine blk_drewN ?_ _ | refine blk_drew ?_ | refine blk_alloc ?_ _)); refine blk_far ?_ NB214_217.out _; (with_reducible repeat (first | refine blk_drewN ?_ _ | refine blk_drew ?_ | refine blk_alloc ?_ _)); refine blk_far ?_ NB214_217.out _; (with_reducible repeat (first | refine blk_drewN ?_ _ | refine blk_drew ?_ | refine blk_alloc ?_ _)); exact BK214.out) hb); replace BK215 := Aside0.mk (blk_below (g := gb215) (o := .cells #[.int .u64 0, .int .u64 0] 75 (0, 0)) (by (with_reducible repeat (first | refine blk_drewN ?_ _ | refine blk_drew ?_ | refine blk_alloc ?_ _)); refine blk_far ?_ NB215_217.out _; (with_reducible repeat (first | refine blk_drewN ?_ _ | refine blk_drew ?_ | refine blk_alloc ?_ _)); refine blk_far ?_ NB215_217.out _; (with_reducible repeat (first | refine blk_drewN ?_ _ | refine blk_drew ?_ | refine blk_alloc ?_ _)); exact BK215.out) hb); replace BK216 := Aside0.mk (blk_below (g := gb216) (o := .cells #[.int .u64 0, .int .u64 0] 75 (0, 0)) (by (with_reducible repeat (first | refine blk_drewN ?_ _ | refine blk_drew ?_ | refine blk_alloc ?_ _)); refine blk_far ?_ NB216_217.out _; (with_reducible repeat (first | refine blk_drewN ?_ _ | refine blk_drew ?_ | refine blk_alloc ?_ _)); refine blk_far ?_ NB216_217.out _; (with_reducible repeat (first | refine blk_drewN ?_ _ | refine blk_drew ?_ | refine blk_alloc ?_ _)); exact BK216.out) hb); replace BK217 := Aside0.mk (blk_below (g := gb217) (o := .cells #[.int .u64 t221, .int .u64 t222] 75 (0, 0)) (by (with_reducible repeat (first | refine blk_drewN ?_ _ | refine blk_drew ?_ | refine blk_alloc ?_ _)); refine blk_put (cs := #[.int .u64 t221, .int .u64 x218001_1]) ?_ 1 _ rfl; (with_reducible repeat (first | refine blk_drewN ?_ _ | refine blk_drew ?_ | refine blk_alloc ?_ _)); refine blk_put (cs := #[.int .u64 x218000_1, .int .u64 x218001_1]) ?_ 0 _ rfl; (with_reducible repeat (first | refine blk_drewN ?_ _ | refine blk_drew ?_ | refine blk_alloc ?_ _)); exact BK217.out) hb); replace BK218 := Aside0.mk (blk_below (g := gb218) (o := .cells #[.int .u64 t219, .int .u64 x219001_40] 75 (0, 0)) (by (with_reducible repeat (first | refine blk_drewN ?_ _ | refine blk_drew ?_ | refine blk_alloc ?_ _)); refine blk_far ?_ NB218_217.out _; (with_reducible repeat (first | refine blk_drewN ?_ _ | refine blk_drew ?_ | refine blk_alloc ?_ _)); refine blk_far ?_ NB218_217.out _; (with_reducible repeat (first | refine blk_drewN ?_ _ | refine blk_drew ?_ | refine blk_alloc ?_ _)); exact BK218.out) hb); replace HB := Aside0.mk (below_step (by repeat (first | (with_reducible first | exact HB.out | apply below_alloc | apply pw_below_drewN | apply below_drew1 | refine below_set ?_ GE213.out | refine below_set ?_ GE214.out | refine below_set ?_ GE215.out | refine below_set ?_ GE216.out | refine below_set ?_ GE217.out | refine below_set ?_ GE218.out) | exact HB.out)) hb); (try clear hb); (try clear hb2); (try clear hk); (try clear hi); have hcz75_0 : w74.cell? ⟨gb218, 0, none⟩ = some (.int .u64 t219) := (blk_cell BK218.out 0).trans rfl; have hcz75_1 : w74.cell? ⟨gb218, 1, none⟩ = some (.int .u64 x219001_40) := (blk_cell BK218.out 1).trans rfl; have hfz75_0 := blk_frozen BK218.out 0; have hfz75_1 := blk_frozen BK218.out 1; have hcz76_0 : w74.cell? ⟨gb214, 0, none⟩ = some (.int .u64 a1_0) := (blk_cell BK214.out 0).trans rfl; have hcz76_1 : w74.cell? ⟨gb214, 1, none⟩ = some (.int .u64 a1_1) := (blk_cell BK214.out 1).trans rfl; have hfz76_0 := blk_frozen BK214.out 0; have hfz76_1 := blk_frozen BK214.out 1) | ((with_reducible refine gate_callee (f := 72) rfl ?_); refine goesL_ (some 52) rfl rfl Try.func72 (by kernel_rfl) rfl #[.agg #[.int .u64 t219, .int .u64 x219001_40], .agg #[.int .u64 a1_0, .int .u64 a1_1]] rfl (by (try simp only [List.map_toArray, List.map_cons, List.map_nil]); first | done | rfl | (simp only [List.length_drop, List.length_take]; rfl)) ?_; (with_reducible refine (timeboundref31_sub.calls t219 x219001_40 a1_0 a1_1 t224 t225 _ A63.out).mono ?_); rintro e w77 ⟨rfl, hb⟩; refine ⟨_, rfl, ?_⟩; replace BK213 := bkb BK213 hb; replace BK214 := bkb BK214 hb; replace BK215 := bkb BK215 hb; replace BK216 := bkb BK216 hb; replace BK217 := bkb BK217 hb; replace BK218 := bkb BK218 hb; replace HB := blw HB hb; (try clear hb); (try clear hb2); (try clear hk); (try clear hi); have hnb78 := NB218_213.out; have hnc78 := NB213_218.out; have hnb79 := NB218_214.out; have hnc79 := NB214_218.out; have hnb80 := NB218_215.out; have hnc80 := NB215_218.out; have hnb81 := NB218_216.out; have hnc81 := NB216_218.out; have hcz82_0 : w77.cell? ⟨gb218, 0, none⟩ = some (.int .u64 t219) := (blk_cell BK218.out 0).trans rfl; have hcz82_1 : w77.cell? ⟨gb218, 1, none⟩ = some (.int .u64 x219001_40) := (blk_cell BK218.out 1).trans rfl; have hfz82_0 := blk_frozen BK218.out 0; have hfz82_1 := blk_frozen BK218.out 1; have hcz83_0 : w77.cell? ⟨gb217, 0, none⟩ = some (.int .u64 t221) := (blk_cell BK217.out 0).trans rfl; have hcz83_1 : w77.cell? ⟨gb217, 1, none⟩ = some (.int .u64 t222) := (blk_cell BK217.out 1).trans rfl; have hfz83_0 := blk_frozen BK217.out 0; have hfz83_1 := blk_frozen BK217.out 1))
                  go_roundg kj40
                  case measure => have := HK1.out; have := HJ10.out; have := HJ40.out; omega
                  case rel => exact ⟨(wrap64 (x8_1 - 1)), (t221), (Go.bits .or .u64 t222 1), (t224), (t225), (by first | rfl | (simp; done) | (simp [*]; done)), H', ⟨by have := HK1.out; have := HJ10.out; have := HJ40.out; omega⟩, ⟨by (with_reducible repeat (first | refine blk_drewN ?_ _ | refine blk_drew ?_ | refine blk_alloc ?_ _)); refine blk_far ?_ NB213_217.out _; (with_reducible repeat (first | refine blk_drewN ?_ _ | refine blk_drew ?_ | refine blk_alloc ?_ _)); refine blk_far ?_ NB213_218.out _; (with_reducible repeat (first | refine blk_drewN ?_ _ | refine blk_drew ?_ | refine blk_alloc ?_ _)); refine blk_far ?_ NB213_218.out _; (with_reducible repeat (first | refine blk_drewN ?_ _ | refine blk_drew ?_ | refine blk_alloc ?_ _)); exact BK213.out⟩, ⟨by (with_reducible repeat (first | refine blk_drewN ?_ _ | refine blk_drew ?_ | refine blk_alloc ?_ _)); refine blk_far ?_ NB214_217.out _; (with_reducible repeat (first | refine blk_drewN ?_ _ | refine blk_drew ?_ | refine blk_alloc ?_ _)); refine blk_far ?_ NB214_218.out _; (with_reducible repeat (first | refine blk_drewN ?_ _ | refine blk_drew ?_ | refine blk_alloc ?_ _)); refine blk_far ?_ NB214_218.out _; (with_reducible repeat (first | refine blk_drewN ?_ _ | refine blk_drew ?_ | refine blk_alloc ?_ _)); exact BK214.out⟩, ⟨by (with_reducible repeat (first | refine blk_drewN ?_ _ | refine blk_drew ?_ | refine blk_alloc ?_ _)); refine blk_far ?_ NB215_217.out _; (with_reducible repeat (first | refine blk_drewN ?_ _ | refine blk_drew ?_ | refine blk_alloc ?_ _)); refine blk_far ?_ NB215_218.out _; (with_reducible repeat (first | refine blk_drewN ?_ _ | refine blk_drew ?_ | refine blk_alloc ?_ _)); refine blk_far ?_ NB215_218.out _; (with_reducible repeat (first | refine blk_drewN ?_ _ | refine blk_drew ?_ | refine blk_alloc ?_ _)); exact BK215.out⟩, ⟨by (with_reducible repeat (first | refine blk_drewN ?_ _ | refine blk_drew ?_ | refine blk_alloc ?_ _)); refine blk_far ?_ NB216_217.out _; (with_reducible repeat (first | refine blk_drewN ?_ _ | refine blk_drew ?_ | refine blk_alloc ?_ _)); refine blk_far ?_ NB216_218.out _; (with_reducible repeat (first | refine blk_drewN ?_ _ | refine blk_drew ?_ | refine blk_alloc ?_ _)); refine blk_far ?_ NB216_218.out _; (with_reducible repeat (first | refine blk_drewN ?_ _ | refine blk_drew ?_ | refine blk_alloc ?_ _)); exact BK216.out⟩, ⟨by (with_reducible repeat (first | refine blk_drewN ?_ _ | refine blk_drew ?_ | refine blk_alloc ?_ _)); refine blk_put (cs := #[.int .u64 t221, .int .u64 t222]) ?_ 1 _ rfl; (with_reducible repeat (first | refine blk_drewN ?_ _ | refine blk_drew ?_ | refine blk_alloc ?_ _)); refine blk_far ?_ NB217_218.out _; (with_reducible repeat (first | refine blk_drewN ?_ _ | refine blk_drew ?_ | refine blk_alloc ?_ _)); refine blk_far ?_ NB217_218.out _; (with_reducible repeat (first | refine blk_drewN ?_ _ | refine blk_drew ?_ | refine blk_alloc ?_ _)); exact BK217.out⟩, ⟨by (with_reducible repeat (first | refine blk_drewN ?_ _ | refine blk_drew ?_ | refine blk_alloc ?_ _)); refine blk_far ?_ NB218_217.out _; (with_reducible repeat (first | refine blk_drewN ?_ _ | refine blk_drew ?_ | refine blk_alloc ?_ _)); refine blk_put (cs := #[.int .u64 t224, .int .u64 x219001_40]) ?_ 1 _ rfl; (with_reducible repeat (first | refine blk_drewN ?_ _ | refine blk_drew ?_ | refine blk_alloc ?_ _)); refine blk_put (cs := #[.int .u64 t219, .int .u64 x219001_40]) ?_ 0 _ rfl; (with_reducible repeat (first | refine blk_drewN ?_ _ | refine blk_drew ?_ | refine blk_alloc ?_ _)); exact BK218.out⟩, ⟨by repeat (first | (with_reducible first | exact HB.out | apply below_alloc | apply pw_below_drewN | apply below_drew1 | refine below_set ?_ GE213.out | refine below_set ?_ GE214.out | refine below_set ?_ GE215.out | refine below_set ?_ GE216.out | refine below_set ?_ GE217.out | refine below_set ?_ GE218.out) | exact HB.out)⟩⟩
      · rw [if_neg c9] at H
        have c9b0 : decide (0 ≤ x8_1) = false := decide_eq_false c9
        clear c9
        simp only [Option.some.injEq, Prod.mk.injEq] at H
        obtain ⟨rfl, rfl, rfl, rfl⟩ := H
        try go_wp2
        have n0_ := Aside0.mk (blk_drew BK213.out)
        have n1_ := Aside0.mk (blk_drew BK214.out)
        have n2_ := Aside0.mk (blk_drew BK215.out)
        have n3_ := Aside0.mk (blk_drew BK216.out)
        have n4_ := Aside0.mk (blk_drew BK217.out)
        have n5_ := Aside0.mk (blk_drew BK218.out)
        have n6_ := Aside0.mk (below_drew1 HB.out)
        clear BK213
        clear BK214
        clear BK215
        clear BK216
        clear BK217
        clear BK218
        clear HB
        have BK213 := n0_
        have BK214 := n1_
        have BK215 := n2_
        have BK216 := n3_
        have BK217 := n4_
        have BK218 := n5_
        have HB := n6_
        clear n0_ n1_ n2_ n3_ n4_ n5_ n6_
        refine start_ (n := 4) (S := fun w' => w'.cell? ⟨gb217, 0, none⟩ = some (.int .u64 x218000_1) ∧ w'.cell? ⟨gb217, 1, none⟩ = some (.int .u64 x218001_1) ∧ w'.cell? ⟨gb218, 0, none⟩ = some (.int .u64 x219000_1) ∧ w'.cell? ⟨gb218, 1, none⟩ = some (.int .u64 x219001_1)) (ds := []) #[false, false, false, false] (by kernel_rfl) rfl rfl ⟨(blk_cell BK217.out 0).trans rfl, (blk_cell BK217.out 1).trans rfl, (blk_cell BK218.out 0).trans rfl, (blk_cell BK218.out 1).trans rfl⟩ (fun hHeld => ?_)
        generalize wr.drew = w84 at BK213 BK214 BK215 BK216 BK217 BK218 HB hHeld ⊢
        refine take_ (i := 0) (N := some 57) (v := ?_) (a' := ?_) #[true, false, false, false] rfl rfl (by kernel_rfl) (fun _ _ _ h => h) (Or.inl ⟨by rfl, ?_⟩) hHeld ?_ ?_
        rotate_left
        · rintro w' ⟨s0, s1, s2, s3⟩
          go_simp
          with_reducible rfl
        rotate_left
        · simp only [Act.put, List.setIfInBounds_toArray, List.set_cons_zero, List.set_cons_succ, i64_w, i32_w]
          rfl
        refine take_ (i := 1) (N := some 58) (v := ?_) (a' := ?_) #[true, true, false, false] rfl rfl (by kernel_rfl) (fun _ _ _ h => h) (Or.inl ⟨by rfl, ?_⟩) hHeld ?_ ?_
        rotate_left
        · rintro w' ⟨s0, s1, s2, s3⟩
          go_simp
          with_reducible rfl
        rotate_left
        · simp only [Act.put, List.setIfInBounds_toArray, List.set_cons_zero, List.set_cons_succ, i64_w, i32_w]
          rfl
        refine one_ (i := 2) (N := none) #[true, true, true, false] rfl rfl (by kernel_rfl) (by decide) (fun K hK => ?_)
        have hs85 : w84.cell? ⟨gb215, 0, none⟩ = some (.int .u64 0) := (blk_cell BK215.out 0).trans rfl
        have hfs85 := blk_frozen BK215.out 0
        have hns85_0 := NB213_215.out
        have hns85_1 := NB214_215.out
        have hns85_3 := NB216_215.out
        have hns85_4 := NB217_215.out
        have hns85_5 := NB218_215.out
        have hms85_0 := NB215_213.out
        have hms85_1 := NB215_214.out
        have hms85_3 := NB215_216.out
        have hms85_4 := NB215_217.out
        have hms85_5 := NB215_218.out
        have hs86 : w84.cell? ⟨gb215, 1, none⟩ = some (.int .u64 0) := (blk_cell BK215.out 1).trans rfl
        have hfs86 := blk_frozen BK215.out 1
        have hns86_0 := NB213_215.out
        have hns86_1 := NB214_215.out
        have hns86_3 := NB216_215.out
        have hns86_4 := NB217_215.out
        have hns86_5 := NB218_215.out
        have hms86_0 := NB215_213.out
        have hms86_1 := NB215_214.out
        have hms86_3 := NB215_216.out
        have hms86_4 := NB215_217.out
        have hms86_5 := NB215_218.out
        refine skip_ (w1 := ?_) (by rfl) rfl ?_ ?_
        rotate_left
        · go_simp
          rfl
        refine hK.out _ _ ⟨((cell_far (p := ⟨gb215, _, none⟩) NB217_215.out _).trans (((cell_far (p := ⟨gb215, _, none⟩) NB217_215.out _).trans (hHeld.1)))), ((cell_far (p := ⟨gb215, _, none⟩) NB217_215.out _).trans (((cell_far (p := ⟨gb215, _, none⟩) NB217_215.out _).trans (hHeld.2.1)))), ((cell_far (p := ⟨gb215, _, none⟩) NB218_215.out _).trans (((cell_far (p := ⟨gb215, _, none⟩) NB218_215.out _).trans (hHeld.2.2.1)))), ((cell_far (p := ⟨gb215, _, none⟩) NB218_215.out _).trans (((cell_far (p := ⟨gb215, _, none⟩) NB218_215.out _).trans (hHeld.2.2.2))))⟩ (fun hHeld => ?_)
        clear hK K
        refine one_ (i := 3) (N := none) #[true, true, true, true] rfl rfl (by kernel_rfl) (by decide) (fun K hK => ?_)
        have hs87 : w84.cell? ⟨gb216, 0, none⟩ = some (.int .u64 0) := (blk_cell BK216.out 0).trans rfl
        have hfs87 := blk_frozen BK216.out 0
        have hns87_0 := NB213_216.out
        have hns87_1 := NB214_216.out
        have hns87_2 := NB215_216.out
        have hns87_4 := NB217_216.out
        have hns87_5 := NB218_216.out
        have hms87_0 := NB216_213.out
        have hms87_1 := NB216_214.out
        have hms87_2 := NB216_215.out
        have hms87_4 := NB216_217.out
        have hms87_5 := NB216_218.out
        have hs88 : w84.cell? ⟨gb216, 1, none⟩ = some (.int .u64 0) := (blk_cell BK216.out 1).trans rfl
        have hfs88 := blk_frozen BK216.out 1
        have hns88_0 := NB213_216.out
        have hns88_1 := NB214_216.out
        have hns88_2 := NB215_216.out
        have hns88_4 := NB217_216.out
        have hns88_5 := NB218_216.out
        have hms88_0 := NB216_213.out
        have hms88_1 := NB216_214.out
        have hms88_2 := NB216_215.out
        have hms88_4 := NB216_217.out
        have hms88_5 := NB216_218.out
        refine skip_ (w1 := ?_) (by rfl) rfl ?_ ?_
        rotate_left
        · go_simp
          rfl
        refine hK.out _ _ ⟨((cell_far (p := ⟨gb216, _, none⟩) NB217_216.out _).trans (((cell_far (p := ⟨gb216, _, none⟩) NB217_216.out _).trans (hHeld.1)))), ((cell_far (p := ⟨gb216, _, none⟩) NB217_216.out _).trans (((cell_far (p := ⟨gb216, _, none⟩) NB217_216.out _).trans (hHeld.2.1)))), ((cell_far (p := ⟨gb216, _, none⟩) NB218_216.out _).trans (((cell_far (p := ⟨gb216, _, none⟩) NB218_216.out _).trans (hHeld.2.2.1)))), ((cell_far (p := ⟨gb216, _, none⟩) NB218_216.out _).trans (((cell_far (p := ⟨gb216, _, none⟩) NB218_216.out _).trans (hHeld.2.2.2))))⟩ (fun hHeld => ?_)
        clear hK K
        refine done_ (by kernel_rfl) ?_
        try go_wp2
        refine bodyPost_ret (results_cc rfl _ _ gb215 gb216 75 75 #[.int .u64 x218000_1, .int .u64 x218001_1] #[.int .u64 x219000_1, .int .u64 x219001_1] (0, 0) (0, 0) _ _ rfl (by (with_reducible repeat (first | refine blk_drewN ?_ _ | refine blk_drew ?_ | refine blk_alloc ?_ _)); refine blk_far ?_ NB215_216.out _; (with_reducible repeat (first | refine blk_drewN ?_ _ | refine blk_drew ?_ | refine blk_alloc ?_ _)); refine blk_far ?_ NB215_216.out _; (with_reducible repeat (first | refine blk_drewN ?_ _ | refine blk_drew ?_ | refine blk_alloc ?_ _)); refine blk_put (cs := #[.int .u64 x218000_1, .int .u64 0]) ?_ 1 _ rfl; (with_reducible repeat (first | refine blk_drewN ?_ _ | refine blk_drew ?_ | refine blk_alloc ?_ _)); refine blk_put (cs := #[.int .u64 0, .int .u64 0]) ?_ 0 _ rfl; (with_reducible repeat (first | refine blk_drewN ?_ _ | refine blk_drew ?_ | refine blk_alloc ?_ _)); exact BK215.out) Try.underlying75 rfl (by kernel_rfl) rfl (by (with_reducible repeat (first | refine blk_drewN ?_ _ | refine blk_drew ?_ | refine blk_alloc ?_ _)); refine blk_put (cs := #[.int .u64 x219000_1, .int .u64 0]) ?_ 1 _ rfl; (with_reducible repeat (first | refine blk_drewN ?_ _ | refine blk_drew ?_ | refine blk_alloc ?_ _)); refine blk_put (cs := #[.int .u64 0, .int .u64 0]) ?_ 0 _ rfl; (with_reducible repeat (first | refine blk_drewN ?_ _ | refine blk_drew ?_ | refine blk_alloc ?_ _)); refine blk_far ?_ NB216_215.out _; (with_reducible repeat (first | refine blk_drewN ?_ _ | refine blk_drew ?_ | refine blk_alloc ?_ _)); refine blk_far ?_ NB216_215.out _; (with_reducible repeat (first | refine blk_drewN ?_ _ | refine blk_drew ?_ | refine blk_alloc ?_ _)); exact BK216.out) Try.underlying75 rfl (by kernel_rfl)) rfl ?_
        exact ⟨by first | rfl | (simp [errW_none, errW_some] <;> rfl) | (simp [*, errW_none, errW_some] <;> rfl), by repeat (first | (with_reducible first | exact HB.out | apply below_alloc | apply pw_below_drewN | apply below_drew1 | refine below_set ?_ GE213.out | refine below_set ?_ GE214.out | refine below_set ?_ GE215.out | refine below_set ?_ GE216.out | refine below_set ?_ GE217.out | refine below_set ?_ GE218.out) | exact HB.out)⟩

/-! ### timeboundref31_gcd: function 56 -/
def timeboundref31_gcd.l0 : Nat → Int → Int → Int → Int → Option (Int × Int)
  | 0, _, _, _, _ => none
  | k + 1, x227000, x227001, x228000, x228001 => if (!(x228000 == 0) || (!(x228001 == 0))) = true then ((timeboundref31_divide.f k x227000 x227001 x228000 x228001).bind fun bt229 => (timeboundref31_gcd.l0 k x228000 x228001 bt229.2.2.1 bt229.2.2.2)) else (some (x227000, x227001))
def timeboundref31_gcd.f (k : Nat) (a0_0 : Int) (a0_1 : Int) (a1_0 : Int) (a1_1 : Int) : Option (Int × Int) := timeboundref31_gcd.l0 k a0_0 a0_1 a1_0 a1_1
theorem timeboundref31_gcd.mono_l : ∀ k, (∀ y0 y1 y2 y3, LeO (timeboundref31_gcd.l0 k y0 y1 y2 y3) (timeboundref31_gcd.l0 (k + 1) y0 y1 y2 y3))
  | 0 => fun _ _ _ _ r h => by simp [timeboundref31_gcd.l0] at h
  | k + 1 => by
    have ih0 := timeboundref31_gcd.mono_l k
    · intro y0 y1 y2 y3
      unfold timeboundref31_gcd.l0
      repeat' first
      | (with_reducible exact ih0 _ _ _ _)
      | (with_reducible exact timeboundref31_divide.mono _ _ _ _ _)
      | (with_reducible exact LeO.refl _)
      | (with_reducible exact LeO.none _)
      | (with_reducible refine LeO.ite ?_ ?_)
      | (with_reducible refine LeO.bind ?_ (fun _ => ?_))
      | exact ih0 _ _ _ _
      | exact timeboundref31_divide.mono _ _ _ _ _
      | exact LeO.none _
      | refine LeO.ite ?_ ?_
      | refine LeO.bind ?_ (fun _ => ?_)
theorem timeboundref31_gcd.mono : ∀ a0 a1 a2 a3 k, LeO (timeboundref31_gcd.f k a0 a1 a2 a3) (timeboundref31_gcd.f (k + 1) a0 a1 a2 a3) := by
  intro a0 a1 a2 a3 k
  have ih0 := timeboundref31_gcd.mono_l k
  unfold timeboundref31_gcd.f
  repeat' first
      | (with_reducible exact ih0 _ _ _ _)
      | (with_reducible exact timeboundref31_divide.mono _ _ _ _ _)
      | (with_reducible exact LeO.refl _)
      | (with_reducible exact LeO.none _)
      | (with_reducible refine LeO.ite ?_ ?_)
      | (with_reducible refine LeO.bind ?_ (fun _ => ?_))
      | exact ih0 _ _ _ _
      | exact timeboundref31_divide.mono _ _ _ _ _
      | exact LeO.none _
      | refine LeO.ite ?_ ?_
      | refine LeO.bind ?_ (fun _ => ?_)
set_option maxHeartbeats 8000000 in
set_option maxRecDepth 100000 in
theorem timeboundref31_gcd.calls (k : Nat) (a0_0 : Int) (a0_1 : Int) (a1_0 : Int) (a1_1 : Int) (r1 : Int) (r2 : Int) (w : World) (h : timeboundref31_gcd.f k a0_0 a0_1 a1_0 a1_1 = some (r1, r2)) :
    Calls Try.prog 56 #[.agg #[.int .u64 a0_0, .int .u64 a0_1], .agg #[.int .u64 a1_0, .int .u64 a1_1]] w fun e w' => e = .returned (.agg #[.int .u64 r1, .int .u64 r2]) ∧ Below w.heap.size w w' := by
  have hu75 := Try.underlying75
  have HB := Aside0.mk (Below.refl w.heap.size w)
  have H : (timeboundref31_gcd.l0 k a0_0 a0_1 a1_0 a1_1) = some (r1, r2) := h
  clear h
  have H' := Aside0.mk H
  clear H
  go_enter Try.func56, Try.ntmps56
  go_wp2_with (first | ((with_reducible refine gate_dst (N := 2) rfl ?_); refine box_event ?hg (N := 2) ?hd (cs := #[.int .u64 a0_0, .int .u64 a0_1]) (t := 75) ?hr ?_; (case hd => rfl); (case hg => rfl); (case hr => first | (go_simp; done) | (go_simp; rfl)); intro gb226 hg w3 hbox hb; have BK226 := Aside0.mk (hbox); have GW226 := gww hg HB; have GE226 := gww hg HB; replace HB := blw HB hb; clear hb hbox hg) | ((with_reducible refine gate_dst (N := 3) rfl ?_); refine box_event ?hg (N := 3) ?hd (cs := #[.int .u64 a1_0, .int .u64 a1_1]) (t := 75) ?hr ?_; (case hd => rfl); (case hg => rfl); (case hr => first | (go_simp; done) | (go_simp; rfl)); intro gb227 hg w4 hbox hb; have BK227 := Aside0.mk (hbox); have GW227 := gww hg HB; have GE227 := gww hg HB; have NB226_227 := nbl hg BK226; have NB227_226 := nbr hg BK226; replace BK226 := bkb BK226 hb; replace HB := blw HB hb; clear hb hbox hg) | ((with_reducible refine gate_dst (N := 4) rfl ?_); refine box_event ?hg (N := 4) ?hd (cs := #[.int .u64 0, .int .u64 0]) (t := 75) ?hr ?_; (case hd => rfl); (case hg => rfl); (case hr => first | (go_simp; done) | (go_simp; rfl)); intro gb228 hg w5 hbox hb; have BK228 := Aside0.mk (hbox); have GW228 := gww hg HB; have GE228 := gww hg HB; have NB226_228 := nbl hg BK226; have NB228_226 := nbr hg BK226; have NB227_228 := nbl hg BK227; have NB228_227 := nbr hg BK227; replace BK226 := bkb BK226 hb; replace BK227 := bkb BK227 hb; replace HB := blw HB hb; clear hb hbox hg))
  (try simp only [Act.put, List.setIfInBounds_toArray, List.set_cons_succ, List.set_cons_zero])
  go_loopg [] k (fun kq w' => ∃ (x227000_1 : Int) (x227001_1 : Int) (x228000_1 : Int) (x228001_1 : Int), Aside0 (timeboundref31_gcd.l0 kq x227000_1 x227001_1 x228000_1 x228001_1 = some (r1, r2)) ∧ Aside0 (kq ≤ k) ∧ Aside0 (w'.heap[gb226]? = some (.cells #[.int .u64 x227000_1, .int .u64 x227001_1] 75 (0, 0))) ∧ Aside0 (w'.heap[gb227]? = some (.cells #[.int .u64 x228000_1, .int .u64 x228001_1] 75 (0, 0))) ∧ Aside0 (w'.heap[gb228]? = some (.cells #[.int .u64 0, .int .u64 0] 75 (0, 0))) ∧ Aside0 (Below w.heap.size w w'))
  case atStart => exact ⟨(a0_0), (a0_1), (a1_0), (a1_1), H', ⟨Nat.le_refl _⟩, ⟨by (with_reducible repeat (first | refine blk_drewN ?_ _ | refine blk_drew ?_ | refine blk_alloc ?_ _)); exact BK226.out⟩, ⟨by (with_reducible repeat (first | refine blk_drewN ?_ _ | refine blk_drew ?_ | refine blk_alloc ?_ _)); exact BK227.out⟩, ⟨by (with_reducible repeat (first | refine blk_drewN ?_ _ | refine blk_drew ?_ | refine blk_alloc ?_ _)); exact BK228.out⟩, ⟨by repeat (first | (with_reducible first | exact HB.out | apply below_alloc | apply pw_below_drewN | apply below_drew1 | refine below_set ?_ GE226.out | refine below_set ?_ GE227.out | refine below_set ?_ GE228.out) | exact HB.out)⟩⟩
  case round =>
    clear H'
    try clear p2
    try clear c5
    obtain ⟨x227000_1, x227001_1, x228000_1, x228001_1, HA, HK1, BK226, BK227, BK228, HB⟩ := hrel
    cases gk with
    | zero => exact absurd HA.out (by simp [timeboundref31_gcd.l0])
    | succ k1 =>
      have H := HA.out
      clear HA
      simp only [timeboundref31_gcd.l0] at H
      by_cases c6 : (!(x228000_1 == 0) || (!(x228001_1 == 0))) = true
      · rw [if_pos c6] at H
        have c6b0 : (!(x228000_1 == 0) || (!(x228001_1 == 0))) = true := c6
        clear c6
        replace H := Option.bind_eq_some_iff.mp H
        obtain ⟨⟨t229, t230, t231, t232⟩, A70, H⟩ := H
        replace H : (timeboundref31_gcd.l0 k1 x228000_1 x228001_1 t231 t232) = some (r1, r2) := H
        have A7 := Aside0.mk A70
        clear A70
        have H' := Aside0.mk H
        clear H
        have hcz8_0 : wr.cell? ⟨gb227, 0, none⟩ = some (.int .u64 x228000_1) := (blk_cell BK227.out 0).trans rfl
        have hcz8_1 : wr.cell? ⟨gb227, 1, none⟩ = some (.int .u64 x228001_1) := (blk_cell BK227.out 1).trans rfl
        have hfz8_0 := blk_frozen BK227.out 0
        have hfz8_1 := blk_frozen BK227.out 1
        have hcz9_0 : wr.cell? ⟨gb226, 0, none⟩ = some (.int .u64 x227000_1) := (blk_cell BK226.out 0).trans rfl
        have hcz9_1 : wr.cell? ⟨gb226, 1, none⟩ = some (.int .u64 x227001_1) := (blk_cell BK226.out 1).trans rfl
        have hfz9_0 := blk_frozen BK226.out 0
        have hfz9_1 := blk_frozen BK226.out 1
        try go_wp2_with (first | ((with_reducible refine gate_callee (f := 100) rfl ?_); refine goesL_ (some 13) rfl rfl Try.func100 (by kernel_rfl) rfl #[.agg #[.int .u64 x227000_1, .int .u64 x227001_1], .agg #[.int .u64 x228000_1, .int .u64 x228001_1]] rfl (by (try simp only [List.map_toArray, List.map_cons, List.map_nil]); first | done | rfl | (simp only [List.length_drop, List.length_take]; rfl)) ?_; (with_reducible refine (timeboundref31_divide.calls k1 x227000_1 x227001_1 x228000_1 x228001_1 t229 t230 t231 t232 _ A7.out).mono ?_); rintro e w10 ⟨rfl, hb⟩; refine ⟨_, rfl, ?_⟩; replace BK226 := bkb BK226 hb; replace BK227 := bkb BK227 hb; replace BK228 := bkb BK228 hb; replace HB := blw HB hb; (try clear hb); (try clear hb2); (try clear hk); (try clear hi)) | ((with_reducible refine gate_dst (N := 5) rfl ?_); refine box_event ?hg (N := 5) ?hd (cs := #[.int .u64 0, .int .u64 0]) (t := 75) ?hr ?_; (case hd => rfl); (case hg => rfl); (case hr => first | (go_simp; done) | (go_simp; rfl)); intro gb233 hg w11 hbox hb; have BK233 := Aside0.mk (hbox); have GW233 := gww hg HB; have GE233 := gww hg HB; have NB226_233 := nbl hg BK226; have NB233_226 := nbr hg BK226; have NB227_233 := nbl hg BK227; have NB233_227 := nbr hg BK227; have NB228_233 := nbl hg BK228; have NB233_228 := nbr hg BK228; replace BK226 := bkb BK226 hb; replace BK227 := bkb BK227 hb; replace BK228 := bkb BK228 hb; replace HB := blw HB hb; clear hb hbox hg) | ((with_reducible refine gate_dst (N := 6) rfl ?_); refine box_event ?hg (N := 6) ?hd (cs := #[.int .u64 0, .int .u64 0]) (t := 75) ?hr ?_; (case hd => rfl); (case hg => rfl); (case hr => first | (go_simp; done) | (go_simp; rfl)); intro gb234 hg w12 hbox hb; have BK234 := Aside0.mk (hbox); have GW234 := gww hg HB; have GE234 := gww hg HB; have NB226_234 := nbl hg BK226; have NB234_226 := nbr hg BK226; have NB227_234 := nbl hg BK227; have NB234_227 := nbr hg BK227; have NB228_234 := nbl hg BK228; have NB234_228 := nbr hg BK228; have NB233_234 := nbl hg BK233; have NB234_233 := nbr hg BK233; replace BK226 := bkb BK226 hb; replace BK227 := bkb BK227 hb; replace BK228 := bkb BK228 hb; replace BK233 := bkb BK233 hb; replace HB := blw HB hb; clear hb hbox hg; have hnb13 := NB233_226.out; have hnc13 := NB226_233.out; have hnb14 := NB233_227.out; have hnc14 := NB227_233.out; have hnb15 := NB233_228.out; have hnc15 := NB228_233.out; have hnb16 := NB233_234.out; have hnc16 := NB234_233.out; have hcz17_0 : w12.cell? ⟨gb233, 0, none⟩ = some (.int .u64 0) := (blk_cell BK233.out 0).trans rfl; have hcz17_1 : w12.cell? ⟨gb233, 1, none⟩ = some (.int .u64 0) := (blk_cell BK233.out 1).trans rfl; have hfz17_0 := blk_frozen BK233.out 0; have hfz17_1 := blk_frozen BK233.out 1; have hnb18 := NB234_226.out; have hnc18 := NB226_234.out; have hnb19 := NB234_227.out; have hnc19 := NB227_234.out; have hnb20 := NB234_228.out; have hnc20 := NB228_234.out; have hcz21_0 : w12.cell? ⟨gb234, 0, none⟩ = some (.int .u64 0) := (blk_cell BK234.out 0).trans rfl; have hcz21_1 : w12.cell? ⟨gb234, 1, none⟩ = some (.int .u64 0) := (blk_cell BK234.out 1).trans rfl; have hfz21_0 := blk_frozen BK234.out 0; have hfz21_1 := blk_frozen BK234.out 1))
        have n0_ : Aside0 (((((w12.setCell ⟨gb233, 0, none⟩ (.int .u64 t229)).setCell ⟨gb233, 1, none⟩ (.int .u64 t230)).setCell ⟨gb234, 0, none⟩ (.int .u64 t231)).setCell ⟨gb234, 1, none⟩ (.int .u64 t232)).heap[gb226]? = some (.cells #[.int .u64 x227000_1, .int .u64 x227001_1] 75 (0, 0))) := ⟨by (with_reducible repeat (first | refine blk_drewN ?_ _ | refine blk_drew ?_ | refine blk_alloc ?_ _)); refine blk_far ?_ NB226_234.out _; (with_reducible repeat (first | refine blk_drewN ?_ _ | refine blk_drew ?_ | refine blk_alloc ?_ _)); refine blk_far ?_ NB226_234.out _; (with_reducible repeat (first | refine blk_drewN ?_ _ | refine blk_drew ?_ | refine blk_alloc ?_ _)); refine blk_far ?_ NB226_233.out _; (with_reducible repeat (first | refine blk_drewN ?_ _ | refine blk_drew ?_ | refine blk_alloc ?_ _)); refine blk_far ?_ NB226_233.out _; (with_reducible repeat (first | refine blk_drewN ?_ _ | refine blk_drew ?_ | refine blk_alloc ?_ _)); exact BK226.out⟩
        have n1_ : Aside0 (((((w12.setCell ⟨gb233, 0, none⟩ (.int .u64 t229)).setCell ⟨gb233, 1, none⟩ (.int .u64 t230)).setCell ⟨gb234, 0, none⟩ (.int .u64 t231)).setCell ⟨gb234, 1, none⟩ (.int .u64 t232)).heap[gb227]? = some (.cells #[.int .u64 x228000_1, .int .u64 x228001_1] 75 (0, 0))) := ⟨by (with_reducible repeat (first | refine blk_drewN ?_ _ | refine blk_drew ?_ | refine blk_alloc ?_ _)); refine blk_far ?_ NB227_234.out _; (with_reducible repeat (first | refine blk_drewN ?_ _ | refine blk_drew ?_ | refine blk_alloc ?_ _)); refine blk_far ?_ NB227_234.out _; (with_reducible repeat (first | refine blk_drewN ?_ _ | refine blk_drew ?_ | refine blk_alloc ?_ _)); refine blk_far ?_ NB227_233.out _; (with_reducible repeat (first | refine blk_drewN ?_ _ | refine blk_drew ?_ | refine blk_alloc ?_ _)); refine blk_far ?_ NB227_233.out _; (with_reducible repeat (first | refine blk_drewN ?_ _ | refine blk_drew ?_ | refine blk_alloc ?_ _)); exact BK227.out⟩
        have n2_ : Aside0 (((((w12.setCell ⟨gb233, 0, none⟩ (.int .u64 t229)).setCell ⟨gb233, 1, none⟩ (.int .u64 t230)).setCell ⟨gb234, 0, none⟩ (.int .u64 t231)).setCell ⟨gb234, 1, none⟩ (.int .u64 t232)).heap[gb228]? = some (.cells #[.int .u64 0, .int .u64 0] 75 (0, 0))) := ⟨by (with_reducible repeat (first | refine blk_drewN ?_ _ | refine blk_drew ?_ | refine blk_alloc ?_ _)); refine blk_far ?_ NB228_234.out _; (with_reducible repeat (first | refine blk_drewN ?_ _ | refine blk_drew ?_ | refine blk_alloc ?_ _)); refine blk_far ?_ NB228_234.out _; (with_reducible repeat (first | refine blk_drewN ?_ _ | refine blk_drew ?_ | refine blk_alloc ?_ _)); refine blk_far ?_ NB228_233.out _; (with_reducible repeat (first | refine blk_drewN ?_ _ | refine blk_drew ?_ | refine blk_alloc ?_ _)); refine blk_far ?_ NB228_233.out _; (with_reducible repeat (first | refine blk_drewN ?_ _ | refine blk_drew ?_ | refine blk_alloc ?_ _)); exact BK228.out⟩
        have n3_ : Aside0 (((((w12.setCell ⟨gb233, 0, none⟩ (.int .u64 t229)).setCell ⟨gb233, 1, none⟩ (.int .u64 t230)).setCell ⟨gb234, 0, none⟩ (.int .u64 t231)).setCell ⟨gb234, 1, none⟩ (.int .u64 t232)).heap[gb233]? = some (.cells #[.int .u64 t229, .int .u64 t230] 75 (0, 0))) := ⟨by (with_reducible repeat (first | refine blk_drewN ?_ _ | refine blk_drew ?_ | refine blk_alloc ?_ _)); refine blk_far ?_ NB233_234.out _; (with_reducible repeat (first | refine blk_drewN ?_ _ | refine blk_drew ?_ | refine blk_alloc ?_ _)); refine blk_far ?_ NB233_234.out _; (with_reducible repeat (first | refine blk_drewN ?_ _ | refine blk_drew ?_ | refine blk_alloc ?_ _)); refine blk_put (cs := #[.int .u64 t229, .int .u64 0]) ?_ 1 _ rfl; (with_reducible repeat (first | refine blk_drewN ?_ _ | refine blk_drew ?_ | refine blk_alloc ?_ _)); refine blk_put (cs := #[.int .u64 0, .int .u64 0]) ?_ 0 _ rfl; (with_reducible repeat (first | refine blk_drewN ?_ _ | refine blk_drew ?_ | refine blk_alloc ?_ _)); exact BK233.out⟩
        have n4_ : Aside0 (((((w12.setCell ⟨gb233, 0, none⟩ (.int .u64 t229)).setCell ⟨gb233, 1, none⟩ (.int .u64 t230)).setCell ⟨gb234, 0, none⟩ (.int .u64 t231)).setCell ⟨gb234, 1, none⟩ (.int .u64 t232)).heap[gb234]? = some (.cells #[.int .u64 t231, .int .u64 t232] 75 (0, 0))) := ⟨by (with_reducible repeat (first | refine blk_drewN ?_ _ | refine blk_drew ?_ | refine blk_alloc ?_ _)); refine blk_put (cs := #[.int .u64 t231, .int .u64 0]) ?_ 1 _ rfl; (with_reducible repeat (first | refine blk_drewN ?_ _ | refine blk_drew ?_ | refine blk_alloc ?_ _)); refine blk_put (cs := #[.int .u64 0, .int .u64 0]) ?_ 0 _ rfl; (with_reducible repeat (first | refine blk_drewN ?_ _ | refine blk_drew ?_ | refine blk_alloc ?_ _)); refine blk_far ?_ NB234_233.out _; (with_reducible repeat (first | refine blk_drewN ?_ _ | refine blk_drew ?_ | refine blk_alloc ?_ _)); refine blk_far ?_ NB234_233.out _; (with_reducible repeat (first | refine blk_drewN ?_ _ | refine blk_drew ?_ | refine blk_alloc ?_ _)); exact BK234.out⟩
        have n5_ : Aside0 (Below w.heap.size w ((((w12.setCell ⟨gb233, 0, none⟩ (.int .u64 t229)).setCell ⟨gb233, 1, none⟩ (.int .u64 t230)).setCell ⟨gb234, 0, none⟩ (.int .u64 t231)).setCell ⟨gb234, 1, none⟩ (.int .u64 t232))) := ⟨by repeat (first | (with_reducible first | exact HB.out | apply below_alloc | apply pw_below_drewN | apply below_drew1 | refine below_set ?_ GE226.out | refine below_set ?_ GE227.out | refine below_set ?_ GE228.out | refine below_set ?_ GE233.out | refine below_set ?_ GE234.out) | exact HB.out)⟩
        (try clear BK226)
        (try clear BK227)
        (try clear BK228)
        (try clear BK233)
        (try clear BK234)
        (try clear HB)
        generalize ((((w12.setCell ⟨gb233, 0, none⟩ (.int .u64 t229)).setCell ⟨gb233, 1, none⟩ (.int .u64 t230)).setCell ⟨gb234, 0, none⟩ (.int .u64 t231)).setCell ⟨gb234, 1, none⟩ (.int .u64 t232)) = w22 at n0_ n1_ n2_ n3_ n4_ n5_ ⊢
        have BK226 := n0_
        have BK227 := n1_
        have BK228 := n2_
        have BK233 := n3_
        have BK234 := n4_
        have HB := n5_
        clear n0_ n1_ n2_ n3_ n4_ n5_
        have n0_ := Aside0.mk (blk_drew BK226.out)
        have n1_ := Aside0.mk (blk_drew BK227.out)
        have n2_ := Aside0.mk (blk_drew BK228.out)
        have n3_ := Aside0.mk (blk_drew BK233.out)
        have n4_ := Aside0.mk (blk_drew BK234.out)
        have n5_ := Aside0.mk (below_drew1 HB.out)
        clear BK226
        clear BK227
        clear BK228
        clear BK233
        clear BK234
        clear HB
        have BK226 := n0_
        have BK227 := n1_
        have BK228 := n2_
        have BK233 := n3_
        have BK234 := n4_
        have HB := n5_
        clear n0_ n1_ n2_ n3_ n4_ n5_
        refine start_ (n := 4) (S := fun w' => w'.cell? ⟨gb227, 0, none⟩ = some (.int .u64 x228000_1) ∧ w'.cell? ⟨gb227, 1, none⟩ = some (.int .u64 x228001_1) ∧ w'.cell? ⟨gb234, 0, none⟩ = some (.int .u64 t231) ∧ w'.cell? ⟨gb234, 1, none⟩ = some (.int .u64 t232)) (ds := [3]) #[false, false, false, false] (by kernel_rfl) rfl rfl ⟨(blk_cell BK227.out 0).trans rfl, (blk_cell BK227.out 1).trans rfl, (blk_cell BK234.out 0).trans rfl, (blk_cell BK234.out 1).trans rfl⟩ (fun hHeld => ?_)
        generalize w22.drew = w23 at BK226 BK227 BK228 BK233 BK234 HB hHeld ⊢
        refine take_ (i := 0) (N := some 16) (v := ?_) (a' := ?_) #[true, false, false, false] rfl rfl (by kernel_rfl) (fun _ _ _ h => h) (Or.inl ⟨by rfl, ?_⟩) hHeld ?_ ?_
        rotate_left
        · rintro w' ⟨s0, s1, s2, s3⟩
          go_simp
          with_reducible rfl
        rotate_left
        · simp only [Act.put, List.setIfInBounds_toArray, List.set_cons_zero, List.set_cons_succ, i64_w, i32_w]
          rfl
        refine take_ (i := 1) (N := some 17) (v := ?_) (a' := ?_) #[true, true, false, false] rfl rfl (by kernel_rfl) (fun _ _ _ h => h) (Or.inl ⟨by rfl, ?_⟩) hHeld ?_ ?_
        rotate_left
        · rintro w' ⟨s0, s1, s2, s3⟩
          go_simp
          with_reducible rfl
        rotate_left
        · simp only [Act.put, List.setIfInBounds_toArray, List.set_cons_zero, List.set_cons_succ, i64_w, i32_w]
          rfl
        refine one_ (i := 2) (N := none) #[true, true, true, false] rfl rfl (by kernel_rfl) (by decide) (fun K hK => ?_)
        have hs24 : w23.cell? ⟨gb226, 0, none⟩ = some (.int .u64 x227000_1) := (blk_cell BK226.out 0).trans rfl
        have hfs24 := blk_frozen BK226.out 0
        have hns24_1 := NB227_226.out
        have hns24_2 := NB228_226.out
        have hns24_3 := NB233_226.out
        have hns24_4 := NB234_226.out
        have hms24_1 := NB226_227.out
        have hms24_2 := NB226_228.out
        have hms24_3 := NB226_233.out
        have hms24_4 := NB226_234.out
        have hs25 : w23.cell? ⟨gb226, 1, none⟩ = some (.int .u64 x227001_1) := (blk_cell BK226.out 1).trans rfl
        have hfs25 := blk_frozen BK226.out 1
        have hns25_1 := NB227_226.out
        have hns25_2 := NB228_226.out
        have hns25_3 := NB233_226.out
        have hns25_4 := NB234_226.out
        have hms25_1 := NB226_227.out
        have hms25_2 := NB226_228.out
        have hms25_3 := NB226_233.out
        have hms25_4 := NB226_234.out
        refine skip_ (w1 := ?_) (by rfl) rfl ?_ ?_
        rotate_left
        · go_simp
          rfl
        refine hK.out _ _ ⟨((cell_far (p := ⟨gb226, _, none⟩) NB227_226.out _).trans (((cell_far (p := ⟨gb226, _, none⟩) NB227_226.out _).trans (hHeld.1)))), ((cell_far (p := ⟨gb226, _, none⟩) NB227_226.out _).trans (((cell_far (p := ⟨gb226, _, none⟩) NB227_226.out _).trans (hHeld.2.1)))), ((cell_far (p := ⟨gb226, _, none⟩) NB234_226.out _).trans (((cell_far (p := ⟨gb226, _, none⟩) NB234_226.out _).trans (hHeld.2.2.1)))), ((cell_far (p := ⟨gb226, _, none⟩) NB234_226.out _).trans (((cell_far (p := ⟨gb226, _, none⟩) NB234_226.out _).trans (hHeld.2.2.2))))⟩ (fun hHeld => ?_)
        clear hK K
        refine last_ (i := 3) (N := none) #[true, true, true, true] rfl rfl (by kernel_rfl) (by decide) (fun K hK => ?_)
        have hs26 : w23.cell? ⟨gb227, 0, none⟩ = some (.int .u64 x228000_1) := (blk_cell BK227.out 0).trans rfl
        have hfs26 := blk_frozen BK227.out 0
        have hns26_0 := NB226_227.out
        have hns26_2 := NB228_227.out
        have hns26_3 := NB233_227.out
        have hns26_4 := NB234_227.out
        have hms26_0 := NB227_226.out
        have hms26_2 := NB227_228.out
        have hms26_3 := NB227_233.out
        have hms26_4 := NB227_234.out
        have hs27 : w23.cell? ⟨gb227, 1, none⟩ = some (.int .u64 x228001_1) := (blk_cell BK227.out 1).trans rfl
        have hfs27 := blk_frozen BK227.out 1
        have hns27_0 := NB226_227.out
        have hns27_2 := NB228_227.out
        have hns27_3 := NB233_227.out
        have hns27_4 := NB234_227.out
        have hms27_0 := NB227_226.out
        have hms27_2 := NB227_228.out
        have hms27_3 := NB227_233.out
        have hms27_4 := NB227_234.out
        refine skip_ (w1 := ?_) (by rfl) rfl ?_ ?_
        rotate_left
        · go_simp
          rfl
        refine hK.out _ _ ?_
        clear hK K
        refine done_ (by kernel_rfl) ?_
        try go_wp2
        go_roundg k1
        case measure => have := HK1.out; omega
        case rel => exact ⟨(x228000_1), (x228001_1), (t231), (t232), H', ⟨by have := HK1.out; omega⟩, ⟨by (with_reducible repeat (first | refine blk_drewN ?_ _ | refine blk_drew ?_ | refine blk_alloc ?_ _)); refine blk_far ?_ NB226_227.out _; (with_reducible repeat (first | refine blk_drewN ?_ _ | refine blk_drew ?_ | refine blk_alloc ?_ _)); refine blk_far ?_ NB226_227.out _; (with_reducible repeat (first | refine blk_drewN ?_ _ | refine blk_drew ?_ | refine blk_alloc ?_ _)); refine blk_put (cs := #[.int .u64 x228000_1, .int .u64 x227001_1]) ?_ 1 _ rfl; (with_reducible repeat (first | refine blk_drewN ?_ _ | refine blk_drew ?_ | refine blk_alloc ?_ _)); refine blk_put (cs := #[.int .u64 x227000_1, .int .u64 x227001_1]) ?_ 0 _ rfl; (with_reducible repeat (first | refine blk_drewN ?_ _ | refine blk_drew ?_ | refine blk_alloc ?_ _)); exact BK226.out⟩, ⟨by (with_reducible repeat (first | refine blk_drewN ?_ _ | refine blk_drew ?_ | refine blk_alloc ?_ _)); refine blk_put (cs := #[.int .u64 t231, .int .u64 x228001_1]) ?_ 1 _ rfl; (with_reducible repeat (first | refine blk_drewN ?_ _ | refine blk_drew ?_ | refine blk_alloc ?_ _)); refine blk_put (cs := #[.int .u64 x228000_1, .int .u64 x228001_1]) ?_ 0 _ rfl; (with_reducible repeat (first | refine blk_drewN ?_ _ | refine blk_drew ?_ | refine blk_alloc ?_ _)); refine blk_far ?_ NB227_226.out _; (with_reducible repeat (first | refine blk_drewN ?_ _ | refine blk_drew ?_ | refine blk_alloc ?_ _)); refine blk_far ?_ NB227_226.out _; (with_reducible repeat (first | refine blk_drewN ?_ _ | refine blk_drew ?_ | refine blk_alloc ?_ _)); exact BK227.out⟩, ⟨by (with_reducible repeat (first | refine blk_drewN ?_ _ | refine blk_drew ?_ | refine blk_alloc ?_ _)); refine blk_far ?_ NB228_227.out _; (with_reducible repeat (first | refine blk_drewN ?_ _ | refine blk_drew ?_ | refine blk_alloc ?_ _)); refine blk_far ?_ NB228_227.out _; (with_reducible repeat (first | refine blk_drewN ?_ _ | refine blk_drew ?_ | refine blk_alloc ?_ _)); refine blk_far ?_ NB228_226.out _; (with_reducible repeat (first | refine blk_drewN ?_ _ | refine blk_drew ?_ | refine blk_alloc ?_ _)); refine blk_far ?_ NB228_226.out _; (with_reducible repeat (first | refine blk_drewN ?_ _ | refine blk_drew ?_ | refine blk_alloc ?_ _)); exact BK228.out⟩, ⟨by repeat (first | (with_reducible first | exact HB.out | apply below_alloc | apply pw_below_drewN | apply below_drew1 | refine below_set ?_ GE226.out | refine below_set ?_ GE227.out | refine below_set ?_ GE228.out | refine below_set ?_ GE233.out | refine below_set ?_ GE234.out) | exact HB.out)⟩⟩
      · rw [if_neg c6] at H
        have c6b0 : (!(x228000_1 == 0) || (!(x228001_1 == 0))) = false := by simpa using c6
        clear c6
        simp only [Option.some.injEq, Prod.mk.injEq] at H
        obtain ⟨rfl, rfl⟩ := H
        have hcz28_0 : wr.cell? ⟨gb227, 0, none⟩ = some (.int .u64 x228000_1) := (blk_cell BK227.out 0).trans rfl
        have hcz28_1 : wr.cell? ⟨gb227, 1, none⟩ = some (.int .u64 x228001_1) := (blk_cell BK227.out 1).trans rfl
        have hfz28_0 := blk_frozen BK227.out 0
        have hfz28_1 := blk_frozen BK227.out 1
        have hcz29_0 : wr.cell? ⟨gb226, 0, none⟩ = some (.int .u64 x227000_1) := (blk_cell BK226.out 0).trans rfl
        have hcz29_1 : wr.cell? ⟨gb226, 1, none⟩ = some (.int .u64 x227001_1) := (blk_cell BK226.out 1).trans rfl
        have hfz29_0 := blk_frozen BK226.out 0
        have hfz29_1 := blk_frozen BK226.out 1
        have hnb30 := NB228_226.out
        have hnc30 := NB226_228.out
        have hnb31 := NB228_227.out
        have hnc31 := NB227_228.out
        have hcz32_0 : wr.cell? ⟨gb228, 0, none⟩ = some (.int .u64 0) := (blk_cell BK228.out 0).trans rfl
        have hcz32_1 : wr.cell? ⟨gb228, 1, none⟩ = some (.int .u64 0) := (blk_cell BK228.out 1).trans rfl
        have hfz32_0 := blk_frozen BK228.out 0
        have hfz32_1 := blk_frozen BK228.out 1
        go_wp2
        refine bodyPost_ret (results_cell_row rfl _ _ gb228 75 #[.int .u64 x227000_1, .int .u64 x227001_1] (0, 0) _ rfl (by (with_reducible repeat (first | refine blk_drewN ?_ _ | refine blk_drew ?_ | refine blk_alloc ?_ _)); refine blk_put (cs := #[.int .u64 x227000_1, .int .u64 0]) ?_ 1 _ rfl; (with_reducible repeat (first | refine blk_drewN ?_ _ | refine blk_drew ?_ | refine blk_alloc ?_ _)); refine blk_put (cs := #[.int .u64 0, .int .u64 0]) ?_ 0 _ rfl; (with_reducible repeat (first | refine blk_drewN ?_ _ | refine blk_drew ?_ | refine blk_alloc ?_ _)); exact BK228.out) Try.underlying75 rfl (by kernel_rfl)) rfl ?_
        exact ⟨by first | rfl | (simp [errW_none, errW_some] <;> rfl) | (simp [*, errW_none, errW_some] <;> rfl), by repeat (first | (with_reducible first | exact HB.out | apply below_alloc | apply pw_below_drewN | apply below_drew1 | refine below_set ?_ GE226.out | refine below_set ?_ GE227.out | refine below_set ?_ GE228.out) | exact HB.out)⟩

/-! ### timeboundref31_size: function 57 -/
def timeboundref31_size.f (a0 : Int) : Option (Int) := if a0 < 0 then (some (IntKind.u64.wrap (-(IntKind.u64.wrap (a0))))) else (some (IntKind.u64.wrap (a0)))
set_option maxHeartbeats 8000000 in
set_option maxRecDepth 100000 in
theorem timeboundref31_size.calls (a0 : Int) (r : Int) (w : World) (h : timeboundref31_size.f a0 = some r) :
    Calls Try.prog 57 #[.int .i64 a0] w fun e w' => e = .returned (.int .u64 r) ∧ Drawn0 w w' := by
  have H : (if a0 < 0 then (some (IntKind.u64.wrap (-(IntKind.u64.wrap (a0))))) else (some (IntKind.u64.wrap (a0)))) = some r := h
  clear h
  by_cases c2 : a0 < 0
  · rw [if_pos c2] at H
    have c2b0 : decide (a0 < 0) = true := decide_eq_true c2
    clear c2
    obtain rfl := Option.some.inj H
    go_enter Try.func57, Try.ntmps57
    go_wp2
    go_ret
    exact ⟨by first | rfl | (simp; done) | (simp [*]; done), by repeat (first | exact Drawn0.refl _ | apply Drawn0.step)⟩
  · rw [if_neg c2] at H
    have c2b0 : decide (a0 < 0) = false := decide_eq_false c2
    clear c2
    obtain rfl := Option.some.inj H
    go_enter Try.func57, Try.ntmps57
    go_wp2
    go_ret
    exact ⟨by first | rfl | (simp; done) | (simp [*]; done), by repeat (first | exact Drawn0.refl _ | apply Drawn0.step)⟩

end Go.Proofs.Ytjoddcfcolhimaa.QFr
