-- Printed by wip/drv/drv.py of this session, over the kit's print tool. Not trusted: Lean checks it.
import Derived.Test.YtjoddcfcolhimaaQFrx0
import Derived.Test.YtjoddcfcolhimaaQFrx6
namespace Go.Proofs.Ytjoddcfcolhimaa.QFr
open Go.RowKit Go.Proofs.YtjoddcfcolhimaaW.PrintWords Go.Proofs.YtjoddcfcolhimaaW.PrintLast Go.Proofs.YtjoddcfcolhimaaW.PrintMore
attribute [local go_sem] max2_int min2_int max_two min_two max_three min_three max_four min_four   -- for this text's walks alone
set_option linter.unusedVariables false
set_option linter.unusedSimpArgs false

/-! ### timeboundref31_divide: function 100 -/
mutual
def timeboundref31_divide.l0 : Nat → Int → Int → Int → Int → Int → Int → Int → Int → Int → Option (Int × Int × Int × Int)
  | 0, _, _, _, _, _, _, _, _, _ => none
  | k + 1, x8, x214000, x214001, x215000, x215001, x218000, x218001, x219000, x219001 => if x8 ≥ 0 then ((timeboundref31_double.f x219000 x219001).bind fun bt219 => (if x8 ≥ 64 then (if 0 ≤ (IntKind.u64.wrap (wrap64 (x8 - 64))) then (if (Go.bits .and .u64 (shr .u64 x214000 (IntKind.u64.wrap (wrap64 (x8 - 64)))) 1) = 1 then (timeboundref31_divide.j1 k x8 true x214000 x214001 x215000 x215001 x218000 x218001 bt219.1 bt219.2) else (if x8 < 64 then (if 0 ≤ (IntKind.u64.wrap (x8)) then (timeboundref31_divide.j1 k x8 ((Go.bits .and .u64 (shr .u64 x214001 (IntKind.u64.wrap (x8))) 1) == 1) x214000 x214001 x215000 x215001 x218000 x218001 bt219.1 bt219.2) else (none)) else (timeboundref31_divide.j1 k x8 false x214000 x214001 x215000 x215001 x218000 x218001 bt219.1 bt219.2))) else (none)) else (if x8 < 64 then (if 0 ≤ (IntKind.u64.wrap (x8)) then (timeboundref31_divide.j1 k x8 ((Go.bits .and .u64 (shr .u64 x214001 (IntKind.u64.wrap (x8))) 1) == 1) x214000 x214001 x215000 x215001 x218000 x218001 bt219.1 bt219.2) else (none)) else (timeboundref31_divide.j1 k x8 false x214000 x214001 x215000 x215001 x218000 x218001 bt219.1 bt219.2)))) else (some (x218000, x218001, x219000, x219001))
def timeboundref31_divide.j1 : Nat → Int → Bool → Int → Int → Int → Int → Int → Int → Int → Int → Option (Int × Int × Int × Int)
  | 0, _, _, _, _, _, _, _, _, _, _ => none
  | k + 1, x8, x39, x214000, x214001, x215000, x215001, x218000, x218001, x219000, x219001 => if x39 = true then (timeboundref31_divide.j2 k x8 x214000 x214001 x215000 x215001 x218000 x218001 x219000 (Go.bits .or .u64 x219001 1)) else (timeboundref31_divide.j2 k x8 x214000 x214001 x215000 x215001 x218000 x218001 x219000 x219001)
def timeboundref31_divide.j2 : Nat → Int → Int → Int → Int → Int → Int → Int → Int → Int → Option (Int × Int × Int × Int)
  | 0, _, _, _, _, _, _, _, _, _ => none
  | k + 1, x8, x214000, x214001, x215000, x215001, x218000, x218001, x219000, x219001 => (timeboundref31_double.f x218000 x218001).bind fun bt221 => ((timeboundref31_less.f x219000 x219001 x215000 x215001).bind fun t223 => (if t223 = true then (timeboundref31_divide.l0 k (wrap64 (x8 - 1)) x214000 x214001 x215000 x215001 bt221.1 bt221.2 x219000 x219001) else ((timeboundref31_sub.f x219000 x219001 x215000 x215001).bind fun bt224 => (timeboundref31_divide.l0 k (wrap64 (x8 - 1)) x214000 x214001 x215000 x215001 bt221.1 (Go.bits .or .u64 bt221.2 1) bt224.1 bt224.2))))
end
def timeboundref31_divide.f (k : Nat) (a0_0 : Int) (a0_1 : Int) (a1_0 : Int) (a1_1 : Int) : Option (Int × Int × Int × Int) := timeboundref31_divide.l0 k 127 a0_0 a0_1 a1_0 a1_1 0 0 0 0
theorem timeboundref31_divide.mono_l : ∀ k, (∀ y0 y1 y2 y3 y4 y5 y6 y7 y8, LeO (timeboundref31_divide.l0 k y0 y1 y2 y3 y4 y5 y6 y7 y8) (timeboundref31_divide.l0 (k + 1) y0 y1 y2 y3 y4 y5 y6 y7 y8)) ∧ (∀ y0 y1 y2 y3 y4 y5 y6 y7 y8 y9, LeO (timeboundref31_divide.j1 k y0 y1 y2 y3 y4 y5 y6 y7 y8 y9) (timeboundref31_divide.j1 (k + 1) y0 y1 y2 y3 y4 y5 y6 y7 y8 y9)) ∧ (∀ y0 y1 y2 y3 y4 y5 y6 y7 y8, LeO (timeboundref31_divide.j2 k y0 y1 y2 y3 y4 y5 y6 y7 y8) (timeboundref31_divide.j2 (k + 1) y0 y1 y2 y3 y4 y5 y6 y7 y8))
  | 0 => ⟨fun _ _ _ _ _ _ _ _ _ r h => by simp [timeboundref31_divide.l0] at h, fun _ _ _ _ _ _ _ _ _ _ r h => by simp [timeboundref31_divide.j1] at h, fun _ _ _ _ _ _ _ _ _ r h => by simp [timeboundref31_divide.j2] at h⟩
  | k + 1 => by
    obtain ⟨ih0, ih1, ih2⟩ := timeboundref31_divide.mono_l k
    refine ⟨?_, ?_, ?_⟩
    · intro y0 y1 y2 y3 y4 y5 y6 y7 y8
      unfold timeboundref31_divide.l0
      repeat' first
      | (with_reducible exact ih0 _ _ _ _ _ _ _ _ _)
      | (with_reducible exact ih1 _ _ _ _ _ _ _ _ _ _)
      | (with_reducible exact ih2 _ _ _ _ _ _ _ _ _)
      | (with_reducible exact LeO.refl _)
      | (with_reducible exact LeO.none _)
      | (with_reducible refine LeO.ite ?_ ?_)
      | (with_reducible refine LeO.bind ?_ (fun _ => ?_))
      | exact ih0 _ _ _ _ _ _ _ _ _
      | exact ih1 _ _ _ _ _ _ _ _ _ _
      | exact ih2 _ _ _ _ _ _ _ _ _
      | exact LeO.none _
      | refine LeO.ite ?_ ?_
      | refine LeO.bind ?_ (fun _ => ?_)
    · intro y0 y1 y2 y3 y4 y5 y6 y7 y8 y9
      unfold timeboundref31_divide.j1
      repeat' first
      | (with_reducible exact ih0 _ _ _ _ _ _ _ _ _)
      | (with_reducible exact ih1 _ _ _ _ _ _ _ _ _ _)
      | (with_reducible exact ih2 _ _ _ _ _ _ _ _ _)
      | (with_reducible exact LeO.refl _)
      | (with_reducible exact LeO.none _)
      | (with_reducible refine LeO.ite ?_ ?_)
      | (with_reducible refine LeO.bind ?_ (fun _ => ?_))
      | exact ih0 _ _ _ _ _ _ _ _ _
      | exact ih1 _ _ _ _ _ _ _ _ _ _
      | exact ih2 _ _ _ _ _ _ _ _ _
      | exact LeO.none _
      | refine LeO.ite ?_ ?_
      | refine LeO.bind ?_ (fun _ => ?_)
    · intro y0 y1 y2 y3 y4 y5 y6 y7 y8
      unfold timeboundref31_divide.j2
      repeat' first
      | (with_reducible exact ih0 _ _ _ _ _ _ _ _ _)
      | (with_reducible exact ih1 _ _ _ _ _ _ _ _ _ _)
      | (with_reducible exact ih2 _ _ _ _ _ _ _ _ _)
      | (with_reducible exact LeO.refl _)
      | (with_reducible exact LeO.none _)
      | (with_reducible refine LeO.ite ?_ ?_)
      | (with_reducible refine LeO.bind ?_ (fun _ => ?_))
      | exact ih0 _ _ _ _ _ _ _ _ _
      | exact ih1 _ _ _ _ _ _ _ _ _ _
      | exact ih2 _ _ _ _ _ _ _ _ _
      | exact LeO.none _
      | refine LeO.ite ?_ ?_
      | refine LeO.bind ?_ (fun _ => ?_)
theorem timeboundref31_divide.mono : ∀ a0 a1 a2 a3 k, LeO (timeboundref31_divide.f k a0 a1 a2 a3) (timeboundref31_divide.f (k + 1) a0 a1 a2 a3) := by
  intro a0 a1 a2 a3 k
  obtain ⟨ih0, ih1, ih2⟩ := timeboundref31_divide.mono_l k
  unfold timeboundref31_divide.f
  repeat' first
      | (with_reducible exact ih0 _ _ _ _ _ _ _ _ _)
      | (with_reducible exact ih1 _ _ _ _ _ _ _ _ _ _)
      | (with_reducible exact ih2 _ _ _ _ _ _ _ _ _)
      | (with_reducible exact LeO.refl _)
      | (with_reducible exact LeO.none _)
      | (with_reducible refine LeO.ite ?_ ?_)
      | (with_reducible refine LeO.bind ?_ (fun _ => ?_))
      | exact ih0 _ _ _ _ _ _ _ _ _
      | exact ih1 _ _ _ _ _ _ _ _ _ _
      | exact ih2 _ _ _ _ _ _ _ _ _
      | exact LeO.none _
      | refine LeO.ite ?_ ?_
      | refine LeO.bind ?_ (fun _ => ?_)
set_option maxHeartbeats 8000000 in
set_option maxRecDepth 100000 in
theorem timeboundref31_divide.calls (k : Nat) (a0_0 : Int) (a0_1 : Int) (a1_0 : Int) (a1_1 : Int) (r1 : Int) (r2 : Int) (r3 : Int) (r4 : Int) (w : World) (h : timeboundref31_divide.f k a0_0 a0_1 a1_0 a1_1 = some (r1, r2, r3, r4)) :
    Calls Try.prog 100 #[.agg #[.int .u64 a0_0, .int .u64 a0_1], .agg #[.int .u64 a1_0, .int .u64 a1_1]] w fun e w' => e = .returned (.tuple #[.agg #[.int .u64 r1, .int .u64 r2], .agg #[.int .u64 r3, .int .u64 r4]]) ∧ Below w.heap.size w w' := by
  have hu75 := Try.underlying75
  have HB := Aside0.mk (Below.refl w.heap.size w)
  have H : (timeboundref31_divide.l0 k 127 a0_0 a0_1 a1_0 a1_1 0 0 0 0) = some (r1, r2, r3, r4) := h
  clear h
  have H' := Aside0.mk H
  clear H
  go_enter Try.func100, Try.ntmps100
  go_wp2_with (first | ((with_reducible refine gate_dst (N := 2) rfl ?_); refine box_event ?hg (N := 2) ?hd (cs := #[.int .u64 a0_0, .int .u64 a0_1]) (t := 75) ?hr ?_; (case hd => rfl); (case hg => rfl); (case hr => first | (go_simp; done) | (go_simp; rfl)); intro gb213 hg w3 hbox hb; have BK213 := Aside0.mk (hbox); have GW213 := gww hg HB; have GE213 := gww hg HB; replace HB := blw HB hb; clear hb hbox hg) | ((with_reducible refine gate_dst (N := 3) rfl ?_); refine box_event ?hg (N := 3) ?hd (cs := #[.int .u64 a1_0, .int .u64 a1_1]) (t := 75) ?hr ?_; (case hd => rfl); (case hg => rfl); (case hr => first | (go_simp; done) | (go_simp; rfl)); intro gb214 hg w4 hbox hb; have BK214 := Aside0.mk (hbox); have GW214 := gww hg HB; have GE214 := gww hg HB; have NB213_214 := nbl hg BK213; have NB214_213 := nbr hg BK213; replace BK213 := bkb BK213 hb; replace HB := blw HB hb; clear hb hbox hg) | ((with_reducible refine gate_dst (N := 4) rfl ?_); refine box_event ?hg (N := 4) ?hd (cs := #[.int .u64 0, .int .u64 0]) (t := 75) ?hr ?_; (case hd => rfl); (case hg => rfl); (case hr => first | (go_simp; done) | (go_simp; rfl)); intro gb215 hg w5 hbox hb; have BK215 := Aside0.mk (hbox); have GW215 := gww hg HB; have GE215 := gww hg HB; have NB213_215 := nbl hg BK213; have NB215_213 := nbr hg BK213; have NB214_215 := nbl hg BK214; have NB215_214 := nbr hg BK214; replace BK213 := bkb BK213 hb; replace BK214 := bkb BK214 hb; replace HB := blw HB hb; clear hb hbox hg) | ((with_reducible refine gate_dst (N := 5) rfl ?_); refine box_event ?hg (N := 5) ?hd (cs := #[.int .u64 0, .int .u64 0]) (t := 75) ?hr ?_; (case hd => rfl); (case hg => rfl); (case hr => first | (go_simp; done) | (go_simp; rfl)); intro gb216 hg w6 hbox hb; have BK216 := Aside0.mk (hbox); have GW216 := gww hg HB; have GE216 := gww hg HB; have NB213_216 := nbl hg BK213; have NB216_213 := nbr hg BK213; have NB214_216 := nbl hg BK214; have NB216_214 := nbr hg BK214; have NB215_216 := nbl hg BK215; have NB216_215 := nbr hg BK215; replace BK213 := bkb BK213 hb; replace BK214 := bkb BK214 hb; replace BK215 := bkb BK215 hb; replace HB := blw HB hb; clear hb hbox hg) | ((with_reducible refine gate_dst (N := 6) rfl ?_); refine box_event ?hg (N := 6) ?hd (cs := #[.int .u64 0, .int .u64 0]) (t := 75) ?hr ?_; (case hd => rfl); (case hg => rfl); (case hr => first | (go_simp; done) | (go_simp; rfl)); intro gb217 hg w7 hbox hb; have BK217 := Aside0.mk (hbox); have GW217 := gww hg HB; have GE217 := gww hg HB; have NB213_217 := nbl hg BK213; have NB217_213 := nbr hg BK213; have NB214_217 := nbl hg BK214; have NB217_214 := nbr hg BK214; have NB215_217 := nbl hg BK215; have NB217_215 := nbr hg BK215; have NB216_217 := nbl hg BK216; have NB217_216 := nbr hg BK216; replace BK213 := bkb BK213 hb; replace BK214 := bkb BK214 hb; replace BK215 := bkb BK215 hb; replace BK216 := bkb BK216 hb; replace HB := blw HB hb; clear hb hbox hg) | ((with_reducible refine gate_dst (N := 7) rfl ?_); refine box_event ?hg (N := 7) ?hd (cs := #[.int .u64 0, .int .u64 0]) (t := 75) ?hr ?_; (case hd => rfl); (case hg => rfl); (case hr => first | (go_simp; done) | (go_simp; rfl)); intro gb218 hg w8 hbox hb; have BK218 := Aside0.mk (hbox); have GW218 := gww hg HB; have GE218 := gww hg HB; have NB213_218 := nbl hg BK213; have NB218_213 := nbr hg BK213; have NB214_218 := nbl hg BK214; have NB218_214 := nbr hg BK214; have NB215_218 := nbl hg BK215; have NB218_215 := nbr hg BK215; have NB216_218 := nbl hg BK216; have NB218_216 := nbr hg BK216; have NB217_218 := nbl hg BK217; have NB218_217 := nbr hg BK217; replace BK213 := bkb BK213 hb; replace BK214 := bkb BK214 hb; replace BK215 := bkb BK215 hb; replace BK216 := bkb BK216 hb; replace BK217 := bkb BK217 hb; replace HB := blw HB hb; clear hb hbox hg))
  (try simp only [Act.put, List.setIfInBounds_toArray, List.set_cons_succ, List.set_cons_zero])
  go_loopg [8] k (fun kq v8 w' => ∃ (x8_1 : Int) (x218000_1 : Int) (x218001_1 : Int) (x219000_1 : Int) (x219001_1 : Int), v8 = .int .i64 x8_1 ∧ Aside0 (timeboundref31_divide.l0 kq x8_1 a0_0 a0_1 a1_0 a1_1 x218000_1 x218001_1 x219000_1 x219001_1 = some (r1, r2, r3, r4)) ∧ Aside0 (kq ≤ k) ∧ Aside0 (w'.heap[gb213]? = some (.cells #[.int .u64 a0_0, .int .u64 a0_1] 75 (0, 0))) ∧ Aside0 (w'.heap[gb214]? = some (.cells #[.int .u64 a1_0, .int .u64 a1_1] 75 (0, 0))) ∧ Aside0 (w'.heap[gb215]? = some (.cells #[.int .u64 0, .int .u64 0] 75 (0, 0))) ∧ Aside0 (w'.heap[gb216]? = some (.cells #[.int .u64 0, .int .u64 0] 75 (0, 0))) ∧ Aside0 (w'.heap[gb217]? = some (.cells #[.int .u64 x218000_1, .int .u64 x218001_1] 75 (0, 0))) ∧ Aside0 (w'.heap[gb218]? = some (.cells #[.int .u64 x219000_1, .int .u64 x219001_1] 75 (0, 0))) ∧ Aside0 (Below w.heap.size w w'))
  case atStart => exact ⟨(127), (0), (0), (0), (0), (by first | rfl | (simp; done) | (simp [*]; done)), H', ⟨Nat.le_refl _⟩, ⟨by (with_reducible repeat (first | refine blk_drewN ?_ _ | refine blk_drew ?_ | refine blk_alloc ?_ _)); exact BK213.out⟩, ⟨by (with_reducible repeat (first | refine blk_drewN ?_ _ | refine blk_drew ?_ | refine blk_alloc ?_ _)); exact BK214.out⟩, ⟨by (with_reducible repeat (first | refine blk_drewN ?_ _ | refine blk_drew ?_ | refine blk_alloc ?_ _)); exact BK215.out⟩, ⟨by (with_reducible repeat (first | refine blk_drewN ?_ _ | refine blk_drew ?_ | refine blk_alloc ?_ _)); exact BK216.out⟩, ⟨by (with_reducible repeat (first | refine blk_drewN ?_ _ | refine blk_drew ?_ | refine blk_alloc ?_ _)); exact BK217.out⟩, ⟨by (with_reducible repeat (first | refine blk_drewN ?_ _ | refine blk_drew ?_ | refine blk_alloc ?_ _)); exact BK218.out⟩, ⟨by repeat (first | (with_reducible first | exact HB.out | apply below_alloc | apply pw_below_drewN | apply below_drew1 | refine below_set ?_ GE213.out | refine below_set ?_ GE214.out | refine below_set ?_ GE215.out | refine below_set ?_ GE216.out | refine below_set ?_ GE217.out | refine below_set ?_ GE218.out) | exact HB.out)⟩⟩
  case round =>
    clear H'
    try clear c1
    try clear p2
    obtain ⟨x8_1, x218000_1, x218001_1, x219000_1, x219001_1, rfl, HA, HK1, BK213, BK214, BK215, BK216, BK217, BK218, HB⟩ := hrel
    cases gk with
    | zero => exact absurd HA.out (by simp [timeboundref31_divide.l0])
    | succ k1 =>
      have H := HA.out
      clear HA
      simp only [timeboundref31_divide.l0] at H
      by_cases c9 : x8_1 ≥ 0
      · rw [if_pos c9] at H
        have c9b0 : decide (0 ≤ x8_1) = true := decide_eq_true c9
        clear c9
        replace H := Option.bind_eq_some_iff.mp H
        obtain ⟨⟨t219, t220⟩, A100, H⟩ := H
        replace H : (if x8_1 ≥ 64 then (if 0 ≤ (IntKind.u64.wrap (wrap64 (x8_1 - 64))) then (if (Go.bits .and .u64 (shr .u64 a0_0 (IntKind.u64.wrap (wrap64 (x8_1 - 64)))) 1) = 1 then (timeboundref31_divide.j1 k1 x8_1 true a0_0 a0_1 a1_0 a1_1 x218000_1 x218001_1 t219 t220) else (if x8_1 < 64 then (if 0 ≤ (IntKind.u64.wrap (x8_1)) then (timeboundref31_divide.j1 k1 x8_1 ((Go.bits .and .u64 (shr .u64 a0_1 (IntKind.u64.wrap (x8_1))) 1) == 1) a0_0 a0_1 a1_0 a1_1 x218000_1 x218001_1 t219 t220) else (none)) else (timeboundref31_divide.j1 k1 x8_1 false a0_0 a0_1 a1_0 a1_1 x218000_1 x218001_1 t219 t220))) else (none)) else (if x8_1 < 64 then (if 0 ≤ (IntKind.u64.wrap (x8_1)) then (timeboundref31_divide.j1 k1 x8_1 ((Go.bits .and .u64 (shr .u64 a0_1 (IntKind.u64.wrap (x8_1))) 1) == 1) a0_0 a0_1 a1_0 a1_1 x218000_1 x218001_1 t219 t220) else (none)) else (timeboundref31_divide.j1 k1 x8_1 false a0_0 a0_1 a1_0 a1_1 x218000_1 x218001_1 t219 t220))) = some (r1, r2, r3, r4) := H
        have A10 := Aside0.mk A100
        clear A100
        have HC11 := Aside0.mk H
        clear H
        have hnb12 := NB218_213.out
        have hnc12 := NB213_218.out
        have hnb13 := NB218_214.out
        have hnc13 := NB214_218.out
        have hnb14 := NB218_215.out
        have hnc14 := NB215_218.out
        have hnb15 := NB218_216.out
        have hnc15 := NB216_218.out
        have hnb16 := NB218_217.out
        have hnc16 := NB217_218.out
        have hcz17_0 : wr.cell? ⟨gb218, 0, none⟩ = some (.int .u64 x219000_1) := (blk_cell BK218.out 0).trans rfl
        have hcz17_1 : wr.cell? ⟨gb218, 1, none⟩ = some (.int .u64 x219001_1) := (blk_cell BK218.out 1).trans rfl
        have hfz17_0 := blk_frozen BK218.out 0
        have hfz17_1 := blk_frozen BK218.out 1
        go_upto_region 6 with (first | ((with_reducible refine gate_callee (f := 122) rfl ?_); refine goesL_ (some 14) rfl rfl Try.func122 (by kernel_rfl) rfl #[.agg #[.int .u64 x219000_1, .int .u64 x219001_1]] rfl (by (try simp only [List.map_toArray, List.map_cons, List.map_nil]); first | done | rfl | (simp only [List.length_drop, List.length_take]; rfl)) ?_; (with_reducible refine (timeboundref31_double.calls x219000_1 x219001_1 t219 t220 _ A10.out).mono ?_); rintro e w18 ⟨rfl, hb⟩; refine ⟨_, rfl, ?_⟩; replace BK213 := bkb BK213 hb; replace BK214 := bkb BK214 hb; replace BK215 := bkb BK215 hb; replace BK216 := bkb BK216 hb; replace BK217 := bkb BK217 hb; replace BK218 := bkb BK218 hb; replace HB := blw HB hb; (try clear hb); (try clear hb2); (try clear hk); (try clear hi); have hcz19_0 : w18.cell? ⟨gb218, 0, none⟩ = some (.int .u64 x219000_1) := (blk_cell BK218.out 0).trans rfl; have hcz19_1 : w18.cell? ⟨gb218, 1, none⟩ = some (.int .u64 x219001_1) := (blk_cell BK218.out 1).trans rfl; have hfz19_0 := blk_frozen BK218.out 0; have hfz19_1 := blk_frozen BK218.out 1))
        (try simp only [Act.put, List.setIfInBounds_toArray, List.set_cons_zero, List.set_cons_succ])
        go_cut [39] (fun v39 wc => ∃ (kq : Nat) (x39_10 : Bool), v39 = .bool x39_10 ∧ Aside0 (timeboundref31_divide.j1 kq x8_1 x39_10 a0_0 a0_1 a1_0 a1_1 x218000_1 x218001_1 t219 t220 = some (r1, r2, r3, r4)) ∧ Aside0 (kq ≤ k1) ∧ Aside0 (wc.heap[gb213]? = some (.cells #[.int .u64 a0_0, .int .u64 a0_1] 75 (0, 0))) ∧ Aside0 (wc.heap[gb214]? = some (.cells #[.int .u64 a1_0, .int .u64 a1_1] 75 (0, 0))) ∧ Aside0 (wc.heap[gb215]? = some (.cells #[.int .u64 0, .int .u64 0] 75 (0, 0))) ∧ Aside0 (wc.heap[gb216]? = some (.cells #[.int .u64 0, .int .u64 0] 75 (0, 0))) ∧ Aside0 (wc.heap[gb217]? = some (.cells #[.int .u64 x218000_1, .int .u64 x218001_1] 75 (0, 0))) ∧ Aside0 (wc.heap[gb218]? = some (.cells #[.int .u64 t219, .int .u64 t220] 75 (0, 0))) ∧ Aside0 (Below w.heap.size w wc))
        case first =>
          have H := HC11.out
          clear HC11
          by_cases c20 : x8_1 ≥ 64
          · rw [if_pos c20] at H
            have c20b0 : decide (64 ≤ x8_1) = true := decide_eq_true c20
            clear c20
            (first | rw [c20b0] | (simp only [i64_w, i32_w]; rw [c20b0]) | skip)
            obtain ⟨ji21, hji21⟩ : ∃ j_ : Int, (IntKind.u64.wrap (wrap64 (x8_1 - 64))) = j_ := ⟨_, rfl⟩
            replace H : (if 0 ≤ (ji21) then (if (Go.bits .and .u64 (shr .u64 a0_0 (ji21)) 1) = 1 then (timeboundref31_divide.j1 k1 x8_1 true a0_0 a0_1 a1_0 a1_1 x218000_1 x218001_1 t219 t220) else (if x8_1 < 64 then (if 0 ≤ (IntKind.u64.wrap (x8_1)) then (timeboundref31_divide.j1 k1 x8_1 ((Go.bits .and .u64 (shr .u64 a0_1 (IntKind.u64.wrap (x8_1))) 1) == 1) a0_0 a0_1 a1_0 a1_1 x218000_1 x218001_1 t219 t220) else (none)) else (timeboundref31_divide.j1 k1 x8_1 false a0_0 a0_1 a1_0 a1_1 x218000_1 x218001_1 t219 t220))) else (none)) = some (r1, r2, r3, r4) := by first | (rw [hji21] at H; exact H) | (simp only [hji21] at H ⊢; exact H)
            by_cases c22 : 0 ≤ (ji21)
            · rw [if_pos c22] at H
              have c22b0 := eq_true c22
              have c22b1 : decide (0 ≤ (ji21)) = true := decide_eq_true c22
              clear c22
              obtain ⟨ji23, hji23⟩ : ∃ j_ : Int, (shr .u64 a0_0 (ji21)) = j_ := ⟨_, rfl⟩
              replace H : (if (Go.bits .and .u64 (ji23) 1) = 1 then (timeboundref31_divide.j1 k1 x8_1 true a0_0 a0_1 a1_0 a1_1 x218000_1 x218001_1 t219 t220) else (if x8_1 < 64 then (if 0 ≤ (IntKind.u64.wrap (x8_1)) then (timeboundref31_divide.j1 k1 x8_1 ((Go.bits .and .u64 (shr .u64 a0_1 (IntKind.u64.wrap (x8_1))) 1) == 1) a0_0 a0_1 a1_0 a1_1 x218000_1 x218001_1 t219 t220) else (none)) else (timeboundref31_divide.j1 k1 x8_1 false a0_0 a0_1 a1_0 a1_1 x218000_1 x218001_1 t219 t220))) = some (r1, r2, r3, r4) := by first | (rw [hji23] at H; exact H) | (simp only [hji23] at H ⊢; exact H)
              have hji23_ : (a0_0 / 2 ^ min (ji21).toNat 64) = ji23 := hji23
              have hji23z : (ji21) ≤ 64 → (a0_0 / 2 ^ (ji21).toNat) = ji23 := shr_small hji23
              by_cases c24 : (Go.bits .and .u64 (ji23) 1) = 1
              · rw [if_pos c24] at H
                have c24b0 : ((Go.bits .and .u64 (ji23) 1) == 1) = true := beq_iff_eq.mpr c24
                have c24b1 : ((Go.bits .and .u64 (ji23) 1) != 1) = false := bne_eq_false_iff_eq.mpr c24
                clear c24
                have H' := Aside0.mk H
                clear H
                have hnb25 := NB213_214.out
                have hnc25 := NB214_213.out
                have hnb26 := NB213_215.out
                have hnc26 := NB215_213.out
                have hnb27 := NB213_216.out
                have hnc27 := NB216_213.out
                have hnb28 := NB213_217.out
                have hnc28 := NB217_213.out
                have hnb29 := NB213_218.out
                have hnc29 := NB218_213.out
                have hcz30_0 : w18.cell? ⟨gb213, 0, none⟩ = some (.int .u64 a0_0) := (blk_cell BK213.out 0).trans rfl
                have hcz30_1 : w18.cell? ⟨gb213, 1, none⟩ = some (.int .u64 a0_1) := (blk_cell BK213.out 1).trans rfl
                have hfz30_0 := blk_frozen BK213.out 0
                have hfz30_1 := blk_frozen BK213.out 1
                go_wp2
                go_meet
                case rel => exact ⟨_, (true), (by first | rfl | (simp; done) | (simp [*]; done)), H', ⟨by have := HK1.out; first | omega | exact Nat.le_refl _⟩, ⟨by (with_reducible repeat (first | refine blk_drewN ?_ _ | refine blk_drew ?_ | refine blk_alloc ?_ _)); refine blk_far ?_ NB213_218.out _; (with_reducible repeat (first | refine blk_drewN ?_ _ | refine blk_drew ?_ | refine blk_alloc ?_ _)); refine blk_far ?_ NB213_218.out _; (with_reducible repeat (first | refine blk_drewN ?_ _ | refine blk_drew ?_ | refine blk_alloc ?_ _)); exact BK213.out⟩, ⟨by (with_reducible repeat (first | refine blk_drewN ?_ _ | refine blk_drew ?_ | refine blk_alloc ?_ _)); refine blk_far ?_ NB214_218.out _; (with_reducible repeat (first | refine blk_drewN ?_ _ | refine blk_drew ?_ | refine blk_alloc ?_ _)); refine blk_far ?_ NB214_218.out _; (with_reducible repeat (first | refine blk_drewN ?_ _ | refine blk_drew ?_ | refine blk_alloc ?_ _)); exact BK214.out⟩, ⟨by (with_reducible repeat (first | refine blk_drewN ?_ _ | refine blk_drew ?_ | refine blk_alloc ?_ _)); refine blk_far ?_ NB215_218.out _; (with_reducible repeat (first | refine blk_drewN ?_ _ | refine blk_drew ?_ | refine blk_alloc ?_ _)); refine blk_far ?_ NB215_218.out _; (with_reducible repeat (first | refine blk_drewN ?_ _ | refine blk_drew ?_ | refine blk_alloc ?_ _)); exact BK215.out⟩, ⟨by (with_reducible repeat (first | refine blk_drewN ?_ _ | refine blk_drew ?_ | refine blk_alloc ?_ _)); refine blk_far ?_ NB216_218.out _; (with_reducible repeat (first | refine blk_drewN ?_ _ | refine blk_drew ?_ | refine blk_alloc ?_ _)); refine blk_far ?_ NB216_218.out _; (with_reducible repeat (first | refine blk_drewN ?_ _ | refine blk_drew ?_ | refine blk_alloc ?_ _)); exact BK216.out⟩, ⟨by (with_reducible repeat (first | refine blk_drewN ?_ _ | refine blk_drew ?_ | refine blk_alloc ?_ _)); refine blk_far ?_ NB217_218.out _; (with_reducible repeat (first | refine blk_drewN ?_ _ | refine blk_drew ?_ | refine blk_alloc ?_ _)); refine blk_far ?_ NB217_218.out _; (with_reducible repeat (first | refine blk_drewN ?_ _ | refine blk_drew ?_ | refine blk_alloc ?_ _)); exact BK217.out⟩, ⟨by (with_reducible repeat (first | refine blk_drewN ?_ _ | refine blk_drew ?_ | refine blk_alloc ?_ _)); refine blk_put (cs := #[.int .u64 t219, .int .u64 x219001_1]) ?_ 1 _ rfl; (with_reducible repeat (first | refine blk_drewN ?_ _ | refine blk_drew ?_ | refine blk_alloc ?_ _)); refine blk_put (cs := #[.int .u64 x219000_1, .int .u64 x219001_1]) ?_ 0 _ rfl; (with_reducible repeat (first | refine blk_drewN ?_ _ | refine blk_drew ?_ | refine blk_alloc ?_ _)); exact BK218.out⟩, ⟨by repeat (first | (with_reducible first | exact HB.out | apply below_alloc | apply pw_below_drewN | apply below_drew1 | refine below_set ?_ GE213.out | refine below_set ?_ GE214.out | refine below_set ?_ GE215.out | refine below_set ?_ GE216.out | refine below_set ?_ GE217.out | refine below_set ?_ GE218.out) | exact HB.out)⟩⟩
              · rw [if_neg c24] at H
                have c24b0 : ((Go.bits .and .u64 (ji23) 1) == 1) = false := beq_eq_false_iff_ne.mpr c24
                have c24b1 : ((Go.bits .and .u64 (ji23) 1) != 1) = true := bne_iff_ne.mpr c24
                by_cases c31 : x8_1 < 64
                · rw [if_pos c31] at H
                  have c31b0 : decide (x8_1 < 64) = true := decide_eq_true c31
                  clear c31
                  obtain ⟨ji32, hji32⟩ : ∃ j_ : Int, (IntKind.u64.wrap (x8_1)) = j_ := ⟨_, rfl⟩
                  replace H : (if 0 ≤ (ji32) then (timeboundref31_divide.j1 k1 x8_1 ((Go.bits .and .u64 (shr .u64 a0_1 (ji32)) 1) == 1) a0_0 a0_1 a1_0 a1_1 x218000_1 x218001_1 t219 t220) else (none)) = some (r1, r2, r3, r4) := by first | (rw [hji32] at H; exact H) | (simp only [hji32] at H ⊢; exact H)
                  by_cases c33 : 0 ≤ (ji32)
                  · rw [if_pos c33] at H
                    have c33b0 := eq_true c33
                    have c33b1 : decide (0 ≤ (ji32)) = true := decide_eq_true c33
                    clear c33
                    obtain ⟨ji34, hji34⟩ : ∃ j_ : Int, (shr .u64 a0_1 (ji32)) = j_ := ⟨_, rfl⟩
                    replace H : (timeboundref31_divide.j1 k1 x8_1 ((Go.bits .and .u64 (ji34) 1) == 1) a0_0 a0_1 a1_0 a1_1 x218000_1 x218001_1 t219 t220) = some (r1, r2, r3, r4) := by first | (rw [hji34] at H; exact H) | (simp only [hji34] at H ⊢; exact H)
                    have hji34_ : (a0_1 / 2 ^ min (ji32).toNat 64) = ji34 := hji34
                    have hji34z : (ji32) ≤ 64 → (a0_1 / 2 ^ (ji32).toNat) = ji34 := shr_small hji34
                    have H' := Aside0.mk H
                    clear H
                    have hnb35 := NB213_214.out
                    have hnc35 := NB214_213.out
                    have hnb36 := NB213_215.out
                    have hnc36 := NB215_213.out
                    have hnb37 := NB213_216.out
                    have hnc37 := NB216_213.out
                    have hnb38 := NB213_217.out
                    have hnc38 := NB217_213.out
                    have hnb39 := NB213_218.out
                    have hnc39 := NB218_213.out
                    have hcz40_0 : w18.cell? ⟨gb213, 0, none⟩ = some (.int .u64 a0_0) := (blk_cell BK213.out 0).trans rfl
                    have hcz40_1 : w18.cell? ⟨gb213, 1, none⟩ = some (.int .u64 a0_1) := (blk_cell BK213.out 1).trans rfl
                    have hfz40_0 := blk_frozen BK213.out 0
                    have hfz40_1 := blk_frozen BK213.out 1
                    go_wp2
                    go_meet
                    case rel => exact ⟨_, (((Go.bits .and .u64 (ji34) 1) == 1)), (by first | rfl | (simp; done) | (simp only [← hji34] <;> (first | rfl | simp)) | (simp [*]; done)), H', ⟨by have := HK1.out; first | omega | exact Nat.le_refl _⟩, ⟨by (with_reducible repeat (first | refine blk_drewN ?_ _ | refine blk_drew ?_ | refine blk_alloc ?_ _)); refine blk_far ?_ NB213_218.out _; (with_reducible repeat (first | refine blk_drewN ?_ _ | refine blk_drew ?_ | refine blk_alloc ?_ _)); refine blk_far ?_ NB213_218.out _; (with_reducible repeat (first | refine blk_drewN ?_ _ | refine blk_drew ?_ | refine blk_alloc ?_ _)); exact BK213.out⟩, ⟨by (with_reducible repeat (first | refine blk_drewN ?_ _ | refine blk_drew ?_ | refine blk_alloc ?_ _)); refine blk_far ?_ NB214_218.out _; (with_reducible repeat (first | refine blk_drewN ?_ _ | refine blk_drew ?_ | refine blk_alloc ?_ _)); refine blk_far ?_ NB214_218.out _; (with_reducible repeat (first | refine blk_drewN ?_ _ | refine blk_drew ?_ | refine blk_alloc ?_ _)); exact BK214.out⟩, ⟨by (with_reducible repeat (first | refine blk_drewN ?_ _ | refine blk_drew ?_ | refine blk_alloc ?_ _)); refine blk_far ?_ NB215_218.out _; (with_reducible repeat (first | refine blk_drewN ?_ _ | refine blk_drew ?_ | refine blk_alloc ?_ _)); refine blk_far ?_ NB215_218.out _; (with_reducible repeat (first | refine blk_drewN ?_ _ | refine blk_drew ?_ | refine blk_alloc ?_ _)); exact BK215.out⟩, ⟨by (with_reducible repeat (first | refine blk_drewN ?_ _ | refine blk_drew ?_ | refine blk_alloc ?_ _)); refine blk_far ?_ NB216_218.out _; (with_reducible repeat (first | refine blk_drewN ?_ _ | refine blk_drew ?_ | refine blk_alloc ?_ _)); refine blk_far ?_ NB216_218.out _; (with_reducible repeat (first | refine blk_drewN ?_ _ | refine blk_drew ?_ | refine blk_alloc ?_ _)); exact BK216.out⟩, ⟨by (with_reducible repeat (first | refine blk_drewN ?_ _ | refine blk_drew ?_ | refine blk_alloc ?_ _)); refine blk_far ?_ NB217_218.out _; (with_reducible repeat (first | refine blk_drewN ?_ _ | refine blk_drew ?_ | refine blk_alloc ?_ _)); refine blk_far ?_ NB217_218.out _; (with_reducible repeat (first | refine blk_drewN ?_ _ | refine blk_drew ?_ | refine blk_alloc ?_ _)); exact BK217.out⟩, ⟨by (with_reducible repeat (first | refine blk_drewN ?_ _ | refine blk_drew ?_ | refine blk_alloc ?_ _)); refine blk_put (cs := #[.int .u64 t219, .int .u64 x219001_1]) ?_ 1 _ rfl; (with_reducible repeat (first | refine blk_drewN ?_ _ | refine blk_drew ?_ | refine blk_alloc ?_ _)); refine blk_put (cs := #[.int .u64 x219000_1, .int .u64 x219001_1]) ?_ 0 _ rfl; (with_reducible repeat (first | refine blk_drewN ?_ _ | refine blk_drew ?_ | refine blk_alloc ?_ _)); exact BK218.out⟩, ⟨by repeat (first | (with_reducible first | exact HB.out | apply below_alloc | apply pw_below_drewN | apply below_drew1 | refine below_set ?_ GE213.out | refine below_set ?_ GE214.out | refine below_set ?_ GE215.out | refine below_set ?_ GE216.out | refine below_set ?_ GE217.out | refine below_set ?_ GE218.out) | exact HB.out)⟩⟩
                  · rw [if_neg c33] at H
                    exact absurd H (by simp)
                · rw [if_neg c31] at H
                  have c31b0 : decide (x8_1 < 64) = false := decide_eq_false c31
                  clear c31
                  have H' := Aside0.mk H
                  clear H
                  have hnb41 := NB213_214.out
                  have hnc41 := NB214_213.out
                  have hnb42 := NB213_215.out
                  have hnc42 := NB215_213.out
                  have hnb43 := NB213_216.out
                  have hnc43 := NB216_213.out
                  have hnb44 := NB213_217.out
                  have hnc44 := NB217_213.out
                  have hnb45 := NB213_218.out
                  have hnc45 := NB218_213.out
                  have hcz46_0 : w18.cell? ⟨gb213, 0, none⟩ = some (.int .u64 a0_0) := (blk_cell BK213.out 0).trans rfl
                  have hcz46_1 : w18.cell? ⟨gb213, 1, none⟩ = some (.int .u64 a0_1) := (blk_cell BK213.out 1).trans rfl
                  have hfz46_0 := blk_frozen BK213.out 0
                  have hfz46_1 := blk_frozen BK213.out 1
                  go_wp2
                  go_meet
                  case rel => exact ⟨_, (false), (by first | rfl | (simp; done) | (simp [*]; done)), H', ⟨by have := HK1.out; first | omega | exact Nat.le_refl _⟩, ⟨by (with_reducible repeat (first | refine blk_drewN ?_ _ | refine blk_drew ?_ | refine blk_alloc ?_ _)); refine blk_far ?_ NB213_218.out _; (with_reducible repeat (first | refine blk_drewN ?_ _ | refine blk_drew ?_ | refine blk_alloc ?_ _)); refine blk_far ?_ NB213_218.out _; (with_reducible repeat (first | refine blk_drewN ?_ _ | refine blk_drew ?_ | refine blk_alloc ?_ _)); exact BK213.out⟩, ⟨by (with_reducible repeat (first | refine blk_drewN ?_ _ | refine blk_drew ?_ | refine blk_alloc ?_ _)); refine blk_far ?_ NB214_218.out _; (with_reducible repeat (first | refine blk_drewN ?_ _ | refine blk_drew ?_ | refine blk_alloc ?_ _)); refine blk_far ?_ NB214_218.out _; (with_reducible repeat (first | refine blk_drewN ?_ _ | refine blk_drew ?_ | refine blk_alloc ?_ _)); exact BK214.out⟩, ⟨by (with_reducible repeat (first | refine blk_drewN ?_ _ | refine blk_drew ?_ | refine blk_alloc ?_ _)); refine blk_far ?_ NB215_218.out _; (with_reducible repeat (first | refine blk_drewN ?_ _ | refine blk_drew ?_ | refine blk_alloc ?_ _)); refine blk_far ?_ NB215_218.out _; (with_reducible repeat (first | refine blk_drewN ?_ _ | refine blk_drew ?_ | refine blk_alloc ?_ _)); exact BK215.out⟩, ⟨by (with_reducible repeat (first | refine blk_drewN ?_ _ | refine blk_drew ?_ | refine blk_alloc ?_ _)); refine blk_far ?_ NB216_218.out _; (with_reducible repeat (first | refine blk_drewN ?_ _ | refine blk_drew ?_ | refine blk_alloc ?_ _)); refine blk_far ?_ NB216_218.out _; (with_reducible repeat (first | refine blk_drewN ?_ _ | refine blk_drew ?_ | refine blk_alloc ?_ _)); exact BK216.out⟩, ⟨by (with_reducible repeat (first | refine blk_drewN ?_ _ | refine blk_drew ?_ | refine blk_alloc ?_ _)); refine blk_far ?_ NB217_218.out _; (with_reducible repeat (first | refine blk_drewN ?_ _ | refine blk_drew ?_ | refine blk_alloc ?_ _)); refine blk_far ?_ NB217_218.out _; (with_reducible repeat (first | refine blk_drewN ?_ _ | refine blk_drew ?_ | refine blk_alloc ?_ _)); exact BK217.out⟩, ⟨by (with_reducible repeat (first | refine blk_drewN ?_ _ | refine blk_drew ?_ | refine blk_alloc ?_ _)); refine blk_put (cs := #[.int .u64 t219, .int .u64 x219001_1]) ?_ 1 _ rfl; (with_reducible repeat (first | refine blk_drewN ?_ _ | refine blk_drew ?_ | refine blk_alloc ?_ _)); refine blk_put (cs := #[.int .u64 x219000_1, .int .u64 x219001_1]) ?_ 0 _ rfl; (with_reducible repeat (first | refine blk_drewN ?_ _ | refine blk_drew ?_ | refine blk_alloc ?_ _)); exact BK218.out⟩, ⟨by repeat (first | (with_reducible first | exact HB.out | apply below_alloc | apply pw_below_drewN | apply below_drew1 | refine below_set ?_ GE213.out | refine below_set ?_ GE214.out | refine below_set ?_ GE215.out | refine below_set ?_ GE216.out | refine below_set ?_ GE217.out | refine below_set ?_ GE218.out) | exact HB.out)⟩⟩
            · rw [if_neg c22] at H
              exact absurd H (by simp)
          · rw [if_neg c20] at H
            have c20b0 : decide (64 ≤ x8_1) = false := decide_eq_false c20
            clear c20
            (first | rw [c20b0] | (simp only [i64_w, i32_w]; rw [c20b0]) | skip)
            by_cases c47 : x8_1 < 64
            · rw [if_pos c47] at H
              have c47b0 : decide (x8_1 < 64) = true := decide_eq_true c47
              clear c47
              obtain ⟨ji48, hji48⟩ : ∃ j_ : Int, (IntKind.u64.wrap (x8_1)) = j_ := ⟨_, rfl⟩
              replace H : (if 0 ≤ (ji48) then (timeboundref31_divide.j1 k1 x8_1 ((Go.bits .and .u64 (shr .u64 a0_1 (ji48)) 1) == 1) a0_0 a0_1 a1_0 a1_1 x218000_1 x218001_1 t219 t220) else (none)) = some (r1, r2, r3, r4) := by first | (rw [hji48] at H; exact H) | (simp only [hji48] at H ⊢; exact H)
              by_cases c49 : 0 ≤ (ji48)
              · rw [if_pos c49] at H
                have c49b0 := eq_true c49
                have c49b1 : decide (0 ≤ (ji48)) = true := decide_eq_true c49
                clear c49
                obtain ⟨ji50, hji50⟩ : ∃ j_ : Int, (shr .u64 a0_1 (ji48)) = j_ := ⟨_, rfl⟩
                replace H : (timeboundref31_divide.j1 k1 x8_1 ((Go.bits .and .u64 (ji50) 1) == 1) a0_0 a0_1 a1_0 a1_1 x218000_1 x218001_1 t219 t220) = some (r1, r2, r3, r4) := by first | (rw [hji50] at H; exact H) | (simp only [hji50] at H ⊢; exact H)
                have hji50_ : (a0_1 / 2 ^ min (ji48).toNat 64) = ji50 := hji50
                have hji50z : (ji48) ≤ 64 → (a0_1 / 2 ^ (ji48).toNat) = ji50 := shr_small hji50
                have H' := Aside0.mk H
                clear H
                have hnb51 := NB213_214.out
                have hnc51 := NB214_213.out
                have hnb52 := NB213_215.out
                have hnc52 := NB215_213.out
                have hnb53 := NB213_216.out
                have hnc53 := NB216_213.out
                have hnb54 := NB213_217.out
                have hnc54 := NB217_213.out
                have hnb55 := NB213_218.out
                have hnc55 := NB218_213.out
                have hcz56_0 : w18.cell? ⟨gb213, 0, none⟩ = some (.int .u64 a0_0) := (blk_cell BK213.out 0).trans rfl
                have hcz56_1 : w18.cell? ⟨gb213, 1, none⟩ = some (.int .u64 a0_1) := (blk_cell BK213.out 1).trans rfl
                have hfz56_0 := blk_frozen BK213.out 0
                have hfz56_1 := blk_frozen BK213.out 1
                go_wp2
                go_meet
                case rel => exact ⟨_, (((Go.bits .and .u64 (ji50) 1) == 1)), (by first | rfl | (simp; done) | (simp only [← hji50] <;> (first | rfl | simp)) | (simp [*]; done)), H', ⟨by have := HK1.out; first | omega | exact Nat.le_refl _⟩, ⟨by (with_reducible repeat (first | refine blk_drewN ?_ _ | refine blk_drew ?_ | refine blk_alloc ?_ _)); refine blk_far ?_ NB213_218.out _; (with_reducible repeat (first | refine blk_drewN ?_ _ | refine blk_drew ?_ | refine blk_alloc ?_ _)); refine blk_far ?_ NB213_218.out _; (with_reducible repeat (first | refine blk_drewN ?_ _ | refine blk_drew ?_ | refine blk_alloc ?_ _)); exact BK213.out⟩, ⟨by (with_reducible repeat (first | refine blk_drewN ?_ _ | refine blk_drew ?_ | refine blk_alloc ?_ _)); refine blk_far ?_ NB214_218.out _; (with_reducible repeat (first | refine blk_drewN ?_ _ | refine blk_drew ?_ | refine blk_alloc ?_ _)); refine blk_far ?_ NB214_218.out _; (with_reducible repeat (first | refine blk_drewN ?_ _ | refine blk_drew ?_ | refine blk_alloc ?_ _)); exact BK214.out⟩, ⟨by (with_reducible repeat (first | refine blk_drewN ?_ _ | refine blk_drew ?_ | refine blk_alloc ?_ _)); refine blk_far ?_ NB215_218.out _; (with_reducible repeat (first | refine blk_drewN ?_ _ | refine blk_drew ?_ | refine blk_alloc ?_ _)); refine blk_far ?_ NB215_218.out _; (with_reducible repeat (first | refine blk_drewN ?_ _ | refine blk_drew ?_ | refine blk_alloc ?_ _)); exact BK215.out⟩, ⟨by (with_reducible repeat (first | refine blk_drewN ?_ _ | refine blk_drew ?_ | refine blk_alloc ?_ _)); refine blk_far ?_ NB216_218.out _; (with_reducible repeat (first | refine blk_drewN ?_ _ | refine blk_drew ?_ | refine blk_alloc ?_ _)); refine blk_far ?_ NB216_218.out _; (with_reducible repeat (first | refine blk_drewN ?_ _ | refine blk_drew ?_ | refine blk_alloc ?_ _)); exact BK216.out⟩, ⟨by (with_reducible repeat (first | refine blk_drewN ?_ _ | refine blk_drew ?_ | refine blk_alloc ?_ _)); refine blk_far ?_ NB217_218.out _; (with_reducible repeat (first | refine blk_drewN ?_ _ | refine blk_drew ?_ | refine blk_alloc ?_ _)); refine blk_far ?_ NB217_218.out _; (with_reducible repeat (first | refine blk_drewN ?_ _ | refine blk_drew ?_ | refine blk_alloc ?_ _)); exact BK217.out⟩, ⟨by (with_reducible repeat (first | refine blk_drewN ?_ _ | refine blk_drew ?_ | refine blk_alloc ?_ _)); refine blk_put (cs := #[.int .u64 t219, .int .u64 x219001_1]) ?_ 1 _ rfl; (with_reducible repeat (first | refine blk_drewN ?_ _ | refine blk_drew ?_ | refine blk_alloc ?_ _)); refine blk_put (cs := #[.int .u64 x219000_1, .int .u64 x219001_1]) ?_ 0 _ rfl; (with_reducible repeat (first | refine blk_drewN ?_ _ | refine blk_drew ?_ | refine blk_alloc ?_ _)); exact BK218.out⟩, ⟨by repeat (first | (with_reducible first | exact HB.out | apply below_alloc | apply pw_below_drewN | apply below_drew1 | refine below_set ?_ GE213.out | refine below_set ?_ GE214.out | refine below_set ?_ GE215.out | refine below_set ?_ GE216.out | refine below_set ?_ GE217.out | refine below_set ?_ GE218.out) | exact HB.out)⟩⟩
              · rw [if_neg c49] at H
                exact absurd H (by simp)
            · rw [if_neg c47] at H
              have c47b0 : decide (x8_1 < 64) = false := decide_eq_false c47
              clear c47
              have H' := Aside0.mk H
              clear H
              go_wp2
              go_meet
              case rel => exact ⟨_, (false), (by first | rfl | (simp; done) | (simp [*]; done)), H', ⟨by have := HK1.out; first | omega | exact Nat.le_refl _⟩, ⟨by (with_reducible repeat (first | refine blk_drewN ?_ _ | refine blk_drew ?_ | refine blk_alloc ?_ _)); refine blk_far ?_ NB213_218.out _; (with_reducible repeat (first | refine blk_drewN ?_ _ | refine blk_drew ?_ | refine blk_alloc ?_ _)); refine blk_far ?_ NB213_218.out _; (with_reducible repeat (first | refine blk_drewN ?_ _ | refine blk_drew ?_ | refine blk_alloc ?_ _)); exact BK213.out⟩, ⟨by (with_reducible repeat (first | refine blk_drewN ?_ _ | refine blk_drew ?_ | refine blk_alloc ?_ _)); refine blk_far ?_ NB214_218.out _; (with_reducible repeat (first | refine blk_drewN ?_ _ | refine blk_drew ?_ | refine blk_alloc ?_ _)); refine blk_far ?_ NB214_218.out _; (with_reducible repeat (first | refine blk_drewN ?_ _ | refine blk_drew ?_ | refine blk_alloc ?_ _)); exact BK214.out⟩, ⟨by (with_reducible repeat (first | refine blk_drewN ?_ _ | refine blk_drew ?_ | refine blk_alloc ?_ _)); refine blk_far ?_ NB215_218.out _; (with_reducible repeat (first | refine blk_drewN ?_ _ | refine blk_drew ?_ | refine blk_alloc ?_ _)); refine blk_far ?_ NB215_218.out _; (with_reducible repeat (first | refine blk_drewN ?_ _ | refine blk_drew ?_ | refine blk_alloc ?_ _)); exact BK215.out⟩, ⟨by (with_reducible repeat (first | refine blk_drewN ?_ _ | refine blk_drew ?_ | refine blk_alloc ?_ _)); refine blk_far ?_ NB216_218.out _; (with_reducible repeat (first | refine blk_drewN ?_ _ | refine blk_drew ?_ | refine blk_alloc ?_ _)); refine blk_far ?_ NB216_218.out _; (with_reducible repeat (first | refine blk_drewN ?_ _ | refine blk_drew ?_ | refine blk_alloc ?_ _)); exact BK216.out⟩, ⟨by (with_reducible repeat (first | refine blk_drewN ?_ _ | refine blk_drew ?_ | refine blk_alloc ?_ _)); refine blk_far ?_ NB217_218.out _; (with_reducible repeat (first | refine blk_drewN ?_ _ | refine blk_drew ?_ | refine blk_alloc ?_ _)); refine blk_far ?_ NB217_218.out _; (with_reducible repeat (first | refine blk_drewN ?_ _ | refine blk_drew ?_ | refine blk_alloc ?_ _)); exact BK217.out⟩, ⟨by (with_reducible repeat (first | refine blk_drewN ?_ _ | refine blk_drew ?_ | refine blk_alloc ?_ _)); refine blk_put (cs := #[.int .u64 t219, .int .u64 x219001_1]) ?_ 1 _ rfl; (with_reducible repeat (first | refine blk_drewN ?_ _ | refine blk_drew ?_ | refine blk_alloc ?_ _)); refine blk_put (cs := #[.int .u64 x219000_1, .int .u64 x219001_1]) ?_ 0 _ rfl; (with_reducible repeat (first | refine blk_drewN ?_ _ | refine blk_drew ?_ | refine blk_alloc ?_ _)); exact BK218.out⟩, ⟨by repeat (first | (with_reducible first | exact HB.out | apply below_alloc | apply pw_below_drewN | apply below_drew1 | refine below_set ?_ GE213.out | refine below_set ?_ GE214.out | refine below_set ?_ GE215.out | refine below_set ?_ GE216.out | refine below_set ?_ GE217.out | refine below_set ?_ GE218.out) | exact HB.out)⟩⟩
        case rest =>
          clear HC11
          try clear c1
          try clear c2
          try clear p2
          try clear c3
          try clear c4
          try clear c5
          try clear p6
          try clear c9
          try clear c9b0
          try clear c10
          try clear c12
          try clear c13
          try clear c14
          try clear c15
          try clear c16
          try clear c20
          try clear c20b0
          try clear c22
          try clear c22b0
          try clear c22b1
          try clear c24
          try clear c24b0
          try clear c24b1
          try clear c25
          try clear c26
          try clear c27
          try clear c28
          try clear c29
          try clear c31
          try clear c31b0
          try clear c33
          try clear c33b0
          try clear c33b1
          try clear c35
          try clear c36
          try clear c37
          try clear c38
          try clear c39
          try clear c41
          try clear c42
          try clear c43
          try clear c44
          try clear c45
          try clear c47
          try clear c47b0
          try clear c49
          try clear c49b0
          try clear c49b1
          try clear c51
          try clear c52
          try clear c53
          try clear c54
          try clear c55
          try clear hcz17_0
          try clear hcz17_1
          try clear hcz19_0
          try clear hcz19_1
          try clear hcz30_0
          try clear hcz30_1
          try clear hcz40_0
          try clear hcz40_1
          try clear hcz46_0
          try clear hcz46_1
          try clear hcz56_0
          try clear hcz56_1
          try clear hfz17_0
          try clear hfz17_1
          try clear hfz19_0
          try clear hfz19_1
          try clear hfz30_0
          try clear hfz30_1
          try clear hfz40_0
          try clear hfz40_1
          try clear hfz46_0
          try clear hfz46_1
          try clear hfz56_0
          try clear hfz56_1
          try clear p2
          obtain ⟨kq, x39_10, rfl, HA, HJ10, BK213, BK214, BK215, BK216, BK217, BK218, HB⟩ := hcut
          cases kq with
          | zero => exact absurd HA.out (by simp [timeboundref31_divide.j1])
          | succ kj10 =>
            have H := HA.out
            clear HA
            simp only [timeboundref31_divide.j1] at H
            have HC57 := Aside0.mk H
            clear H
            go_upto_if 39 with (fail)
            go_cut [] (fun wc => ∃ (kq : Nat) (x219001_56 : Int), Aside0 (timeboundref31_divide.j2 kq x8_1 a0_0 a0_1 a1_0 a1_1 x218000_1 x218001_1 t219 x219001_56 = some (r1, r2, r3, r4)) ∧ Aside0 (kq ≤ kj10) ∧ Aside0 (wc.heap[gb213]? = some (.cells #[.int .u64 a0_0, .int .u64 a0_1] 75 (0, 0))) ∧ Aside0 (wc.heap[gb214]? = some (.cells #[.int .u64 a1_0, .int .u64 a1_1] 75 (0, 0))) ∧ Aside0 (wc.heap[gb215]? = some (.cells #[.int .u64 0, .int .u64 0] 75 (0, 0))) ∧ Aside0 (wc.heap[gb216]? = some (.cells #[.int .u64 0, .int .u64 0] 75 (0, 0))) ∧ Aside0 (wc.heap[gb217]? = some (.cells #[.int .u64 x218000_1, .int .u64 x218001_1] 75 (0, 0))) ∧ Aside0 (wc.heap[gb218]? = some (.cells #[.int .u64 t219, .int .u64 x219001_56] 75 (0, 0))) ∧ Aside0 (Below w.heap.size w wc))
            case first =>
              have H := HC57.out
              clear HC57
              by_cases c58 : x39_10 = true
              · subst c58
                have H1 : (timeboundref31_divide.j2 kj10 x8_1 a0_0 a0_1 a1_0 a1_1 x218000_1 x218001_1 t219 (Go.bits .or .u64 t220 1)) = some (r1, r2, r3, r4) := by rw [if_pos rfl] at H; exact H
                clear H
                have H := H1
                clear H1
                have H' := Aside0.mk H
                clear H
                have hnb59 := NB218_213.out
                have hnc59 := NB213_218.out
                have hnb60 := NB218_214.out
                have hnc60 := NB214_218.out
                have hnb61 := NB218_215.out
                have hnc61 := NB215_218.out
                have hnb62 := NB218_216.out
                have hnc62 := NB216_218.out
                have hnb63 := NB218_217.out
                have hnc63 := NB217_218.out
                have hcz64_0 : wc.cell? ⟨gb218, 0, none⟩ = some (.int .u64 t219) := (blk_cell BK218.out 0).trans rfl
                have hcz64_1 : wc.cell? ⟨gb218, 1, none⟩ = some (.int .u64 t220) := (blk_cell BK218.out 1).trans rfl
                have hfz64_0 := blk_frozen BK218.out 0
                have hfz64_1 := blk_frozen BK218.out 1
                go_wp2
                go_meet
                case rel => exact ⟨_, (Go.bits .or .u64 t220 1), H', ⟨by have := HK1.out; have := HJ10.out; first | omega | exact Nat.le_refl _⟩, ⟨by (with_reducible repeat (first | refine blk_drewN ?_ _ | refine blk_drew ?_ | refine blk_alloc ?_ _)); refine blk_far ?_ NB213_218.out _; (with_reducible repeat (first | refine blk_drewN ?_ _ | refine blk_drew ?_ | refine blk_alloc ?_ _)); exact BK213.out⟩, ⟨by (with_reducible repeat (first | refine blk_drewN ?_ _ | refine blk_drew ?_ | refine blk_alloc ?_ _)); refine blk_far ?_ NB214_218.out _; (with_reducible repeat (first | refine blk_drewN ?_ _ | refine blk_drew ?_ | refine blk_alloc ?_ _)); exact BK214.out⟩, ⟨by (with_reducible repeat (first | refine blk_drewN ?_ _ | refine blk_drew ?_ | refine blk_alloc ?_ _)); refine blk_far ?_ NB215_218.out _; (with_reducible repeat (first | refine blk_drewN ?_ _ | refine blk_drew ?_ | refine blk_alloc ?_ _)); exact BK215.out⟩, ⟨by (with_reducible repeat (first | refine blk_drewN ?_ _ | refine blk_drew ?_ | refine blk_alloc ?_ _)); refine blk_far ?_ NB216_218.out _; (with_reducible repeat (first | refine blk_drewN ?_ _ | refine blk_drew ?_ | refine blk_alloc ?_ _)); exact BK216.out⟩, ⟨by (with_reducible repeat (first | refine blk_drewN ?_ _ | refine blk_drew ?_ | refine blk_alloc ?_ _)); refine blk_far ?_ NB217_218.out _; (with_reducible repeat (first | refine blk_drewN ?_ _ | refine blk_drew ?_ | refine blk_alloc ?_ _)); exact BK217.out⟩, ⟨by (with_reducible repeat (first | refine blk_drewN ?_ _ | refine blk_drew ?_ | refine blk_alloc ?_ _)); refine blk_put (cs := #[.int .u64 t219, .int .u64 t220]) ?_ 1 _ rfl; (with_reducible repeat (first | refine blk_drewN ?_ _ | refine blk_drew ?_ | refine blk_alloc ?_ _)); exact BK218.out⟩, ⟨by repeat (first | (with_reducible first | exact HB.out | apply below_alloc | apply pw_below_drewN | apply below_drew1 | refine below_set ?_ GE213.out | refine below_set ?_ GE214.out | refine below_set ?_ GE215.out | refine below_set ?_ GE216.out | refine below_set ?_ GE217.out | refine below_set ?_ GE218.out) | exact HB.out)⟩⟩
              · replace c58 := Bool.eq_false_iff.mpr c58
                subst c58
                have H1 : (timeboundref31_divide.j2 kj10 x8_1 a0_0 a0_1 a1_0 a1_1 x218000_1 x218001_1 t219 t220) = some (r1, r2, r3, r4) := by rw [if_neg (show ¬ (false = true) by decide)] at H; exact H
                clear H
                have H := H1
                clear H1
                have H' := Aside0.mk H
                clear H
                go_wp2
                go_meet
                case rel => exact ⟨_, (t220), H', ⟨by have := HK1.out; have := HJ10.out; first | omega | exact Nat.le_refl _⟩, ⟨by (with_reducible repeat (first | refine blk_drewN ?_ _ | refine blk_drew ?_ | refine blk_alloc ?_ _)); exact BK213.out⟩, ⟨by (with_reducible repeat (first | refine blk_drewN ?_ _ | refine blk_drew ?_ | refine blk_alloc ?_ _)); exact BK214.out⟩, ⟨by (with_reducible repeat (first | refine blk_drewN ?_ _ | refine blk_drew ?_ | refine blk_alloc ?_ _)); exact BK215.out⟩, ⟨by (with_reducible repeat (first | refine blk_drewN ?_ _ | refine blk_drew ?_ | refine blk_alloc ?_ _)); exact BK216.out⟩, ⟨by (with_reducible repeat (first | refine blk_drewN ?_ _ | refine blk_drew ?_ | refine blk_alloc ?_ _)); exact BK217.out⟩, ⟨by (with_reducible repeat (first | refine blk_drewN ?_ _ | refine blk_drew ?_ | refine blk_alloc ?_ _)); exact BK218.out⟩, ⟨by repeat (first | (with_reducible first | exact HB.out | apply below_alloc | apply pw_below_drewN | apply below_drew1 | refine below_set ?_ GE213.out | refine below_set ?_ GE214.out | refine below_set ?_ GE215.out | refine below_set ?_ GE216.out | refine below_set ?_ GE217.out | refine below_set ?_ GE218.out) | exact HB.out)⟩⟩
            case rest =>
              clear HC57
              try clear c1
              try clear c2
              try clear p2
              try clear c3
              try clear c4
              try clear c5
              try clear c6
              try clear p6
              try clear c9
              try clear c9b0
              try clear c10
              try clear c12
              try clear c13
              try clear c14
              try clear c15
              try clear c16
              try clear c20
              try clear c20b0
              try clear c22
              try clear c22b0
              try clear c22b1
              try clear c24
              try clear c24b0
              try clear c24b1
              try clear c25
              try clear c26
              try clear c27
              try clear c28
              try clear c29
              try clear c31
              try clear c31b0
              try clear c33
              try clear c33b0
              try clear c33b1
              try clear c35
              try clear c36
              try clear c37
              try clear c38
              try clear c39
              try clear c41
              try clear c42
              try clear c43
              try clear c44
              try clear c45
              try clear c47
              try clear c47b0
              try clear c49
              try clear c49b0
              try clear c49b1
              try clear c51
              try clear c52
              try clear c53
              try clear c54
              try clear c55
              try clear c58
              try clear c59
              try clear c60
              try clear c61
              try clear c62
              try clear c63
              try clear p64
              try clear hcz17_0
              try clear hcz17_1
              try clear hcz19_0
              try clear hcz19_1
              try clear hcz30_0
              try clear hcz30_1
              try clear hcz40_0
              try clear hcz40_1
              try clear hcz46_0
              try clear hcz46_1
              try clear hcz56_0
              try clear hcz56_1
              try clear hcz64_0
              try clear hcz64_1
              try clear hfz17_0
              try clear hfz17_1
              try clear hfz19_0
              try clear hfz19_1
              try clear hfz30_0
              try clear hfz30_1
              try clear hfz40_0
              try clear hfz40_1
              try clear hfz46_0
              try clear hfz46_1
              try clear hfz56_0
              try clear hfz56_1
              try clear hfz64_0
              try clear hfz64_1
              try clear p2
              try clear p6
              obtain ⟨kq, x219001_56, HA, HJ56, BK213, BK214, BK215, BK216, BK217, BK218, HB⟩ := hcut
              cases kq with
              | zero => exact absurd HA.out (by simp [timeboundref31_divide.j2])
              | succ kj56 =>
                have H := HA.out
                clear HA
                simp only [timeboundref31_divide.j2] at H
                replace H := Option.bind_eq_some_iff.mp H
                obtain ⟨⟨t221, t222⟩, A650, H⟩ := H
                replace H : ((timeboundref31_less.f t219 x219001_56 a1_0 a1_1).bind fun t223 => (if t223 = true then (timeboundref31_divide.l0 kj56 (wrap64 (x8_1 - 1)) a0_0 a0_1 a1_0 a1_1 t221 t222 t219 x219001_56) else ((timeboundref31_sub.f t219 x219001_56 a1_0 a1_1).bind fun bt224 => (timeboundref31_divide.l0 kj56 (wrap64 (x8_1 - 1)) a0_0 a0_1 a1_0 a1_1 t221 (Go.bits .or .u64 t222 1) bt224.1 bt224.2)))) = some (r1, r2, r3, r4) := H
                have A65 := Aside0.mk A650
                clear A650
                replace H := Option.bind_eq_some_iff.mp H
                obtain ⟨t223, A660, H⟩ := H
                replace H : (if t223 = true then (timeboundref31_divide.l0 kj56 (wrap64 (x8_1 - 1)) a0_0 a0_1 a1_0 a1_1 t221 t222 t219 x219001_56) else ((timeboundref31_sub.f t219 x219001_56 a1_0 a1_1).bind fun bt224 => (timeboundref31_divide.l0 kj56 (wrap64 (x8_1 - 1)) a0_0 a0_1 a1_0 a1_1 t221 (Go.bits .or .u64 t222 1) bt224.1 bt224.2))) = some (r1, r2, r3, r4) := H
                have A66 := Aside0.mk A660
                clear A660
                by_cases c67 : t223 = true
                · subst c67
                  have H1 : (timeboundref31_divide.l0 kj56 (wrap64 (x8_1 - 1)) a0_0 a0_1 a1_0 a1_1 t221 t222 t219 x219001_56) = some (r1, r2, r3, r4) := by rw [if_pos rfl] at H; exact H
                  clear H
                  have H := H1
                  clear H1
                  have H' := Aside0.mk H
                  clear H
                  have hnb68 := NB217_213.out
                  have hnc68 := NB213_217.out
                  have hnb69 := NB217_214.out
                  have hnc69 := NB214_217.out
                  have hnb70 := NB217_215.out
                  have hnc70 := NB215_217.out
                  have hnb71 := NB217_216.out
                  have hnc71 := NB216_217.out
                  have hnb72 := NB217_218.out
                  have hnc72 := NB218_217.out
                  have hcz73_0 : wc.cell? ⟨gb217, 0, none⟩ = some (.int .u64 x218000_1) := (blk_cell BK217.out 0).trans rfl
                  have hcz73_1 : wc.cell? ⟨gb217, 1, none⟩ = some (.int .u64 x218001_1) := (blk_cell BK217.out 1).trans rfl
                  have hfz73_0 := blk_frozen BK217.out 0
                  have hfz73_1 := blk_frozen BK217.out 1
                  go_wp2_with (first | ((with_reducible refine gate_callee (f := 122) rfl ?_); refine goesL_ (some 45) rfl rfl Try.func122 (by kernel_rfl) rfl #[.agg #[.int .u64 x218000_1, .int .u64 x218001_1]] rfl (by (try simp only [List.map_toArray, List.map_cons, List.map_nil]); first | done | rfl | (simp only [List.length_drop, List.length_take]; rfl)) ?_; (with_reducible refine (timeboundref31_double.calls x218000_1 x218001_1 t221 t222 _ A65.out).mono ?_); rintro e w74 ⟨rfl, hb⟩; refine ⟨_, rfl, ?_⟩; replace BK213 := bkb BK213 hb; replace BK214 := bkb BK214 hb; replace BK215 := bkb BK215 hb; replace BK216 := bkb BK216 hb; replace BK217 := bkb BK217 hb; replace BK218 := bkb BK218 hb; replace HB := blw HB hb; (try clear hb); (try clear hb2); (try clear hk); (try clear hi); have hcz75_0 : w74.cell? ⟨gb217, 0, none⟩ = some (.int .u64 x218000_1) := (blk_cell BK217.out 0).trans rfl; have hcz75_1 : w74.cell? ⟨gb217, 1, none⟩ = some (.int .u64 x218001_1) := (blk_cell BK217.out 1).trans rfl; have hfz75_0 := blk_frozen BK217.out 0; have hfz75_1 := blk_frozen BK217.out 1; have hnb76 := NB218_213.out; have hnc76 := NB213_218.out; have hnb77 := NB218_214.out; have hnc77 := NB214_218.out; have hnb78 := NB218_215.out; have hnc78 := NB215_218.out; have hnb79 := NB218_216.out; have hnc79 := NB216_218.out; have hcz80_0 : w74.cell? ⟨gb218, 0, none⟩ = some (.int .u64 t219) := (blk_cell BK218.out 0).trans rfl; have hcz80_1 : w74.cell? ⟨gb218, 1, none⟩ = some (.int .u64 x219001_56) := (blk_cell BK218.out 1).trans rfl; have hfz80_0 := blk_frozen BK218.out 0; have hfz80_1 := blk_frozen BK218.out 1; have hnb81 := NB214_213.out; have hnc81 := NB213_214.out; have hnb82 := NB214_215.out; have hnc82 := NB215_214.out; have hnb83 := NB214_216.out; have hnc83 := NB216_214.out; have hcz84_0 : w74.cell? ⟨gb214, 0, none⟩ = some (.int .u64 a1_0) := (blk_cell BK214.out 0).trans rfl; have hcz84_1 : w74.cell? ⟨gb214, 1, none⟩ = some (.int .u64 a1_1) := (blk_cell BK214.out 1).trans rfl; have hfz84_0 := blk_frozen BK214.out 0; have hfz84_1 := blk_frozen BK214.out 1) | ((with_reducible refine gate_callee (f := 71) rfl ?_); refine goesL_ (some 48) rfl rfl Try.func71 (by kernel_rfl) rfl #[.agg #[.int .u64 t219, .int .u64 x219001_56], .agg #[.int .u64 a1_0, .int .u64 a1_1]] rfl (by (try simp only [List.map_toArray, List.map_cons, List.map_nil]); first | done | rfl | (simp only [List.length_drop, List.length_take]; rfl)) ?_; (with_reducible refine (timeboundref31_less.calls t219 x219001_56 a1_0 a1_1 true _ A66.out).mono ?_); rintro e w85 ⟨rfl, hb⟩; refine ⟨_, rfl, ?_⟩; replace BK213 := Aside0.mk (blk_below (g := gb213) (o := .cells #[.int .u64 a0_0, .int .u64 a0_1] 75 (0, 0)) (by (with_reducible repeat (first | refine blk_drewN ?_ _ | refine blk_drew ?_ | refine blk_alloc ?_ _)); refine blk_far ?_ NB213_217.out _; (with_reducible repeat (first | refine blk_drewN ?_ _ | refine blk_drew ?_ | refine blk_alloc ?_ _)); refine blk_far ?_ NB213_217.out _; (with_reducible repeat (first | refine blk_drewN ?_ _ | refine blk_drew ?_ | refine blk_alloc ?_ _)); exact BK213.out) hb); replace BK214 := Aside0.mk (blk_below (g := gb214) (o := .cells #[.int .u64 a1_0, .int .u64 a1_1] 75 (0, 0)) (by (with_reducible repeat (first | refine blk_drewN ?_ _ | refine blk_drew ?_ | refine blk_alloc ?_ _)); refine blk_far ?_ NB214_217.out _; (with_reducible repeat (first | refine blk_drewN ?_ _ | refine blk_drew ?_ | refine blk_alloc ?_ _)); refine blk_far ?_ NB214_217.out _; (with_reducible repeat (first | refine blk_drewN ?_ _ | refine blk_drew ?_ | refine blk_alloc ?_ _)); exact BK214.out) hb); replace BK215 := Aside0.mk (blk_below (g := gb215) (o := .cells #[.int .u64 0, .int .u64 0] 75 (0, 0)) (by (with_reducible repeat (first | refine blk_drewN ?_ _ | refine blk_drew ?_ | refine blk_alloc ?_ _)); refine blk_far ?_ NB215_217.out _; (with_reducible repeat (first | refine blk_drewN ?_ _ | refine blk_drew ?_ | refine blk_alloc ?_ _)); refine blk_far ?_ NB215_217.out _; (with_reducible repeat (first | refine blk_drewN ?_ _ | refine blk_drew ?_ | refine blk_alloc ?_ _)); exact BK215.out) hb); replace BK216 := Aside0.mk (blk_below (g := gb216) (o := .cells #[.int .u64 0, .int .u64 0] 75 (0, 0)) (by (with_reducible repeat (first | refine blk_drewN ?_ _ | refine blk_drew ?_ | refine blk_alloc ?_ _)); refine blk_far ?_ NB216_217.out _; (with_reducible repeat (first | refine blk_drewN ?_ _ | refine blk_drew ?_ | refine blk_alloc ?_ _)); refine blk_far ?_ NB216_217.out _; (with_reducible repeat (first | refine blk_drewN ?_ _ | refine blk_drew ?_ | refine blk_alloc ?_ _)); exact BK216.out) hb); replace BK217 := Aside0.mk (blk_below (g := gb217) (o := .cells #[.int .u64 t221, .int .u64 t222] 75 (0, 0)) (by (with_reducible repeat (first | refine blk_drewN ?_ _ | refine blk_drew ?_ | refine blk_alloc ?_ _)); refine blk_put (cs := #[.int .u64 t221, .int .u64 x218001_1]) ?_ 1 _ rfl; (with_reducible repeat (first | refine blk_drewN ?_ _ | refine blk_drew ?_ | refine blk_alloc ?_ _)); refine blk_put (cs := #[.int .u64 x218000_1, .int .u64 x218001_1]) ?_ 0 _ rfl; (with_reducible repeat (first | refine blk_drewN ?_ _ | refine blk_drew ?_ | refine blk_alloc ?_ _)); exact BK217.out) hb); replace BK218 := Aside0.mk (blk_below (g := gb218) (o := .cells #[.int .u64 t219, .int .u64 x219001_56] 75 (0, 0)) (by (with_reducible repeat (first | refine blk_drewN ?_ _ | refine blk_drew ?_ | refine blk_alloc ?_ _)); refine blk_far ?_ NB218_217.out _; (with_reducible repeat (first | refine blk_drewN ?_ _ | refine blk_drew ?_ | refine blk_alloc ?_ _)); refine blk_far ?_ NB218_217.out _; (with_reducible repeat (first | refine blk_drewN ?_ _ | refine blk_drew ?_ | refine blk_alloc ?_ _)); exact BK218.out) hb); replace HB := Aside0.mk (below_step (by repeat (first | (with_reducible first | exact HB.out | apply below_alloc | apply pw_below_drewN | apply below_drew1 | refine below_set ?_ GE213.out | refine below_set ?_ GE214.out | refine below_set ?_ GE215.out | refine below_set ?_ GE216.out | refine below_set ?_ GE217.out | refine below_set ?_ GE218.out) | exact HB.out)) hb); (try clear hb); (try clear hb2); (try clear hk); (try clear hi)))
                  go_roundg kj56
                  case measure => have := HK1.out; have := HJ10.out; have := HJ56.out; omega
                  case rel => exact ⟨(wrap64 (x8_1 - 1)), (t221), (t222), (t219), (x219001_56), (by first | rfl | (simp; done) | (simp [*]; done)), H', ⟨by have := HK1.out; have := HJ10.out; have := HJ56.out; omega⟩, ⟨by (with_reducible repeat (first | refine blk_drewN ?_ _ | refine blk_drew ?_ | refine blk_alloc ?_ _)); exact BK213.out⟩, ⟨by (with_reducible repeat (first | refine blk_drewN ?_ _ | refine blk_drew ?_ | refine blk_alloc ?_ _)); exact BK214.out⟩, ⟨by (with_reducible repeat (first | refine blk_drewN ?_ _ | refine blk_drew ?_ | refine blk_alloc ?_ _)); exact BK215.out⟩, ⟨by (with_reducible repeat (first | refine blk_drewN ?_ _ | refine blk_drew ?_ | refine blk_alloc ?_ _)); exact BK216.out⟩, ⟨by (with_reducible repeat (first | refine blk_drewN ?_ _ | refine blk_drew ?_ | refine blk_alloc ?_ _)); exact BK217.out⟩, ⟨by (with_reducible repeat (first | refine blk_drewN ?_ _ | refine blk_drew ?_ | refine blk_alloc ?_ _)); exact BK218.out⟩, ⟨by repeat (first | (with_reducible first | exact HB.out | apply below_alloc | apply pw_below_drewN | apply below_drew1 | refine below_set ?_ GE213.out | refine below_set ?_ GE214.out | refine below_set ?_ GE215.out | refine below_set ?_ GE216.out | refine below_set ?_ GE217.out | refine below_set ?_ GE218.out) | exact HB.out)⟩⟩
                · replace c67 := Bool.eq_false_iff.mpr c67
                  subst c67
                  have H1 : ((timeboundref31_sub.f t219 x219001_56 a1_0 a1_1).bind fun bt224 => (timeboundref31_divide.l0 kj56 (wrap64 (x8_1 - 1)) a0_0 a0_1 a1_0 a1_1 t221 (Go.bits .or .u64 t222 1) bt224.1 bt224.2)) = some (r1, r2, r3, r4) := by rw [if_neg (show ¬ (false = true) by decide)] at H; exact H
                  clear H
                  have H := H1
                  clear H1
                  replace H := Option.bind_eq_some_iff.mp H
                  obtain ⟨⟨t224, t225⟩, A860, H⟩ := H
                  replace H : (timeboundref31_divide.l0 kj56 (wrap64 (x8_1 - 1)) a0_0 a0_1 a1_0 a1_1 t221 (Go.bits .or .u64 t222 1) t224 t225) = some (r1, r2, r3, r4) := H
                  have A86 := Aside0.mk A860
                  clear A860
                  have H' := Aside0.mk H
                  clear H
                  have hnb87 := NB217_213.out
                  have hnc87 := NB213_217.out
                  have hnb88 := NB217_214.out
                  have hnc88 := NB214_217.out
                  have hnb89 := NB217_215.out
                  have hnc89 := NB215_217.out
                  have hnb90 := NB217_216.out
                  have hnc90 := NB216_217.out
                  have hnb91 := NB217_218.out
                  have hnc91 := NB218_217.out
                  have hcz92_0 : wc.cell? ⟨gb217, 0, none⟩ = some (.int .u64 x218000_1) := (blk_cell BK217.out 0).trans rfl
                  have hcz92_1 : wc.cell? ⟨gb217, 1, none⟩ = some (.int .u64 x218001_1) := (blk_cell BK217.out 1).trans rfl
                  have hfz92_0 := blk_frozen BK217.out 0
                  have hfz92_1 := blk_frozen BK217.out 1
                  go_wp2_with (first | ((with_reducible refine gate_callee (f := 122) rfl ?_); refine goesL_ (some 45) rfl rfl Try.func122 (by kernel_rfl) rfl #[.agg #[.int .u64 x218000_1, .int .u64 x218001_1]] rfl (by (try simp only [List.map_toArray, List.map_cons, List.map_nil]); first | done | rfl | (simp only [List.length_drop, List.length_take]; rfl)) ?_; (with_reducible refine (timeboundref31_double.calls x218000_1 x218001_1 t221 t222 _ A65.out).mono ?_); rintro e w93 ⟨rfl, hb⟩; refine ⟨_, rfl, ?_⟩; replace BK213 := bkb BK213 hb; replace BK214 := bkb BK214 hb; replace BK215 := bkb BK215 hb; replace BK216 := bkb BK216 hb; replace BK217 := bkb BK217 hb; replace BK218 := bkb BK218 hb; replace HB := blw HB hb; (try clear hb); (try clear hb2); (try clear hk); (try clear hi); have hcz94_0 : w93.cell? ⟨gb217, 0, none⟩ = some (.int .u64 x218000_1) := (blk_cell BK217.out 0).trans rfl; have hcz94_1 : w93.cell? ⟨gb217, 1, none⟩ = some (.int .u64 x218001_1) := (blk_cell BK217.out 1).trans rfl; have hfz94_0 := blk_frozen BK217.out 0; have hfz94_1 := blk_frozen BK217.out 1; have hnb95 := NB218_213.out; have hnc95 := NB213_218.out; have hnb96 := NB218_214.out; have hnc96 := NB214_218.out; have hnb97 := NB218_215.out; have hnc97 := NB215_218.out; have hnb98 := NB218_216.out; have hnc98 := NB216_218.out; have hcz99_0 : w93.cell? ⟨gb218, 0, none⟩ = some (.int .u64 t219) := (blk_cell BK218.out 0).trans rfl; have hcz99_1 : w93.cell? ⟨gb218, 1, none⟩ = some (.int .u64 x219001_56) := (blk_cell BK218.out 1).trans rfl; have hfz99_0 := blk_frozen BK218.out 0; have hfz99_1 := blk_frozen BK218.out 1; have hnb100 := NB214_213.out; have hnc100 := NB213_214.out; have hnb101 := NB214_215.out; have hnc101 := NB215_214.out; have hnb102 := NB214_216.out; have hnc102 := NB216_214.out; have hcz103_0 : w93.cell? ⟨gb214, 0, none⟩ = some (.int .u64 a1_0) := (blk_cell BK214.out 0).trans rfl; have hcz103_1 : w93.cell? ⟨gb214, 1, none⟩ = some (.int .u64 a1_1) := (blk_cell BK214.out 1).trans rfl; have hfz103_0 := blk_frozen BK214.out 0; have hfz103_1 := blk_frozen BK214.out 1) | ((with_reducible refine gate_callee (f := 71) rfl ?_); refine goesL_ (some 48) rfl rfl Try.func71 (by kernel_rfl) rfl #[.agg #[.int .u64 t219, .int .u64 x219001_56], .agg #[.int .u64 a1_0, .int .u64 a1_1]] rfl (by (try simp only [List.map_toArray, List.map_cons, List.map_nil]); first | done | rfl | (simp only [List.length_drop, List.length_take]; rfl)) ?_; (with_reducible refine (timeboundref31_less.calls t219 x219001_56 a1_0 a1_1 false _ A66.out).mono ?_); rintro e w104 ⟨rfl, hb⟩; refine ⟨_, rfl, ?_⟩; replace BK213 := Aside0.mk (blk_below (g := gb213) (o := .cells #[.int .u64 a0_0, .int .u64 a0_1] 75 (0, 0)) (by (with_reducible repeat (first | refine blk_drewN ?_ _ | refine blk_drew ?_ | refine blk_alloc ?_ _)); refine blk_far ?_ NB213_217.out _; (with_reducible repeat (first | refine blk_drewN ?_ _ | refine blk_drew ?_ | refine blk_alloc ?_ _)); refine blk_far ?_ NB213_217.out _; (with_reducible repeat (first | refine blk_drewN ?_ _ | refine blk_drew ?_ | refine blk_alloc ?_ _)); exact BK213.out) hb); replace BK214 := Aside0.mk (blk_below (g := gb214) (o := .cells #[.int .u64 a1_0, .int .u64 a1_1] 75 (0, 0)) (by (with_reducible repeat (first | refine blk_drewN ?_ _ | refine blk_drew ?_ | refine blk_alloc ?_ _)); refine blk_far ?_ NB214_217.out _; (with_reducible repeat (first | refine blk_drewN ?_ _ | refine blk_drew ?_ | refine blk_alloc ?_ _)); refine blk_far ?_ NB214_217.out _; (with_reducible repeat (first | refine blk_drewN ?_ _ | refine blk_drew ?_ | refine blk_alloc ?_ _)); exact BK214.out) hb); replace BK215 := Aside0.mk (blk_below (g := gb215) (o := .cells #[.int .u64 0, .int .u64 0] 75 (0, 0)) (by (with_reducible repeat (first | refine blk_drewN ?_ _ | refine blk_drew ?_ | refine blk_alloc ?_ _)); refine blk_far ?_ NB215_217.out _; (with_reducible repeat (first | refine blk_drewN ?_ _ | refine blk_drew ?_ | refine blk_alloc ?_ _)); refine blk_far ?_ NB215_217.out _; (with_reducible repeat (first | refine blk_drewN ?_ _ | refine blk_drew ?_ | refine blk_alloc ?_ _)); exact BK215.out) hb); replace BK216 := Aside0.mk (blk_below (g := gb216) (o := .cells #[.int .u64 0, .int .u64 0] 75 (0, 0)) (by (with_reducible repeat (first | refine blk_drewN ?_ _ | refine blk_drew ?_ | refine blk_alloc ?_ _)); refine blk_far ?_ NB216_217.out _; (with_reducible repeat (first | refine blk_drewN ?_ _ | refine blk_drew ?_ | refine blk_alloc ?_ _)); refine blk_far ?_ NB216_217.out _; (with_reducible repeat (first | refine blk_drewN ?_ _ | refine blk_drew ?_ | refine blk_alloc ?_ _)); exact BK216.out) hb); replace BK217 := Aside0.mk (blk_below (g := gb217) (o := .cells #[.int .u64 t221, .int .u64 t222] 75 (0, 0)) (by (with_reducible repeat (first | refine blk_drewN ?_ _ | refine blk_drew ?_ | refine blk_alloc ?_ _)); refine blk_put (cs := #[.int .u64 t221, .int .u64 x218001_1]) ?_ 1 _ rfl; (with_reducible repeat (first | refine blk_drewN ?_ _ | refine blk_drew ?_ | refine blk_alloc ?_ _)); refine blk_put (cs := #[.int .u64 x218000_1, .int .u64 x218001_1]) ?_ 0 _ rfl; (with_reducible repeat (first | refine blk_drewN ?_ _ | refine blk_drew ?_ | refine blk_alloc ?_ _)); exact BK217.out) hb); replace BK218 := Aside0.mk (blk_below (g := gb218) (o := .cells #[.int .u64 t219, .int .u64 x219001_56] 75 (0, 0)) (by (with_reducible repeat (first | refine blk_drewN ?_ _ | refine blk_drew ?_ | refine blk_alloc ?_ _)); refine blk_far ?_ NB218_217.out _; (with_reducible repeat (first | refine blk_drewN ?_ _ | refine blk_drew ?_ | refine blk_alloc ?_ _)); refine blk_far ?_ NB218_217.out _; (with_reducible repeat (first | refine blk_drewN ?_ _ | refine blk_drew ?_ | refine blk_alloc ?_ _)); exact BK218.out) hb); replace HB := Aside0.mk (below_step (by repeat (first | (with_reducible first | exact HB.out | apply below_alloc | apply pw_below_drewN | apply below_drew1 | refine below_set ?_ GE213.out | refine below_set ?_ GE214.out | refine below_set ?_ GE215.out | refine below_set ?_ GE216.out | refine below_set ?_ GE217.out | refine below_set ?_ GE218.out) | exact HB.out)) hb); (try clear hb); (try clear hb2); (try clear hk); (try clear hi); have hcz105_0 : w104.cell? ⟨gb218, 0, none⟩ = some (.int .u64 t219) := (blk_cell BK218.out 0).trans rfl; have hcz105_1 : w104.cell? ⟨gb218, 1, none⟩ = some (.int .u64 x219001_56) := (blk_cell BK218.out 1).trans rfl; have hfz105_0 := blk_frozen BK218.out 0; have hfz105_1 := blk_frozen BK218.out 1; have hcz106_0 : w104.cell? ⟨gb214, 0, none⟩ = some (.int .u64 a1_0) := (blk_cell BK214.out 0).trans rfl; have hcz106_1 : w104.cell? ⟨gb214, 1, none⟩ = some (.int .u64 a1_1) := (blk_cell BK214.out 1).trans rfl; have hfz106_0 := blk_frozen BK214.out 0; have hfz106_1 := blk_frozen BK214.out 1) | ((with_reducible refine gate_callee (f := 72) rfl ?_); refine goesL_ (some 52) rfl rfl Try.func72 (by kernel_rfl) rfl #[.agg #[.int .u64 t219, .int .u64 x219001_56], .agg #[.int .u64 a1_0, .int .u64 a1_1]] rfl (by (try simp only [List.map_toArray, List.map_cons, List.map_nil]); first | done | rfl | (simp only [List.length_drop, List.length_take]; rfl)) ?_; (with_reducible refine (timeboundref31_sub.calls t219 x219001_56 a1_0 a1_1 t224 t225 _ A86.out).mono ?_); rintro e w107 ⟨rfl, hb⟩; refine ⟨_, rfl, ?_⟩; replace BK213 := bkb BK213 hb; replace BK214 := bkb BK214 hb; replace BK215 := bkb BK215 hb; replace BK216 := bkb BK216 hb; replace BK217 := bkb BK217 hb; replace BK218 := bkb BK218 hb; replace HB := blw HB hb; (try clear hb); (try clear hb2); (try clear hk); (try clear hi); have hcz108_0 : w107.cell? ⟨gb218, 0, none⟩ = some (.int .u64 t219) := (blk_cell BK218.out 0).trans rfl; have hcz108_1 : w107.cell? ⟨gb218, 1, none⟩ = some (.int .u64 x219001_56) := (blk_cell BK218.out 1).trans rfl; have hfz108_0 := blk_frozen BK218.out 0; have hfz108_1 := blk_frozen BK218.out 1; have hcz109_0 : w107.cell? ⟨gb217, 0, none⟩ = some (.int .u64 t221) := (blk_cell BK217.out 0).trans rfl; have hcz109_1 : w107.cell? ⟨gb217, 1, none⟩ = some (.int .u64 t222) := (blk_cell BK217.out 1).trans rfl; have hfz109_0 := blk_frozen BK217.out 0; have hfz109_1 := blk_frozen BK217.out 1))
                  go_roundg kj56
                  case measure => have := HK1.out; have := HJ10.out; have := HJ56.out; omega
                  case rel => exact ⟨(wrap64 (x8_1 - 1)), (t221), (Go.bits .or .u64 t222 1), (t224), (t225), (by first | rfl | (simp; done) | (simp [*]; done)), H', ⟨by have := HK1.out; have := HJ10.out; have := HJ56.out; omega⟩, ⟨by (with_reducible repeat (first | refine blk_drewN ?_ _ | refine blk_drew ?_ | refine blk_alloc ?_ _)); refine blk_far ?_ NB213_217.out _; (with_reducible repeat (first | refine blk_drewN ?_ _ | refine blk_drew ?_ | refine blk_alloc ?_ _)); refine blk_far ?_ NB213_218.out _; (with_reducible repeat (first | refine blk_drewN ?_ _ | refine blk_drew ?_ | refine blk_alloc ?_ _)); refine blk_far ?_ NB213_218.out _; (with_reducible repeat (first | refine blk_drewN ?_ _ | refine blk_drew ?_ | refine blk_alloc ?_ _)); exact BK213.out⟩, ⟨by (with_reducible repeat (first | refine blk_drewN ?_ _ | refine blk_drew ?_ | refine blk_alloc ?_ _)); refine blk_far ?_ NB214_217.out _; (with_reducible repeat (first | refine blk_drewN ?_ _ | refine blk_drew ?_ | refine blk_alloc ?_ _)); refine blk_far ?_ NB214_218.out _; (with_reducible repeat (first | refine blk_drewN ?_ _ | refine blk_drew ?_ | refine blk_alloc ?_ _)); refine blk_far ?_ NB214_218.out _; (with_reducible repeat (first | refine blk_drewN ?_ _ | refine blk_drew ?_ | refine blk_alloc ?_ _)); exact BK214.out⟩, ⟨by (with_reducible repeat (first | refine blk_drewN ?_ _ | refine blk_drew ?_ | refine blk_alloc ?_ _)); refine blk_far ?_ NB215_217.out _; (with_reducible repeat (first | refine blk_drewN ?_ _ | refine blk_drew ?_ | refine blk_alloc ?_ _)); refine blk_far ?_ NB215_218.out _; (with_reducible repeat (first | refine blk_drewN ?_ _ | refine blk_drew ?_ | refine blk_alloc ?_ _)); refine blk_far ?_ NB215_218.out _; (with_reducible repeat (first | refine blk_drewN ?_ _ | refine blk_drew ?_ | refine blk_alloc ?_ _)); exact BK215.out⟩, ⟨by (with_reducible repeat (first | refine blk_drewN ?_ _ | refine blk_drew ?_ | refine blk_alloc ?_ _)); refine blk_far ?_ NB216_217.out _; (with_reducible repeat (first | refine blk_drewN ?_ _ | refine blk_drew ?_ | refine blk_alloc ?_ _)); refine blk_far ?_ NB216_218.out _; (with_reducible repeat (first | refine blk_drewN ?_ _ | refine blk_drew ?_ | refine blk_alloc ?_ _)); refine blk_far ?_ NB216_218.out _; (with_reducible repeat (first | refine blk_drewN ?_ _ | refine blk_drew ?_ | refine blk_alloc ?_ _)); exact BK216.out⟩, ⟨by (with_reducible repeat (first | refine blk_drewN ?_ _ | refine blk_drew ?_ | refine blk_alloc ?_ _)); refine blk_put (cs := #[.int .u64 t221, .int .u64 t222]) ?_ 1 _ rfl; (with_reducible repeat (first | refine blk_drewN ?_ _ | refine blk_drew ?_ | refine blk_alloc ?_ _)); refine blk_far ?_ NB217_218.out _; (with_reducible repeat (first | refine blk_drewN ?_ _ | refine blk_drew ?_ | refine blk_alloc ?_ _)); refine blk_far ?_ NB217_218.out _; (with_reducible repeat (first | refine blk_drewN ?_ _ | refine blk_drew ?_ | refine blk_alloc ?_ _)); exact BK217.out⟩, ⟨by (with_reducible repeat (first | refine blk_drewN ?_ _ | refine blk_drew ?_ | refine blk_alloc ?_ _)); refine blk_far ?_ NB218_217.out _; (with_reducible repeat (first | refine blk_drewN ?_ _ | refine blk_drew ?_ | refine blk_alloc ?_ _)); refine blk_put (cs := #[.int .u64 t224, .int .u64 x219001_56]) ?_ 1 _ rfl; (with_reducible repeat (first | refine blk_drewN ?_ _ | refine blk_drew ?_ | refine blk_alloc ?_ _)); refine blk_put (cs := #[.int .u64 t219, .int .u64 x219001_56]) ?_ 0 _ rfl; (with_reducible repeat (first | refine blk_drewN ?_ _ | refine blk_drew ?_ | refine blk_alloc ?_ _)); exact BK218.out⟩, ⟨by repeat (first | (with_reducible first | exact HB.out | apply below_alloc | apply pw_below_drewN | apply below_drew1 | refine below_set ?_ GE213.out | refine below_set ?_ GE214.out | refine below_set ?_ GE215.out | refine below_set ?_ GE216.out | refine below_set ?_ GE217.out | refine below_set ?_ GE218.out) | exact HB.out)⟩⟩
      · rw [if_neg c9] at H
        have c9b0 : decide (0 ≤ x8_1) = false := decide_eq_false c9
        clear c9
        simp only [Option.some.injEq, Prod.mk.injEq] at H
        obtain ⟨rfl, rfl, rfl, rfl⟩ := H
        try go_wp2
        have n0_ := Aside0.mk (blk_drew BK213.out)
        have n1_ := Aside0.mk (blk_drew BK214.out)
        have n2_ := Aside0.mk (blk_drew BK215.out)
        have n3_ := Aside0.mk (blk_drew BK216.out)
        have n4_ := Aside0.mk (blk_drew BK217.out)
        have n5_ := Aside0.mk (blk_drew BK218.out)
        have n6_ := Aside0.mk (below_drew1 HB.out)
        clear BK213
        clear BK214
        clear BK215
        clear BK216
        clear BK217
        clear BK218
        clear HB
        have BK213 := n0_
        have BK214 := n1_
        have BK215 := n2_
        have BK216 := n3_
        have BK217 := n4_
        have BK218 := n5_
        have HB := n6_
        clear n0_ n1_ n2_ n3_ n4_ n5_ n6_
        refine start_ (n := 4) (S := fun w' => w'.cell? ⟨gb217, 0, none⟩ = some (.int .u64 x218000_1) ∧ w'.cell? ⟨gb217, 1, none⟩ = some (.int .u64 x218001_1) ∧ w'.cell? ⟨gb218, 0, none⟩ = some (.int .u64 x219000_1) ∧ w'.cell? ⟨gb218, 1, none⟩ = some (.int .u64 x219001_1)) (ds := []) #[false, false, false, false] (by kernel_rfl) rfl rfl ⟨(blk_cell BK217.out 0).trans rfl, (blk_cell BK217.out 1).trans rfl, (blk_cell BK218.out 0).trans rfl, (blk_cell BK218.out 1).trans rfl⟩ (fun hHeld => ?_)
        generalize wr.drew = w110 at BK213 BK214 BK215 BK216 BK217 BK218 HB hHeld ⊢
        refine take_ (i := 0) (N := some 57) (v := ?_) (a' := ?_) #[true, false, false, false] rfl rfl (by kernel_rfl) (fun _ _ _ h => h) (Or.inl ⟨by rfl, ?_⟩) hHeld ?_ ?_
        rotate_left
        · rintro w' ⟨s0, s1, s2, s3⟩
          go_simp
          with_reducible rfl
        rotate_left
        · simp only [Act.put, List.setIfInBounds_toArray, List.set_cons_zero, List.set_cons_succ, i64_w, i32_w]
          rfl
        refine take_ (i := 1) (N := some 58) (v := ?_) (a' := ?_) #[true, true, false, false] rfl rfl (by kernel_rfl) (fun _ _ _ h => h) (Or.inl ⟨by rfl, ?_⟩) hHeld ?_ ?_
        rotate_left
        · rintro w' ⟨s0, s1, s2, s3⟩
          go_simp
          with_reducible rfl
        rotate_left
        · simp only [Act.put, List.setIfInBounds_toArray, List.set_cons_zero, List.set_cons_succ, i64_w, i32_w]
          rfl
        refine one_ (i := 2) (N := none) #[true, true, true, false] rfl rfl (by kernel_rfl) (by decide) (fun K hK => ?_)
        have hs111 : w110.cell? ⟨gb215, 0, none⟩ = some (.int .u64 0) := (blk_cell BK215.out 0).trans rfl
        have hfs111 := blk_frozen BK215.out 0
        have hns111_0 := NB213_215.out
        have hns111_1 := NB214_215.out
        have hns111_3 := NB216_215.out
        have hns111_4 := NB217_215.out
        have hns111_5 := NB218_215.out
        have hms111_0 := NB215_213.out
        have hms111_1 := NB215_214.out
        have hms111_3 := NB215_216.out
        have hms111_4 := NB215_217.out
        have hms111_5 := NB215_218.out
        have hs112 : w110.cell? ⟨gb215, 1, none⟩ = some (.int .u64 0) := (blk_cell BK215.out 1).trans rfl
        have hfs112 := blk_frozen BK215.out 1
        have hns112_0 := NB213_215.out
        have hns112_1 := NB214_215.out
        have hns112_3 := NB216_215.out
        have hns112_4 := NB217_215.out
        have hns112_5 := NB218_215.out
        have hms112_0 := NB215_213.out
        have hms112_1 := NB215_214.out
        have hms112_3 := NB215_216.out
        have hms112_4 := NB215_217.out
        have hms112_5 := NB215_218.out
        refine skip_ (w1 := ?_) (by rfl) rfl ?_ ?_
        rotate_left
        · go_simp
          rfl
        refine hK.out _ _ ⟨((cell_far (p := ⟨gb215, _, none⟩) NB217_215.out _).trans (((cell_far (p := ⟨gb215, _, none⟩) NB217_215.out _).trans (hHeld.1)))), ((cell_far (p := ⟨gb215, _, none⟩) NB217_215.out _).trans (((cell_far (p := ⟨gb215, _, none⟩) NB217_215.out _).trans (hHeld.2.1)))), ((cell_far (p := ⟨gb215, _, none⟩) NB218_215.out _).trans (((cell_far (p := ⟨gb215, _, none⟩) NB218_215.out _).trans (hHeld.2.2.1)))), ((cell_far (p := ⟨gb215, _, none⟩) NB218_215.out _).trans (((cell_far (p := ⟨gb215, _, none⟩) NB218_215.out _).trans (hHeld.2.2.2))))⟩ (fun hHeld => ?_)
        clear hK K
        refine one_ (i := 3) (N := none) #[true, true, true, true] rfl rfl (by kernel_rfl) (by decide) (fun K hK => ?_)
        have hs113 : w110.cell? ⟨gb216, 0, none⟩ = some (.int .u64 0) := (blk_cell BK216.out 0).trans rfl
        have hfs113 := blk_frozen BK216.out 0
        have hns113_0 := NB213_216.out
        have hns113_1 := NB214_216.out
        have hns113_2 := NB215_216.out
        have hns113_4 := NB217_216.out
        have hns113_5 := NB218_216.out
        have hms113_0 := NB216_213.out
        have hms113_1 := NB216_214.out
        have hms113_2 := NB216_215.out
        have hms113_4 := NB216_217.out
        have hms113_5 := NB216_218.out
        have hs114 : w110.cell? ⟨gb216, 1, none⟩ = some (.int .u64 0) := (blk_cell BK216.out 1).trans rfl
        have hfs114 := blk_frozen BK216.out 1
        have hns114_0 := NB213_216.out
        have hns114_1 := NB214_216.out
        have hns114_2 := NB215_216.out
        have hns114_4 := NB217_216.out
        have hns114_5 := NB218_216.out
        have hms114_0 := NB216_213.out
        have hms114_1 := NB216_214.out
        have hms114_2 := NB216_215.out
        have hms114_4 := NB216_217.out
        have hms114_5 := NB216_218.out
        refine skip_ (w1 := ?_) (by rfl) rfl ?_ ?_
        rotate_left
        · go_simp
          rfl
        refine hK.out _ _ ⟨((cell_far (p := ⟨gb216, _, none⟩) NB217_216.out _).trans (((cell_far (p := ⟨gb216, _, none⟩) NB217_216.out _).trans (hHeld.1)))), ((cell_far (p := ⟨gb216, _, none⟩) NB217_216.out _).trans (((cell_far (p := ⟨gb216, _, none⟩) NB217_216.out _).trans (hHeld.2.1)))), ((cell_far (p := ⟨gb216, _, none⟩) NB218_216.out _).trans (((cell_far (p := ⟨gb216, _, none⟩) NB218_216.out _).trans (hHeld.2.2.1)))), ((cell_far (p := ⟨gb216, _, none⟩) NB218_216.out _).trans (((cell_far (p := ⟨gb216, _, none⟩) NB218_216.out _).trans (hHeld.2.2.2))))⟩ (fun hHeld => ?_)
        clear hK K
        refine done_ (by kernel_rfl) ?_
        try go_wp2
        refine bodyPost_ret (results_cc rfl _ _ gb215 gb216 75 75 #[.int .u64 x218000_1, .int .u64 x218001_1] #[.int .u64 x219000_1, .int .u64 x219001_1] (0, 0) (0, 0) _ _ rfl (by (with_reducible repeat (first | refine blk_drewN ?_ _ | refine blk_drew ?_ | refine blk_alloc ?_ _)); refine blk_far ?_ NB215_216.out _; (with_reducible repeat (first | refine blk_drewN ?_ _ | refine blk_drew ?_ | refine blk_alloc ?_ _)); refine blk_far ?_ NB215_216.out _; (with_reducible repeat (first | refine blk_drewN ?_ _ | refine blk_drew ?_ | refine blk_alloc ?_ _)); refine blk_put (cs := #[.int .u64 x218000_1, .int .u64 0]) ?_ 1 _ rfl; (with_reducible repeat (first | refine blk_drewN ?_ _ | refine blk_drew ?_ | refine blk_alloc ?_ _)); refine blk_put (cs := #[.int .u64 0, .int .u64 0]) ?_ 0 _ rfl; (with_reducible repeat (first | refine blk_drewN ?_ _ | refine blk_drew ?_ | refine blk_alloc ?_ _)); exact BK215.out) Try.underlying75 rfl (by kernel_rfl) rfl (by (with_reducible repeat (first | refine blk_drewN ?_ _ | refine blk_drew ?_ | refine blk_alloc ?_ _)); refine blk_put (cs := #[.int .u64 x219000_1, .int .u64 0]) ?_ 1 _ rfl; (with_reducible repeat (first | refine blk_drewN ?_ _ | refine blk_drew ?_ | refine blk_alloc ?_ _)); refine blk_put (cs := #[.int .u64 0, .int .u64 0]) ?_ 0 _ rfl; (with_reducible repeat (first | refine blk_drewN ?_ _ | refine blk_drew ?_ | refine blk_alloc ?_ _)); refine blk_far ?_ NB216_215.out _; (with_reducible repeat (first | refine blk_drewN ?_ _ | refine blk_drew ?_ | refine blk_alloc ?_ _)); refine blk_far ?_ NB216_215.out _; (with_reducible repeat (first | refine blk_drewN ?_ _ | refine blk_drew ?_ | refine blk_alloc ?_ _)); exact BK216.out) Try.underlying75 rfl (by kernel_rfl)) rfl ?_
        exact ⟨by first | rfl | (simp [errW_none, errW_some] <;> rfl) | (simp [*, errW_none, errW_some] <;> rfl), by repeat (first | (with_reducible first | exact HB.out | apply below_alloc | apply pw_below_drewN | apply below_drew1 | refine below_set ?_ GE213.out | refine below_set ?_ GE214.out | refine below_set ?_ GE215.out | refine below_set ?_ GE216.out | refine below_set ?_ GE217.out | refine below_set ?_ GE218.out) | exact HB.out)⟩

end Go.Proofs.Ytjoddcfcolhimaa.QFr
