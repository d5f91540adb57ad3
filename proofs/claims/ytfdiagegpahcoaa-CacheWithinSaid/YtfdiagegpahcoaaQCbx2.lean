-- Printed by wip/drv/drv.py of this session, over the kit's print tool. Not trusted: Lean checks it.
import Derived.Test.YtfdiagegpahcoaaQCbx0
import Derived.Test.YtfdiagegpahcoaaQCbx1
namespace Go.Proofs.Ytfdiagegpahcoaa.QCb
open Go.RowKit Go.Proofs.Ytfdiagegpahcoaa.QCa Go.Proofs.YtfdiagegpahcoaaW.PrintWords Go.Proofs.YtfdiagegpahcoaaW.PrintLast Go.Proofs.YtfdiagegpahcoaaW.PrintMore
attribute [local go_sem] max2_int min2_int max_two min_two max_three min_three max_four min_four   -- for this text's walks alone
set_option linter.unusedVariables false
set_option linter.unusedSimpArgs false

/-! ### timeboundlaw22_awake: function 10 -/
def timeboundlaw22_awake.f (k : Nat)  : Option (Bool) := (cache_Empty.f k 1 2 1).bind fun t160 => ((cache_Misses.f 1 2 1 t160 (([1, 2, 1, 3, 2] : List Int))).bind fun bt166 => (if bt166.2 = 0 then (if bt166.1 = 4 then ((cache_Line.f 2 1 4 9).bind fun t168 => (if t168 = 2 then ((cache_Set.f 1 2 1 7).bind fun t169 => (some (t169 == 0))) else (some false))) else (some false)) else (some false)))
theorem timeboundlaw22_awake.mono : ∀ k, LeO (timeboundlaw22_awake.f k ) (timeboundlaw22_awake.f (k + 1) ) := by
  intro  k
  unfold timeboundlaw22_awake.f
  repeat' first
      | (with_reducible exact cache_Empty.mono _ _ _ _)
      | (with_reducible exact LeO.refl _)
      | (with_reducible exact LeO.none _)
      | (with_reducible refine LeO.ite ?_ ?_)
      | (with_reducible refine LeO.bind ?_ (fun _ => ?_))
      | exact cache_Empty.mono _ _ _ _
      | exact LeO.none _
      | refine LeO.ite ?_ ?_
      | refine LeO.bind ?_ (fun _ => ?_)
def timeboundlaw22_awake.T2 : Bool × List (List Nat × List Nat) := (true, [([], []), ([], []), ([1], [1]), ([], []), ([0, 2, 3, 2], [0, 2, 3]), ([4], [4]), ([5], [5]), ([5], [5]), ([6, 4, 0, 1, 2, 3, 4, 5, 6], [6]), ([7, 8, 0, 1, 2, 3, 4, 5, 6, 7, 8], [7])])
def timeboundlaw22_awake.B2 : List Nat := [0, 0, 2, 0, 15, 31, 63, 63, 127, 511]
theorem timeboundlaw22_awake.tab2 : rtab .any (opsOf Try.f10 2) = timeboundlaw22_awake.T2 := by kernel_rfl
theorem timeboundlaw22_awake.bits2 : waitsOk timeboundlaw22_awake.T2.2 timeboundlaw22_awake.B2 = true := by kernel_rfl
set_option maxHeartbeats 8000000 in
set_option maxRecDepth 100000 in
theorem timeboundlaw22_awake.calls (k : Nat)  (r : Bool) (w : World) (h : timeboundlaw22_awake.f k  = some r) :
    Calls Try.prog 10 #[] w fun e w' => e = .returned (.bool r) ∧ Below w.heap.size w w' := by
  have hu29 := Try.underlying29
  have HB := Aside0.mk (Below.refl w.heap.size w)
  have H : ((cache_Empty.f k 1 2 1).bind fun t160 => ((cache_Misses.f 1 2 1 t160 (([1, 2, 1, 3, 2] : List Int))).bind fun bt166 => (if bt166.2 = 0 then (if bt166.1 = 4 then ((cache_Line.f 2 1 4 9).bind fun t168 => (if t168 = 2 then ((cache_Set.f 1 2 1 7).bind fun t169 => (some (t169 == 0))) else (some false))) else (some false)) else (some false)))) = some r := h
  clear h
  replace H := Option.bind_eq_some_iff.mp H
  obtain ⟨t160, A10, H⟩ := H
  replace H : ((cache_Misses.f 1 2 1 t160 (([1, 2, 1, 3, 2] : List Int))).bind fun bt166 => (if bt166.2 = 0 then (if bt166.1 = 4 then ((cache_Line.f 2 1 4 9).bind fun t168 => (if t168 = 2 then ((cache_Set.f 1 2 1 7).bind fun t169 => (some (t169 == 0))) else (some false))) else (some false)) else (some false))) = some r := H
  have A1 := Aside0.mk A10
  clear A10
  obtain ⟨y163, hy163⟩ : ∃ y_ : List Int, y_ = (([1, 2, 1, 3, 2] : List Int)) := ⟨_, rfl⟩
  replace H : ((cache_Misses.f 1 2 1 t160 y163).bind fun bt166 => (if bt166.2 = 0 then (if bt166.1 = 4 then ((cache_Line.f 2 1 4 9).bind fun t168 => (if t168 = 2 then ((cache_Set.f 1 2 1 7).bind fun t169 => (some (t169 == 0))) else (some false))) else (some false)) else (some false))) = some r := by first | (rw [hy163]; with_reducible exact H) | (have H2_ := (Option.bind_some _ _).symm.trans H; rw [hy163]; with_reducible exact H2_) | (have H2_ := (Option.bind_some _ _).symm.trans H; with_reducible exact H2_) | with_reducible exact H | (rw [hy163]; exact H) | exact H
  have Ny163 := Aside0.mk hy163
  clear hy163
  replace H := Option.bind_eq_some_iff.mp H
  obtain ⟨⟨t166, t167⟩, A20, H⟩ := H
  replace H : (if t167 = 0 then (if t166 = 4 then ((cache_Line.f 2 1 4 9).bind fun t168 => (if t168 = 2 then ((cache_Set.f 1 2 1 7).bind fun t169 => (some (t169 == 0))) else (some false))) else (some false)) else (some false)) = some r := H
  have A2 := Aside0.mk A20
  clear A20
  by_cases c3 : t167 = 0
  · rw [if_pos c3] at H
    have c3b0 : (t167 == 0) = true := beq_iff_eq.mpr c3
    have c3b1 : (t167 != 0) = false := bne_eq_false_iff_eq.mpr c3
    clear c3
    by_cases c4 : t166 = 4
    · rw [if_pos c4] at H
      have c4b0 : (t166 == 4) = true := beq_iff_eq.mpr c4
      have c4b1 : (t166 != 4) = false := bne_eq_false_iff_eq.mpr c4
      clear c4
      replace H := Option.bind_eq_some_iff.mp H
      obtain ⟨t168, A50, H⟩ := H
      replace H : (if t168 = 2 then ((cache_Set.f 1 2 1 7).bind fun t169 => (some (t169 == 0))) else (some false)) = some r := H
      have A5 := Aside0.mk A50
      clear A50
      by_cases c6 : t168 = 2
      · rw [if_pos c6] at H
        have c6b0 : (t168 == 2) = true := beq_iff_eq.mpr c6
        have c6b1 : (t168 != 2) = false := bne_eq_false_iff_eq.mpr c6
        clear c6
        replace H := Option.bind_eq_some_iff.mp H
        obtain ⟨t169, A70, H⟩ := H
        replace H : (some (t169 == 0)) = some r := H
        have A7 := Aside0.mk A70
        clear A70
        obtain rfl := Option.some.inj H
        go_enter Try.func10, Try.ntmps10
        try go_wp2_with (first | ((with_reducible refine gate_dst (N := 1) rfl ?_); refine box_event ?hg (N := 1) ?hd (cs := #[.int .i64 0, .int .i64 0, .int .i64 0]) (t := 29) ?hr ?_; (case hd => rfl); (case hg => rfl); (case hr => first | (go_simp; done) | (go_simp; rfl)); intro gb159 hg w8 hbox hb; have BK159 := Aside0.mk (hbox); have GW159 := gww hg HB; have GE159 := gww hg HB; replace HB := blw HB hb; clear hb hbox hg; have hcz9_0 : w8.cell? ⟨gb159, 0, none⟩ = some (.int .i64 0) := (blk_cell BK159.out 0).trans rfl; have hcz9_1 : w8.cell? ⟨gb159, 1, none⟩ = some (.int .i64 0) := (blk_cell BK159.out 1).trans rfl; have hcz9_2 : w8.cell? ⟨gb159, 2, none⟩ = some (.int .i64 0) := (blk_cell BK159.out 2).trans rfl; have hfz9_0 := blk_frozen BK159.out 0; have hfz9_1 := blk_frozen BK159.out 1; have hfz9_2 := blk_frozen BK159.out 2))
        have n0_ : Aside0 ((((w8.setCell ⟨gb159, 0, none⟩ (.int .i64 1)).setCell ⟨gb159, 1, none⟩ (.int .i64 2)).setCell ⟨gb159, 2, none⟩ (.int .i64 1)).heap[gb159]? = some (.cells #[.int .i64 1, .int .i64 2, .int .i64 1] 29 (0, 0))) := ⟨by (with_reducible repeat (first | refine blk_drewN ?_ _ | refine blk_drew ?_ | refine blk_alloc ?_ _)); refine blk_put (cs := #[.int .i64 1, .int .i64 2, .int .i64 0]) ?_ 2 _ rfl; (with_reducible repeat (first | refine blk_drewN ?_ _ | refine blk_drew ?_ | refine blk_alloc ?_ _)); refine blk_put (cs := #[.int .i64 1, .int .i64 0, .int .i64 0]) ?_ 1 _ rfl; (with_reducible repeat (first | refine blk_drewN ?_ _ | refine blk_drew ?_ | refine blk_alloc ?_ _)); refine blk_put (cs := #[.int .i64 0, .int .i64 0, .int .i64 0]) ?_ 0 _ rfl; (with_reducible repeat (first | refine blk_drewN ?_ _ | refine blk_drew ?_ | refine blk_alloc ?_ _)); exact BK159.out⟩
        have n1_ : Aside0 (Below w.heap.size w (((w8.setCell ⟨gb159, 0, none⟩ (.int .i64 1)).setCell ⟨gb159, 1, none⟩ (.int .i64 2)).setCell ⟨gb159, 2, none⟩ (.int .i64 1))) := ⟨by repeat (first | (with_reducible first | exact HB.out | apply below_alloc | apply pw_below_drewN | apply below_drew1 | refine below_set ?_ GE159.out) | exact HB.out)⟩
        (try clear BK159)
        (try clear HB)
        generalize (((w8.setCell ⟨gb159, 0, none⟩ (.int .i64 1)).setCell ⟨gb159, 1, none⟩ (.int .i64 2)).setCell ⟨gb159, 2, none⟩ (.int .i64 1)) = w10 at n0_ n1_ ⊢
        have BK159 := n0_
        have HB := n1_
        clear n0_ n1_
        have n0_ := Aside0.mk (blk_drew BK159.out)
        have n1_ := Aside0.mk (below_drew1 HB.out)
        clear BK159
        clear HB
        have BK159 := n0_
        have HB := n1_
        clear n0_ n1_
        refine start_ (n := 10) (S := fun w' => True) (ds := []) #[false, false, false, false, false, false, false, false, false, false] (by kernel_rfl) rfl rfl trivial (fun hHeld => ?_); refine with_tabW timeboundlaw22_awake.tab2 timeboundlaw22_awake.bits2 (fun HT_ HW_ => ?_)
        generalize w10.drew = w11 at BK159 HB hHeld ⊢
        refine inv_at [0, 1, 2, 3, 4, 5, 6, 7, 8, 9] (fun a0_ b a w' => ∃ (v161 : Value) (v164 : Value) (m2_ : Value), a = putSel a0_ b [(0, 6, .agg #[.int .i64 1, .int .i64 2, .int .i64 1]), (1, 7, .agg #[.int .i64 1, .int .i64 2, .int .i64 1]), (2, 8, m2_), (3, 9, v164), (4, 10, .tuple #[.int .i64 t166, .int .i64 t167]), (5, 5, .tuple #[.int .i64 t166, .int .i64 t167]), (6, 11, .int .i64 t166), (7, 12, .int .i64 t167), (8, 2, .int .i64 t166), (9, 3, .int .i64 t167)] ∧ (w'.heap[gb159]? = some (.cells #[.int .i64 1, .int .i64 2, .int .i64 1] 29 (0, 0))) ∧ (Below w.heap.size w w') ∧ (b 2 = true → Kd.S (Kd.slice 3 (Kd.int .i64)) 22 w' w.heap.size (fun _ => True) v161 t160) ∧ (b 3 = true → Kd.R (Kd.int .i64) 3 w' w.heap.size (fun _ => True) v164 y163) ∧ (b 2 = true → (m2_ : Value) = .agg #[v161])) HT_.out HW_.out (by kernel_rfl) (by kernel_rfl) ?_ ?_ ?_
        · exact ⟨.bool false, .bool false, .bool false, by simp only [putSel, Bool.false_eq_true, if_false], BK159.out, HB.out, fun h_ => absurd h_ (by decide), fun h_ => absurd h_ (by decide), fun h_ => absurd h_ (by decide)⟩
        · skip
          clear BK159 HB
          refine steps_cons ?_ ?_
          · rintro b a w' ⟨v161, v164, m2_, ha, Q_BK159, Q_HB, Q_HO162, Q_HO165, Q_X2_⟩ hb_ hon hoff
            refine ⟨_, rfl, fun K hK => ?_⟩
            have e1 : a.tmps[1]? = some (.pointer (some ⟨gb159, 0, none⟩)) := by rw [ha]; exact (putSel_off rfl).trans rfl
            replace ha := Aside0.mk ha
            have BK159 := Aside0.mk Q_BK159
            have HB := Aside0.mk Q_HB
            have hc0_ : w'.cell? ⟨gb159, 0, none⟩ = some (.int .i64 1) := (blk_cell BK159.out 0).trans rfl
            have hc1_ : w'.cell? ⟨gb159, 1, none⟩ = some (.int .i64 2) := (blk_cell BK159.out 1).trans rfl
            have hc2_ : w'.cell? ⟨gb159, 2, none⟩ = some (.int .i64 1) := (blk_cell BK159.out 2).trans rfl
            refine value_ (w1 := w') (v := .agg #[.int .i64 1, .int .i64 2, .int .i64 1]) (by rfl) rfl ?_ ?_
            · go_simp
              (try simp only [i64_w])
              try rfl
            refine hK.out _ _ ⟨v161, v164, m2_, (by rw [ha.out]; exact putSel_upk 0 hb_ rfl rfl rfl), Q_BK159, Q_HB, Q_HO162, Q_HO165, Q_X2_⟩
          refine steps_cons ?_ ?_
          · rintro b a w' ⟨v161, v164, m2_, ha, Q_BK159, Q_HB, Q_HO162, Q_HO165, Q_X2_⟩ hb_ hon hoff
            refine ⟨_, rfl, fun K hK => ?_⟩
            have e1 : a.tmps[1]? = some (.pointer (some ⟨gb159, 0, none⟩)) := by rw [ha]; exact (putSel_off rfl).trans rfl
            replace ha := Aside0.mk ha
            have BK159 := Aside0.mk Q_BK159
            have HB := Aside0.mk Q_HB
            have hc0_ : w'.cell? ⟨gb159, 0, none⟩ = some (.int .i64 1) := (blk_cell BK159.out 0).trans rfl
            have hc1_ : w'.cell? ⟨gb159, 1, none⟩ = some (.int .i64 2) := (blk_cell BK159.out 1).trans rfl
            have hc2_ : w'.cell? ⟨gb159, 2, none⟩ = some (.int .i64 1) := (blk_cell BK159.out 2).trans rfl
            refine value_ (w1 := w') (v := .agg #[.int .i64 1, .int .i64 2, .int .i64 1]) (by rfl) rfl ?_ ?_
            · go_simp
              (try simp only [i64_w])
              try rfl
            refine hK.out _ _ ⟨v161, v164, m2_, (by rw [ha.out]; exact putSel_upk 1 hb_ rfl rfl rfl), Q_BK159, Q_HB, fun h0_ => absurd ((hoff 2 (by kernel_rfl)).symm.trans h0_) (by decide), Q_HO165, fun h0_ => absurd ((hoff 2 (by kernel_rfl)).symm.trans h0_) (by decide)⟩
          refine steps_cons ?_ ?_
          · rintro b a w' ⟨v161, v164, m2_, ha, Q_BK159, Q_HB, Q_HO162, Q_HO165, Q_X2_⟩ hb_ hon hoff
            refine ⟨_, rfl, fun K hK => ?_⟩
            have e7 : a.tmps[7]? = some (.agg #[.int .i64 1, .int .i64 2, .int .i64 1]) := by rw [ha]; exact putSel_on (e := (1, 7, .agg #[.int .i64 1, .int .i64 2, .int .i64 1])) 1 rfl rfl (hon 1 (by kernel_rfl)) rfl
            replace ha := Aside0.mk ha
            have BK159 := Aside0.mk Q_BK159
            have HB := Aside0.mk Q_HB
            refine goes_ Try.func19 (by kernel_rfl) rfl #[.agg #[.int .i64 1, .int .i64 2, .int .i64 1]] (by rfl) rfl rfl (by first | (simp only [List.map_toArray, List.map_cons, List.map_nil, Act.eval, Array.getD_eq_getD_getElem?, Option.getD_some, e7]; done) | (simp only [List.map_toArray, List.map_cons, List.map_nil, Act.eval, Array.getD_eq_getD_getElem?, Option.getD_some, e7]; rfl)) ?_
            with_reducible refine (cache_Empty.calls k 1 2 1 t160 _ A1.out).mono ?_
            rintro e w12 ⟨v161, rfl, ho0, hb⟩
            refine ⟨_, rfl, ?_⟩
            have n0_ := Aside0.mk (Kd.S_lower ho0 (below_size (by repeat (first | (with_reducible first | exact HB.out | apply below_alloc | apply pw_below_drewN | apply below_drew1 | refine below_set ?_ GE159.out) | exact HB.out))))
            have n1_ := bkb BK159 hb
            have n2_ := blw HB hb
            have z_HO165 := fun (h0_ : b 3 = true) => (show Kd.R (Kd.int .i64) 3 w12 w.heap.size (fun _ => True) v164 y163 from by first | exact (Kd.R_below (by (with_reducible repeat (first | apply Kd.R_alloc | apply Kd.R_drewN | apply Kd.R_drew)); exact (Q_HO165 h0_)) hb) | exact Kd.R_mono (Kd.R_below (by (with_reducible repeat (first | apply Kd.R_alloc | apply Kd.R_drewN | apply Kd.R_drew)); exact (Q_HO165 h0_)) hb) (fun _ h_ => by first | trivial | exact h_ | exact h_.1))
            clear BK159
            clear HB
            have HO162 := n0_
            have BK159 := n1_
            have HB := n2_
            clear n0_ n1_ n2_
            (try clear hb)
            (try clear hb2)
            (try clear hk)
            (try clear hi)
            (try clear ho0)
            refine hK.out _ _ ⟨v161, v164, (.agg #[v161]), (by rw [ha.out]; exact putSel_upk 2 hb_ rfl rfl rfl), (by (with_reducible repeat (first | refine blk_drewN ?_ _ | refine blk_drew ?_ | refine blk_alloc ?_ _)); exact BK159.out), (by repeat (first | (with_reducible first | exact HB.out | apply below_alloc | apply pw_below_drewN | apply below_drew1 | refine below_set ?_ GE159.out) | exact HB.out)), fun _ => (by (with_reducible repeat (first | apply Kd.S_alloc | apply Kd.S_drewN | apply Kd.S_drew)); exact HO162.out), z_HO165, fun _ => rfl⟩
          refine steps_cons ?_ ?_
          · rintro b a w' ⟨v161, v164, m2_, ha, Q_BK159, Q_HB, Q_HO162, Q_HO165, Q_X2_⟩ hb_ hon hoff
            refine ⟨_, rfl, fun K hK => ?_⟩
            replace ha := Aside0.mk ha
            have BK159 := Aside0.mk Q_BK159
            have HB := Aside0.mk Q_HB
            refine Kd.R_lit_step (Kd.int .i64) _ 3 ?hg (N := 9) ?hd (xs := ([1, 2, 1, 3, 2] : List Int)) (inner := [.int .i64 1, .int .i64 2, .int .i64 1, .int .i64 3, .int .i64 2]) (ok := fun _ => True) (okp := fun _ => True) ?hr ?hp (fun _ hk => hk) trivial (Below.refl _ _) (Nat.le_refl _) (by simp) ?_; (case hd => rfl); (case hg => rfl); (case hr => first | (go_simp; done) | (go_simp; rfl)); (case hp => exact (Reps.one (show Kd.M (Kd.int .i64) _ _ _ 1 [.int .i64 1] from rfl) (Reps.one (show Kd.M (Kd.int .i64) _ _ _ 2 [.int .i64 2] from rfl) (Reps.one (show Kd.M (Kd.int .i64) _ _ _ 1 [.int .i64 1] from rfl) (Reps.one (show Kd.M (Kd.int .i64) _ _ _ 3 [.int .i64 3] from rfl) (Reps.one (show Kd.M (Kd.int .i64) _ _ _ 2 [.int .i64 2] from rfl) (Reps.none _ _)))))))
            intro v164 w12 ho13 hb hg_ hnew_
            clear hg_ hnew_
            (first | rw [← Ny163.out] at ho13 | (simp only [Int.reduceToNat] at ho13; rw [← Ny163.out] at ho13))
            have n0_ := Aside0.mk (Kd.R_lower ho13 (below_size (by repeat (first | (with_reducible first | exact HB.out | apply below_alloc | apply pw_below_drewN | apply below_drew1 | refine below_set ?_ GE159.out) | exact HB.out))))
            have n1_ := bkb BK159 hb
            have n2_ := blw HB hb
            have z_HO162 := fun (h0_ : b 2 = true) => (show Kd.S (Kd.slice 3 (Kd.int .i64)) 22 w12 w.heap.size (fun _ => True) v161 t160 from by first | exact (Kd.S_elder' (by (with_reducible repeat (first | apply Kd.S_alloc | apply Kd.S_drewN | apply Kd.S_drew)); exact (Q_HO162 h0_)) (Kd.R_base ho13) hb) | exact Kd.S_mono (Kd.S_elder' (by (with_reducible repeat (first | apply Kd.S_alloc | apply Kd.S_drewN | apply Kd.S_drew)); exact (Q_HO162 h0_)) (Kd.R_base ho13) hb) (fun _ h_ => by first | trivial | exact h_ | exact h_.1))
            clear BK159
            clear HB
            have HO165 := n0_
            have BK159 := n1_
            have HB := n2_
            clear n0_ n1_ n2_
            clear hb ho13
            refine hK.out _ _ ⟨v161, v164, m2_, (by rw [ha.out]; exact putSel_upk 3 hb_ rfl rfl rfl), (by (with_reducible repeat (first | refine blk_drewN ?_ _ | refine blk_drew ?_ | refine blk_alloc ?_ _)); exact BK159.out), (by repeat (first | (with_reducible first | exact HB.out | apply below_alloc | apply pw_below_drewN | apply below_drew1 | refine below_set ?_ GE159.out) | exact HB.out)), z_HO162, fun _ => (by (with_reducible repeat (first | apply Kd.R_alloc | apply Kd.R_drewN | apply Kd.R_drew)); exact HO165.out), Q_X2_⟩
          refine steps_cons ?_ ?_
          · rintro b a w' ⟨v161, v164, m2_, ha, Q_BK159, Q_HB, Q_HO162, Q_HO165, Q_X2_⟩ hb_ hon hoff
            refine ⟨_, rfl, fun K hK => ?_⟩
            have e6 : a.tmps[6]? = some (.agg #[.int .i64 1, .int .i64 2, .int .i64 1]) := by rw [ha]; exact putSel_on (e := (0, 6, .agg #[.int .i64 1, .int .i64 2, .int .i64 1])) 0 rfl rfl (hon 0 (by kernel_rfl)) rfl
            have e8 : a.tmps[8]? = some (m2_) := by rw [ha]; exact putSel_on (e := (2, 8, m2_)) 2 rfl rfl (hon 2 (by kernel_rfl)) rfl
            rw [Q_X2_ (hon 2 (by kernel_rfl))] at e8
            have e9 : a.tmps[9]? = some (v164) := by rw [ha]; exact putSel_on (e := (3, 9, v164)) 3 rfl rfl (hon 3 (by kernel_rfl)) rfl
            replace ha := Aside0.mk ha
            have BK159 := Aside0.mk Q_BK159
            have HB := Aside0.mk Q_HB
            have HO162 := Aside0.mk (Q_HO162 (hon 2 (by kernel_rfl)))
            have HO165 := Aside0.mk (Q_HO165 (hon 3 (by kernel_rfl)))
            obtain ⟨Ao16, co16, eo16⟩ := Kd.S_slice HO162.out
            (first | subst eo16 | (injection eo16 with f1_ f2_ f3_; have f4_ := f1_.symm; have f5_ := f3_.symm; clear f1_ f2_ f3_; subst f4_; subst f5_))
            obtain ⟨Ao17, co17, eo17⟩ := Kd.R_slice HO165.out
            (first | subst eo17 | (injection eo17 with f1_ f2_ f3_; have f4_ := f1_.symm; have f5_ := f3_.symm; clear f1_ f2_ f3_; subst f4_; subst f5_))
            refine goes_ Try.func14 (by kernel_rfl) rfl #[.agg #[.int .i64 1, .int .i64 2, .int .i64 1], .agg #[.slice Ao16 t160.length co16], .slice Ao17 y163.length co17] (by rfl) rfl rfl (by first | (simp only [List.map_toArray, List.map_cons, List.map_nil, Act.eval, Array.getD_eq_getD_getElem?, Option.getD_some, e6, e8, e9]; done) | (simp only [List.map_toArray, List.map_cons, List.map_nil, Act.eval, Array.getD_eq_getD_getElem?, Option.getD_some, e6, e8, e9]; rfl)) ?_
            with_reducible refine (cache_Misses.calls 1 2 1 _ _ t160 _ _ y163 t166 t167 _ ?side1 ?side2 ?side3 ?side4 A2.out).mono ?_
            (case side1 => repeat (first | exact (Kd.S_reads' HO162.out).2.2 | (with_reducible refine Kd.C_alloc ?_ _) | (with_reducible refine Kd.C_drewN ?_ _) | (with_reducible refine Kd.C_drew ?_)))
            (case side2 => exact (Kd.S_reads' HO162.out).2.1)
            (case side3 => repeat (first | exact (Kd.R_reads' HO165.out).2.2 | (with_reducible refine Kd.C_alloc ?_ _) | (with_reducible refine Kd.C_drewN ?_ _) | (with_reducible refine Kd.C_drew ?_)))
            (case side4 => exact (Kd.R_reads' HO165.out).2.1)
            rintro e w18 ⟨rfl, hb⟩
            refine ⟨_, rfl, ?_⟩
            have n0_ := Aside0.mk (Kd.S_below (by (with_reducible repeat (first | apply Kd.S_alloc | apply Kd.S_drewN | apply Kd.S_drew)); exact HO162.out) hb)
            have n1_ := Aside0.mk (Kd.R_below (by (with_reducible repeat (first | apply Kd.R_alloc | apply Kd.R_drewN | apply Kd.R_drew)); exact HO165.out) hb)
            have n2_ := bkb BK159 hb
            have n3_ := blw HB hb
            clear HO162
            clear HO165
            clear BK159
            clear HB
            have HO162 := n0_
            have HO165 := n1_
            have BK159 := n2_
            have HB := n3_
            clear n0_ n1_ n2_ n3_
            (try clear hb)
            (try clear hb2)
            (try clear hk)
            (try clear hi)
            refine hK.out _ _ ⟨.slice Ao16 t160.length co16, .slice Ao17 y163.length co17, m2_, (by rw [ha.out]; exact putSel_upk 4 hb_ rfl rfl rfl), (by (with_reducible repeat (first | refine blk_drewN ?_ _ | refine blk_drew ?_ | refine blk_alloc ?_ _)); exact BK159.out), (by repeat (first | (with_reducible first | exact HB.out | apply below_alloc | apply pw_below_drewN | apply below_drew1 | refine below_set ?_ GE159.out) | exact HB.out)), fun _ => (by (with_reducible repeat (first | apply Kd.S_alloc | apply Kd.S_drewN | apply Kd.S_drew)); exact HO162.out), fun _ => (by (with_reducible repeat (first | apply Kd.R_alloc | apply Kd.R_drewN | apply Kd.R_drew)); exact HO165.out), Q_X2_⟩
          refine steps_cons ?_ ?_
          · rintro b a w' ⟨v161, v164, m2_, ha, Q_BK159, Q_HB, Q_HO162, Q_HO165, Q_X2_⟩ hb_ hon hoff
            refine ⟨_, rfl, fun K hK => ?_⟩
            have e10 : a.tmps[10]? = some (.tuple #[.int .i64 t166, .int .i64 t167]) := by rw [ha]; exact putSel_on (e := (4, 10, .tuple #[.int .i64 t166, .int .i64 t167])) 4 rfl rfl (hon 4 (by kernel_rfl)) rfl
            replace ha := Aside0.mk ha
            have BK159 := Aside0.mk Q_BK159
            have HB := Aside0.mk Q_HB
            have HO162 := Aside0.mk (Q_HO162 (hon 2 (by kernel_rfl)))
            have HO165 := Aside0.mk (Q_HO165 (hon 3 (by kernel_rfl)))
            refine value_ (w1 := w') (v := .tuple #[.int .i64 t166, .int .i64 t167]) (by rfl) rfl ?_ ?_
            · go_simp
              (try simp only [i64_w])
              try rfl
            refine hK.out _ _ ⟨v161, v164, m2_, (by rw [ha.out]; exact putSel_upk 5 hb_ rfl rfl rfl), Q_BK159, Q_HB, Q_HO162, Q_HO165, Q_X2_⟩
          refine steps_cons ?_ ?_
          · rintro b a w' ⟨v161, v164, m2_, ha, Q_BK159, Q_HB, Q_HO162, Q_HO165, Q_X2_⟩ hb_ hon hoff
            refine ⟨_, rfl, fun K hK => ?_⟩
            have e5 : a.tmps[5]? = some (.tuple #[.int .i64 t166, .int .i64 t167]) := by rw [ha]; exact putSel_on (e := (5, 5, .tuple #[.int .i64 t166, .int .i64 t167])) 5 rfl rfl (hon 5 (by kernel_rfl)) rfl
            replace ha := Aside0.mk ha
            have BK159 := Aside0.mk Q_BK159
            have HB := Aside0.mk Q_HB
            have HO162 := Aside0.mk (Q_HO162 (hon 2 (by kernel_rfl)))
            have HO165 := Aside0.mk (Q_HO165 (hon 3 (by kernel_rfl)))
            refine value_ (w1 := w') (v := .int .i64 t166) (by rfl) rfl ?_ ?_
            · go_simp
              (try simp only [i64_w])
              try rfl
            refine hK.out _ _ ⟨v161, v164, m2_, (by rw [ha.out]; exact putSel_upk 6 hb_ rfl rfl rfl), Q_BK159, Q_HB, Q_HO162, Q_HO165, Q_X2_⟩
          refine steps_cons ?_ ?_
          · rintro b a w' ⟨v161, v164, m2_, ha, Q_BK159, Q_HB, Q_HO162, Q_HO165, Q_X2_⟩ hb_ hon hoff
            refine ⟨_, rfl, fun K hK => ?_⟩
            have e5 : a.tmps[5]? = some (.tuple #[.int .i64 t166, .int .i64 t167]) := by rw [ha]; exact putSel_on (e := (5, 5, .tuple #[.int .i64 t166, .int .i64 t167])) 5 rfl rfl (hon 5 (by kernel_rfl)) rfl
            replace ha := Aside0.mk ha
            have BK159 := Aside0.mk Q_BK159
            have HB := Aside0.mk Q_HB
            have HO162 := Aside0.mk (Q_HO162 (hon 2 (by kernel_rfl)))
            have HO165 := Aside0.mk (Q_HO165 (hon 3 (by kernel_rfl)))
            refine value_ (w1 := w') (v := .int .i64 t167) (by rfl) rfl ?_ ?_
            · go_simp
              (try simp only [i64_w])
              try rfl
            refine hK.out _ _ ⟨v161, v164, m2_, (by rw [ha.out]; exact putSel_upk 7 hb_ rfl rfl rfl), Q_BK159, Q_HB, Q_HO162, Q_HO165, Q_X2_⟩
          refine steps_cons ?_ ?_
          · rintro b a w' ⟨v161, v164, m2_, ha, Q_BK159, Q_HB, Q_HO162, Q_HO165, Q_X2_⟩ hb_ hon hoff
            refine ⟨_, rfl, fun K hK => ?_⟩
            have e11 : a.tmps[11]? = some (.int .i64 t166) := by rw [ha]; exact putSel_on (e := (6, 11, .int .i64 t166)) 6 rfl rfl (hon 6 (by kernel_rfl)) rfl
            replace ha := Aside0.mk ha
            have BK159 := Aside0.mk Q_BK159
            have HB := Aside0.mk Q_HB
            have HO162 := Aside0.mk (Q_HO162 (hon 2 (by kernel_rfl)))
            have HO165 := Aside0.mk (Q_HO165 (hon 3 (by kernel_rfl)))
            refine value_ (w1 := w') (v := .int .i64 t166) (by rfl) rfl ?_ ?_
            · go_simp
              (try simp only [i64_w])
              try rfl
            refine hK.out _ _ ⟨v161, v164, m2_, (by rw [ha.out]; exact putSel_upk 8 hb_ rfl rfl rfl), Q_BK159, Q_HB, Q_HO162, Q_HO165, Q_X2_⟩
          refine steps_cons ?_ ?_
          · rintro b a w' ⟨v161, v164, m2_, ha, Q_BK159, Q_HB, Q_HO162, Q_HO165, Q_X2_⟩ hb_ hon hoff
            refine ⟨_, rfl, fun K hK => ?_⟩
            have e12 : a.tmps[12]? = some (.int .i64 t167) := by rw [ha]; exact putSel_on (e := (7, 12, .int .i64 t167)) 7 rfl rfl (hon 7 (by kernel_rfl)) rfl
            replace ha := Aside0.mk ha
            have BK159 := Aside0.mk Q_BK159
            have HB := Aside0.mk Q_HB
            have HO162 := Aside0.mk (Q_HO162 (hon 2 (by kernel_rfl)))
            have HO165 := Aside0.mk (Q_HO165 (hon 3 (by kernel_rfl)))
            refine value_ (w1 := w') (v := .int .i64 t167) (by rfl) rfl ?_ ?_
            · go_simp
              (try simp only [i64_w])
              try rfl
            refine hK.out _ _ ⟨v161, v164, m2_, (by rw [ha.out]; exact putSel_upk 9 hb_ rfl rfl rfl), Q_BK159, Q_HB, Q_HO162, Q_HO165, Q_X2_⟩
          exact steps_nil
        rintro b a w18 hall ⟨v161, v164, m2_, ha, Q_BK159, Q_HB, Q_HO162, Q_HO165, Q_X2_⟩
        clear BK159 HB
        have hb0_ := hall 0 (by kernel_rfl)
        have hb1_ := hall 1 (by kernel_rfl)
        have hb2_ := hall 2 (by kernel_rfl)
        have hb3_ := hall 3 (by kernel_rfl)
        have hb4_ := hall 4 (by kernel_rfl)
        have hb5_ := hall 5 (by kernel_rfl)
        have hb6_ := hall 6 (by kernel_rfl)
        have hb7_ := hall 7 (by kernel_rfl)
        have hb8_ := hall 8 (by kernel_rfl)
        have hb9_ := hall 9 (by kernel_rfl)
        subst ha
        obtain rfl := Q_X2_ hb2_
        simp only [putSel, hb0_, hb1_, hb2_, hb3_, hb4_, hb5_, hb6_, hb7_, hb8_, hb9_, if_true, Act.put, List.setIfInBounds_toArray, List.set_cons_zero, List.set_cons_succ]
        have BK159 := Aside0.mk Q_BK159
        clear Q_BK159
        have HB := Aside0.mk Q_HB
        clear Q_HB
        have HO162 := Aside0.mk (Q_HO162 hb2_)
        clear Q_HO162
        have HO165 := Aside0.mk (Q_HO165 hb3_)
        clear Q_HO165
        clear hall hb0_ hb1_ hb2_ hb3_ hb4_ hb5_ hb6_ hb7_ hb8_ hb9_
        try go_wp2_with (first | (go_at_call 20; (with_reducible refine (cache_Line.calls 2 1 4 9 t168 _ A5.out).mono ?_); rintro e w19 ⟨rfl, hb⟩; replace HO162 := Aside0.mk (Kd.S_below (by (with_reducible repeat (first | apply Kd.S_alloc | apply Kd.S_drewN | apply Kd.S_drew)); exact HO162.out) hb); replace HO165 := Aside0.mk (Kd.R_below (by (with_reducible repeat (first | apply Kd.R_alloc | apply Kd.R_drewN | apply Kd.R_drew)); exact HO165.out) hb); replace BK159 := bkb BK159 hb; replace HB := blw HB hb; (try clear hb); (try clear hb2); (try clear hk); (try clear hi); have hcz20_0 : w19.cell? ⟨gb159, 0, none⟩ = some (.int .i64 1) := (blk_cell BK159.out 0).trans rfl; have hcz20_1 : w19.cell? ⟨gb159, 1, none⟩ = some (.int .i64 2) := (blk_cell BK159.out 1).trans rfl; have hcz20_2 : w19.cell? ⟨gb159, 2, none⟩ = some (.int .i64 1) := (blk_cell BK159.out 2).trans rfl; have hfz20_0 := blk_frozen BK159.out 0; have hfz20_1 := blk_frozen BK159.out 1; have hfz20_2 := blk_frozen BK159.out 2) | (go_at_call 21; (with_reducible refine (cache_Set.calls 1 2 1 7 t169 _ A7.out).mono ?_); rintro e w21 ⟨rfl, hb⟩; replace HO162 := Aside0.mk (Kd.S_below (by (with_reducible repeat (first | apply Kd.S_alloc | apply Kd.S_drewN | apply Kd.S_drew)); exact HO162.out) hb); replace HO165 := Aside0.mk (Kd.R_below (by (with_reducible repeat (first | apply Kd.R_alloc | apply Kd.R_drewN | apply Kd.R_drew)); exact HO165.out) hb); replace BK159 := bkb BK159 hb; replace HB := blw HB hb; (try clear hb); (try clear hb2); (try clear hk); (try clear hi)))
        go_ret
        exact ⟨by first | rfl | (simp [errW_none, errW_some] <;> rfl) | (simp [*, errW_none, errW_some] <;> rfl), by repeat (first | (with_reducible first | exact HB.out | apply below_alloc | apply pw_below_drewN | apply below_drew1 | refine below_set ?_ GE159.out) | exact HB.out)⟩
      · rw [if_neg c6] at H
        have c6b0 : (t168 == 2) = false := beq_eq_false_iff_ne.mpr c6
        have c6b1 : (t168 != 2) = true := bne_iff_ne.mpr c6
        obtain rfl := Option.some.inj H
        go_enter Try.func10, Try.ntmps10
        try go_wp2_with (first | ((with_reducible refine gate_dst (N := 1) rfl ?_); refine box_event ?hg (N := 1) ?hd (cs := #[.int .i64 0, .int .i64 0, .int .i64 0]) (t := 29) ?hr ?_; (case hd => rfl); (case hg => rfl); (case hr => first | (go_simp; done) | (go_simp; rfl)); intro gb159 hg w22 hbox hb; have BK159 := Aside0.mk (hbox); have GW159 := gww hg HB; have GE159 := gww hg HB; replace HB := blw HB hb; clear hb hbox hg; have hcz23_0 : w22.cell? ⟨gb159, 0, none⟩ = some (.int .i64 0) := (blk_cell BK159.out 0).trans rfl; have hcz23_1 : w22.cell? ⟨gb159, 1, none⟩ = some (.int .i64 0) := (blk_cell BK159.out 1).trans rfl; have hcz23_2 : w22.cell? ⟨gb159, 2, none⟩ = some (.int .i64 0) := (blk_cell BK159.out 2).trans rfl; have hfz23_0 := blk_frozen BK159.out 0; have hfz23_1 := blk_frozen BK159.out 1; have hfz23_2 := blk_frozen BK159.out 2))
        have n0_ : Aside0 ((((w22.setCell ⟨gb159, 0, none⟩ (.int .i64 1)).setCell ⟨gb159, 1, none⟩ (.int .i64 2)).setCell ⟨gb159, 2, none⟩ (.int .i64 1)).heap[gb159]? = some (.cells #[.int .i64 1, .int .i64 2, .int .i64 1] 29 (0, 0))) := ⟨by (with_reducible repeat (first | refine blk_drewN ?_ _ | refine blk_drew ?_ | refine blk_alloc ?_ _)); refine blk_put (cs := #[.int .i64 1, .int .i64 2, .int .i64 0]) ?_ 2 _ rfl; (with_reducible repeat (first | refine blk_drewN ?_ _ | refine blk_drew ?_ | refine blk_alloc ?_ _)); refine blk_put (cs := #[.int .i64 1, .int .i64 0, .int .i64 0]) ?_ 1 _ rfl; (with_reducible repeat (first | refine blk_drewN ?_ _ | refine blk_drew ?_ | refine blk_alloc ?_ _)); refine blk_put (cs := #[.int .i64 0, .int .i64 0, .int .i64 0]) ?_ 0 _ rfl; (with_reducible repeat (first | refine blk_drewN ?_ _ | refine blk_drew ?_ | refine blk_alloc ?_ _)); exact BK159.out⟩
        have n1_ : Aside0 (Below w.heap.size w (((w22.setCell ⟨gb159, 0, none⟩ (.int .i64 1)).setCell ⟨gb159, 1, none⟩ (.int .i64 2)).setCell ⟨gb159, 2, none⟩ (.int .i64 1))) := ⟨by repeat (first | (with_reducible first | exact HB.out | apply below_alloc | apply pw_below_drewN | apply below_drew1 | refine below_set ?_ GE159.out) | exact HB.out)⟩
        (try clear BK159)
        (try clear HB)
        generalize (((w22.setCell ⟨gb159, 0, none⟩ (.int .i64 1)).setCell ⟨gb159, 1, none⟩ (.int .i64 2)).setCell ⟨gb159, 2, none⟩ (.int .i64 1)) = w24 at n0_ n1_ ⊢
        have BK159 := n0_
        have HB := n1_
        clear n0_ n1_
        have n0_ := Aside0.mk (blk_drew BK159.out)
        have n1_ := Aside0.mk (below_drew1 HB.out)
        clear BK159
        clear HB
        have BK159 := n0_
        have HB := n1_
        clear n0_ n1_
        refine start_ (n := 10) (S := fun w' => True) (ds := []) #[false, false, false, false, false, false, false, false, false, false] (by kernel_rfl) rfl rfl trivial (fun hHeld => ?_); refine with_tabW timeboundlaw22_awake.tab2 timeboundlaw22_awake.bits2 (fun HT_ HW_ => ?_)
        generalize w24.drew = w25 at BK159 HB hHeld ⊢
        refine inv_at [0, 1, 2, 3, 4, 5, 6, 7, 8, 9] (fun a0_ b a w' => ∃ (v161 : Value) (v164 : Value) (m2_ : Value), a = putSel a0_ b [(0, 6, .agg #[.int .i64 1, .int .i64 2, .int .i64 1]), (1, 7, .agg #[.int .i64 1, .int .i64 2, .int .i64 1]), (2, 8, m2_), (3, 9, v164), (4, 10, .tuple #[.int .i64 t166, .int .i64 t167]), (5, 5, .tuple #[.int .i64 t166, .int .i64 t167]), (6, 11, .int .i64 t166), (7, 12, .int .i64 t167), (8, 2, .int .i64 t166), (9, 3, .int .i64 t167)] ∧ (w'.heap[gb159]? = some (.cells #[.int .i64 1, .int .i64 2, .int .i64 1] 29 (0, 0))) ∧ (Below w.heap.size w w') ∧ (b 2 = true → Kd.S (Kd.slice 3 (Kd.int .i64)) 22 w' w.heap.size (fun _ => True) v161 t160) ∧ (b 3 = true → Kd.R (Kd.int .i64) 3 w' w.heap.size (fun _ => True) v164 y163) ∧ (b 2 = true → (m2_ : Value) = .agg #[v161])) HT_.out HW_.out (by kernel_rfl) (by kernel_rfl) ?_ ?_ ?_
        · exact ⟨.bool false, .bool false, .bool false, by simp only [putSel, Bool.false_eq_true, if_false], BK159.out, HB.out, fun h_ => absurd h_ (by decide), fun h_ => absurd h_ (by decide), fun h_ => absurd h_ (by decide)⟩
        · skip
          clear BK159 HB
          refine steps_cons ?_ ?_
          · rintro b a w' ⟨v161, v164, m2_, ha, Q_BK159, Q_HB, Q_HO162, Q_HO165, Q_X2_⟩ hb_ hon hoff
            refine ⟨_, rfl, fun K hK => ?_⟩
            have e1 : a.tmps[1]? = some (.pointer (some ⟨gb159, 0, none⟩)) := by rw [ha]; exact (putSel_off rfl).trans rfl
            replace ha := Aside0.mk ha
            have BK159 := Aside0.mk Q_BK159
            have HB := Aside0.mk Q_HB
            have hc0_ : w'.cell? ⟨gb159, 0, none⟩ = some (.int .i64 1) := (blk_cell BK159.out 0).trans rfl
            have hc1_ : w'.cell? ⟨gb159, 1, none⟩ = some (.int .i64 2) := (blk_cell BK159.out 1).trans rfl
            have hc2_ : w'.cell? ⟨gb159, 2, none⟩ = some (.int .i64 1) := (blk_cell BK159.out 2).trans rfl
            refine value_ (w1 := w') (v := .agg #[.int .i64 1, .int .i64 2, .int .i64 1]) (by rfl) rfl ?_ ?_
            · go_simp
              (try simp only [i64_w])
              try rfl
            refine hK.out _ _ ⟨v161, v164, m2_, (by rw [ha.out]; exact putSel_upk 0 hb_ rfl rfl rfl), Q_BK159, Q_HB, Q_HO162, Q_HO165, Q_X2_⟩
          refine steps_cons ?_ ?_
          · rintro b a w' ⟨v161, v164, m2_, ha, Q_BK159, Q_HB, Q_HO162, Q_HO165, Q_X2_⟩ hb_ hon hoff
            refine ⟨_, rfl, fun K hK => ?_⟩
            have e1 : a.tmps[1]? = some (.pointer (some ⟨gb159, 0, none⟩)) := by rw [ha]; exact (putSel_off rfl).trans rfl
            replace ha := Aside0.mk ha
            have BK159 := Aside0.mk Q_BK159
            have HB := Aside0.mk Q_HB
            have hc0_ : w'.cell? ⟨gb159, 0, none⟩ = some (.int .i64 1) := (blk_cell BK159.out 0).trans rfl
            have hc1_ : w'.cell? ⟨gb159, 1, none⟩ = some (.int .i64 2) := (blk_cell BK159.out 1).trans rfl
            have hc2_ : w'.cell? ⟨gb159, 2, none⟩ = some (.int .i64 1) := (blk_cell BK159.out 2).trans rfl
            refine value_ (w1 := w') (v := .agg #[.int .i64 1, .int .i64 2, .int .i64 1]) (by rfl) rfl ?_ ?_
            · go_simp
              (try simp only [i64_w])
              try rfl
            refine hK.out _ _ ⟨v161, v164, m2_, (by rw [ha.out]; exact putSel_upk 1 hb_ rfl rfl rfl), Q_BK159, Q_HB, fun h0_ => absurd ((hoff 2 (by kernel_rfl)).symm.trans h0_) (by decide), Q_HO165, fun h0_ => absurd ((hoff 2 (by kernel_rfl)).symm.trans h0_) (by decide)⟩
          refine steps_cons ?_ ?_
          · rintro b a w' ⟨v161, v164, m2_, ha, Q_BK159, Q_HB, Q_HO162, Q_HO165, Q_X2_⟩ hb_ hon hoff
            refine ⟨_, rfl, fun K hK => ?_⟩
            have e7 : a.tmps[7]? = some (.agg #[.int .i64 1, .int .i64 2, .int .i64 1]) := by rw [ha]; exact putSel_on (e := (1, 7, .agg #[.int .i64 1, .int .i64 2, .int .i64 1])) 1 rfl rfl (hon 1 (by kernel_rfl)) rfl
            replace ha := Aside0.mk ha
            have BK159 := Aside0.mk Q_BK159
            have HB := Aside0.mk Q_HB
            refine goes_ Try.func19 (by kernel_rfl) rfl #[.agg #[.int .i64 1, .int .i64 2, .int .i64 1]] (by rfl) rfl rfl (by first | (simp only [List.map_toArray, List.map_cons, List.map_nil, Act.eval, Array.getD_eq_getD_getElem?, Option.getD_some, e7]; done) | (simp only [List.map_toArray, List.map_cons, List.map_nil, Act.eval, Array.getD_eq_getD_getElem?, Option.getD_some, e7]; rfl)) ?_
            with_reducible refine (cache_Empty.calls k 1 2 1 t160 _ A1.out).mono ?_
            rintro e w26 ⟨v161, rfl, ho0, hb⟩
            refine ⟨_, rfl, ?_⟩
            have n0_ := Aside0.mk (Kd.S_lower ho0 (below_size (by repeat (first | (with_reducible first | exact HB.out | apply below_alloc | apply pw_below_drewN | apply below_drew1 | refine below_set ?_ GE159.out) | exact HB.out))))
            have n1_ := bkb BK159 hb
            have n2_ := blw HB hb
            have z_HO165 := fun (h0_ : b 3 = true) => (show Kd.R (Kd.int .i64) 3 w26 w.heap.size (fun _ => True) v164 y163 from by first | exact (Kd.R_below (by (with_reducible repeat (first | apply Kd.R_alloc | apply Kd.R_drewN | apply Kd.R_drew)); exact (Q_HO165 h0_)) hb) | exact Kd.R_mono (Kd.R_below (by (with_reducible repeat (first | apply Kd.R_alloc | apply Kd.R_drewN | apply Kd.R_drew)); exact (Q_HO165 h0_)) hb) (fun _ h_ => by first | trivial | exact h_ | exact h_.1))
            clear BK159
            clear HB
            have HO162 := n0_
            have BK159 := n1_
            have HB := n2_
            clear n0_ n1_ n2_
            (try clear hb)
            (try clear hb2)
            (try clear hk)
            (try clear hi)
            (try clear ho0)
            refine hK.out _ _ ⟨v161, v164, (.agg #[v161]), (by rw [ha.out]; exact putSel_upk 2 hb_ rfl rfl rfl), (by (with_reducible repeat (first | refine blk_drewN ?_ _ | refine blk_drew ?_ | refine blk_alloc ?_ _)); exact BK159.out), (by repeat (first | (with_reducible first | exact HB.out | apply below_alloc | apply pw_below_drewN | apply below_drew1 | refine below_set ?_ GE159.out) | exact HB.out)), fun _ => (by (with_reducible repeat (first | apply Kd.S_alloc | apply Kd.S_drewN | apply Kd.S_drew)); exact HO162.out), z_HO165, fun _ => rfl⟩
          refine steps_cons ?_ ?_
          · rintro b a w' ⟨v161, v164, m2_, ha, Q_BK159, Q_HB, Q_HO162, Q_HO165, Q_X2_⟩ hb_ hon hoff
            refine ⟨_, rfl, fun K hK => ?_⟩
            replace ha := Aside0.mk ha
            have BK159 := Aside0.mk Q_BK159
            have HB := Aside0.mk Q_HB
            refine Kd.R_lit_step (Kd.int .i64) _ 3 ?hg (N := 9) ?hd (xs := ([1, 2, 1, 3, 2] : List Int)) (inner := [.int .i64 1, .int .i64 2, .int .i64 1, .int .i64 3, .int .i64 2]) (ok := fun _ => True) (okp := fun _ => True) ?hr ?hp (fun _ hk => hk) trivial (Below.refl _ _) (Nat.le_refl _) (by simp) ?_; (case hd => rfl); (case hg => rfl); (case hr => first | (go_simp; done) | (go_simp; rfl)); (case hp => exact (Reps.one (show Kd.M (Kd.int .i64) _ _ _ 1 [.int .i64 1] from rfl) (Reps.one (show Kd.M (Kd.int .i64) _ _ _ 2 [.int .i64 2] from rfl) (Reps.one (show Kd.M (Kd.int .i64) _ _ _ 1 [.int .i64 1] from rfl) (Reps.one (show Kd.M (Kd.int .i64) _ _ _ 3 [.int .i64 3] from rfl) (Reps.one (show Kd.M (Kd.int .i64) _ _ _ 2 [.int .i64 2] from rfl) (Reps.none _ _)))))))
            intro v164 w26 ho27 hb hg_ hnew_
            clear hg_ hnew_
            (first | rw [← Ny163.out] at ho27 | (simp only [Int.reduceToNat] at ho27; rw [← Ny163.out] at ho27))
            have n0_ := Aside0.mk (Kd.R_lower ho27 (below_size (by repeat (first | (with_reducible first | exact HB.out | apply below_alloc | apply pw_below_drewN | apply below_drew1 | refine below_set ?_ GE159.out) | exact HB.out))))
            have n1_ := bkb BK159 hb
            have n2_ := blw HB hb
            have z_HO162 := fun (h0_ : b 2 = true) => (show Kd.S (Kd.slice 3 (Kd.int .i64)) 22 w26 w.heap.size (fun _ => True) v161 t160 from by first | exact (Kd.S_elder' (by (with_reducible repeat (first | apply Kd.S_alloc | apply Kd.S_drewN | apply Kd.S_drew)); exact (Q_HO162 h0_)) (Kd.R_base ho27) hb) | exact Kd.S_mono (Kd.S_elder' (by (with_reducible repeat (first | apply Kd.S_alloc | apply Kd.S_drewN | apply Kd.S_drew)); exact (Q_HO162 h0_)) (Kd.R_base ho27) hb) (fun _ h_ => by first | trivial | exact h_ | exact h_.1))
            clear BK159
            clear HB
            have HO165 := n0_
            have BK159 := n1_
            have HB := n2_
            clear n0_ n1_ n2_
            clear hb ho27
            refine hK.out _ _ ⟨v161, v164, m2_, (by rw [ha.out]; exact putSel_upk 3 hb_ rfl rfl rfl), (by (with_reducible repeat (first | refine blk_drewN ?_ _ | refine blk_drew ?_ | refine blk_alloc ?_ _)); exact BK159.out), (by repeat (first | (with_reducible first | exact HB.out | apply below_alloc | apply pw_below_drewN | apply below_drew1 | refine below_set ?_ GE159.out) | exact HB.out)), z_HO162, fun _ => (by (with_reducible repeat (first | apply Kd.R_alloc | apply Kd.R_drewN | apply Kd.R_drew)); exact HO165.out), Q_X2_⟩
          refine steps_cons ?_ ?_
          · rintro b a w' ⟨v161, v164, m2_, ha, Q_BK159, Q_HB, Q_HO162, Q_HO165, Q_X2_⟩ hb_ hon hoff
            refine ⟨_, rfl, fun K hK => ?_⟩
            have e6 : a.tmps[6]? = some (.agg #[.int .i64 1, .int .i64 2, .int .i64 1]) := by rw [ha]; exact putSel_on (e := (0, 6, .agg #[.int .i64 1, .int .i64 2, .int .i64 1])) 0 rfl rfl (hon 0 (by kernel_rfl)) rfl
            have e8 : a.tmps[8]? = some (m2_) := by rw [ha]; exact putSel_on (e := (2, 8, m2_)) 2 rfl rfl (hon 2 (by kernel_rfl)) rfl
            rw [Q_X2_ (hon 2 (by kernel_rfl))] at e8
            have e9 : a.tmps[9]? = some (v164) := by rw [ha]; exact putSel_on (e := (3, 9, v164)) 3 rfl rfl (hon 3 (by kernel_rfl)) rfl
            replace ha := Aside0.mk ha
            have BK159 := Aside0.mk Q_BK159
            have HB := Aside0.mk Q_HB
            have HO162 := Aside0.mk (Q_HO162 (hon 2 (by kernel_rfl)))
            have HO165 := Aside0.mk (Q_HO165 (hon 3 (by kernel_rfl)))
            obtain ⟨Ao30, co30, eo30⟩ := Kd.S_slice HO162.out
            (first | subst eo30 | (injection eo30 with f1_ f2_ f3_; have f4_ := f1_.symm; have f5_ := f3_.symm; clear f1_ f2_ f3_; subst f4_; subst f5_))
            obtain ⟨Ao31, co31, eo31⟩ := Kd.R_slice HO165.out
            (first | subst eo31 | (injection eo31 with f1_ f2_ f3_; have f4_ := f1_.symm; have f5_ := f3_.symm; clear f1_ f2_ f3_; subst f4_; subst f5_))
            refine goes_ Try.func14 (by kernel_rfl) rfl #[.agg #[.int .i64 1, .int .i64 2, .int .i64 1], .agg #[.slice Ao30 t160.length co30], .slice Ao31 y163.length co31] (by rfl) rfl rfl (by first | (simp only [List.map_toArray, List.map_cons, List.map_nil, Act.eval, Array.getD_eq_getD_getElem?, Option.getD_some, e6, e8, e9]; done) | (simp only [List.map_toArray, List.map_cons, List.map_nil, Act.eval, Array.getD_eq_getD_getElem?, Option.getD_some, e6, e8, e9]; rfl)) ?_
            with_reducible refine (cache_Misses.calls 1 2 1 _ _ t160 _ _ y163 t166 t167 _ ?side1 ?side2 ?side3 ?side4 A2.out).mono ?_
            (case side1 => repeat (first | exact (Kd.S_reads' HO162.out).2.2 | (with_reducible refine Kd.C_alloc ?_ _) | (with_reducible refine Kd.C_drewN ?_ _) | (with_reducible refine Kd.C_drew ?_)))
            (case side2 => exact (Kd.S_reads' HO162.out).2.1)
            (case side3 => repeat (first | exact (Kd.R_reads' HO165.out).2.2 | (with_reducible refine Kd.C_alloc ?_ _) | (with_reducible refine Kd.C_drewN ?_ _) | (with_reducible refine Kd.C_drew ?_)))
            (case side4 => exact (Kd.R_reads' HO165.out).2.1)
            rintro e w32 ⟨rfl, hb⟩
            refine ⟨_, rfl, ?_⟩
            have n0_ := Aside0.mk (Kd.S_below (by (with_reducible repeat (first | apply Kd.S_alloc | apply Kd.S_drewN | apply Kd.S_drew)); exact HO162.out) hb)
            have n1_ := Aside0.mk (Kd.R_below (by (with_reducible repeat (first | apply Kd.R_alloc | apply Kd.R_drewN | apply Kd.R_drew)); exact HO165.out) hb)
            have n2_ := bkb BK159 hb
            have n3_ := blw HB hb
            clear HO162
            clear HO165
            clear BK159
            clear HB
            have HO162 := n0_
            have HO165 := n1_
            have BK159 := n2_
            have HB := n3_
            clear n0_ n1_ n2_ n3_
            (try clear hb)
            (try clear hb2)
            (try clear hk)
            (try clear hi)
            refine hK.out _ _ ⟨.slice Ao30 t160.length co30, .slice Ao31 y163.length co31, m2_, (by rw [ha.out]; exact putSel_upk 4 hb_ rfl rfl rfl), (by (with_reducible repeat (first | refine blk_drewN ?_ _ | refine blk_drew ?_ | refine blk_alloc ?_ _)); exact BK159.out), (by repeat (first | (with_reducible first | exact HB.out | apply below_alloc | apply pw_below_drewN | apply below_drew1 | refine below_set ?_ GE159.out) | exact HB.out)), fun _ => (by (with_reducible repeat (first | apply Kd.S_alloc | apply Kd.S_drewN | apply Kd.S_drew)); exact HO162.out), fun _ => (by (with_reducible repeat (first | apply Kd.R_alloc | apply Kd.R_drewN | apply Kd.R_drew)); exact HO165.out), Q_X2_⟩
          refine steps_cons ?_ ?_
          · rintro b a w' ⟨v161, v164, m2_, ha, Q_BK159, Q_HB, Q_HO162, Q_HO165, Q_X2_⟩ hb_ hon hoff
            refine ⟨_, rfl, fun K hK => ?_⟩
            have e10 : a.tmps[10]? = some (.tuple #[.int .i64 t166, .int .i64 t167]) := by rw [ha]; exact putSel_on (e := (4, 10, .tuple #[.int .i64 t166, .int .i64 t167])) 4 rfl rfl (hon 4 (by kernel_rfl)) rfl
            replace ha := Aside0.mk ha
            have BK159 := Aside0.mk Q_BK159
            have HB := Aside0.mk Q_HB
            have HO162 := Aside0.mk (Q_HO162 (hon 2 (by kernel_rfl)))
            have HO165 := Aside0.mk (Q_HO165 (hon 3 (by kernel_rfl)))
            refine value_ (w1 := w') (v := .tuple #[.int .i64 t166, .int .i64 t167]) (by rfl) rfl ?_ ?_
            · go_simp
              (try simp only [i64_w])
              try rfl
            refine hK.out _ _ ⟨v161, v164, m2_, (by rw [ha.out]; exact putSel_upk 5 hb_ rfl rfl rfl), Q_BK159, Q_HB, Q_HO162, Q_HO165, Q_X2_⟩
          refine steps_cons ?_ ?_
          · rintro b a w' ⟨v161, v164, m2_, ha, Q_BK159, Q_HB, Q_HO162, Q_HO165, Q_X2_⟩ hb_ hon hoff
            refine ⟨_, rfl, fun K hK => ?_⟩
            have e5 : a.tmps[5]? = some (.tuple #[.int .i64 t166, .int .i64 t167]) := by rw [ha]; exact putSel_on (e := (5, 5, .tuple #[.int .i64 t166, .int .i64 t167])) 5 rfl rfl (hon 5 (by kernel_rfl)) rfl
            replace ha := Aside0.mk ha
            have BK159 := Aside0.mk Q_BK159
            have HB := Aside0.mk Q_HB
            have HO162 := Aside0.mk (Q_HO162 (hon 2 (by kernel_rfl)))
            have HO165 := Aside0.mk (Q_HO165 (hon 3 (by kernel_rfl)))
            refine value_ (w1 := w') (v := .int .i64 t166) (by rfl) rfl ?_ ?_
            · go_simp
              (try simp only [i64_w])
              try rfl
            refine hK.out _ _ ⟨v161, v164, m2_, (by rw [ha.out]; exact putSel_upk 6 hb_ rfl rfl rfl), Q_BK159, Q_HB, Q_HO162, Q_HO165, Q_X2_⟩
          refine steps_cons ?_ ?_
          · rintro b a w' ⟨v161, v164, m2_, ha, Q_BK159, Q_HB, Q_HO162, Q_HO165, Q_X2_⟩ hb_ hon hoff
            refine ⟨_, rfl, fun K hK => ?_⟩
            have e5 : a.tmps[5]? = some (.tuple #[.int .i64 t166, .int .i64 t167]) := by rw [ha]; exact putSel_on (e := (5, 5, .tuple #[.int .i64 t166, .int .i64 t167])) 5 rfl rfl (hon 5 (by kernel_rfl)) rfl
            replace ha := Aside0.mk ha
            have BK159 := Aside0.mk Q_BK159
            have HB := Aside0.mk Q_HB
            have HO162 := Aside0.mk (Q_HO162 (hon 2 (by kernel_rfl)))
            have HO165 := Aside0.mk (Q_HO165 (hon 3 (by kernel_rfl)))
            refine value_ (w1 := w') (v := .int .i64 t167) (by rfl) rfl ?_ ?_
            · go_simp
              (try simp only [i64_w])
              try rfl
            refine hK.out _ _ ⟨v161, v164, m2_, (by rw [ha.out]; exact putSel_upk 7 hb_ rfl rfl rfl), Q_BK159, Q_HB, Q_HO162, Q_HO165, Q_X2_⟩
          refine steps_cons ?_ ?_
          · rintro b a w' ⟨v161, v164, m2_, ha, Q_BK159, Q_HB, Q_HO162, Q_HO165, Q_X2_⟩ hb_ hon hoff
            refine ⟨_, rfl, fun K hK => ?_⟩
            have e11 : a.tmps[11]? = some (.int .i64 t166) := by rw [ha]; exact putSel_on (e := (6, 11, .int .i64 t166)) 6 rfl rfl (hon 6 (by kernel_rfl)) rfl
            replace ha := Aside0.mk ha
            have BK159 := Aside0.mk Q_BK159
            have HB := Aside0.mk Q_HB
            have HO162 := Aside0.mk (Q_HO162 (hon 2 (by kernel_rfl)))
            have HO165 := Aside0.mk (Q_HO165 (hon 3 (by kernel_rfl)))
            refine value_ (w1 := w') (v := .int .i64 t166) (by rfl) rfl ?_ ?_
            · go_simp
              (try simp only [i64_w])
              try rfl
            refine hK.out _ _ ⟨v161, v164, m2_, (by rw [ha.out]; exact putSel_upk 8 hb_ rfl rfl rfl), Q_BK159, Q_HB, Q_HO162, Q_HO165, Q_X2_⟩
          refine steps_cons ?_ ?_
          · rintro b a w' ⟨v161, v164, m2_, ha, Q_BK159, Q_HB, Q_HO162, Q_HO165, Q_X2_⟩ hb_ hon hoff
            refine ⟨_, rfl, fun K hK => ?_⟩
            have e12 : a.tmps[12]? = some (.int .i64 t167) := by rw [ha]; exact putSel_on (e := (7, 12, .int .i64 t167)) 7 rfl rfl (hon 7 (by kernel_rfl)) rfl
            replace ha := Aside0.mk ha
            have BK159 := Aside0.mk Q_BK159
            have HB := Aside0.mk Q_HB
            have HO162 := Aside0.mk (Q_HO162 (hon 2 (by kernel_rfl)))
            have HO165 := Aside0.mk (Q_HO165 (hon 3 (by kernel_rfl)))
            refine value_ (w1 := w') (v := .int .i64 t167) (by rfl) rfl ?_ ?_
            · go_simp
              (try simp only [i64_w])
              try rfl
            refine hK.out _ _ ⟨v161, v164, m2_, (by rw [ha.out]; exact putSel_upk 9 hb_ rfl rfl rfl), Q_BK159, Q_HB, Q_HO162, Q_HO165, Q_X2_⟩
          exact steps_nil
        rintro b a w32 hall ⟨v161, v164, m2_, ha, Q_BK159, Q_HB, Q_HO162, Q_HO165, Q_X2_⟩
        clear BK159 HB
        have hb0_ := hall 0 (by kernel_rfl)
        have hb1_ := hall 1 (by kernel_rfl)
        have hb2_ := hall 2 (by kernel_rfl)
        have hb3_ := hall 3 (by kernel_rfl)
        have hb4_ := hall 4 (by kernel_rfl)
        have hb5_ := hall 5 (by kernel_rfl)
        have hb6_ := hall 6 (by kernel_rfl)
        have hb7_ := hall 7 (by kernel_rfl)
        have hb8_ := hall 8 (by kernel_rfl)
        have hb9_ := hall 9 (by kernel_rfl)
        subst ha
        obtain rfl := Q_X2_ hb2_
        simp only [putSel, hb0_, hb1_, hb2_, hb3_, hb4_, hb5_, hb6_, hb7_, hb8_, hb9_, if_true, Act.put, List.setIfInBounds_toArray, List.set_cons_zero, List.set_cons_succ]
        have BK159 := Aside0.mk Q_BK159
        clear Q_BK159
        have HB := Aside0.mk Q_HB
        clear Q_HB
        have HO162 := Aside0.mk (Q_HO162 hb2_)
        clear Q_HO162
        have HO165 := Aside0.mk (Q_HO165 hb3_)
        clear Q_HO165
        clear hall hb0_ hb1_ hb2_ hb3_ hb4_ hb5_ hb6_ hb7_ hb8_ hb9_
        try go_wp2_with (first | (go_at_call 20; (with_reducible refine (cache_Line.calls 2 1 4 9 t168 _ A5.out).mono ?_); rintro e w33 ⟨rfl, hb⟩; replace HO162 := Aside0.mk (Kd.S_below (by (with_reducible repeat (first | apply Kd.S_alloc | apply Kd.S_drewN | apply Kd.S_drew)); exact HO162.out) hb); replace HO165 := Aside0.mk (Kd.R_below (by (with_reducible repeat (first | apply Kd.R_alloc | apply Kd.R_drewN | apply Kd.R_drew)); exact HO165.out) hb); replace BK159 := bkb BK159 hb; replace HB := blw HB hb; (try clear hb); (try clear hb2); (try clear hk); (try clear hi)))
        go_ret
        exact ⟨by first | rfl | (simp [errW_none, errW_some] <;> rfl) | (simp [*, errW_none, errW_some] <;> rfl), by repeat (first | (with_reducible first | exact HB.out | apply below_alloc | apply pw_below_drewN | apply below_drew1 | refine below_set ?_ GE159.out) | exact HB.out)⟩
    · rw [if_neg c4] at H
      have c4b0 : (t166 == 4) = false := beq_eq_false_iff_ne.mpr c4
      have c4b1 : (t166 != 4) = true := bne_iff_ne.mpr c4
      obtain rfl := Option.some.inj H
      go_enter Try.func10, Try.ntmps10
      try go_wp2_with (first | ((with_reducible refine gate_dst (N := 1) rfl ?_); refine box_event ?hg (N := 1) ?hd (cs := #[.int .i64 0, .int .i64 0, .int .i64 0]) (t := 29) ?hr ?_; (case hd => rfl); (case hg => rfl); (case hr => first | (go_simp; done) | (go_simp; rfl)); intro gb159 hg w34 hbox hb; have BK159 := Aside0.mk (hbox); have GW159 := gww hg HB; have GE159 := gww hg HB; replace HB := blw HB hb; clear hb hbox hg; have hcz35_0 : w34.cell? ⟨gb159, 0, none⟩ = some (.int .i64 0) := (blk_cell BK159.out 0).trans rfl; have hcz35_1 : w34.cell? ⟨gb159, 1, none⟩ = some (.int .i64 0) := (blk_cell BK159.out 1).trans rfl; have hcz35_2 : w34.cell? ⟨gb159, 2, none⟩ = some (.int .i64 0) := (blk_cell BK159.out 2).trans rfl; have hfz35_0 := blk_frozen BK159.out 0; have hfz35_1 := blk_frozen BK159.out 1; have hfz35_2 := blk_frozen BK159.out 2))
      have n0_ : Aside0 ((((w34.setCell ⟨gb159, 0, none⟩ (.int .i64 1)).setCell ⟨gb159, 1, none⟩ (.int .i64 2)).setCell ⟨gb159, 2, none⟩ (.int .i64 1)).heap[gb159]? = some (.cells #[.int .i64 1, .int .i64 2, .int .i64 1] 29 (0, 0))) := ⟨by (with_reducible repeat (first | refine blk_drewN ?_ _ | refine blk_drew ?_ | refine blk_alloc ?_ _)); refine blk_put (cs := #[.int .i64 1, .int .i64 2, .int .i64 0]) ?_ 2 _ rfl; (with_reducible repeat (first | refine blk_drewN ?_ _ | refine blk_drew ?_ | refine blk_alloc ?_ _)); refine blk_put (cs := #[.int .i64 1, .int .i64 0, .int .i64 0]) ?_ 1 _ rfl; (with_reducible repeat (first | refine blk_drewN ?_ _ | refine blk_drew ?_ | refine blk_alloc ?_ _)); refine blk_put (cs := #[.int .i64 0, .int .i64 0, .int .i64 0]) ?_ 0 _ rfl; (with_reducible repeat (first | refine blk_drewN ?_ _ | refine blk_drew ?_ | refine blk_alloc ?_ _)); exact BK159.out⟩
      have n1_ : Aside0 (Below w.heap.size w (((w34.setCell ⟨gb159, 0, none⟩ (.int .i64 1)).setCell ⟨gb159, 1, none⟩ (.int .i64 2)).setCell ⟨gb159, 2, none⟩ (.int .i64 1))) := ⟨by repeat (first | (with_reducible first | exact HB.out | apply below_alloc | apply pw_below_drewN | apply below_drew1 | refine below_set ?_ GE159.out) | exact HB.out)⟩
      (try clear BK159)
      (try clear HB)
      generalize (((w34.setCell ⟨gb159, 0, none⟩ (.int .i64 1)).setCell ⟨gb159, 1, none⟩ (.int .i64 2)).setCell ⟨gb159, 2, none⟩ (.int .i64 1)) = w36 at n0_ n1_ ⊢
      have BK159 := n0_
      have HB := n1_
      clear n0_ n1_
      have n0_ := Aside0.mk (blk_drew BK159.out)
      have n1_ := Aside0.mk (below_drew1 HB.out)
      clear BK159
      clear HB
      have BK159 := n0_
      have HB := n1_
      clear n0_ n1_
      refine start_ (n := 10) (S := fun w' => True) (ds := []) #[false, false, false, false, false, false, false, false, false, false] (by kernel_rfl) rfl rfl trivial (fun hHeld => ?_); refine with_tabW timeboundlaw22_awake.tab2 timeboundlaw22_awake.bits2 (fun HT_ HW_ => ?_)
      generalize w36.drew = w37 at BK159 HB hHeld ⊢
      refine inv_at [0, 1, 2, 3, 4, 5, 6, 7, 8, 9] (fun a0_ b a w' => ∃ (v161 : Value) (v164 : Value) (m2_ : Value), a = putSel a0_ b [(0, 6, .agg #[.int .i64 1, .int .i64 2, .int .i64 1]), (1, 7, .agg #[.int .i64 1, .int .i64 2, .int .i64 1]), (2, 8, m2_), (3, 9, v164), (4, 10, .tuple #[.int .i64 t166, .int .i64 t167]), (5, 5, .tuple #[.int .i64 t166, .int .i64 t167]), (6, 11, .int .i64 t166), (7, 12, .int .i64 t167), (8, 2, .int .i64 t166), (9, 3, .int .i64 t167)] ∧ (w'.heap[gb159]? = some (.cells #[.int .i64 1, .int .i64 2, .int .i64 1] 29 (0, 0))) ∧ (Below w.heap.size w w') ∧ (b 2 = true → Kd.S (Kd.slice 3 (Kd.int .i64)) 22 w' w.heap.size (fun _ => True) v161 t160) ∧ (b 3 = true → Kd.R (Kd.int .i64) 3 w' w.heap.size (fun _ => True) v164 y163) ∧ (b 2 = true → (m2_ : Value) = .agg #[v161])) HT_.out HW_.out (by kernel_rfl) (by kernel_rfl) ?_ ?_ ?_
      · exact ⟨.bool false, .bool false, .bool false, by simp only [putSel, Bool.false_eq_true, if_false], BK159.out, HB.out, fun h_ => absurd h_ (by decide), fun h_ => absurd h_ (by decide), fun h_ => absurd h_ (by decide)⟩
      · skip
        clear BK159 HB
        refine steps_cons ?_ ?_
        · rintro b a w' ⟨v161, v164, m2_, ha, Q_BK159, Q_HB, Q_HO162, Q_HO165, Q_X2_⟩ hb_ hon hoff
          refine ⟨_, rfl, fun K hK => ?_⟩
          have e1 : a.tmps[1]? = some (.pointer (some ⟨gb159, 0, none⟩)) := by rw [ha]; exact (putSel_off rfl).trans rfl
          replace ha := Aside0.mk ha
          have BK159 := Aside0.mk Q_BK159
          have HB := Aside0.mk Q_HB
          have hc0_ : w'.cell? ⟨gb159, 0, none⟩ = some (.int .i64 1) := (blk_cell BK159.out 0).trans rfl
          have hc1_ : w'.cell? ⟨gb159, 1, none⟩ = some (.int .i64 2) := (blk_cell BK159.out 1).trans rfl
          have hc2_ : w'.cell? ⟨gb159, 2, none⟩ = some (.int .i64 1) := (blk_cell BK159.out 2).trans rfl
          refine value_ (w1 := w') (v := .agg #[.int .i64 1, .int .i64 2, .int .i64 1]) (by rfl) rfl ?_ ?_
          · go_simp
            (try simp only [i64_w])
            try rfl
          refine hK.out _ _ ⟨v161, v164, m2_, (by rw [ha.out]; exact putSel_upk 0 hb_ rfl rfl rfl), Q_BK159, Q_HB, Q_HO162, Q_HO165, Q_X2_⟩
        refine steps_cons ?_ ?_
        · rintro b a w' ⟨v161, v164, m2_, ha, Q_BK159, Q_HB, Q_HO162, Q_HO165, Q_X2_⟩ hb_ hon hoff
          refine ⟨_, rfl, fun K hK => ?_⟩
          have e1 : a.tmps[1]? = some (.pointer (some ⟨gb159, 0, none⟩)) := by rw [ha]; exact (putSel_off rfl).trans rfl
          replace ha := Aside0.mk ha
          have BK159 := Aside0.mk Q_BK159
          have HB := Aside0.mk Q_HB
          have hc0_ : w'.cell? ⟨gb159, 0, none⟩ = some (.int .i64 1) := (blk_cell BK159.out 0).trans rfl
          have hc1_ : w'.cell? ⟨gb159, 1, none⟩ = some (.int .i64 2) := (blk_cell BK159.out 1).trans rfl
          have hc2_ : w'.cell? ⟨gb159, 2, none⟩ = some (.int .i64 1) := (blk_cell BK159.out 2).trans rfl
          refine value_ (w1 := w') (v := .agg #[.int .i64 1, .int .i64 2, .int .i64 1]) (by rfl) rfl ?_ ?_
          · go_simp
            (try simp only [i64_w])
            try rfl
          refine hK.out _ _ ⟨v161, v164, m2_, (by rw [ha.out]; exact putSel_upk 1 hb_ rfl rfl rfl), Q_BK159, Q_HB, fun h0_ => absurd ((hoff 2 (by kernel_rfl)).symm.trans h0_) (by decide), Q_HO165, fun h0_ => absurd ((hoff 2 (by kernel_rfl)).symm.trans h0_) (by decide)⟩
        refine steps_cons ?_ ?_
        · rintro b a w' ⟨v161, v164, m2_, ha, Q_BK159, Q_HB, Q_HO162, Q_HO165, Q_X2_⟩ hb_ hon hoff
          refine ⟨_, rfl, fun K hK => ?_⟩
          have e7 : a.tmps[7]? = some (.agg #[.int .i64 1, .int .i64 2, .int .i64 1]) := by rw [ha]; exact putSel_on (e := (1, 7, .agg #[.int .i64 1, .int .i64 2, .int .i64 1])) 1 rfl rfl (hon 1 (by kernel_rfl)) rfl
          replace ha := Aside0.mk ha
          have BK159 := Aside0.mk Q_BK159
          have HB := Aside0.mk Q_HB
          refine goes_ Try.func19 (by kernel_rfl) rfl #[.agg #[.int .i64 1, .int .i64 2, .int .i64 1]] (by rfl) rfl rfl (by first | (simp only [List.map_toArray, List.map_cons, List.map_nil, Act.eval, Array.getD_eq_getD_getElem?, Option.getD_some, e7]; done) | (simp only [List.map_toArray, List.map_cons, List.map_nil, Act.eval, Array.getD_eq_getD_getElem?, Option.getD_some, e7]; rfl)) ?_
          with_reducible refine (cache_Empty.calls k 1 2 1 t160 _ A1.out).mono ?_
          rintro e w38 ⟨v161, rfl, ho0, hb⟩
          refine ⟨_, rfl, ?_⟩
          have n0_ := Aside0.mk (Kd.S_lower ho0 (below_size (by repeat (first | (with_reducible first | exact HB.out | apply below_alloc | apply pw_below_drewN | apply below_drew1 | refine below_set ?_ GE159.out) | exact HB.out))))
          have n1_ := bkb BK159 hb
          have n2_ := blw HB hb
          have z_HO165 := fun (h0_ : b 3 = true) => (show Kd.R (Kd.int .i64) 3 w38 w.heap.size (fun _ => True) v164 y163 from by first | exact (Kd.R_below (by (with_reducible repeat (first | apply Kd.R_alloc | apply Kd.R_drewN | apply Kd.R_drew)); exact (Q_HO165 h0_)) hb) | exact Kd.R_mono (Kd.R_below (by (with_reducible repeat (first | apply Kd.R_alloc | apply Kd.R_drewN | apply Kd.R_drew)); exact (Q_HO165 h0_)) hb) (fun _ h_ => by first | trivial | exact h_ | exact h_.1))
          clear BK159
          clear HB
          have HO162 := n0_
          have BK159 := n1_
          have HB := n2_
          clear n0_ n1_ n2_
          (try clear hb)
          (try clear hb2)
          (try clear hk)
          (try clear hi)
          (try clear ho0)
          refine hK.out _ _ ⟨v161, v164, (.agg #[v161]), (by rw [ha.out]; exact putSel_upk 2 hb_ rfl rfl rfl), (by (with_reducible repeat (first | refine blk_drewN ?_ _ | refine blk_drew ?_ | refine blk_alloc ?_ _)); exact BK159.out), (by repeat (first | (with_reducible first | exact HB.out | apply below_alloc | apply pw_below_drewN | apply below_drew1 | refine below_set ?_ GE159.out) | exact HB.out)), fun _ => (by (with_reducible repeat (first | apply Kd.S_alloc | apply Kd.S_drewN | apply Kd.S_drew)); exact HO162.out), z_HO165, fun _ => rfl⟩
        refine steps_cons ?_ ?_
        · rintro b a w' ⟨v161, v164, m2_, ha, Q_BK159, Q_HB, Q_HO162, Q_HO165, Q_X2_⟩ hb_ hon hoff
          refine ⟨_, rfl, fun K hK => ?_⟩
          replace ha := Aside0.mk ha
          have BK159 := Aside0.mk Q_BK159
          have HB := Aside0.mk Q_HB
          refine Kd.R_lit_step (Kd.int .i64) _ 3 ?hg (N := 9) ?hd (xs := ([1, 2, 1, 3, 2] : List Int)) (inner := [.int .i64 1, .int .i64 2, .int .i64 1, .int .i64 3, .int .i64 2]) (ok := fun _ => True) (okp := fun _ => True) ?hr ?hp (fun _ hk => hk) trivial (Below.refl _ _) (Nat.le_refl _) (by simp) ?_; (case hd => rfl); (case hg => rfl); (case hr => first | (go_simp; done) | (go_simp; rfl)); (case hp => exact (Reps.one (show Kd.M (Kd.int .i64) _ _ _ 1 [.int .i64 1] from rfl) (Reps.one (show Kd.M (Kd.int .i64) _ _ _ 2 [.int .i64 2] from rfl) (Reps.one (show Kd.M (Kd.int .i64) _ _ _ 1 [.int .i64 1] from rfl) (Reps.one (show Kd.M (Kd.int .i64) _ _ _ 3 [.int .i64 3] from rfl) (Reps.one (show Kd.M (Kd.int .i64) _ _ _ 2 [.int .i64 2] from rfl) (Reps.none _ _)))))))
          intro v164 w38 ho39 hb hg_ hnew_
          clear hg_ hnew_
          (first | rw [← Ny163.out] at ho39 | (simp only [Int.reduceToNat] at ho39; rw [← Ny163.out] at ho39))
          have n0_ := Aside0.mk (Kd.R_lower ho39 (below_size (by repeat (first | (with_reducible first | exact HB.out | apply below_alloc | apply pw_below_drewN | apply below_drew1 | refine below_set ?_ GE159.out) | exact HB.out))))
          have n1_ := bkb BK159 hb
          have n2_ := blw HB hb
          have z_HO162 := fun (h0_ : b 2 = true) => (show Kd.S (Kd.slice 3 (Kd.int .i64)) 22 w38 w.heap.size (fun _ => True) v161 t160 from by first | exact (Kd.S_elder' (by (with_reducible repeat (first | apply Kd.S_alloc | apply Kd.S_drewN | apply Kd.S_drew)); exact (Q_HO162 h0_)) (Kd.R_base ho39) hb) | exact Kd.S_mono (Kd.S_elder' (by (with_reducible repeat (first | apply Kd.S_alloc | apply Kd.S_drewN | apply Kd.S_drew)); exact (Q_HO162 h0_)) (Kd.R_base ho39) hb) (fun _ h_ => by first | trivial | exact h_ | exact h_.1))
          clear BK159
          clear HB
          have HO165 := n0_
          have BK159 := n1_
          have HB := n2_
          clear n0_ n1_ n2_
          clear hb ho39
          refine hK.out _ _ ⟨v161, v164, m2_, (by rw [ha.out]; exact putSel_upk 3 hb_ rfl rfl rfl), (by (with_reducible repeat (first | refine blk_drewN ?_ _ | refine blk_drew ?_ | refine blk_alloc ?_ _)); exact BK159.out), (by repeat (first | (with_reducible first | exact HB.out | apply below_alloc | apply pw_below_drewN | apply below_drew1 | refine below_set ?_ GE159.out) | exact HB.out)), z_HO162, fun _ => (by (with_reducible repeat (first | apply Kd.R_alloc | apply Kd.R_drewN | apply Kd.R_drew)); exact HO165.out), Q_X2_⟩
        refine steps_cons ?_ ?_
        · rintro b a w' ⟨v161, v164, m2_, ha, Q_BK159, Q_HB, Q_HO162, Q_HO165, Q_X2_⟩ hb_ hon hoff
          refine ⟨_, rfl, fun K hK => ?_⟩
          have e6 : a.tmps[6]? = some (.agg #[.int .i64 1, .int .i64 2, .int .i64 1]) := by rw [ha]; exact putSel_on (e := (0, 6, .agg #[.int .i64 1, .int .i64 2, .int .i64 1])) 0 rfl rfl (hon 0 (by kernel_rfl)) rfl
          have e8 : a.tmps[8]? = some (m2_) := by rw [ha]; exact putSel_on (e := (2, 8, m2_)) 2 rfl rfl (hon 2 (by kernel_rfl)) rfl
          rw [Q_X2_ (hon 2 (by kernel_rfl))] at e8
          have e9 : a.tmps[9]? = some (v164) := by rw [ha]; exact putSel_on (e := (3, 9, v164)) 3 rfl rfl (hon 3 (by kernel_rfl)) rfl
          replace ha := Aside0.mk ha
          have BK159 := Aside0.mk Q_BK159
          have HB := Aside0.mk Q_HB
          have HO162 := Aside0.mk (Q_HO162 (hon 2 (by kernel_rfl)))
          have HO165 := Aside0.mk (Q_HO165 (hon 3 (by kernel_rfl)))
          obtain ⟨Ao42, co42, eo42⟩ := Kd.S_slice HO162.out
          (first | subst eo42 | (injection eo42 with f1_ f2_ f3_; have f4_ := f1_.symm; have f5_ := f3_.symm; clear f1_ f2_ f3_; subst f4_; subst f5_))
          obtain ⟨Ao43, co43, eo43⟩ := Kd.R_slice HO165.out
          (first | subst eo43 | (injection eo43 with f1_ f2_ f3_; have f4_ := f1_.symm; have f5_ := f3_.symm; clear f1_ f2_ f3_; subst f4_; subst f5_))
          refine goes_ Try.func14 (by kernel_rfl) rfl #[.agg #[.int .i64 1, .int .i64 2, .int .i64 1], .agg #[.slice Ao42 t160.length co42], .slice Ao43 y163.length co43] (by rfl) rfl rfl (by first | (simp only [List.map_toArray, List.map_cons, List.map_nil, Act.eval, Array.getD_eq_getD_getElem?, Option.getD_some, e6, e8, e9]; done) | (simp only [List.map_toArray, List.map_cons, List.map_nil, Act.eval, Array.getD_eq_getD_getElem?, Option.getD_some, e6, e8, e9]; rfl)) ?_
          with_reducible refine (cache_Misses.calls 1 2 1 _ _ t160 _ _ y163 t166 t167 _ ?side1 ?side2 ?side3 ?side4 A2.out).mono ?_
          (case side1 => repeat (first | exact (Kd.S_reads' HO162.out).2.2 | (with_reducible refine Kd.C_alloc ?_ _) | (with_reducible refine Kd.C_drewN ?_ _) | (with_reducible refine Kd.C_drew ?_)))
          (case side2 => exact (Kd.S_reads' HO162.out).2.1)
          (case side3 => repeat (first | exact (Kd.R_reads' HO165.out).2.2 | (with_reducible refine Kd.C_alloc ?_ _) | (with_reducible refine Kd.C_drewN ?_ _) | (with_reducible refine Kd.C_drew ?_)))
          (case side4 => exact (Kd.R_reads' HO165.out).2.1)
          rintro e w44 ⟨rfl, hb⟩
          refine ⟨_, rfl, ?_⟩
          have n0_ := Aside0.mk (Kd.S_below (by (with_reducible repeat (first | apply Kd.S_alloc | apply Kd.S_drewN | apply Kd.S_drew)); exact HO162.out) hb)
          have n1_ := Aside0.mk (Kd.R_below (by (with_reducible repeat (first | apply Kd.R_alloc | apply Kd.R_drewN | apply Kd.R_drew)); exact HO165.out) hb)
          have n2_ := bkb BK159 hb
          have n3_ := blw HB hb
          clear HO162
          clear HO165
          clear BK159
          clear HB
          have HO162 := n0_
          have HO165 := n1_
          have BK159 := n2_
          have HB := n3_
          clear n0_ n1_ n2_ n3_
          (try clear hb)
          (try clear hb2)
          (try clear hk)
          (try clear hi)
          refine hK.out _ _ ⟨.slice Ao42 t160.length co42, .slice Ao43 y163.length co43, m2_, (by rw [ha.out]; exact putSel_upk 4 hb_ rfl rfl rfl), (by (with_reducible repeat (first | refine blk_drewN ?_ _ | refine blk_drew ?_ | refine blk_alloc ?_ _)); exact BK159.out), (by repeat (first | (with_reducible first | exact HB.out | apply below_alloc | apply pw_below_drewN | apply below_drew1 | refine below_set ?_ GE159.out) | exact HB.out)), fun _ => (by (with_reducible repeat (first | apply Kd.S_alloc | apply Kd.S_drewN | apply Kd.S_drew)); exact HO162.out), fun _ => (by (with_reducible repeat (first | apply Kd.R_alloc | apply Kd.R_drewN | apply Kd.R_drew)); exact HO165.out), Q_X2_⟩
        refine steps_cons ?_ ?_
        · rintro b a w' ⟨v161, v164, m2_, ha, Q_BK159, Q_HB, Q_HO162, Q_HO165, Q_X2_⟩ hb_ hon hoff
          refine ⟨_, rfl, fun K hK => ?_⟩
          have e10 : a.tmps[10]? = some (.tuple #[.int .i64 t166, .int .i64 t167]) := by rw [ha]; exact putSel_on (e := (4, 10, .tuple #[.int .i64 t166, .int .i64 t167])) 4 rfl rfl (hon 4 (by kernel_rfl)) rfl
          replace ha := Aside0.mk ha
          have BK159 := Aside0.mk Q_BK159
          have HB := Aside0.mk Q_HB
          have HO162 := Aside0.mk (Q_HO162 (hon 2 (by kernel_rfl)))
          have HO165 := Aside0.mk (Q_HO165 (hon 3 (by kernel_rfl)))
          refine value_ (w1 := w') (v := .tuple #[.int .i64 t166, .int .i64 t167]) (by rfl) rfl ?_ ?_
          · go_simp
            (try simp only [i64_w])
            try rfl
          refine hK.out _ _ ⟨v161, v164, m2_, (by rw [ha.out]; exact putSel_upk 5 hb_ rfl rfl rfl), Q_BK159, Q_HB, Q_HO162, Q_HO165, Q_X2_⟩
        refine steps_cons ?_ ?_
        · rintro b a w' ⟨v161, v164, m2_, ha, Q_BK159, Q_HB, Q_HO162, Q_HO165, Q_X2_⟩ hb_ hon hoff
          refine ⟨_, rfl, fun K hK => ?_⟩
          have e5 : a.tmps[5]? = some (.tuple #[.int .i64 t166, .int .i64 t167]) := by rw [ha]; exact putSel_on (e := (5, 5, .tuple #[.int .i64 t166, .int .i64 t167])) 5 rfl rfl (hon 5 (by kernel_rfl)) rfl
          replace ha := Aside0.mk ha
          have BK159 := Aside0.mk Q_BK159
          have HB := Aside0.mk Q_HB
          have HO162 := Aside0.mk (Q_HO162 (hon 2 (by kernel_rfl)))
          have HO165 := Aside0.mk (Q_HO165 (hon 3 (by kernel_rfl)))
          refine value_ (w1 := w') (v := .int .i64 t166) (by rfl) rfl ?_ ?_
          · go_simp
            (try simp only [i64_w])
            try rfl
          refine hK.out _ _ ⟨v161, v164, m2_, (by rw [ha.out]; exact putSel_upk 6 hb_ rfl rfl rfl), Q_BK159, Q_HB, Q_HO162, Q_HO165, Q_X2_⟩
        refine steps_cons ?_ ?_
        · rintro b a w' ⟨v161, v164, m2_, ha, Q_BK159, Q_HB, Q_HO162, Q_HO165, Q_X2_⟩ hb_ hon hoff
          refine ⟨_, rfl, fun K hK => ?_⟩
          have e5 : a.tmps[5]? = some (.tuple #[.int .i64 t166, .int .i64 t167]) := by rw [ha]; exact putSel_on (e := (5, 5, .tuple #[.int .i64 t166, .int .i64 t167])) 5 rfl rfl (hon 5 (by kernel_rfl)) rfl
          replace ha := Aside0.mk ha
          have BK159 := Aside0.mk Q_BK159
          have HB := Aside0.mk Q_HB
          have HO162 := Aside0.mk (Q_HO162 (hon 2 (by kernel_rfl)))
          have HO165 := Aside0.mk (Q_HO165 (hon 3 (by kernel_rfl)))
          refine value_ (w1 := w') (v := .int .i64 t167) (by rfl) rfl ?_ ?_
          · go_simp
            (try simp only [i64_w])
            try rfl
          refine hK.out _ _ ⟨v161, v164, m2_, (by rw [ha.out]; exact putSel_upk 7 hb_ rfl rfl rfl), Q_BK159, Q_HB, Q_HO162, Q_HO165, Q_X2_⟩
        refine steps_cons ?_ ?_
        · rintro b a w' ⟨v161, v164, m2_, ha, Q_BK159, Q_HB, Q_HO162, Q_HO165, Q_X2_⟩ hb_ hon hoff
          refine ⟨_, rfl, fun K hK => ?_⟩
          have e11 : a.tmps[11]? = some (.int .i64 t166) := by rw [ha]; exact putSel_on (e := (6, 11, .int .i64 t166)) 6 rfl rfl (hon 6 (by kernel_rfl)) rfl
          replace ha := Aside0.mk ha
          have BK159 := Aside0.mk Q_BK159
          have HB := Aside0.mk Q_HB
          have HO162 := Aside0.mk (Q_HO162 (hon 2 (by kernel_rfl)))
          have HO165 := Aside0.mk (Q_HO165 (hon 3 (by kernel_rfl)))
          refine value_ (w1 := w') (v := .int .i64 t166) (by rfl) rfl ?_ ?_
          · go_simp
            (try simp only [i64_w])
            try rfl
          refine hK.out _ _ ⟨v161, v164, m2_, (by rw [ha.out]; exact putSel_upk 8 hb_ rfl rfl rfl), Q_BK159, Q_HB, Q_HO162, Q_HO165, Q_X2_⟩
        refine steps_cons ?_ ?_
        · rintro b a w' ⟨v161, v164, m2_, ha, Q_BK159, Q_HB, Q_HO162, Q_HO165, Q_X2_⟩ hb_ hon hoff
          refine ⟨_, rfl, fun K hK => ?_⟩
          have e12 : a.tmps[12]? = some (.int .i64 t167) := by rw [ha]; exact putSel_on (e := (7, 12, .int .i64 t167)) 7 rfl rfl (hon 7 (by kernel_rfl)) rfl
          replace ha := Aside0.mk ha
          have BK159 := Aside0.mk Q_BK159
          have HB := Aside0.mk Q_HB
          have HO162 := Aside0.mk (Q_HO162 (hon 2 (by kernel_rfl)))
          have HO165 := Aside0.mk (Q_HO165 (hon 3 (by kernel_rfl)))
          refine value_ (w1 := w') (v := .int .i64 t167) (by rfl) rfl ?_ ?_
          · go_simp
            (try simp only [i64_w])
            try rfl
          refine hK.out _ _ ⟨v161, v164, m2_, (by rw [ha.out]; exact putSel_upk 9 hb_ rfl rfl rfl), Q_BK159, Q_HB, Q_HO162, Q_HO165, Q_X2_⟩
        exact steps_nil
      rintro b a w44 hall ⟨v161, v164, m2_, ha, Q_BK159, Q_HB, Q_HO162, Q_HO165, Q_X2_⟩
      clear BK159 HB
      have hb0_ := hall 0 (by kernel_rfl)
      have hb1_ := hall 1 (by kernel_rfl)
      have hb2_ := hall 2 (by kernel_rfl)
      have hb3_ := hall 3 (by kernel_rfl)
      have hb4_ := hall 4 (by kernel_rfl)
      have hb5_ := hall 5 (by kernel_rfl)
      have hb6_ := hall 6 (by kernel_rfl)
      have hb7_ := hall 7 (by kernel_rfl)
      have hb8_ := hall 8 (by kernel_rfl)
      have hb9_ := hall 9 (by kernel_rfl)
      subst ha
      obtain rfl := Q_X2_ hb2_
      simp only [putSel, hb0_, hb1_, hb2_, hb3_, hb4_, hb5_, hb6_, hb7_, hb8_, hb9_, if_true, Act.put, List.setIfInBounds_toArray, List.set_cons_zero, List.set_cons_succ]
      have BK159 := Aside0.mk Q_BK159
      clear Q_BK159
      have HB := Aside0.mk Q_HB
      clear Q_HB
      have HO162 := Aside0.mk (Q_HO162 hb2_)
      clear Q_HO162
      have HO165 := Aside0.mk (Q_HO165 hb3_)
      clear Q_HO165
      clear hall hb0_ hb1_ hb2_ hb3_ hb4_ hb5_ hb6_ hb7_ hb8_ hb9_
      try go_wp2
      go_ret
      exact ⟨by first | rfl | (simp [errW_none, errW_some] <;> rfl) | (simp [*, errW_none, errW_some] <;> rfl), by repeat (first | (with_reducible first | exact HB.out | apply below_alloc | apply pw_below_drewN | apply below_drew1 | refine below_set ?_ GE159.out) | exact HB.out)⟩
  · rw [if_neg c3] at H
    have c3b0 : (t167 == 0) = false := beq_eq_false_iff_ne.mpr c3
    have c3b1 : (t167 != 0) = true := bne_iff_ne.mpr c3
    obtain rfl := Option.some.inj H
    go_enter Try.func10, Try.ntmps10
    try go_wp2_with (first | ((with_reducible refine gate_dst (N := 1) rfl ?_); refine box_event ?hg (N := 1) ?hd (cs := #[.int .i64 0, .int .i64 0, .int .i64 0]) (t := 29) ?hr ?_; (case hd => rfl); (case hg => rfl); (case hr => first | (go_simp; done) | (go_simp; rfl)); intro gb159 hg w45 hbox hb; have BK159 := Aside0.mk (hbox); have GW159 := gww hg HB; have GE159 := gww hg HB; replace HB := blw HB hb; clear hb hbox hg; have hcz46_0 : w45.cell? ⟨gb159, 0, none⟩ = some (.int .i64 0) := (blk_cell BK159.out 0).trans rfl; have hcz46_1 : w45.cell? ⟨gb159, 1, none⟩ = some (.int .i64 0) := (blk_cell BK159.out 1).trans rfl; have hcz46_2 : w45.cell? ⟨gb159, 2, none⟩ = some (.int .i64 0) := (blk_cell BK159.out 2).trans rfl; have hfz46_0 := blk_frozen BK159.out 0; have hfz46_1 := blk_frozen BK159.out 1; have hfz46_2 := blk_frozen BK159.out 2))
    have n0_ : Aside0 ((((w45.setCell ⟨gb159, 0, none⟩ (.int .i64 1)).setCell ⟨gb159, 1, none⟩ (.int .i64 2)).setCell ⟨gb159, 2, none⟩ (.int .i64 1)).heap[gb159]? = some (.cells #[.int .i64 1, .int .i64 2, .int .i64 1] 29 (0, 0))) := ⟨by (with_reducible repeat (first | refine blk_drewN ?_ _ | refine blk_drew ?_ | refine blk_alloc ?_ _)); refine blk_put (cs := #[.int .i64 1, .int .i64 2, .int .i64 0]) ?_ 2 _ rfl; (with_reducible repeat (first | refine blk_drewN ?_ _ | refine blk_drew ?_ | refine blk_alloc ?_ _)); refine blk_put (cs := #[.int .i64 1, .int .i64 0, .int .i64 0]) ?_ 1 _ rfl; (with_reducible repeat (first | refine blk_drewN ?_ _ | refine blk_drew ?_ | refine blk_alloc ?_ _)); refine blk_put (cs := #[.int .i64 0, .int .i64 0, .int .i64 0]) ?_ 0 _ rfl; (with_reducible repeat (first | refine blk_drewN ?_ _ | refine blk_drew ?_ | refine blk_alloc ?_ _)); exact BK159.out⟩
    have n1_ : Aside0 (Below w.heap.size w (((w45.setCell ⟨gb159, 0, none⟩ (.int .i64 1)).setCell ⟨gb159, 1, none⟩ (.int .i64 2)).setCell ⟨gb159, 2, none⟩ (.int .i64 1))) := ⟨by repeat (first | (with_reducible first | exact HB.out | apply below_alloc | apply pw_below_drewN | apply below_drew1 | refine below_set ?_ GE159.out) | exact HB.out)⟩
    (try clear BK159)
    (try clear HB)
    generalize (((w45.setCell ⟨gb159, 0, none⟩ (.int .i64 1)).setCell ⟨gb159, 1, none⟩ (.int .i64 2)).setCell ⟨gb159, 2, none⟩ (.int .i64 1)) = w47 at n0_ n1_ ⊢
    have BK159 := n0_
    have HB := n1_
    clear n0_ n1_
    have n0_ := Aside0.mk (blk_drew BK159.out)
    have n1_ := Aside0.mk (below_drew1 HB.out)
    clear BK159
    clear HB
    have BK159 := n0_
    have HB := n1_
    clear n0_ n1_
    refine start_ (n := 10) (S := fun w' => True) (ds := []) #[false, false, false, false, false, false, false, false, false, false] (by kernel_rfl) rfl rfl trivial (fun hHeld => ?_); refine with_tabW timeboundlaw22_awake.tab2 timeboundlaw22_awake.bits2 (fun HT_ HW_ => ?_)
    generalize w47.drew = w48 at BK159 HB hHeld ⊢
    refine inv_at [0, 1, 2, 3, 4, 5, 6, 7, 8, 9] (fun a0_ b a w' => ∃ (v161 : Value) (v164 : Value) (m2_ : Value), a = putSel a0_ b [(0, 6, .agg #[.int .i64 1, .int .i64 2, .int .i64 1]), (1, 7, .agg #[.int .i64 1, .int .i64 2, .int .i64 1]), (2, 8, m2_), (3, 9, v164), (4, 10, .tuple #[.int .i64 t166, .int .i64 t167]), (5, 5, .tuple #[.int .i64 t166, .int .i64 t167]), (6, 11, .int .i64 t166), (7, 12, .int .i64 t167), (8, 2, .int .i64 t166), (9, 3, .int .i64 t167)] ∧ (w'.heap[gb159]? = some (.cells #[.int .i64 1, .int .i64 2, .int .i64 1] 29 (0, 0))) ∧ (Below w.heap.size w w') ∧ (b 2 = true → Kd.S (Kd.slice 3 (Kd.int .i64)) 22 w' w.heap.size (fun _ => True) v161 t160) ∧ (b 3 = true → Kd.R (Kd.int .i64) 3 w' w.heap.size (fun _ => True) v164 y163) ∧ (b 2 = true → (m2_ : Value) = .agg #[v161])) HT_.out HW_.out (by kernel_rfl) (by kernel_rfl) ?_ ?_ ?_
    · exact ⟨.bool false, .bool false, .bool false, by simp only [putSel, Bool.false_eq_true, if_false], BK159.out, HB.out, fun h_ => absurd h_ (by decide), fun h_ => absurd h_ (by decide), fun h_ => absurd h_ (by decide)⟩
    · skip
      clear BK159 HB
      refine steps_cons ?_ ?_
      · rintro b a w' ⟨v161, v164, m2_, ha, Q_BK159, Q_HB, Q_HO162, Q_HO165, Q_X2_⟩ hb_ hon hoff
        refine ⟨_, rfl, fun K hK => ?_⟩
        have e1 : a.tmps[1]? = some (.pointer (some ⟨gb159, 0, none⟩)) := by rw [ha]; exact (putSel_off rfl).trans rfl
        replace ha := Aside0.mk ha
        have BK159 := Aside0.mk Q_BK159
        have HB := Aside0.mk Q_HB
        have hc0_ : w'.cell? ⟨gb159, 0, none⟩ = some (.int .i64 1) := (blk_cell BK159.out 0).trans rfl
        have hc1_ : w'.cell? ⟨gb159, 1, none⟩ = some (.int .i64 2) := (blk_cell BK159.out 1).trans rfl
        have hc2_ : w'.cell? ⟨gb159, 2, none⟩ = some (.int .i64 1) := (blk_cell BK159.out 2).trans rfl
        refine value_ (w1 := w') (v := .agg #[.int .i64 1, .int .i64 2, .int .i64 1]) (by rfl) rfl ?_ ?_
        · go_simp
          (try simp only [i64_w])
          try rfl
        refine hK.out _ _ ⟨v161, v164, m2_, (by rw [ha.out]; exact putSel_upk 0 hb_ rfl rfl rfl), Q_BK159, Q_HB, Q_HO162, Q_HO165, Q_X2_⟩
      refine steps_cons ?_ ?_
      · rintro b a w' ⟨v161, v164, m2_, ha, Q_BK159, Q_HB, Q_HO162, Q_HO165, Q_X2_⟩ hb_ hon hoff
        refine ⟨_, rfl, fun K hK => ?_⟩
        have e1 : a.tmps[1]? = some (.pointer (some ⟨gb159, 0, none⟩)) := by rw [ha]; exact (putSel_off rfl).trans rfl
        replace ha := Aside0.mk ha
        have BK159 := Aside0.mk Q_BK159
        have HB := Aside0.mk Q_HB
        have hc0_ : w'.cell? ⟨gb159, 0, none⟩ = some (.int .i64 1) := (blk_cell BK159.out 0).trans rfl
        have hc1_ : w'.cell? ⟨gb159, 1, none⟩ = some (.int .i64 2) := (blk_cell BK159.out 1).trans rfl
        have hc2_ : w'.cell? ⟨gb159, 2, none⟩ = some (.int .i64 1) := (blk_cell BK159.out 2).trans rfl
        refine value_ (w1 := w') (v := .agg #[.int .i64 1, .int .i64 2, .int .i64 1]) (by rfl) rfl ?_ ?_
        · go_simp
          (try simp only [i64_w])
          try rfl
        refine hK.out _ _ ⟨v161, v164, m2_, (by rw [ha.out]; exact putSel_upk 1 hb_ rfl rfl rfl), Q_BK159, Q_HB, fun h0_ => absurd ((hoff 2 (by kernel_rfl)).symm.trans h0_) (by decide), Q_HO165, fun h0_ => absurd ((hoff 2 (by kernel_rfl)).symm.trans h0_) (by decide)⟩
      refine steps_cons ?_ ?_
      · rintro b a w' ⟨v161, v164, m2_, ha, Q_BK159, Q_HB, Q_HO162, Q_HO165, Q_X2_⟩ hb_ hon hoff
        refine ⟨_, rfl, fun K hK => ?_⟩
        have e7 : a.tmps[7]? = some (.agg #[.int .i64 1, .int .i64 2, .int .i64 1]) := by rw [ha]; exact putSel_on (e := (1, 7, .agg #[.int .i64 1, .int .i64 2, .int .i64 1])) 1 rfl rfl (hon 1 (by kernel_rfl)) rfl
        replace ha := Aside0.mk ha
        have BK159 := Aside0.mk Q_BK159
        have HB := Aside0.mk Q_HB
        refine goes_ Try.func19 (by kernel_rfl) rfl #[.agg #[.int .i64 1, .int .i64 2, .int .i64 1]] (by rfl) rfl rfl (by first | (simp only [List.map_toArray, List.map_cons, List.map_nil, Act.eval, Array.getD_eq_getD_getElem?, Option.getD_some, e7]; done) | (simp only [List.map_toArray, List.map_cons, List.map_nil, Act.eval, Array.getD_eq_getD_getElem?, Option.getD_some, e7]; rfl)) ?_
        with_reducible refine (cache_Empty.calls k 1 2 1 t160 _ A1.out).mono ?_
        rintro e w49 ⟨v161, rfl, ho0, hb⟩
        refine ⟨_, rfl, ?_⟩
        have n0_ := Aside0.mk (Kd.S_lower ho0 (below_size (by repeat (first | (with_reducible first | exact HB.out | apply below_alloc | apply pw_below_drewN | apply below_drew1 | refine below_set ?_ GE159.out) | exact HB.out))))
        have n1_ := bkb BK159 hb
        have n2_ := blw HB hb
        have z_HO165 := fun (h0_ : b 3 = true) => (show Kd.R (Kd.int .i64) 3 w49 w.heap.size (fun _ => True) v164 y163 from by first | exact (Kd.R_below (by (with_reducible repeat (first | apply Kd.R_alloc | apply Kd.R_drewN | apply Kd.R_drew)); exact (Q_HO165 h0_)) hb) | exact Kd.R_mono (Kd.R_below (by (with_reducible repeat (first | apply Kd.R_alloc | apply Kd.R_drewN | apply Kd.R_drew)); exact (Q_HO165 h0_)) hb) (fun _ h_ => by first | trivial | exact h_ | exact h_.1))
        clear BK159
        clear HB
        have HO162 := n0_
        have BK159 := n1_
        have HB := n2_
        clear n0_ n1_ n2_
        (try clear hb)
        (try clear hb2)
        (try clear hk)
        (try clear hi)
        (try clear ho0)
        refine hK.out _ _ ⟨v161, v164, (.agg #[v161]), (by rw [ha.out]; exact putSel_upk 2 hb_ rfl rfl rfl), (by (with_reducible repeat (first | refine blk_drewN ?_ _ | refine blk_drew ?_ | refine blk_alloc ?_ _)); exact BK159.out), (by repeat (first | (with_reducible first | exact HB.out | apply below_alloc | apply pw_below_drewN | apply below_drew1 | refine below_set ?_ GE159.out) | exact HB.out)), fun _ => (by (with_reducible repeat (first | apply Kd.S_alloc | apply Kd.S_drewN | apply Kd.S_drew)); exact HO162.out), z_HO165, fun _ => rfl⟩
      refine steps_cons ?_ ?_
      · rintro b a w' ⟨v161, v164, m2_, ha, Q_BK159, Q_HB, Q_HO162, Q_HO165, Q_X2_⟩ hb_ hon hoff
        refine ⟨_, rfl, fun K hK => ?_⟩
        replace ha := Aside0.mk ha
        have BK159 := Aside0.mk Q_BK159
        have HB := Aside0.mk Q_HB
        refine Kd.R_lit_step (Kd.int .i64) _ 3 ?hg (N := 9) ?hd (xs := ([1, 2, 1, 3, 2] : List Int)) (inner := [.int .i64 1, .int .i64 2, .int .i64 1, .int .i64 3, .int .i64 2]) (ok := fun _ => True) (okp := fun _ => True) ?hr ?hp (fun _ hk => hk) trivial (Below.refl _ _) (Nat.le_refl _) (by simp) ?_; (case hd => rfl); (case hg => rfl); (case hr => first | (go_simp; done) | (go_simp; rfl)); (case hp => exact (Reps.one (show Kd.M (Kd.int .i64) _ _ _ 1 [.int .i64 1] from rfl) (Reps.one (show Kd.M (Kd.int .i64) _ _ _ 2 [.int .i64 2] from rfl) (Reps.one (show Kd.M (Kd.int .i64) _ _ _ 1 [.int .i64 1] from rfl) (Reps.one (show Kd.M (Kd.int .i64) _ _ _ 3 [.int .i64 3] from rfl) (Reps.one (show Kd.M (Kd.int .i64) _ _ _ 2 [.int .i64 2] from rfl) (Reps.none _ _)))))))
        intro v164 w49 ho50 hb hg_ hnew_
        clear hg_ hnew_
        (first | rw [← Ny163.out] at ho50 | (simp only [Int.reduceToNat] at ho50; rw [← Ny163.out] at ho50))
        have n0_ := Aside0.mk (Kd.R_lower ho50 (below_size (by repeat (first | (with_reducible first | exact HB.out | apply below_alloc | apply pw_below_drewN | apply below_drew1 | refine below_set ?_ GE159.out) | exact HB.out))))
        have n1_ := bkb BK159 hb
        have n2_ := blw HB hb
        have z_HO162 := fun (h0_ : b 2 = true) => (show Kd.S (Kd.slice 3 (Kd.int .i64)) 22 w49 w.heap.size (fun _ => True) v161 t160 from by first | exact (Kd.S_elder' (by (with_reducible repeat (first | apply Kd.S_alloc | apply Kd.S_drewN | apply Kd.S_drew)); exact (Q_HO162 h0_)) (Kd.R_base ho50) hb) | exact Kd.S_mono (Kd.S_elder' (by (with_reducible repeat (first | apply Kd.S_alloc | apply Kd.S_drewN | apply Kd.S_drew)); exact (Q_HO162 h0_)) (Kd.R_base ho50) hb) (fun _ h_ => by first | trivial | exact h_ | exact h_.1))
        clear BK159
        clear HB
        have HO165 := n0_
        have BK159 := n1_
        have HB := n2_
        clear n0_ n1_ n2_
        clear hb ho50
        refine hK.out _ _ ⟨v161, v164, m2_, (by rw [ha.out]; exact putSel_upk 3 hb_ rfl rfl rfl), (by (with_reducible repeat (first | refine blk_drewN ?_ _ | refine blk_drew ?_ | refine blk_alloc ?_ _)); exact BK159.out), (by repeat (first | (with_reducible first | exact HB.out | apply below_alloc | apply pw_below_drewN | apply below_drew1 | refine below_set ?_ GE159.out) | exact HB.out)), z_HO162, fun _ => (by (with_reducible repeat (first | apply Kd.R_alloc | apply Kd.R_drewN | apply Kd.R_drew)); exact HO165.out), Q_X2_⟩
      refine steps_cons ?_ ?_
      · rintro b a w' ⟨v161, v164, m2_, ha, Q_BK159, Q_HB, Q_HO162, Q_HO165, Q_X2_⟩ hb_ hon hoff
        refine ⟨_, rfl, fun K hK => ?_⟩
        have e6 : a.tmps[6]? = some (.agg #[.int .i64 1, .int .i64 2, .int .i64 1]) := by rw [ha]; exact putSel_on (e := (0, 6, .agg #[.int .i64 1, .int .i64 2, .int .i64 1])) 0 rfl rfl (hon 0 (by kernel_rfl)) rfl
        have e8 : a.tmps[8]? = some (m2_) := by rw [ha]; exact putSel_on (e := (2, 8, m2_)) 2 rfl rfl (hon 2 (by kernel_rfl)) rfl
        rw [Q_X2_ (hon 2 (by kernel_rfl))] at e8
        have e9 : a.tmps[9]? = some (v164) := by rw [ha]; exact putSel_on (e := (3, 9, v164)) 3 rfl rfl (hon 3 (by kernel_rfl)) rfl
        replace ha := Aside0.mk ha
        have BK159 := Aside0.mk Q_BK159
        have HB := Aside0.mk Q_HB
        have HO162 := Aside0.mk (Q_HO162 (hon 2 (by kernel_rfl)))
        have HO165 := Aside0.mk (Q_HO165 (hon 3 (by kernel_rfl)))
        obtain ⟨Ao53, co53, eo53⟩ := Kd.S_slice HO162.out
        (first | subst eo53 | (injection eo53 with f1_ f2_ f3_; have f4_ := f1_.symm; have f5_ := f3_.symm; clear f1_ f2_ f3_; subst f4_; subst f5_))
        obtain ⟨Ao54, co54, eo54⟩ := Kd.R_slice HO165.out
        (first | subst eo54 | (injection eo54 with f1_ f2_ f3_; have f4_ := f1_.symm; have f5_ := f3_.symm; clear f1_ f2_ f3_; subst f4_; subst f5_))
        refine goes_ Try.func14 (by kernel_rfl) rfl #[.agg #[.int .i64 1, .int .i64 2, .int .i64 1], .agg #[.slice Ao53 t160.length co53], .slice Ao54 y163.length co54] (by rfl) rfl rfl (by first | (simp only [List.map_toArray, List.map_cons, List.map_nil, Act.eval, Array.getD_eq_getD_getElem?, Option.getD_some, e6, e8, e9]; done) | (simp only [List.map_toArray, List.map_cons, List.map_nil, Act.eval, Array.getD_eq_getD_getElem?, Option.getD_some, e6, e8, e9]; rfl)) ?_
        with_reducible refine (cache_Misses.calls 1 2 1 _ _ t160 _ _ y163 t166 t167 _ ?side1 ?side2 ?side3 ?side4 A2.out).mono ?_
        (case side1 => repeat (first | exact (Kd.S_reads' HO162.out).2.2 | (with_reducible refine Kd.C_alloc ?_ _) | (with_reducible refine Kd.C_drewN ?_ _) | (with_reducible refine Kd.C_drew ?_)))
        (case side2 => exact (Kd.S_reads' HO162.out).2.1)
        (case side3 => repeat (first | exact (Kd.R_reads' HO165.out).2.2 | (with_reducible refine Kd.C_alloc ?_ _) | (with_reducible refine Kd.C_drewN ?_ _) | (with_reducible refine Kd.C_drew ?_)))
        (case side4 => exact (Kd.R_reads' HO165.out).2.1)
        rintro e w55 ⟨rfl, hb⟩
        refine ⟨_, rfl, ?_⟩
        have n0_ := Aside0.mk (Kd.S_below (by (with_reducible repeat (first | apply Kd.S_alloc | apply Kd.S_drewN | apply Kd.S_drew)); exact HO162.out) hb)
        have n1_ := Aside0.mk (Kd.R_below (by (with_reducible repeat (first | apply Kd.R_alloc | apply Kd.R_drewN | apply Kd.R_drew)); exact HO165.out) hb)
        have n2_ := bkb BK159 hb
        have n3_ := blw HB hb
        clear HO162
        clear HO165
        clear BK159
        clear HB
        have HO162 := n0_
        have HO165 := n1_
        have BK159 := n2_
        have HB := n3_
        clear n0_ n1_ n2_ n3_
        (try clear hb)
        (try clear hb2)
        (try clear hk)
        (try clear hi)
        refine hK.out _ _ ⟨.slice Ao53 t160.length co53, .slice Ao54 y163.length co54, m2_, (by rw [ha.out]; exact putSel_upk 4 hb_ rfl rfl rfl), (by (with_reducible repeat (first | refine blk_drewN ?_ _ | refine blk_drew ?_ | refine blk_alloc ?_ _)); exact BK159.out), (by repeat (first | (with_reducible first | exact HB.out | apply below_alloc | apply pw_below_drewN | apply below_drew1 | refine below_set ?_ GE159.out) | exact HB.out)), fun _ => (by (with_reducible repeat (first | apply Kd.S_alloc | apply Kd.S_drewN | apply Kd.S_drew)); exact HO162.out), fun _ => (by (with_reducible repeat (first | apply Kd.R_alloc | apply Kd.R_drewN | apply Kd.R_drew)); exact HO165.out), Q_X2_⟩
      refine steps_cons ?_ ?_
      · rintro b a w' ⟨v161, v164, m2_, ha, Q_BK159, Q_HB, Q_HO162, Q_HO165, Q_X2_⟩ hb_ hon hoff
        refine ⟨_, rfl, fun K hK => ?_⟩
        have e10 : a.tmps[10]? = some (.tuple #[.int .i64 t166, .int .i64 t167]) := by rw [ha]; exact putSel_on (e := (4, 10, .tuple #[.int .i64 t166, .int .i64 t167])) 4 rfl rfl (hon 4 (by kernel_rfl)) rfl
        replace ha := Aside0.mk ha
        have BK159 := Aside0.mk Q_BK159
        have HB := Aside0.mk Q_HB
        have HO162 := Aside0.mk (Q_HO162 (hon 2 (by kernel_rfl)))
        have HO165 := Aside0.mk (Q_HO165 (hon 3 (by kernel_rfl)))
        refine value_ (w1 := w') (v := .tuple #[.int .i64 t166, .int .i64 t167]) (by rfl) rfl ?_ ?_
        · go_simp
          (try simp only [i64_w])
          try rfl
        refine hK.out _ _ ⟨v161, v164, m2_, (by rw [ha.out]; exact putSel_upk 5 hb_ rfl rfl rfl), Q_BK159, Q_HB, Q_HO162, Q_HO165, Q_X2_⟩
      refine steps_cons ?_ ?_
      · rintro b a w' ⟨v161, v164, m2_, ha, Q_BK159, Q_HB, Q_HO162, Q_HO165, Q_X2_⟩ hb_ hon hoff
        refine ⟨_, rfl, fun K hK => ?_⟩
        have e5 : a.tmps[5]? = some (.tuple #[.int .i64 t166, .int .i64 t167]) := by rw [ha]; exact putSel_on (e := (5, 5, .tuple #[.int .i64 t166, .int .i64 t167])) 5 rfl rfl (hon 5 (by kernel_rfl)) rfl
        replace ha := Aside0.mk ha
        have BK159 := Aside0.mk Q_BK159
        have HB := Aside0.mk Q_HB
        have HO162 := Aside0.mk (Q_HO162 (hon 2 (by kernel_rfl)))
        have HO165 := Aside0.mk (Q_HO165 (hon 3 (by kernel_rfl)))
        refine value_ (w1 := w') (v := .int .i64 t166) (by rfl) rfl ?_ ?_
        · go_simp
          (try simp only [i64_w])
          try rfl
        refine hK.out _ _ ⟨v161, v164, m2_, (by rw [ha.out]; exact putSel_upk 6 hb_ rfl rfl rfl), Q_BK159, Q_HB, Q_HO162, Q_HO165, Q_X2_⟩
      refine steps_cons ?_ ?_
      · rintro b a w' ⟨v161, v164, m2_, ha, Q_BK159, Q_HB, Q_HO162, Q_HO165, Q_X2_⟩ hb_ hon hoff
        refine ⟨_, rfl, fun K hK => ?_⟩
        have e5 : a.tmps[5]? = some (.tuple #[.int .i64 t166, .int .i64 t167]) := by rw [ha]; exact putSel_on (e := (5, 5, .tuple #[.int .i64 t166, .int .i64 t167])) 5 rfl rfl (hon 5 (by kernel_rfl)) rfl
        replace ha := Aside0.mk ha
        have BK159 := Aside0.mk Q_BK159
        have HB := Aside0.mk Q_HB
        have HO162 := Aside0.mk (Q_HO162 (hon 2 (by kernel_rfl)))
        have HO165 := Aside0.mk (Q_HO165 (hon 3 (by kernel_rfl)))
        refine value_ (w1 := w') (v := .int .i64 t167) (by rfl) rfl ?_ ?_
        · go_simp
          (try simp only [i64_w])
          try rfl
        refine hK.out _ _ ⟨v161, v164, m2_, (by rw [ha.out]; exact putSel_upk 7 hb_ rfl rfl rfl), Q_BK159, Q_HB, Q_HO162, Q_HO165, Q_X2_⟩
      refine steps_cons ?_ ?_
      · rintro b a w' ⟨v161, v164, m2_, ha, Q_BK159, Q_HB, Q_HO162, Q_HO165, Q_X2_⟩ hb_ hon hoff
        refine ⟨_, rfl, fun K hK => ?_⟩
        have e11 : a.tmps[11]? = some (.int .i64 t166) := by rw [ha]; exact putSel_on (e := (6, 11, .int .i64 t166)) 6 rfl rfl (hon 6 (by kernel_rfl)) rfl
        replace ha := Aside0.mk ha
        have BK159 := Aside0.mk Q_BK159
        have HB := Aside0.mk Q_HB
        have HO162 := Aside0.mk (Q_HO162 (hon 2 (by kernel_rfl)))
        have HO165 := Aside0.mk (Q_HO165 (hon 3 (by kernel_rfl)))
        refine value_ (w1 := w') (v := .int .i64 t166) (by rfl) rfl ?_ ?_
        · go_simp
          (try simp only [i64_w])
          try rfl
        refine hK.out _ _ ⟨v161, v164, m2_, (by rw [ha.out]; exact putSel_upk 8 hb_ rfl rfl rfl), Q_BK159, Q_HB, Q_HO162, Q_HO165, Q_X2_⟩
      refine steps_cons ?_ ?_
      · rintro b a w' ⟨v161, v164, m2_, ha, Q_BK159, Q_HB, Q_HO162, Q_HO165, Q_X2_⟩ hb_ hon hoff
        refine ⟨_, rfl, fun K hK => ?_⟩
        have e12 : a.tmps[12]? = some (.int .i64 t167) := by rw [ha]; exact putSel_on (e := (7, 12, .int .i64 t167)) 7 rfl rfl (hon 7 (by kernel_rfl)) rfl
        replace ha := Aside0.mk ha
        have BK159 := Aside0.mk Q_BK159
        have HB := Aside0.mk Q_HB
        have HO162 := Aside0.mk (Q_HO162 (hon 2 (by kernel_rfl)))
        have HO165 := Aside0.mk (Q_HO165 (hon 3 (by kernel_rfl)))
        refine value_ (w1 := w') (v := .int .i64 t167) (by rfl) rfl ?_ ?_
        · go_simp
          (try simp only [i64_w])
          try rfl
        refine hK.out _ _ ⟨v161, v164, m2_, (by rw [ha.out]; exact putSel_upk 9 hb_ rfl rfl rfl), Q_BK159, Q_HB, Q_HO162, Q_HO165, Q_X2_⟩
      exact steps_nil
    rintro b a w55 hall ⟨v161, v164, m2_, ha, Q_BK159, Q_HB, Q_HO162, Q_HO165, Q_X2_⟩
    clear BK159 HB
    have hb0_ := hall 0 (by kernel_rfl)
    have hb1_ := hall 1 (by kernel_rfl)
    have hb2_ := hall 2 (by kernel_rfl)
    have hb3_ := hall 3 (by kernel_rfl)
    have hb4_ := hall 4 (by kernel_rfl)
    have hb5_ := hall 5 (by kernel_rfl)
    have hb6_ := hall 6 (by kernel_rfl)
    have hb7_ := hall 7 (by kernel_rfl)
    have hb8_ := hall 8 (by kernel_rfl)
    have hb9_ := hall 9 (by kernel_rfl)
    subst ha
    obtain rfl := Q_X2_ hb2_
    simp only [putSel, hb0_, hb1_, hb2_, hb3_, hb4_, hb5_, hb6_, hb7_, hb8_, hb9_, if_true, Act.put, List.setIfInBounds_toArray, List.set_cons_zero, List.set_cons_succ]
    have BK159 := Aside0.mk Q_BK159
    clear Q_BK159
    have HB := Aside0.mk Q_HB
    clear Q_HB
    have HO162 := Aside0.mk (Q_HO162 hb2_)
    clear Q_HO162
    have HO165 := Aside0.mk (Q_HO165 hb3_)
    clear Q_HO165
    clear hall hb0_ hb1_ hb2_ hb3_ hb4_ hb5_ hb6_ hb7_ hb8_ hb9_
    try go_wp2
    go_ret
    exact ⟨by first | rfl | (simp [errW_none, errW_some] <;> rfl) | (simp [*, errW_none, errW_some] <;> rfl), by repeat (first | (with_reducible first | exact HB.out | apply below_alloc | apply pw_below_drewN | apply below_drew1 | refine below_set ?_ GE159.out) | exact HB.out)⟩

end Go.Proofs.Ytfdiagegpahcoaa.QCb
