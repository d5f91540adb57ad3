import Derived.Test.YtjoddcfcolhimaaQFrx2
import Derived.Test.YtjoddcfcolhimaaQFrx6
import Derived.Test.YtjoddcfcolhimaaQFrx7
import Derived.Test.YtjoddcfcolhimaaQFrx16
import Derived.Test.YtjoddcfcolhimaaOw
namespace Go.Proofs.Ytjoddcfcolhimaa.QFr
open Go.RowKit Go.Proofs.YtjoddcfcolhimaaW.PrintWords Go.Proofs.YtjoddcfcolhimaaW.PrintLast Go.Proofs.YtjoddcfcolhimaaW.PrintMore Ow
set_option linter.unusedVariables false
set_option linter.unusedSimpArgs false
/-! ### timeboundref31_Cmp: function 25 -/
def timeboundref31_Cmp.j0 : Nat → Int → Int → Int → Int → Option (Int)
  | 0, _, _, _, _ => none
  | k + 1, x598000, x598001, x599000, x599001 => (timeboundref31_less.f x598000 x598001 x599000 x599001).bind fun t599 => (if t599 = true then (some (-1)) else (if (x598000 == x599000 && (x598001 == x599001)) = true then (some 0) else (some 1)))
def timeboundref31_Cmp.f (k : Nat) (a0_0 : Int) (a0_1 : Int) (a1_0 : Int) (a1_1 : Int) : Option (Int) := if ((decide (a0_0 < 0)) != (decide (a1_0 < 0))) = true then (if a0_0 < 0 then (some (-1)) else (some 1)) else ((timeboundref31_size.f a0_0).bind fun t591 => ((timeboundref31_mul.f t591 (IntKind.u64.wrap (a1_1))).bind fun bt592 => ((timeboundref31_size.f a1_0).bind fun t594 => ((timeboundref31_mul.f t594 (IntKind.u64.wrap (a0_1))).bind fun bt595 => (if a0_0 < 0 then (timeboundref31_Cmp.j0 k bt595.1 bt595.2 bt592.1 bt592.2) else (timeboundref31_Cmp.j0 k bt592.1 bt592.2 bt595.1 bt595.2))))))
theorem timeboundref31_Cmp.mono_l : ∀ k, (∀ y0 y1 y2 y3, LeO (timeboundref31_Cmp.j0 k y0 y1 y2 y3) (timeboundref31_Cmp.j0 (k + 1) y0 y1 y2 y3))
  | 0 => fun _ _ _ _ r h => by simp [timeboundref31_Cmp.j0] at h
  | k + 1 => by
    have ih0 := timeboundref31_Cmp.mono_l k
    · intro y0 y1 y2 y3
      unfold timeboundref31_Cmp.j0
      repeat' first
      | (with_reducible exact ih0 _ _ _ _)
      | (with_reducible exact LeO.refl _)
      | (with_reducible exact LeO.none _)
      | (with_reducible refine LeO.ite ?_ ?_)
      | (with_reducible refine LeO.bind ?_ (fun _ => ?_))
      | exact ih0 _ _ _ _
      | exact LeO.none _
      | refine LeO.ite ?_ ?_
      | refine LeO.bind ?_ (fun _ => ?_)
theorem timeboundref31_Cmp.mono : ∀ a0 a1 a2 a3 k, LeO (timeboundref31_Cmp.f k a0 a1 a2 a3) (timeboundref31_Cmp.f (k + 1) a0 a1 a2 a3) := by
  intro a0 a1 a2 a3 k
  have ih0 := timeboundref31_Cmp.mono_l k
  unfold timeboundref31_Cmp.f
  repeat' first
      | (with_reducible exact ih0 _ _ _ _)
      | (with_reducible exact LeO.refl _)
      | (with_reducible exact LeO.none _)
      | (with_reducible refine LeO.ite ?_ ?_)
      | (with_reducible refine LeO.bind ?_ (fun _ => ?_))
      | exact ih0 _ _ _ _
      | exact LeO.none _
      | refine LeO.ite ?_ ?_
      | refine LeO.bind ?_ (fun _ => ?_)
theorem Cmp_diff (x0 x1 y0 y1 r : Int) (w : World) (hs : ((decide (x0 < 0)) != (decide (y0 < 0))) = true) (hr : (if x0 < 0 then (some (-1)) else (some 1)) = some r) : Calls Try.prog 25 #[.agg #[.int .i64 x0, .int .i64 x1], .agg #[.int .i64 y0, .int .i64 y1]] w fun e w' => e = .returned (.int .i64 r) ∧ Below w.heap.size w w' := by
  have c1 : decide ((decide (x0 < 0)) = (decide (y0 < 0))) = false := by simpa using hs
  have c2 : ((decide (x0 < 0)) == (decide (y0 < 0))) = false := by simpa using hs
  have c3 : ¬ ((decide (x0 < 0)) = (decide (y0 < 0))) := by simpa using hs
  have hu24 := Try.underlying24
  have hu75 := Try.underlying75
  have HO := Aside0.mk (Own.start w)
  go_enter Try.func25, Try.ntmps25
  by_cases c : x0 < 0
  · rw [if_pos c] at hr
    have cb := decide_eq_true c
    have cy : decide (y0 < 0) = false := by simpa [cb] using hs
    obtain rfl := Option.some.inj hr
    clear c
    go_wp2_with (first
    | ((with_reducible refine gate_dst (N := 2) rfl ?_); refine box_event ?hg (N := 2) ?hd (cs := #[.int .i64 x0, .int .i64 x1]) (t := 24) ?hr ?_; (case hd => rfl); (case hg => rfl); (case hr => first | (go_simp; done) | (go_simp; rfl)); intro gx hg w1 hb hbl; replace HO : Aside0 (Own w w1 [(gx, 24, [.int .i64 x0, .int .i64 x1])]) := Aside0.mk (HO.out.new hg hb hbl); clear hg hb hbl; have x_gx_0 := HO.out.cell 0 rfl 0 rfl; have f_gx_0 := HO.out.frozen 0 rfl 0; have x_gx_1 := HO.out.cell 0 rfl 1 rfl; have f_gx_1 := HO.out.frozen 0 rfl 1)
    | ((with_reducible refine gate_dst (N := 3) rfl ?_); refine box_event ?hg (N := 3) ?hd (cs := #[.int .i64 y0, .int .i64 y1]) (t := 24) ?hr ?_; (case hd => rfl); (case hg => rfl); (case hr => first | (go_simp; done) | (go_simp; rfl)); intro gy hg w2 hb hbl; replace HO : Aside0 (Own w w2 [(gy, 24, [.int .i64 y0, .int .i64 y1]), (gx, 24, [.int .i64 x0, .int .i64 x1])]) := Aside0.mk (HO.out.new hg hb hbl); clear hg hb hbl; (try clear x_gx_0 f_gx_0); (try clear x_gx_1 f_gx_1); have x_gy_0 := HO.out.cell 0 rfl 0 rfl; have f_gy_0 := HO.out.frozen 0 rfl 0; have x_gy_1 := HO.out.cell 0 rfl 1 rfl; have f_gy_1 := HO.out.frozen 0 rfl 1; have x_gx_0 := HO.out.cell 1 rfl 0 rfl; have f_gx_0 := HO.out.frozen 1 rfl 0; have x_gx_1 := HO.out.cell 1 rfl 1 rfl; have f_gx_1 := HO.out.frozen 1 rfl 1))
    go_ret
    exact ⟨rfl, HO.out.below⟩
  · rw [if_neg c] at hr
    have cb := decide_eq_false c
    have cy : decide (y0 < 0) = true := by simpa [cb] using hs
    obtain rfl := Option.some.inj hr
    clear c
    go_wp2_with (first
    | ((with_reducible refine gate_dst (N := 2) rfl ?_); refine box_event ?hg (N := 2) ?hd (cs := #[.int .i64 x0, .int .i64 x1]) (t := 24) ?hr ?_; (case hd => rfl); (case hg => rfl); (case hr => first | (go_simp; done) | (go_simp; rfl)); intro gx hg w1 hb hbl; replace HO : Aside0 (Own w w1 [(gx, 24, [.int .i64 x0, .int .i64 x1])]) := Aside0.mk (HO.out.new hg hb hbl); clear hg hb hbl; have x_gx_0 := HO.out.cell 0 rfl 0 rfl; have f_gx_0 := HO.out.frozen 0 rfl 0; have x_gx_1 := HO.out.cell 0 rfl 1 rfl; have f_gx_1 := HO.out.frozen 0 rfl 1)
    | ((with_reducible refine gate_dst (N := 3) rfl ?_); refine box_event ?hg (N := 3) ?hd (cs := #[.int .i64 y0, .int .i64 y1]) (t := 24) ?hr ?_; (case hd => rfl); (case hg => rfl); (case hr => first | (go_simp; done) | (go_simp; rfl)); intro gy hg w2 hb hbl; replace HO : Aside0 (Own w w2 [(gy, 24, [.int .i64 y0, .int .i64 y1]), (gx, 24, [.int .i64 x0, .int .i64 x1])]) := Aside0.mk (HO.out.new hg hb hbl); clear hg hb hbl; (try clear x_gx_0 f_gx_0); (try clear x_gx_1 f_gx_1); have x_gy_0 := HO.out.cell 0 rfl 0 rfl; have f_gy_0 := HO.out.frozen 0 rfl 0; have x_gy_1 := HO.out.cell 0 rfl 1 rfl; have f_gy_1 := HO.out.frozen 0 rfl 1; have x_gx_0 := HO.out.cell 1 rfl 0 rfl; have f_gx_0 := HO.out.frozen 1 rfl 0; have x_gx_1 := HO.out.cell 1 rfl 1 rfl; have f_gx_1 := HO.out.frozen 1 rfl 1))
    go_ret
    exact ⟨rfl, HO.out.below⟩
set_option maxHeartbeats 8000000 in
set_option maxRecDepth 100000 in
theorem Cmp_same (k : Nat) (x0 x1 y0 y1 r : Int) (w : World) (t1 p1 p2 t2 q1 q2 : Int) (hs : ((decide (x0 < 0)) != (decide (y0 < 0))) = false) (h1 : timeboundref31_size.f x0 = some t1) (h2 : timeboundref31_mul.f t1 (IntKind.u64.wrap y1) = some (p1, p2)) (h3 : timeboundref31_size.f y0 = some t2) (h4 : timeboundref31_mul.f t2 (IntKind.u64.wrap x1) = some (q1, q2)) (H : (if x0 < 0 then timeboundref31_Cmp.j0 (k + 1) q1 q2 p1 p2 else timeboundref31_Cmp.j0 (k + 1) p1 p2 q1 q2) = some r) : Calls Try.prog 25 #[.agg #[.int .i64 x0, .int .i64 x1], .agg #[.int .i64 y0, .int .i64 y1]] w fun e w' => e = .returned (.int .i64 r) ∧ Below w.heap.size w w' := by
  replace h1 := Aside0.mk h1
  replace h2 := Aside0.mk h2
  replace h3 := Aside0.mk h3
  replace h4 := Aside0.mk h4
  replace H := Aside0.mk H
  have c1 : decide ((decide (x0 < 0)) = (decide (y0 < 0))) = true := by simpa using hs
  have c2 : ((decide (x0 < 0)) == (decide (y0 < 0))) = true := by simpa using hs
  have hu24 := Try.underlying24
  have hu75 := Try.underlying75
  have HO := Aside0.mk (Own.start w)
  go_enter Try.func25, Try.ntmps25
  go_upto_region 5 with (first
    | ((with_reducible refine gate_dst (N := 2) rfl ?_); refine box_event ?hg (N := 2) ?hd (cs := #[.int .i64 x0, .int .i64 x1]) (t := 24) ?hr ?_; (case hd => rfl); (case hg => rfl); (case hr => first | (go_simp; done) | (go_simp; rfl)); intro gx hg w1 hb hbl; replace HO : Aside0 (Own w w1 [(gx, 24, [.int .i64 x0, .int .i64 x1])]) := Aside0.mk (HO.out.new hg hb hbl); clear hg hb hbl; have x_gx_0 := HO.out.cell 0 rfl 0 rfl; have f_gx_0 := HO.out.frozen 0 rfl 0; have x_gx_1 := HO.out.cell 0 rfl 1 rfl; have f_gx_1 := HO.out.frozen 0 rfl 1)
    | ((with_reducible refine gate_dst (N := 3) rfl ?_); refine box_event ?hg (N := 3) ?hd (cs := #[.int .i64 y0, .int .i64 y1]) (t := 24) ?hr ?_; (case hd => rfl); (case hg => rfl); (case hr => first | (go_simp; done) | (go_simp; rfl)); intro gy hg w2 hb hbl; replace HO : Aside0 (Own w w2 [(gy, 24, [.int .i64 y0, .int .i64 y1]), (gx, 24, [.int .i64 x0, .int .i64 x1])]) := Aside0.mk (HO.out.new hg hb hbl); clear hg hb hbl; (try clear x_gx_0 f_gx_0); (try clear x_gx_1 f_gx_1); have x_gy_0 := HO.out.cell 0 rfl 0 rfl; have f_gy_0 := HO.out.frozen 0 rfl 0; have x_gy_1 := HO.out.cell 0 rfl 1 rfl; have f_gy_1 := HO.out.frozen 0 rfl 1; have x_gx_0 := HO.out.cell 1 rfl 0 rfl; have f_gx_0 := HO.out.frozen 1 rfl 0; have x_gx_1 := HO.out.cell 1 rfl 1 rfl; have f_gx_1 := HO.out.frozen 1 rfl 1))
  (try simp only [Act.put, List.setIfInBounds_toArray, List.set_cons_succ, List.set_cons_zero])
  have x_gy_0 : World.cell? _ ⟨gy, 0, none⟩ = _ := HO.out.cell 0 rfl 0 rfl
  have x_gy_1 : World.cell? _ ⟨gy, 1, none⟩ = _ := HO.out.cell 0 rfl 1 rfl
  have t_gy : gy < _ := HO.out.lt 0 rfl
  have ngc_gy := World.new_ne _ _ x_gy_0
  dsimp only at ngc_gy
  have x_gx_0 : World.cell? _ ⟨gx, 0, none⟩ = _ := HO.out.cell 1 rfl 0 rfl
  have x_gx_1 : World.cell? _ ⟨gx, 1, none⟩ = _ := HO.out.cell 1 rfl 1 rfl
  have t_gx : gx < _ := HO.out.lt 1 rfl
  have ngc_gx := World.new_ne _ _ x_gx_0
  dsimp only at ngc_gx
  go_cut [5, 6] (fun v5 v6 wc => ∃ (ga gb : Nat), v5 = .pointer (some ⟨ga, 0, none⟩) ∧ v6 = .pointer (some ⟨gb, 0, none⟩) ∧ Aside0 (Own w wc [(ga, 75, [.int .u64 p1, .int .u64 p2]), (gb, 75, [.int .u64 q1, .int .u64 q2]), (gy, 24, [.int .i64 y0, .int .i64 y1]), (gx, 24, [.int .i64 x0, .int .i64 x1])]))
  case first =>
    go_region_held3 (fun w' => w'.cell? ⟨gy, 0, none⟩ = some (.int .i64 y0) ∧ w'.cell? ⟨gy, 1, none⟩ = some (.int .i64 y1) ∧ w'.cell? ⟨gx, 0, none⟩ = some (.int .i64 x0) ∧ w'.cell? ⟨gx, 1, none⟩ = some (.int .i64 x1)) (go_keep) (first
    | (go_at_call 57; have H2 := HO.out.drew; (with_reducible refine (timeboundref31_size.calls x0 t1 (wdOf H2) h1.out).mono ?_); rintro e v0 ⟨rfl, hbl⟩; replace HO := Aside0.mk (H2.step hbl.below); clear hbl H2; have x_gy_0 : World.cell? _ ⟨gy, 0, none⟩ = _ := HO.out.cell 0 rfl 0 rfl; have x_gy_1 : World.cell? _ ⟨gy, 1, none⟩ = _ := HO.out.cell 0 rfl 1 rfl; have t_gy : gy < _ := HO.out.lt 0 rfl; have ngc_gy := World.new_ne _ _ x_gy_0; dsimp only at ngc_gy; have x_gx_0 : World.cell? _ ⟨gx, 0, none⟩ = _ := HO.out.cell 1 rfl 0 rfl; have x_gx_1 : World.cell? _ ⟨gx, 1, none⟩ = _ := HO.out.cell 1 rfl 1 rfl; have t_gx : gx < _ := HO.out.lt 1 rfl; have ngc_gx := World.new_ne _ _ x_gx_0; dsimp only at ngc_gx)
    | (go_at_call 57; have H2 := (HO.out.allocN (w2.heap.size) rfl [.int .u64 0, .int .u64 0] 75).drew; (with_reducible refine (timeboundref31_size.calls x0 t1 (wdOf H2) h1.out).mono ?_); rintro e v0 ⟨rfl, hbl⟩; replace HO := Aside0.mk (H2.step hbl.below); clear hbl H2; have x_gy_0 : World.cell? _ ⟨gy, 0, none⟩ = _ := HO.out.cell 1 rfl 0 rfl; have x_gy_1 : World.cell? _ ⟨gy, 1, none⟩ = _ := HO.out.cell 1 rfl 1 rfl; have t_gy : gy < _ := HO.out.lt 1 rfl; have ngc_gy := World.new_ne _ _ x_gy_0; dsimp only at ngc_gy; have x_gx_0 : World.cell? _ ⟨gx, 0, none⟩ = _ := HO.out.cell 2 rfl 0 rfl; have x_gx_1 : World.cell? _ ⟨gx, 1, none⟩ = _ := HO.out.cell 2 rfl 1 rfl; have t_gx : gx < _ := HO.out.lt 2 rfl; have ngc_gx := World.new_ne _ _ x_gx_0; dsimp only at ngc_gx; have xb0_0 := HO.out.cell 0 rfl 0 rfl; have fb0_0 := HO.out.frozen 0 rfl 0; have xb0_1 := HO.out.cell 0 rfl 1 rfl; have fb0_1 := HO.out.frozen 0 rfl 1; have lb0 := HO.out.lt 0 rfl; have nb0_gy := HO.out.nei 0 1 rfl rfl (by decide); have nb0_gx := HO.out.nei 0 2 rfl rfl (by decide))
    | (go_at_call 57; have H2 := ((HO.out.allocN (w2.heap.size) rfl [.int .u64 0, .int .u64 0] 75).allocN (w2.heap.size + 1) (size_alloc _ _) [.int .u64 0, .int .u64 0] 75).drew; (with_reducible refine (timeboundref31_size.calls x0 t1 (wdOf H2) h1.out).mono ?_); rintro e v0 ⟨rfl, hbl⟩; replace HO := Aside0.mk (H2.step hbl.below); clear hbl H2; have x_gy_0 : World.cell? _ ⟨gy, 0, none⟩ = _ := HO.out.cell 2 rfl 0 rfl; have x_gy_1 : World.cell? _ ⟨gy, 1, none⟩ = _ := HO.out.cell 2 rfl 1 rfl; have t_gy : gy < _ := HO.out.lt 2 rfl; have ngc_gy := World.new_ne _ _ x_gy_0; dsimp only at ngc_gy; have x_gx_0 : World.cell? _ ⟨gx, 0, none⟩ = _ := HO.out.cell 3 rfl 0 rfl; have x_gx_1 : World.cell? _ ⟨gx, 1, none⟩ = _ := HO.out.cell 3 rfl 1 rfl; have t_gx : gx < _ := HO.out.lt 3 rfl; have ngc_gx := World.new_ne _ _ x_gx_0; dsimp only at ngc_gx; have xb0_0 := HO.out.cell 0 rfl 0 rfl; have fb0_0 := HO.out.frozen 0 rfl 0; have xb0_1 := HO.out.cell 0 rfl 1 rfl; have fb0_1 := HO.out.frozen 0 rfl 1; have lb0 := HO.out.lt 0 rfl; have nb0_gy := HO.out.nei 0 2 rfl rfl (by decide); have nb0_gx := HO.out.nei 0 3 rfl rfl (by decide); have nbb0_1 := HO.out.nei 0 1 rfl rfl (by decide); have xb1_0 := HO.out.cell 1 rfl 0 rfl; have fb1_0 := HO.out.frozen 1 rfl 0; have xb1_1 := HO.out.cell 1 rfl 1 rfl; have fb1_1 := HO.out.frozen 1 rfl 1; have lb1 := HO.out.lt 1 rfl; have nb1_gy := HO.out.nei 1 2 rfl rfl (by decide); have nb1_gx := HO.out.nei 1 3 rfl rfl (by decide); have nbb1_0 := HO.out.nei 1 0 rfl rfl (by decide))
    | (go_at_call 68; have H2 := HO.out; (with_reducible refine (timeboundref31_mul.calls t1 _ p1 p2 (wdOf H2) h2.out).mono ?_); rintro e v1 ⟨rfl, hbl⟩; replace HO := Aside0.mk (H2.step hbl); clear hbl H2; (first | (have x_gy_0 : World.cell? _ ⟨gy, 0, none⟩ = _ := HO.out.cell 0 rfl 0 rfl; have x_gy_1 : World.cell? _ ⟨gy, 1, none⟩ = _ := HO.out.cell 0 rfl 1 rfl; have t_gy : gy < _ := HO.out.lt 0 rfl; have ngc_gy := World.new_ne _ _ x_gy_0; dsimp only at ngc_gy; have x_gx_0 : World.cell? _ ⟨gx, 0, none⟩ = _ := HO.out.cell 1 rfl 0 rfl; have x_gx_1 : World.cell? _ ⟨gx, 1, none⟩ = _ := HO.out.cell 1 rfl 1 rfl; have t_gx : gx < _ := HO.out.lt 1 rfl; have ngc_gx := World.new_ne _ _ x_gx_0; dsimp only at ngc_gx) | (have x_gy_0 : World.cell? _ ⟨gy, 0, none⟩ = _ := HO.out.cell 1 rfl 0 rfl; have x_gy_1 : World.cell? _ ⟨gy, 1, none⟩ = _ := HO.out.cell 1 rfl 1 rfl; have t_gy : gy < _ := HO.out.lt 1 rfl; have ngc_gy := World.new_ne _ _ x_gy_0; dsimp only at ngc_gy; have x_gx_0 : World.cell? _ ⟨gx, 0, none⟩ = _ := HO.out.cell 2 rfl 0 rfl; have x_gx_1 : World.cell? _ ⟨gx, 1, none⟩ = _ := HO.out.cell 2 rfl 1 rfl; have t_gx : gx < _ := HO.out.lt 2 rfl; have ngc_gx := World.new_ne _ _ x_gx_0; dsimp only at ngc_gx; have xb0_0 := HO.out.cell 0 rfl 0 rfl; have fb0_0 := HO.out.frozen 0 rfl 0; have xb0_1 := HO.out.cell 0 rfl 1 rfl; have fb0_1 := HO.out.frozen 0 rfl 1; have lb0 := HO.out.lt 0 rfl; have nb0_gy := HO.out.nei 0 1 rfl rfl (by decide); have nb0_gx := HO.out.nei 0 2 rfl rfl (by decide)) | (have x_gy_0 : World.cell? _ ⟨gy, 0, none⟩ = _ := HO.out.cell 2 rfl 0 rfl; have x_gy_1 : World.cell? _ ⟨gy, 1, none⟩ = _ := HO.out.cell 2 rfl 1 rfl; have t_gy : gy < _ := HO.out.lt 2 rfl; have ngc_gy := World.new_ne _ _ x_gy_0; dsimp only at ngc_gy; have x_gx_0 : World.cell? _ ⟨gx, 0, none⟩ = _ := HO.out.cell 3 rfl 0 rfl; have x_gx_1 : World.cell? _ ⟨gx, 1, none⟩ = _ := HO.out.cell 3 rfl 1 rfl; have t_gx : gx < _ := HO.out.lt 3 rfl; have ngc_gx := World.new_ne _ _ x_gx_0; dsimp only at ngc_gx; have xb0_0 := HO.out.cell 0 rfl 0 rfl; have fb0_0 := HO.out.frozen 0 rfl 0; have xb0_1 := HO.out.cell 0 rfl 1 rfl; have fb0_1 := HO.out.frozen 0 rfl 1; have lb0 := HO.out.lt 0 rfl; have nb0_gy := HO.out.nei 0 2 rfl rfl (by decide); have nb0_gx := HO.out.nei 0 3 rfl rfl (by decide); have nbb0_1 := HO.out.nei 0 1 rfl rfl (by decide); have xb1_0 := HO.out.cell 1 rfl 0 rfl; have fb1_0 := HO.out.frozen 1 rfl 0; have xb1_1 := HO.out.cell 1 rfl 1 rfl; have fb1_1 := HO.out.frozen 1 rfl 1; have lb1 := HO.out.lt 1 rfl; have nb1_gy := HO.out.nei 1 2 rfl rfl (by decide); have nb1_gx := HO.out.nei 1 3 rfl rfl (by decide); have nbb1_0 := HO.out.nei 1 0 rfl rfl (by decide))))
    | (go_at_call 68; have H2 := (HO.out.allocN (v0.heap.size) rfl [.int .u64 0, .int .u64 0] 75); (with_reducible refine (timeboundref31_mul.calls t1 _ p1 p2 (wdOf H2) h2.out).mono ?_); rintro e v1 ⟨rfl, hbl⟩; replace HO := Aside0.mk (H2.step hbl); clear hbl H2; (first | (have x_gy_0 : World.cell? _ ⟨gy, 0, none⟩ = _ := HO.out.cell 1 rfl 0 rfl; have x_gy_1 : World.cell? _ ⟨gy, 1, none⟩ = _ := HO.out.cell 1 rfl 1 rfl; have t_gy : gy < _ := HO.out.lt 1 rfl; have ngc_gy := World.new_ne _ _ x_gy_0; dsimp only at ngc_gy; have x_gx_0 : World.cell? _ ⟨gx, 0, none⟩ = _ := HO.out.cell 2 rfl 0 rfl; have x_gx_1 : World.cell? _ ⟨gx, 1, none⟩ = _ := HO.out.cell 2 rfl 1 rfl; have t_gx : gx < _ := HO.out.lt 2 rfl; have ngc_gx := World.new_ne _ _ x_gx_0; dsimp only at ngc_gx; have xb0_0 := HO.out.cell 0 rfl 0 rfl; have fb0_0 := HO.out.frozen 0 rfl 0; have xb0_1 := HO.out.cell 0 rfl 1 rfl; have fb0_1 := HO.out.frozen 0 rfl 1; have lb0 := HO.out.lt 0 rfl; have nb0_gy := HO.out.nei 0 1 rfl rfl (by decide); have nb0_gx := HO.out.nei 0 2 rfl rfl (by decide)) | (have x_gy_0 : World.cell? _ ⟨gy, 0, none⟩ = _ := HO.out.cell 2 rfl 0 rfl; have x_gy_1 : World.cell? _ ⟨gy, 1, none⟩ = _ := HO.out.cell 2 rfl 1 rfl; have t_gy : gy < _ := HO.out.lt 2 rfl; have ngc_gy := World.new_ne _ _ x_gy_0; dsimp only at ngc_gy; have x_gx_0 : World.cell? _ ⟨gx, 0, none⟩ = _ := HO.out.cell 3 rfl 0 rfl; have x_gx_1 : World.cell? _ ⟨gx, 1, none⟩ = _ := HO.out.cell 3 rfl 1 rfl; have t_gx : gx < _ := HO.out.lt 3 rfl; have ngc_gx := World.new_ne _ _ x_gx_0; dsimp only at ngc_gx; have xb0_0 := HO.out.cell 0 rfl 0 rfl; have fb0_0 := HO.out.frozen 0 rfl 0; have xb0_1 := HO.out.cell 0 rfl 1 rfl; have fb0_1 := HO.out.frozen 0 rfl 1; have lb0 := HO.out.lt 0 rfl; have nb0_gy := HO.out.nei 0 2 rfl rfl (by decide); have nb0_gx := HO.out.nei 0 3 rfl rfl (by decide); have nbb0_1 := HO.out.nei 0 1 rfl rfl (by decide); have xb1_0 := HO.out.cell 1 rfl 0 rfl; have fb1_0 := HO.out.frozen 1 rfl 0; have xb1_1 := HO.out.cell 1 rfl 1 rfl; have fb1_1 := HO.out.frozen 1 rfl 1; have lb1 := HO.out.lt 1 rfl; have nb1_gy := HO.out.nei 1 2 rfl rfl (by decide); have nb1_gx := HO.out.nei 1 3 rfl rfl (by decide); have nbb1_0 := HO.out.nei 1 0 rfl rfl (by decide))))
    | (go_at_call 68; have H2 := ((HO.out.allocN (v0.heap.size) rfl [.int .u64 0, .int .u64 0] 75).allocN (v0.heap.size + 1) (size_alloc _ _) [.int .u64 0, .int .u64 0] 75); (with_reducible refine (timeboundref31_mul.calls t1 _ p1 p2 (wdOf H2) h2.out).mono ?_); rintro e v1 ⟨rfl, hbl⟩; replace HO := Aside0.mk (H2.step hbl); clear hbl H2; have x_gy_0 : World.cell? _ ⟨gy, 0, none⟩ = _ := HO.out.cell 2 rfl 0 rfl; have x_gy_1 : World.cell? _ ⟨gy, 1, none⟩ = _ := HO.out.cell 2 rfl 1 rfl; have t_gy : gy < _ := HO.out.lt 2 rfl; have ngc_gy := World.new_ne _ _ x_gy_0; dsimp only at ngc_gy; have x_gx_0 : World.cell? _ ⟨gx, 0, none⟩ = _ := HO.out.cell 3 rfl 0 rfl; have x_gx_1 : World.cell? _ ⟨gx, 1, none⟩ = _ := HO.out.cell 3 rfl 1 rfl; have t_gx : gx < _ := HO.out.lt 3 rfl; have ngc_gx := World.new_ne _ _ x_gx_0; dsimp only at ngc_gx; have xb0_0 := HO.out.cell 0 rfl 0 rfl; have fb0_0 := HO.out.frozen 0 rfl 0; have xb0_1 := HO.out.cell 0 rfl 1 rfl; have fb0_1 := HO.out.frozen 0 rfl 1; have lb0 := HO.out.lt 0 rfl; have nb0_gy := HO.out.nei 0 2 rfl rfl (by decide); have nb0_gx := HO.out.nei 0 3 rfl rfl (by decide); have nbb0_1 := HO.out.nei 0 1 rfl rfl (by decide); have xb1_0 := HO.out.cell 1 rfl 0 rfl; have fb1_0 := HO.out.frozen 1 rfl 0; have xb1_1 := HO.out.cell 1 rfl 1 rfl; have fb1_1 := HO.out.frozen 1 rfl 1; have lb1 := HO.out.lt 1 rfl; have nb1_gy := HO.out.nei 1 2 rfl rfl (by decide); have nb1_gx := HO.out.nei 1 3 rfl rfl (by decide); have nbb1_0 := HO.out.nei 1 0 rfl rfl (by decide))
    | (go_at_call 57; have H2 := HO.out; (with_reducible refine (timeboundref31_size.calls y0 t2 (wdOf H2) h3.out).mono ?_); rintro e v2 ⟨rfl, hbl⟩; replace HO := Aside0.mk (H2.step hbl.below); clear hbl H2; (first | (have x_gy_0 : World.cell? _ ⟨gy, 0, none⟩ = _ := HO.out.cell 0 rfl 0 rfl; have x_gy_1 : World.cell? _ ⟨gy, 1, none⟩ = _ := HO.out.cell 0 rfl 1 rfl; have t_gy : gy < _ := HO.out.lt 0 rfl; have ngc_gy := World.new_ne _ _ x_gy_0; dsimp only at ngc_gy; have x_gx_0 : World.cell? _ ⟨gx, 0, none⟩ = _ := HO.out.cell 1 rfl 0 rfl; have x_gx_1 : World.cell? _ ⟨gx, 1, none⟩ = _ := HO.out.cell 1 rfl 1 rfl; have t_gx : gx < _ := HO.out.lt 1 rfl; have ngc_gx := World.new_ne _ _ x_gx_0; dsimp only at ngc_gx) | (have x_gy_0 : World.cell? _ ⟨gy, 0, none⟩ = _ := HO.out.cell 1 rfl 0 rfl; have x_gy_1 : World.cell? _ ⟨gy, 1, none⟩ = _ := HO.out.cell 1 rfl 1 rfl; have t_gy : gy < _ := HO.out.lt 1 rfl; have ngc_gy := World.new_ne _ _ x_gy_0; dsimp only at ngc_gy; have x_gx_0 : World.cell? _ ⟨gx, 0, none⟩ = _ := HO.out.cell 2 rfl 0 rfl; have x_gx_1 : World.cell? _ ⟨gx, 1, none⟩ = _ := HO.out.cell 2 rfl 1 rfl; have t_gx : gx < _ := HO.out.lt 2 rfl; have ngc_gx := World.new_ne _ _ x_gx_0; dsimp only at ngc_gx; have xb0_0 := HO.out.cell 0 rfl 0 rfl; have fb0_0 := HO.out.frozen 0 rfl 0; have xb0_1 := HO.out.cell 0 rfl 1 rfl; have fb0_1 := HO.out.frozen 0 rfl 1; have lb0 := HO.out.lt 0 rfl; have nb0_gy := HO.out.nei 0 1 rfl rfl (by decide); have nb0_gx := HO.out.nei 0 2 rfl rfl (by decide)) | (have x_gy_0 : World.cell? _ ⟨gy, 0, none⟩ = _ := HO.out.cell 2 rfl 0 rfl; have x_gy_1 : World.cell? _ ⟨gy, 1, none⟩ = _ := HO.out.cell 2 rfl 1 rfl; have t_gy : gy < _ := HO.out.lt 2 rfl; have ngc_gy := World.new_ne _ _ x_gy_0; dsimp only at ngc_gy; have x_gx_0 : World.cell? _ ⟨gx, 0, none⟩ = _ := HO.out.cell 3 rfl 0 rfl; have x_gx_1 : World.cell? _ ⟨gx, 1, none⟩ = _ := HO.out.cell 3 rfl 1 rfl; have t_gx : gx < _ := HO.out.lt 3 rfl; have ngc_gx := World.new_ne _ _ x_gx_0; dsimp only at ngc_gx; have xb0_0 := HO.out.cell 0 rfl 0 rfl; have fb0_0 := HO.out.frozen 0 rfl 0; have xb0_1 := HO.out.cell 0 rfl 1 rfl; have fb0_1 := HO.out.frozen 0 rfl 1; have lb0 := HO.out.lt 0 rfl; have nb0_gy := HO.out.nei 0 2 rfl rfl (by decide); have nb0_gx := HO.out.nei 0 3 rfl rfl (by decide); have nbb0_1 := HO.out.nei 0 1 rfl rfl (by decide); have xb1_0 := HO.out.cell 1 rfl 0 rfl; have fb1_0 := HO.out.frozen 1 rfl 0; have xb1_1 := HO.out.cell 1 rfl 1 rfl; have fb1_1 := HO.out.frozen 1 rfl 1; have lb1 := HO.out.lt 1 rfl; have nb1_gy := HO.out.nei 1 2 rfl rfl (by decide); have nb1_gx := HO.out.nei 1 3 rfl rfl (by decide); have nbb1_0 := HO.out.nei 1 0 rfl rfl (by decide))))
    | (go_at_call 57; have H2 := (HO.out.allocN (v1.heap.size) rfl [.int .u64 0, .int .u64 0] 75); (with_reducible refine (timeboundref31_size.calls y0 t2 (wdOf H2) h3.out).mono ?_); rintro e v2 ⟨rfl, hbl⟩; replace HO := Aside0.mk (H2.step hbl.below); clear hbl H2; (first | (have x_gy_0 : World.cell? _ ⟨gy, 0, none⟩ = _ := HO.out.cell 1 rfl 0 rfl; have x_gy_1 : World.cell? _ ⟨gy, 1, none⟩ = _ := HO.out.cell 1 rfl 1 rfl; have t_gy : gy < _ := HO.out.lt 1 rfl; have ngc_gy := World.new_ne _ _ x_gy_0; dsimp only at ngc_gy; have x_gx_0 : World.cell? _ ⟨gx, 0, none⟩ = _ := HO.out.cell 2 rfl 0 rfl; have x_gx_1 : World.cell? _ ⟨gx, 1, none⟩ = _ := HO.out.cell 2 rfl 1 rfl; have t_gx : gx < _ := HO.out.lt 2 rfl; have ngc_gx := World.new_ne _ _ x_gx_0; dsimp only at ngc_gx; have xb0_0 := HO.out.cell 0 rfl 0 rfl; have fb0_0 := HO.out.frozen 0 rfl 0; have xb0_1 := HO.out.cell 0 rfl 1 rfl; have fb0_1 := HO.out.frozen 0 rfl 1; have lb0 := HO.out.lt 0 rfl; have nb0_gy := HO.out.nei 0 1 rfl rfl (by decide); have nb0_gx := HO.out.nei 0 2 rfl rfl (by decide)) | (have x_gy_0 : World.cell? _ ⟨gy, 0, none⟩ = _ := HO.out.cell 2 rfl 0 rfl; have x_gy_1 : World.cell? _ ⟨gy, 1, none⟩ = _ := HO.out.cell 2 rfl 1 rfl; have t_gy : gy < _ := HO.out.lt 2 rfl; have ngc_gy := World.new_ne _ _ x_gy_0; dsimp only at ngc_gy; have x_gx_0 : World.cell? _ ⟨gx, 0, none⟩ = _ := HO.out.cell 3 rfl 0 rfl; have x_gx_1 : World.cell? _ ⟨gx, 1, none⟩ = _ := HO.out.cell 3 rfl 1 rfl; have t_gx : gx < _ := HO.out.lt 3 rfl; have ngc_gx := World.new_ne _ _ x_gx_0; dsimp only at ngc_gx; have xb0_0 := HO.out.cell 0 rfl 0 rfl; have fb0_0 := HO.out.frozen 0 rfl 0; have xb0_1 := HO.out.cell 0 rfl 1 rfl; have fb0_1 := HO.out.frozen 0 rfl 1; have lb0 := HO.out.lt 0 rfl; have nb0_gy := HO.out.nei 0 2 rfl rfl (by decide); have nb0_gx := HO.out.nei 0 3 rfl rfl (by decide); have nbb0_1 := HO.out.nei 0 1 rfl rfl (by decide); have xb1_0 := HO.out.cell 1 rfl 0 rfl; have fb1_0 := HO.out.frozen 1 rfl 0; have xb1_1 := HO.out.cell 1 rfl 1 rfl; have fb1_1 := HO.out.frozen 1 rfl 1; have lb1 := HO.out.lt 1 rfl; have nb1_gy := HO.out.nei 1 2 rfl rfl (by decide); have nb1_gx := HO.out.nei 1 3 rfl rfl (by decide); have nbb1_0 := HO.out.nei 1 0 rfl rfl (by decide))))
    | (go_at_call 57; have H2 := ((HO.out.allocN (v1.heap.size) rfl [.int .u64 0, .int .u64 0] 75).allocN (v1.heap.size + 1) (size_alloc _ _) [.int .u64 0, .int .u64 0] 75); (with_reducible refine (timeboundref31_size.calls y0 t2 (wdOf H2) h3.out).mono ?_); rintro e v2 ⟨rfl, hbl⟩; replace HO := Aside0.mk (H2.step hbl.below); clear hbl H2; have x_gy_0 : World.cell? _ ⟨gy, 0, none⟩ = _ := HO.out.cell 2 rfl 0 rfl; have x_gy_1 : World.cell? _ ⟨gy, 1, none⟩ = _ := HO.out.cell 2 rfl 1 rfl; have t_gy : gy < _ := HO.out.lt 2 rfl; have ngc_gy := World.new_ne _ _ x_gy_0; dsimp only at ngc_gy; have x_gx_0 : World.cell? _ ⟨gx, 0, none⟩ = _ := HO.out.cell 3 rfl 0 rfl; have x_gx_1 : World.cell? _ ⟨gx, 1, none⟩ = _ := HO.out.cell 3 rfl 1 rfl; have t_gx : gx < _ := HO.out.lt 3 rfl; have ngc_gx := World.new_ne _ _ x_gx_0; dsimp only at ngc_gx; have xb0_0 := HO.out.cell 0 rfl 0 rfl; have fb0_0 := HO.out.frozen 0 rfl 0; have xb0_1 := HO.out.cell 0 rfl 1 rfl; have fb0_1 := HO.out.frozen 0 rfl 1; have lb0 := HO.out.lt 0 rfl; have nb0_gy := HO.out.nei 0 2 rfl rfl (by decide); have nb0_gx := HO.out.nei 0 3 rfl rfl (by decide); have nbb0_1 := HO.out.nei 0 1 rfl rfl (by decide); have xb1_0 := HO.out.cell 1 rfl 0 rfl; have fb1_0 := HO.out.frozen 1 rfl 0; have xb1_1 := HO.out.cell 1 rfl 1 rfl; have fb1_1 := HO.out.frozen 1 rfl 1; have lb1 := HO.out.lt 1 rfl; have nb1_gy := HO.out.nei 1 2 rfl rfl (by decide); have nb1_gx := HO.out.nei 1 3 rfl rfl (by decide); have nbb1_0 := HO.out.nei 1 0 rfl rfl (by decide))
    | (go_at_call 68; have H2 := HO.out; (with_reducible refine (timeboundref31_mul.calls t2 _ q1 q2 (wdOf H2) h4.out).mono ?_); rintro e v3 ⟨rfl, hbl⟩; replace HO := Aside0.mk (H2.step hbl); clear hbl H2; (first | (have x_gy_0 : World.cell? _ ⟨gy, 0, none⟩ = _ := HO.out.cell 0 rfl 0 rfl; have x_gy_1 : World.cell? _ ⟨gy, 1, none⟩ = _ := HO.out.cell 0 rfl 1 rfl; have t_gy : gy < _ := HO.out.lt 0 rfl; have ngc_gy := World.new_ne _ _ x_gy_0; dsimp only at ngc_gy; have x_gx_0 : World.cell? _ ⟨gx, 0, none⟩ = _ := HO.out.cell 1 rfl 0 rfl; have x_gx_1 : World.cell? _ ⟨gx, 1, none⟩ = _ := HO.out.cell 1 rfl 1 rfl; have t_gx : gx < _ := HO.out.lt 1 rfl; have ngc_gx := World.new_ne _ _ x_gx_0; dsimp only at ngc_gx) | (have x_gy_0 : World.cell? _ ⟨gy, 0, none⟩ = _ := HO.out.cell 1 rfl 0 rfl; have x_gy_1 : World.cell? _ ⟨gy, 1, none⟩ = _ := HO.out.cell 1 rfl 1 rfl; have t_gy : gy < _ := HO.out.lt 1 rfl; have ngc_gy := World.new_ne _ _ x_gy_0; dsimp only at ngc_gy; have x_gx_0 : World.cell? _ ⟨gx, 0, none⟩ = _ := HO.out.cell 2 rfl 0 rfl; have x_gx_1 : World.cell? _ ⟨gx, 1, none⟩ = _ := HO.out.cell 2 rfl 1 rfl; have t_gx : gx < _ := HO.out.lt 2 rfl; have ngc_gx := World.new_ne _ _ x_gx_0; dsimp only at ngc_gx; have xb0_0 := HO.out.cell 0 rfl 0 rfl; have fb0_0 := HO.out.frozen 0 rfl 0; have xb0_1 := HO.out.cell 0 rfl 1 rfl; have fb0_1 := HO.out.frozen 0 rfl 1; have lb0 := HO.out.lt 0 rfl; have nb0_gy := HO.out.nei 0 1 rfl rfl (by decide); have nb0_gx := HO.out.nei 0 2 rfl rfl (by decide)) | (have x_gy_0 : World.cell? _ ⟨gy, 0, none⟩ = _ := HO.out.cell 2 rfl 0 rfl; have x_gy_1 : World.cell? _ ⟨gy, 1, none⟩ = _ := HO.out.cell 2 rfl 1 rfl; have t_gy : gy < _ := HO.out.lt 2 rfl; have ngc_gy := World.new_ne _ _ x_gy_0; dsimp only at ngc_gy; have x_gx_0 : World.cell? _ ⟨gx, 0, none⟩ = _ := HO.out.cell 3 rfl 0 rfl; have x_gx_1 : World.cell? _ ⟨gx, 1, none⟩ = _ := HO.out.cell 3 rfl 1 rfl; have t_gx : gx < _ := HO.out.lt 3 rfl; have ngc_gx := World.new_ne _ _ x_gx_0; dsimp only at ngc_gx; have xb0_0 := HO.out.cell 0 rfl 0 rfl; have fb0_0 := HO.out.frozen 0 rfl 0; have xb0_1 := HO.out.cell 0 rfl 1 rfl; have fb0_1 := HO.out.frozen 0 rfl 1; have lb0 := HO.out.lt 0 rfl; have nb0_gy := HO.out.nei 0 2 rfl rfl (by decide); have nb0_gx := HO.out.nei 0 3 rfl rfl (by decide); have nbb0_1 := HO.out.nei 0 1 rfl rfl (by decide); have xb1_0 := HO.out.cell 1 rfl 0 rfl; have fb1_0 := HO.out.frozen 1 rfl 0; have xb1_1 := HO.out.cell 1 rfl 1 rfl; have fb1_1 := HO.out.frozen 1 rfl 1; have lb1 := HO.out.lt 1 rfl; have nb1_gy := HO.out.nei 1 2 rfl rfl (by decide); have nb1_gx := HO.out.nei 1 3 rfl rfl (by decide); have nbb1_0 := HO.out.nei 1 0 rfl rfl (by decide))))
    | (go_at_call 68; have H2 := (HO.out.allocN (v2.heap.size) rfl [.int .u64 0, .int .u64 0] 75); (with_reducible refine (timeboundref31_mul.calls t2 _ q1 q2 (wdOf H2) h4.out).mono ?_); rintro e v3 ⟨rfl, hbl⟩; replace HO := Aside0.mk (H2.step hbl); clear hbl H2; (first | (have x_gy_0 : World.cell? _ ⟨gy, 0, none⟩ = _ := HO.out.cell 1 rfl 0 rfl; have x_gy_1 : World.cell? _ ⟨gy, 1, none⟩ = _ := HO.out.cell 1 rfl 1 rfl; have t_gy : gy < _ := HO.out.lt 1 rfl; have ngc_gy := World.new_ne _ _ x_gy_0; dsimp only at ngc_gy; have x_gx_0 : World.cell? _ ⟨gx, 0, none⟩ = _ := HO.out.cell 2 rfl 0 rfl; have x_gx_1 : World.cell? _ ⟨gx, 1, none⟩ = _ := HO.out.cell 2 rfl 1 rfl; have t_gx : gx < _ := HO.out.lt 2 rfl; have ngc_gx := World.new_ne _ _ x_gx_0; dsimp only at ngc_gx; have xb0_0 := HO.out.cell 0 rfl 0 rfl; have fb0_0 := HO.out.frozen 0 rfl 0; have xb0_1 := HO.out.cell 0 rfl 1 rfl; have fb0_1 := HO.out.frozen 0 rfl 1; have lb0 := HO.out.lt 0 rfl; have nb0_gy := HO.out.nei 0 1 rfl rfl (by decide); have nb0_gx := HO.out.nei 0 2 rfl rfl (by decide)) | (have x_gy_0 : World.cell? _ ⟨gy, 0, none⟩ = _ := HO.out.cell 2 rfl 0 rfl; have x_gy_1 : World.cell? _ ⟨gy, 1, none⟩ = _ := HO.out.cell 2 rfl 1 rfl; have t_gy : gy < _ := HO.out.lt 2 rfl; have ngc_gy := World.new_ne _ _ x_gy_0; dsimp only at ngc_gy; have x_gx_0 : World.cell? _ ⟨gx, 0, none⟩ = _ := HO.out.cell 3 rfl 0 rfl; have x_gx_1 : World.cell? _ ⟨gx, 1, none⟩ = _ := HO.out.cell 3 rfl 1 rfl; have t_gx : gx < _ := HO.out.lt 3 rfl; have ngc_gx := World.new_ne _ _ x_gx_0; dsimp only at ngc_gx; have xb0_0 := HO.out.cell 0 rfl 0 rfl; have fb0_0 := HO.out.frozen 0 rfl 0; have xb0_1 := HO.out.cell 0 rfl 1 rfl; have fb0_1 := HO.out.frozen 0 rfl 1; have lb0 := HO.out.lt 0 rfl; have nb0_gy := HO.out.nei 0 2 rfl rfl (by decide); have nb0_gx := HO.out.nei 0 3 rfl rfl (by decide); have nbb0_1 := HO.out.nei 0 1 rfl rfl (by decide); have xb1_0 := HO.out.cell 1 rfl 0 rfl; have fb1_0 := HO.out.frozen 1 rfl 0; have xb1_1 := HO.out.cell 1 rfl 1 rfl; have fb1_1 := HO.out.frozen 1 rfl 1; have lb1 := HO.out.lt 1 rfl; have nb1_gy := HO.out.nei 1 2 rfl rfl (by decide); have nb1_gx := HO.out.nei 1 3 rfl rfl (by decide); have nbb1_0 := HO.out.nei 1 0 rfl rfl (by decide))))
    | (go_at_call 68; have H2 := ((HO.out.allocN (v2.heap.size) rfl [.int .u64 0, .int .u64 0] 75).allocN (v2.heap.size + 1) (size_alloc _ _) [.int .u64 0, .int .u64 0] 75); (with_reducible refine (timeboundref31_mul.calls t2 _ q1 q2 (wdOf H2) h4.out).mono ?_); rintro e v3 ⟨rfl, hbl⟩; replace HO := Aside0.mk (H2.step hbl); clear hbl H2; have x_gy_0 : World.cell? _ ⟨gy, 0, none⟩ = _ := HO.out.cell 2 rfl 0 rfl; have x_gy_1 : World.cell? _ ⟨gy, 1, none⟩ = _ := HO.out.cell 2 rfl 1 rfl; have t_gy : gy < _ := HO.out.lt 2 rfl; have ngc_gy := World.new_ne _ _ x_gy_0; dsimp only at ngc_gy; have x_gx_0 : World.cell? _ ⟨gx, 0, none⟩ = _ := HO.out.cell 3 rfl 0 rfl; have x_gx_1 : World.cell? _ ⟨gx, 1, none⟩ = _ := HO.out.cell 3 rfl 1 rfl; have t_gx : gx < _ := HO.out.lt 3 rfl; have ngc_gx := World.new_ne _ _ x_gx_0; dsimp only at ngc_gx; have xb0_0 := HO.out.cell 0 rfl 0 rfl; have fb0_0 := HO.out.frozen 0 rfl 0; have xb0_1 := HO.out.cell 0 rfl 1 rfl; have fb0_1 := HO.out.frozen 0 rfl 1; have lb0 := HO.out.lt 0 rfl; have nb0_gy := HO.out.nei 0 2 rfl rfl (by decide); have nb0_gx := HO.out.nei 0 3 rfl rfl (by decide); have nbb0_1 := HO.out.nei 0 1 rfl rfl (by decide); have xb1_0 := HO.out.cell 1 rfl 0 rfl; have fb1_0 := HO.out.frozen 1 rfl 0; have xb1_1 := HO.out.cell 1 rfl 1 rfl; have fb1_1 := HO.out.frozen 1 rfl 1; have lb1 := HO.out.lt 1 rfl; have nb1_gy := HO.out.nei 1 2 rfl rfl (by decide); have nb1_gx := HO.out.nei 1 3 rfl rfl (by decide); have nbb1_0 := HO.out.nei 1 0 rfl rfl (by decide)))
    all_goals
      go_wp2
      go_meet
      case rel => first | exact ⟨_, _, rfl, rfl, ⟨((HO.out.allocN _ rfl [.int .u64 p1, .int .u64 p2] 75).allocN _ (size_alloc _ _) [.int .u64 q1, .int .u64 q2] 75).swap⟩⟩ | exact ⟨_, _, rfl, rfl, ⟨(HO.out.allocN _ rfl [.int .u64 q1, .int .u64 q2] 75).allocN _ (size_alloc _ _) [.int .u64 p1, .int .u64 p2] 75⟩⟩ | exact ⟨_, _, rfl, rfl, ⟨(((HO.out.set 0 rfl 0 (.int .u64 p1)).set 0 rfl 1 (.int .u64 p2)).allocN _ (by simp) [.int .u64 q1, .int .u64 q2] 75).swap⟩⟩ | exact ⟨_, _, rfl, rfl, ⟨((HO.out.set 0 rfl 0 (.int .u64 q1)).set 0 rfl 1 (.int .u64 q2)).allocN _ (by simp) [.int .u64 p1, .int .u64 p2] 75⟩⟩ | exact ⟨_, _, rfl, rfl, ⟨((((HO.out.set 0 rfl 0 (.int .u64 p1)).set 0 rfl 1 (.int .u64 p2)).set 1 rfl 0 (.int .u64 q1)).set 1 rfl 1 (.int .u64 q2))⟩⟩ | exact ⟨_, _, rfl, rfl, ⟨((((HO.out.set 1 rfl 0 (.int .u64 p1)).set 1 rfl 1 (.int .u64 p2)).set 0 rfl 0 (.int .u64 q1)).set 0 rfl 1 (.int .u64 q2)).swap⟩⟩
  case rest =>
    obtain ⟨ga, gb, rfl, rfl, HO⟩ := hcut
    have x_ga_0 := HO.out.cell 0 rfl 0 rfl; have f_ga_0 := HO.out.frozen 0 rfl 0
    have x_ga_1 := HO.out.cell 0 rfl 1 rfl; have f_ga_1 := HO.out.frozen 0 rfl 1
    have x_gb_0 := HO.out.cell 1 rfl 0 rfl; have f_gb_0 := HO.out.frozen 1 rfl 0
    have x_gb_1 := HO.out.cell 1 rfl 1 rfl; have f_gb_1 := HO.out.frozen 1 rfl 1
    have x_gy_0 := HO.out.cell 2 rfl 0 rfl; have f_gy_0 := HO.out.frozen 2 rfl 0
    have x_gy_1 := HO.out.cell 2 rfl 1 rfl; have f_gy_1 := HO.out.frozen 2 rfl 1
    have x_gx_0 := HO.out.cell 3 rfl 0 rfl; have f_gx_0 := HO.out.frozen 3 rfl 0
    have x_gx_1 := HO.out.cell 3 rfl 1 rfl; have f_gx_1 := HO.out.frozen 3 rfl 1
    have n_ab : ga ≠ gb := HO.out.nei 0 1 rfl rfl (by decide)
    have n_ba : gb ≠ ga := HO.out.nei 1 0 rfl rfl (by decide)
    have n_ax : ga ≠ gx := HO.out.nei 0 3 rfl rfl (by decide)
    have n_ay : ga ≠ gy := HO.out.nei 0 2 rfl rfl (by decide)
    have n_bx : gb ≠ gx := HO.out.nei 1 3 rfl rfl (by decide)
    have n_by : gb ≠ gy := HO.out.nei 1 2 rfl rfl (by decide)
    have H1 := H.out
    clear H
    have H := H1
    clear H1
    by_cases c : x0 < 0
    · rw [if_pos c] at H
      have cb := decide_eq_true c
      clear c
      rw [timeboundref31_Cmp.j0] at H
      obtain ⟨t, hl, H⟩ := Option.bind_eq_some_iff.mp H
      replace hl := Aside0.mk hl
      cases t
      · rw [if_neg (by decide)] at H
        by_cases c : q1 = p1
        · subst c
          by_cases c : q2 = p2
          · subst c
            rw [if_pos (by simp)] at H
            obtain rfl := Option.some.inj H
            clear H
            go_wp2_with ((go_at_call 71; (with_reducible refine (timeboundref31_less.calls q1 q2 q1 q2 false _ hl.out).mono ?_); rintro e wl ⟨rfl, hbl⟩; replace HO := Aside0.mk (((((HO.out.set 0 rfl 0 (.int .u64 q1)).set 0 rfl 1 (.int .u64 q2)).set 1 rfl 0 (.int .u64 q1)).set 1 rfl 1 (.int .u64 q2)).step hbl); clear hbl; have x_ga_0 := HO.out.cell 0 rfl 0 rfl; have f_ga_0 := HO.out.frozen 0 rfl 0; have x_ga_1 := HO.out.cell 0 rfl 1 rfl; have f_ga_1 := HO.out.frozen 0 rfl 1; have x_gb_0 := HO.out.cell 1 rfl 0 rfl; have f_gb_0 := HO.out.frozen 1 rfl 0; have x_gb_1 := HO.out.cell 1 rfl 1 rfl; have f_gb_1 := HO.out.frozen 1 rfl 1; have x_gy_0 := HO.out.cell 2 rfl 0 rfl; have f_gy_0 := HO.out.frozen 2 rfl 0; have x_gy_1 := HO.out.cell 2 rfl 1 rfl; have f_gy_1 := HO.out.frozen 2 rfl 1; have x_gx_0 := HO.out.cell 3 rfl 0 rfl; have f_gx_0 := HO.out.frozen 3 rfl 0; have x_gx_1 := HO.out.cell 3 rfl 1 rfl; have f_gx_1 := HO.out.frozen 3 rfl 1))
            go_ret
            exact ⟨rfl, HO.out.below⟩
          · rw [if_neg (by simp [c])] at H
            obtain rfl := Option.some.inj H
            clear H
            have n1 : ¬ q2 = p2 := c
            have n2 : decide (q2 = p2) = false := decide_eq_false c
            have n3 : (q2 == p2) = false := by simpa using c
            clear c
            go_wp2_with ((go_at_call 71; (with_reducible refine (timeboundref31_less.calls q1 q2 q1 p2 false _ hl.out).mono ?_); rintro e wl ⟨rfl, hbl⟩; replace HO := Aside0.mk (((((HO.out.set 0 rfl 0 (.int .u64 q1)).set 0 rfl 1 (.int .u64 q2)).set 1 rfl 0 (.int .u64 q1)).set 1 rfl 1 (.int .u64 p2)).step hbl); clear hbl; have x_ga_0 := HO.out.cell 0 rfl 0 rfl; have f_ga_0 := HO.out.frozen 0 rfl 0; have x_ga_1 := HO.out.cell 0 rfl 1 rfl; have f_ga_1 := HO.out.frozen 0 rfl 1; have x_gb_0 := HO.out.cell 1 rfl 0 rfl; have f_gb_0 := HO.out.frozen 1 rfl 0; have x_gb_1 := HO.out.cell 1 rfl 1 rfl; have f_gb_1 := HO.out.frozen 1 rfl 1; have x_gy_0 := HO.out.cell 2 rfl 0 rfl; have f_gy_0 := HO.out.frozen 2 rfl 0; have x_gy_1 := HO.out.cell 2 rfl 1 rfl; have f_gy_1 := HO.out.frozen 2 rfl 1; have x_gx_0 := HO.out.cell 3 rfl 0 rfl; have f_gx_0 := HO.out.frozen 3 rfl 0; have x_gx_1 := HO.out.cell 3 rfl 1 rfl; have f_gx_1 := HO.out.frozen 3 rfl 1))
            go_ret
            exact ⟨rfl, HO.out.below⟩
        · rw [if_neg (by simp [c])] at H
          obtain rfl := Option.some.inj H
          clear H
          have n1 : ¬ q1 = p1 := c
          have n2 : decide (q1 = p1) = false := decide_eq_false c
          have n3 : (q1 == p1) = false := by simpa using c
          clear c
          go_wp2_with ((go_at_call 71; (with_reducible refine (timeboundref31_less.calls q1 q2 p1 p2 false _ hl.out).mono ?_); rintro e wl ⟨rfl, hbl⟩; replace HO := Aside0.mk (((((HO.out.set 0 rfl 0 (.int .u64 q1)).set 0 rfl 1 (.int .u64 q2)).set 1 rfl 0 (.int .u64 p1)).set 1 rfl 1 (.int .u64 p2)).step hbl); clear hbl; have x_ga_0 := HO.out.cell 0 rfl 0 rfl; have f_ga_0 := HO.out.frozen 0 rfl 0; have x_ga_1 := HO.out.cell 0 rfl 1 rfl; have f_ga_1 := HO.out.frozen 0 rfl 1; have x_gb_0 := HO.out.cell 1 rfl 0 rfl; have f_gb_0 := HO.out.frozen 1 rfl 0; have x_gb_1 := HO.out.cell 1 rfl 1 rfl; have f_gb_1 := HO.out.frozen 1 rfl 1; have x_gy_0 := HO.out.cell 2 rfl 0 rfl; have f_gy_0 := HO.out.frozen 2 rfl 0; have x_gy_1 := HO.out.cell 2 rfl 1 rfl; have f_gy_1 := HO.out.frozen 2 rfl 1; have x_gx_0 := HO.out.cell 3 rfl 0 rfl; have f_gx_0 := HO.out.frozen 3 rfl 0; have x_gx_1 := HO.out.cell 3 rfl 1 rfl; have f_gx_1 := HO.out.frozen 3 rfl 1))
          go_ret
          exact ⟨rfl, HO.out.below⟩
      · rw [if_pos rfl] at H
        obtain rfl := Option.some.inj H
        clear H
        go_wp2_with ((go_at_call 71; (with_reducible refine (timeboundref31_less.calls q1 q2 p1 p2 true _ hl.out).mono ?_); rintro e wl ⟨rfl, hbl⟩; replace HO := Aside0.mk (((((HO.out.set 0 rfl 0 (.int .u64 q1)).set 0 rfl 1 (.int .u64 q2)).set 1 rfl 0 (.int .u64 p1)).set 1 rfl 1 (.int .u64 p2)).step hbl); clear hbl; have x_ga_0 := HO.out.cell 0 rfl 0 rfl; have f_ga_0 := HO.out.frozen 0 rfl 0; have x_ga_1 := HO.out.cell 0 rfl 1 rfl; have f_ga_1 := HO.out.frozen 0 rfl 1; have x_gb_0 := HO.out.cell 1 rfl 0 rfl; have f_gb_0 := HO.out.frozen 1 rfl 0; have x_gb_1 := HO.out.cell 1 rfl 1 rfl; have f_gb_1 := HO.out.frozen 1 rfl 1; have x_gy_0 := HO.out.cell 2 rfl 0 rfl; have f_gy_0 := HO.out.frozen 2 rfl 0; have x_gy_1 := HO.out.cell 2 rfl 1 rfl; have f_gy_1 := HO.out.frozen 2 rfl 1; have x_gx_0 := HO.out.cell 3 rfl 0 rfl; have f_gx_0 := HO.out.frozen 3 rfl 0; have x_gx_1 := HO.out.cell 3 rfl 1 rfl; have f_gx_1 := HO.out.frozen 3 rfl 1))
        go_ret
        exact ⟨rfl, HO.out.below⟩
    · rw [if_neg c] at H
      have cb := decide_eq_false c
      clear c
      rw [timeboundref31_Cmp.j0] at H
      obtain ⟨t, hl, H⟩ := Option.bind_eq_some_iff.mp H
      replace hl := Aside0.mk hl
      cases t
      · rw [if_neg (by decide)] at H
        by_cases c : p1 = q1
        · subst c
          by_cases c : p2 = q2
          · subst c
            rw [if_pos (by simp)] at H
            obtain rfl := Option.some.inj H
            clear H
            go_wp2_with ((go_at_call 71; (with_reducible refine (timeboundref31_less.calls p1 p2 p1 p2 false _ hl.out).mono ?_); rintro e wl ⟨rfl, hbl⟩; replace HO := Aside0.mk (HO.out.step hbl); clear hbl; have x_ga_0 := HO.out.cell 0 rfl 0 rfl; have f_ga_0 := HO.out.frozen 0 rfl 0; have x_ga_1 := HO.out.cell 0 rfl 1 rfl; have f_ga_1 := HO.out.frozen 0 rfl 1; have x_gb_0 := HO.out.cell 1 rfl 0 rfl; have f_gb_0 := HO.out.frozen 1 rfl 0; have x_gb_1 := HO.out.cell 1 rfl 1 rfl; have f_gb_1 := HO.out.frozen 1 rfl 1; have x_gy_0 := HO.out.cell 2 rfl 0 rfl; have f_gy_0 := HO.out.frozen 2 rfl 0; have x_gy_1 := HO.out.cell 2 rfl 1 rfl; have f_gy_1 := HO.out.frozen 2 rfl 1; have x_gx_0 := HO.out.cell 3 rfl 0 rfl; have f_gx_0 := HO.out.frozen 3 rfl 0; have x_gx_1 := HO.out.cell 3 rfl 1 rfl; have f_gx_1 := HO.out.frozen 3 rfl 1))
            go_ret
            exact ⟨rfl, HO.out.below⟩
          · rw [if_neg (by simp [c])] at H
            obtain rfl := Option.some.inj H
            clear H
            have n1 : ¬ p2 = q2 := c
            have n2 : decide (p2 = q2) = false := decide_eq_false c
            have n3 : (p2 == q2) = false := by simpa using c
            clear c
            go_wp2_with ((go_at_call 71; (with_reducible refine (timeboundref31_less.calls p1 p2 p1 q2 false _ hl.out).mono ?_); rintro e wl ⟨rfl, hbl⟩; replace HO := Aside0.mk (HO.out.step hbl); clear hbl; have x_ga_0 := HO.out.cell 0 rfl 0 rfl; have f_ga_0 := HO.out.frozen 0 rfl 0; have x_ga_1 := HO.out.cell 0 rfl 1 rfl; have f_ga_1 := HO.out.frozen 0 rfl 1; have x_gb_0 := HO.out.cell 1 rfl 0 rfl; have f_gb_0 := HO.out.frozen 1 rfl 0; have x_gb_1 := HO.out.cell 1 rfl 1 rfl; have f_gb_1 := HO.out.frozen 1 rfl 1; have x_gy_0 := HO.out.cell 2 rfl 0 rfl; have f_gy_0 := HO.out.frozen 2 rfl 0; have x_gy_1 := HO.out.cell 2 rfl 1 rfl; have f_gy_1 := HO.out.frozen 2 rfl 1; have x_gx_0 := HO.out.cell 3 rfl 0 rfl; have f_gx_0 := HO.out.frozen 3 rfl 0; have x_gx_1 := HO.out.cell 3 rfl 1 rfl; have f_gx_1 := HO.out.frozen 3 rfl 1))
            go_ret
            exact ⟨rfl, HO.out.below⟩
        · rw [if_neg (by simp [c])] at H
          obtain rfl := Option.some.inj H
          clear H
          have n1 : ¬ p1 = q1 := c
          have n2 : decide (p1 = q1) = false := decide_eq_false c
          have n3 : (p1 == q1) = false := by simpa using c
          clear c
          go_wp2_with ((go_at_call 71; (with_reducible refine (timeboundref31_less.calls p1 p2 q1 q2 false _ hl.out).mono ?_); rintro e wl ⟨rfl, hbl⟩; replace HO := Aside0.mk (HO.out.step hbl); clear hbl; have x_ga_0 := HO.out.cell 0 rfl 0 rfl; have f_ga_0 := HO.out.frozen 0 rfl 0; have x_ga_1 := HO.out.cell 0 rfl 1 rfl; have f_ga_1 := HO.out.frozen 0 rfl 1; have x_gb_0 := HO.out.cell 1 rfl 0 rfl; have f_gb_0 := HO.out.frozen 1 rfl 0; have x_gb_1 := HO.out.cell 1 rfl 1 rfl; have f_gb_1 := HO.out.frozen 1 rfl 1; have x_gy_0 := HO.out.cell 2 rfl 0 rfl; have f_gy_0 := HO.out.frozen 2 rfl 0; have x_gy_1 := HO.out.cell 2 rfl 1 rfl; have f_gy_1 := HO.out.frozen 2 rfl 1; have x_gx_0 := HO.out.cell 3 rfl 0 rfl; have f_gx_0 := HO.out.frozen 3 rfl 0; have x_gx_1 := HO.out.cell 3 rfl 1 rfl; have f_gx_1 := HO.out.frozen 3 rfl 1))
          go_ret
          exact ⟨rfl, HO.out.below⟩
      · rw [if_pos rfl] at H
        obtain rfl := Option.some.inj H
        clear H
        go_wp2_with ((go_at_call 71; (with_reducible refine (timeboundref31_less.calls p1 p2 q1 q2 true _ hl.out).mono ?_); rintro e wl ⟨rfl, hbl⟩; replace HO := Aside0.mk (HO.out.step hbl); clear hbl; have x_ga_0 := HO.out.cell 0 rfl 0 rfl; have f_ga_0 := HO.out.frozen 0 rfl 0; have x_ga_1 := HO.out.cell 0 rfl 1 rfl; have f_ga_1 := HO.out.frozen 0 rfl 1; have x_gb_0 := HO.out.cell 1 rfl 0 rfl; have f_gb_0 := HO.out.frozen 1 rfl 0; have x_gb_1 := HO.out.cell 1 rfl 1 rfl; have f_gb_1 := HO.out.frozen 1 rfl 1; have x_gy_0 := HO.out.cell 2 rfl 0 rfl; have f_gy_0 := HO.out.frozen 2 rfl 0; have x_gy_1 := HO.out.cell 2 rfl 1 rfl; have f_gy_1 := HO.out.frozen 2 rfl 1; have x_gx_0 := HO.out.cell 3 rfl 0 rfl; have f_gx_0 := HO.out.frozen 3 rfl 0; have x_gx_1 := HO.out.cell 3 rfl 1 rfl; have f_gx_1 := HO.out.frozen 3 rfl 1))
        go_ret
        exact ⟨rfl, HO.out.below⟩
theorem timeboundref31_Cmp.calls (k : Nat) (a0_0 : Int) (a0_1 : Int) (a1_0 : Int) (a1_1 : Int) (r : Int) (w : World) (h : timeboundref31_Cmp.f k a0_0 a0_1 a1_0 a1_1 = some r) :
    Calls Try.prog 25 #[.agg #[.int .i64 a0_0, .int .i64 a0_1], .agg #[.int .i64 a1_0, .int .i64 a1_1]] w fun e w' => e = .returned (.int .i64 r) ∧ Below w.heap.size w w' := by
  unfold timeboundref31_Cmp.f at h
  split at h
  · next hs => exact Cmp_diff a0_0 a0_1 a1_0 a1_1 r w hs h
  · next hs =>
    obtain ⟨t1, h1, h⟩ := Option.bind_eq_some_iff.mp h
    obtain ⟨⟨p1, p2⟩, h2, h⟩ := Option.bind_eq_some_iff.mp h
    obtain ⟨t2, h3, h⟩ := Option.bind_eq_some_iff.mp h
    obtain ⟨⟨q1, q2⟩, h4, h⟩ := Option.bind_eq_some_iff.mp h
    cases k with
    | zero => simp [timeboundref31_Cmp.j0] at h
    | succ k => exact Cmp_same k a0_0 a0_1 a1_0 a1_1 r w t1 p1 p2 t2 q1 q2 (by simpa using hs) h1 h2 h3 h4 h
end Go.Proofs.Ytjoddcfcolhimaa.QFr
