-- Printed by wip/drv/drv.py of this session, over the kit's print tool. Not trusted: Lean checks it.
import Derived.Test.YtjoddcfcolhimaaQFrx0
import Derived.Test.YtjoddcfcolhimaaQFrx3
namespace Go.Proofs.Ytjoddcfcolhimaa.QFr
open Go.RowKit Go.Proofs.YtjoddcfcolhimaaW.PrintWords Go.Proofs.YtjoddcfcolhimaaW.PrintLast Go.Proofs.YtjoddcfcolhimaaW.PrintMore
attribute [local go_sem] max2_int min2_int max_two min_two max_three min_three max_four min_four   -- for this text's walks alone
set_option linter.unusedVariables false
set_option linter.unusedSimpArgs false

/-! ### wide_Common: function 96 -/
mutual
def wide_Common.l0 : Nat → Int → Int → Int → Bool → Int → Int → Bool → Option (Int × Int × Bool)
  | 0, _, _, _, _, _, _, _ => none
  | k + 1, x5, x122000, x122001, x122002, x123000, x123001, x123002 => (wide_Number_even.f x122000 x122001 x122002).bind fun t126 => (if t126 = true then ((wide_Number_even.f x123000 x123001 x123002).bind fun t127 => (wide_Common.j1 k x5 t127 x122000 x122001 x122002 x123000 x123001 x123002)) else (wide_Common.j1 k x5 false x122000 x122001 x122002 x123000 x123001 x123002))
def wide_Common.j1 : Nat → Int → Bool → Int → Int → Bool → Int → Int → Bool → Option (Int × Int × Bool)
  | 0, _, _, _, _, _, _, _, _ => none
  | k + 1, x5, x19, x122000, x122001, x122002, x123000, x123001, x123002 => if x19 = true then ((wide_Number_half.f x122000 x122001 x122002).bind fun bt128 => ((wide_Number_half.f x123000 x123001 x123002).bind fun bt131 => (wide_Common.l0 k (wrap64 (x5 + 1)) bt128.1 bt128.2.1 bt128.2.2 bt131.1 bt131.2.1 bt131.2.2))) else (wide_Common.l1 k x5 x122000 x122001 x122002 x123000 x123001 x123002)
def wide_Common.l1 : Nat → Int → Int → Int → Bool → Int → Int → Bool → Option (Int × Int × Bool)
  | 0, _, _, _, _, _, _, _ => none
  | k + 1, x5, x122000, x122001, x122002, x123000, x123001, x123002 => (wide_Number_even.f x122000 x122001 x122002).bind fun t134 => (if t134 = true then ((wide_Number_half.f x122000 x122001 x122002).bind fun bt135 => (wide_Common.l1 k x5 bt135.1 bt135.2.1 bt135.2.2 x123000 x123001 x123002)) else (wide_Common.l2 k x5 x122000 x122001 x122002 x123000 x123001 x123002))
def wide_Common.l2 : Nat → Int → Int → Int → Bool → Int → Int → Bool → Option (Int × Int × Bool)
  | 0, _, _, _, _, _, _, _ => none
  | k + 1, x5, x122000, x122001, x122002, x123000, x123001, x123002 => (wide_Number_Zero.f x123000 x123001 x123002).bind fun t138 => (if t138 = true then (wide_Common.l4 k x5 0 x122000 x122001 x122002) else (wide_Common.l3 k x5 x122000 x122001 x122002 x123000 x123001 x123002))
def wide_Common.l4 : Nat → Int → Int → Int → Int → Bool → Option (Int × Int × Bool)
  | 0, _, _, _, _, _ => none
  | k + 1, x45, x46, x122000, x122001, x122002 => if x46 < x45 then ((wide_Number_twice.f x122000 x122001 x122002).bind fun bt150 => (wide_Common.l4 k x45 (wrap64 (x46 + 1)) bt150.1 bt150.2.1 bt150.2.2)) else (some (x122000, x122001, x122002))
def wide_Common.l3 : Nat → Int → Int → Int → Bool → Int → Int → Bool → Option (Int × Int × Bool)
  | 0, _, _, _, _, _, _, _ => none
  | k + 1, x5, x122000, x122001, x122002, x123000, x123001, x123002 => (wide_Number_even.f x123000 x123001 x123002).bind fun t139 => (if t139 = true then ((wide_Number_half.f x123000 x123001 x123002).bind fun bt140 => (wide_Common.l3 k x5 x122000 x122001 x122002 bt140.1 bt140.2.1 bt140.2.2)) else ((wide_Number_below.f x123000 x123001 x123002 x122000 x122001 x122002).bind fun t143 => (if t143 = true then ((wide_Number_less.f x122000 x122001 x122002 x123000 x123001 x123002).bind fun bt144 => (wide_Common.l2 k x5 x123000 x123001 x123002 bt144.1 bt144.2.1 bt144.2.2)) else ((wide_Number_less.f x123000 x123001 x123002 x122000 x122001 x122002).bind fun bt147 => (wide_Common.l2 k x5 x122000 x122001 x122002 bt147.1 bt147.2.1 bt147.2.2)))))
end
def wide_Common.f (k : Nat) (a0_0 : Int) (a0_1 : Int) (a0_2 : Bool) (a1_0 : Int) (a1_1 : Int) (a1_2 : Bool) : Option (Int × Int × Bool) := (wide_Number_Zero.f a0_0 a0_1 false).bind fun t124 => (if t124 = true then (some (a1_0, a1_1, false)) else ((wide_Number_Zero.f a1_0 a1_1 false).bind fun t125 => (if t125 = true then (some (a0_0, a0_1, false)) else (wide_Common.l0 k 0 a0_0 a0_1 false a1_0 a1_1 false))))
theorem wide_Common.mono_l : ∀ k, (∀ y0 y1 y2 y3 y4 y5 y6, LeO (wide_Common.l0 k y0 y1 y2 y3 y4 y5 y6) (wide_Common.l0 (k + 1) y0 y1 y2 y3 y4 y5 y6)) ∧ (∀ y0 y1 y2 y3 y4 y5 y6 y7, LeO (wide_Common.j1 k y0 y1 y2 y3 y4 y5 y6 y7) (wide_Common.j1 (k + 1) y0 y1 y2 y3 y4 y5 y6 y7)) ∧ (∀ y0 y1 y2 y3 y4 y5 y6, LeO (wide_Common.l1 k y0 y1 y2 y3 y4 y5 y6) (wide_Common.l1 (k + 1) y0 y1 y2 y3 y4 y5 y6)) ∧ (∀ y0 y1 y2 y3 y4 y5 y6, LeO (wide_Common.l2 k y0 y1 y2 y3 y4 y5 y6) (wide_Common.l2 (k + 1) y0 y1 y2 y3 y4 y5 y6)) ∧ (∀ y0 y1 y2 y3 y4, LeO (wide_Common.l4 k y0 y1 y2 y3 y4) (wide_Common.l4 (k + 1) y0 y1 y2 y3 y4)) ∧ (∀ y0 y1 y2 y3 y4 y5 y6, LeO (wide_Common.l3 k y0 y1 y2 y3 y4 y5 y6) (wide_Common.l3 (k + 1) y0 y1 y2 y3 y4 y5 y6))
  | 0 => ⟨fun _ _ _ _ _ _ _ r h => by simp [wide_Common.l0] at h, fun _ _ _ _ _ _ _ _ r h => by simp [wide_Common.j1] at h, fun _ _ _ _ _ _ _ r h => by simp [wide_Common.l1] at h, fun _ _ _ _ _ _ _ r h => by simp [wide_Common.l2] at h, fun _ _ _ _ _ r h => by simp [wide_Common.l4] at h, fun _ _ _ _ _ _ _ r h => by simp [wide_Common.l3] at h⟩
  | k + 1 => by
    obtain ⟨ih0, ih1, ih2, ih3, ih4, ih5⟩ := wide_Common.mono_l k
    refine ⟨?_, ?_, ?_, ?_, ?_, ?_⟩
    · intro y0 y1 y2 y3 y4 y5 y6
      unfold wide_Common.l0
      repeat' first
      | (with_reducible exact ih0 _ _ _ _ _ _ _)
      | (with_reducible exact ih1 _ _ _ _ _ _ _ _)
      | (with_reducible exact ih2 _ _ _ _ _ _ _)
      | (with_reducible exact ih3 _ _ _ _ _ _ _)
      | (with_reducible exact ih4 _ _ _ _ _)
      | (with_reducible exact ih5 _ _ _ _ _ _ _)
      | (with_reducible exact LeO.refl _)
      | (with_reducible exact LeO.none _)
      | (with_reducible refine LeO.ite ?_ ?_)
      | (with_reducible refine LeO.bind ?_ (fun _ => ?_))
      | exact ih0 _ _ _ _ _ _ _
      | exact ih1 _ _ _ _ _ _ _ _
      | exact ih2 _ _ _ _ _ _ _
      | exact ih3 _ _ _ _ _ _ _
      | exact ih4 _ _ _ _ _
      | exact ih5 _ _ _ _ _ _ _
      | exact LeO.none _
      | refine LeO.ite ?_ ?_
      | refine LeO.bind ?_ (fun _ => ?_)
    · intro y0 y1 y2 y3 y4 y5 y6 y7
      unfold wide_Common.j1
      repeat' first
      | (with_reducible exact ih0 _ _ _ _ _ _ _)
      | (with_reducible exact ih1 _ _ _ _ _ _ _ _)
      | (with_reducible exact ih2 _ _ _ _ _ _ _)
      | (with_reducible exact ih3 _ _ _ _ _ _ _)
      | (with_reducible exact ih4 _ _ _ _ _)
      | (with_reducible exact ih5 _ _ _ _ _ _ _)
      | (with_reducible exact LeO.refl _)
      | (with_reducible exact LeO.none _)
      | (with_reducible refine LeO.ite ?_ ?_)
      | (with_reducible refine LeO.bind ?_ (fun _ => ?_))
      | exact ih0 _ _ _ _ _ _ _
      | exact ih1 _ _ _ _ _ _ _ _
      | exact ih2 _ _ _ _ _ _ _
      | exact ih3 _ _ _ _ _ _ _
      | exact ih4 _ _ _ _ _
      | exact ih5 _ _ _ _ _ _ _
      | exact LeO.none _
      | refine LeO.ite ?_ ?_
      | refine LeO.bind ?_ (fun _ => ?_)
    · intro y0 y1 y2 y3 y4 y5 y6
      unfold wide_Common.l1
      repeat' first
      | (with_reducible exact ih0 _ _ _ _ _ _ _)
      | (with_reducible exact ih1 _ _ _ _ _ _ _ _)
      | (with_reducible exact ih2 _ _ _ _ _ _ _)
      | (with_reducible exact ih3 _ _ _ _ _ _ _)
      | (with_reducible exact ih4 _ _ _ _ _)
      | (with_reducible exact ih5 _ _ _ _ _ _ _)
      | (with_reducible exact LeO.refl _)
      | (with_reducible exact LeO.none _)
      | (with_reducible refine LeO.ite ?_ ?_)
      | (with_reducible refine LeO.bind ?_ (fun _ => ?_))
      | exact ih0 _ _ _ _ _ _ _
      | exact ih1 _ _ _ _ _ _ _ _
      | exact ih2 _ _ _ _ _ _ _
      | exact ih3 _ _ _ _ _ _ _
      | exact ih4 _ _ _ _ _
      | exact ih5 _ _ _ _ _ _ _
      | exact LeO.none _
      | refine LeO.ite ?_ ?_
      | refine LeO.bind ?_ (fun _ => ?_)
    · intro y0 y1 y2 y3 y4 y5 y6
      unfold wide_Common.l2
      repeat' first
      | (with_reducible exact ih0 _ _ _ _ _ _ _)
      | (with_reducible exact ih1 _ _ _ _ _ _ _ _)
      | (with_reducible exact ih2 _ _ _ _ _ _ _)
      | (with_reducible exact ih3 _ _ _ _ _ _ _)
      | (with_reducible exact ih4 _ _ _ _ _)
      | (with_reducible exact ih5 _ _ _ _ _ _ _)
      | (with_reducible exact LeO.refl _)
      | (with_reducible exact LeO.none _)
      | (with_reducible refine LeO.ite ?_ ?_)
      | (with_reducible refine LeO.bind ?_ (fun _ => ?_))
      | exact ih0 _ _ _ _ _ _ _
      | exact ih1 _ _ _ _ _ _ _ _
      | exact ih2 _ _ _ _ _ _ _
      | exact ih3 _ _ _ _ _ _ _
      | exact ih4 _ _ _ _ _
      | exact ih5 _ _ _ _ _ _ _
      | exact LeO.none _
      | refine LeO.ite ?_ ?_
      | refine LeO.bind ?_ (fun _ => ?_)
    · intro y0 y1 y2 y3 y4
      unfold wide_Common.l4
      repeat' first
      | (with_reducible exact ih0 _ _ _ _ _ _ _)
      | (with_reducible exact ih1 _ _ _ _ _ _ _ _)
      | (with_reducible exact ih2 _ _ _ _ _ _ _)
      | (with_reducible exact ih3 _ _ _ _ _ _ _)
      | (with_reducible exact ih4 _ _ _ _ _)
      | (with_reducible exact ih5 _ _ _ _ _ _ _)
      | (with_reducible exact LeO.refl _)
      | (with_reducible exact LeO.none _)
      | (with_reducible refine LeO.ite ?_ ?_)
      | (with_reducible refine LeO.bind ?_ (fun _ => ?_))
      | exact ih0 _ _ _ _ _ _ _
      | exact ih1 _ _ _ _ _ _ _ _
      | exact ih2 _ _ _ _ _ _ _
      | exact ih3 _ _ _ _ _ _ _
      | exact ih4 _ _ _ _ _
      | exact ih5 _ _ _ _ _ _ _
      | exact LeO.none _
      | refine LeO.ite ?_ ?_
      | refine LeO.bind ?_ (fun _ => ?_)
    · intro y0 y1 y2 y3 y4 y5 y6
      unfold wide_Common.l3
      repeat' first
      | (with_reducible exact ih0 _ _ _ _ _ _ _)
      | (with_reducible exact ih1 _ _ _ _ _ _ _ _)
      | (with_reducible exact ih2 _ _ _ _ _ _ _)
      | (with_reducible exact ih3 _ _ _ _ _ _ _)
      | (with_reducible exact ih4 _ _ _ _ _)
      | (with_reducible exact ih5 _ _ _ _ _ _ _)
      | (with_reducible exact LeO.refl _)
      | (with_reducible exact LeO.none _)
      | (with_reducible refine LeO.ite ?_ ?_)
      | (with_reducible refine LeO.bind ?_ (fun _ => ?_))
      | exact ih0 _ _ _ _ _ _ _
      | exact ih1 _ _ _ _ _ _ _ _
      | exact ih2 _ _ _ _ _ _ _
      | exact ih3 _ _ _ _ _ _ _
      | exact ih4 _ _ _ _ _
      | exact ih5 _ _ _ _ _ _ _
      | exact LeO.none _
      | refine LeO.ite ?_ ?_
      | refine LeO.bind ?_ (fun _ => ?_)
theorem wide_Common.mono : ∀ a0 a1 a2 a3 a4 a5 k, LeO (wide_Common.f k a0 a1 a2 a3 a4 a5) (wide_Common.f (k + 1) a0 a1 a2 a3 a4 a5) := by
  intro a0 a1 a2 a3 a4 a5 k
  obtain ⟨ih0, ih1, ih2, ih3, ih4, ih5⟩ := wide_Common.mono_l k
  unfold wide_Common.f
  repeat' first
      | (with_reducible exact ih0 _ _ _ _ _ _ _)
      | (with_reducible exact ih1 _ _ _ _ _ _ _ _)
      | (with_reducible exact ih2 _ _ _ _ _ _ _)
      | (with_reducible exact ih3 _ _ _ _ _ _ _)
      | (with_reducible exact ih4 _ _ _ _ _)
      | (with_reducible exact ih5 _ _ _ _ _ _ _)
      | (with_reducible exact LeO.refl _)
      | (with_reducible exact LeO.none _)
      | (with_reducible refine LeO.ite ?_ ?_)
      | (with_reducible refine LeO.bind ?_ (fun _ => ?_))
      | exact ih0 _ _ _ _ _ _ _
      | exact ih1 _ _ _ _ _ _ _ _
      | exact ih2 _ _ _ _ _ _ _
      | exact ih3 _ _ _ _ _ _ _
      | exact ih4 _ _ _ _ _
      | exact ih5 _ _ _ _ _ _ _
      | exact LeO.none _
      | refine LeO.ite ?_ ?_
      | refine LeO.bind ?_ (fun _ => ?_)
def wide_Common.T8 : Bool × List (List Nat × List Nat) := (true, [([], []), ([0], [0]), ([], []), ([2, 1], [2]), ([], []), ([4], [4]), ([1, 3, 0, 1], [1]), ([3, 6, 0, 1, 2, 3, 6], [3]), ([5, 7, 0, 1, 2, 3, 4, 5, 6, 7], [4, 5])])
def wide_Common.B8 : List Nat := [0, 1, 0, 7, 0, 16, 15, 79, 255]
theorem wide_Common.tab8 : rtab .any (opsOf Try.f96 8) = wide_Common.T8 := by kernel_rfl
theorem wide_Common.bits8 : waitsOk wide_Common.T8.2 wide_Common.B8 = true := by kernel_rfl
set_option maxHeartbeats 8000000 in
set_option maxRecDepth 100000 in
theorem wide_Common.calls (k : Nat) (a0_0 : Int) (a0_1 : Int) (a0_2 : Bool) (a1_0 : Int) (a1_1 : Int) (a1_2 : Bool) (r1 : Int) (r2 : Int) (r3 : Bool) (w : World) (h : wide_Common.f k a0_0 a0_1 a0_2 a1_0 a1_1 a1_2 = some (r1, r2, r3)) :
    Calls Try.prog 96 #[.agg #[.int .u64 a0_0, .int .u64 a0_1, .bool a0_2], .agg #[.int .u64 a1_0, .int .u64 a1_1, .bool a1_2]] w fun e w' => e = .returned (.agg #[.int .u64 r1, .int .u64 r2, .bool r3]) ∧ Below w.heap.size w w' := by
  have hu72 := Try.underlying72
  have HB := Aside0.mk (Below.refl w.heap.size w)
  have H : ((wide_Number_Zero.f a0_0 a0_1 false).bind fun t124 => (if t124 = true then (some (a1_0, a1_1, false)) else ((wide_Number_Zero.f a1_0 a1_1 false).bind fun t125 => (if t125 = true then (some (a0_0, a0_1, false)) else (wide_Common.l0 k 0 a0_0 a0_1 false a1_0 a1_1 false))))) = some (r1, r2, r3) := h
  clear h
  replace H := Option.bind_eq_some_iff.mp H
  obtain ⟨t124, A30, H⟩ := H
  replace H : (if t124 = true then (some (a1_0, a1_1, false)) else ((wide_Number_Zero.f a1_0 a1_1 false).bind fun t125 => (if t125 = true then (some (a0_0, a0_1, false)) else (wide_Common.l0 k 0 a0_0 a0_1 false a1_0 a1_1 false)))) = some (r1, r2, r3) := H
  have A3 := Aside0.mk A30
  clear A30
  by_cases c4 : t124 = true
  · subst c4
    have H1 : (some (a1_0, a1_1, false)) = some (r1, r2, r3) := by rw [if_pos rfl] at H; exact H
    clear H
    have H := H1
    clear H1
    simp only [Option.some.injEq, Prod.mk.injEq] at H
    obtain ⟨rfl, rfl, rfl⟩ := H
    go_enter Try.func96, Try.ntmps96
    go_wp2_with (first | ((with_reducible refine gate_dst (N := 2) rfl ?_); refine box_event ?hg (N := 2) ?hd (cs := #[.int .u64 a0_0, .int .u64 a0_1, .bool a0_2]) (t := 72) ?hr ?_; (case hd => rfl); (case hg => rfl); (case hr => first | (go_simp; done) | (go_simp; rfl)); intro gb121 hg w5 hbox hb; have BK121 := Aside0.mk (hbox); have GW121 := gww hg HB; have GE121 := gww hg HB; replace HB := blw HB hb; clear hb hbox hg) | ((with_reducible refine gate_dst (N := 3) rfl ?_); refine box_event ?hg (N := 3) ?hd (cs := #[.int .u64 a1_0, .int .u64 a1_1, .bool a1_2]) (t := 72) ?hr ?_; (case hd => rfl); (case hg => rfl); (case hr => first | (go_simp; done) | (go_simp; rfl)); intro gb122 hg w6 hbox hb; have BK122 := Aside0.mk (hbox); have GW122 := gww hg HB; have GE122 := gww hg HB; have NB121_122 := nbl hg BK121; have NB122_121 := nbr hg BK121; replace BK121 := bkb BK121 hb; replace HB := blw HB hb; clear hb hbox hg) | ((with_reducible refine gate_dst (N := 4) rfl ?_); refine box_event ?hg (N := 4) ?hd (cs := #[.int .u64 0, .int .u64 0, .bool false]) (t := 72) ?hr ?_; (case hd => rfl); (case hg => rfl); (case hr => first | (go_simp; done) | (go_simp; rfl)); intro gb123 hg w7 hbox hb; have BK123 := Aside0.mk (hbox); have GW123 := gww hg HB; have GE123 := gww hg HB; have NB121_123 := nbl hg BK121; have NB123_121 := nbr hg BK121; have NB122_123 := nbl hg BK122; have NB123_122 := nbr hg BK122; replace BK121 := bkb BK121 hb; replace BK122 := bkb BK122 hb; replace HB := blw HB hb; clear hb hbox hg; have hnb8 := NB121_122.out; have hnc8 := NB122_121.out; have hnb9 := NB121_123.out; have hnc9 := NB123_121.out; have hcz10_0 : w7.cell? ⟨gb121, 0, none⟩ = some (.int .u64 a0_0) := (blk_cell BK121.out 0).trans rfl; have hcz10_1 : w7.cell? ⟨gb121, 1, none⟩ = some (.int .u64 a0_1) := (blk_cell BK121.out 1).trans rfl; have hcz10_2 : w7.cell? ⟨gb121, 2, none⟩ = some (.bool a0_2) := (blk_cell BK121.out 2).trans rfl; have hfz10_0 := blk_frozen BK121.out 0; have hfz10_1 := blk_frozen BK121.out 1; have hfz10_2 := blk_frozen BK121.out 2; have hnb11 := NB122_123.out; have hnc11 := NB123_122.out; have hcz12_0 : w7.cell? ⟨gb122, 0, none⟩ = some (.int .u64 a1_0) := (blk_cell BK122.out 0).trans rfl; have hcz12_1 : w7.cell? ⟨gb122, 1, none⟩ = some (.int .u64 a1_1) := (blk_cell BK122.out 1).trans rfl; have hcz12_2 : w7.cell? ⟨gb122, 2, none⟩ = some (.bool a1_2) := (blk_cell BK122.out 2).trans rfl; have hfz12_0 := blk_frozen BK122.out 0; have hfz12_1 := blk_frozen BK122.out 1; have hfz12_2 := blk_frozen BK122.out 2) | ((with_reducible refine gate_callee (f := 118) rfl ?_); refine goesL_ (some 9) rfl rfl Try.func118 (by kernel_rfl) rfl #[.agg #[.int .u64 a0_0, .int .u64 a0_1, .bool false]] rfl (by (try simp only [List.map_toArray, List.map_cons, List.map_nil]); first | done | rfl | (simp only [List.length_drop, List.length_take]; rfl)) ?_; (with_reducible refine (wide_Number_Zero.calls a0_0 a0_1 false true _ A3.out).mono ?_); rintro e w13 ⟨rfl, hb⟩; refine ⟨_, rfl, ?_⟩; replace BK121 := Aside0.mk (blk_below (g := gb121) (o := .cells #[.int .u64 a0_0, .int .u64 a0_1, .bool false] 72 (0, 0)) (by (with_reducible repeat (first | refine blk_drewN ?_ _ | refine blk_drew ?_ | refine blk_alloc ?_ _)); refine blk_far ?_ NB121_122.out _; (with_reducible repeat (first | refine blk_drewN ?_ _ | refine blk_drew ?_ | refine blk_alloc ?_ _)); refine blk_put (cs := #[.int .u64 a0_0, .int .u64 a0_1, .bool a0_2]) ?_ 2 _ rfl; (with_reducible repeat (first | refine blk_drewN ?_ _ | refine blk_drew ?_ | refine blk_alloc ?_ _)); exact BK121.out) hb); replace BK122 := Aside0.mk (blk_below (g := gb122) (o := .cells #[.int .u64 a1_0, .int .u64 a1_1, .bool false] 72 (0, 0)) (by (with_reducible repeat (first | refine blk_drewN ?_ _ | refine blk_drew ?_ | refine blk_alloc ?_ _)); refine blk_put (cs := #[.int .u64 a1_0, .int .u64 a1_1, .bool a1_2]) ?_ 2 _ rfl; (with_reducible repeat (first | refine blk_drewN ?_ _ | refine blk_drew ?_ | refine blk_alloc ?_ _)); refine blk_far ?_ NB122_121.out _; (with_reducible repeat (first | refine blk_drewN ?_ _ | refine blk_drew ?_ | refine blk_alloc ?_ _)); exact BK122.out) hb); replace BK123 := Aside0.mk (blk_below (g := gb123) (o := .cells #[.int .u64 0, .int .u64 0, .bool false] 72 (0, 0)) (by (with_reducible repeat (first | refine blk_drewN ?_ _ | refine blk_drew ?_ | refine blk_alloc ?_ _)); refine blk_far ?_ NB123_122.out _; (with_reducible repeat (first | refine blk_drewN ?_ _ | refine blk_drew ?_ | refine blk_alloc ?_ _)); refine blk_far ?_ NB123_121.out _; (with_reducible repeat (first | refine blk_drewN ?_ _ | refine blk_drew ?_ | refine blk_alloc ?_ _)); exact BK123.out) hb); replace HB := Aside0.mk (below_step (by repeat (first | (with_reducible first | exact HB.out | apply below_alloc | apply pw_below_drewN | apply below_drew1 | refine below_set ?_ GE121.out | refine below_set ?_ GE122.out | refine below_set ?_ GE123.out) | exact HB.out)) hb); (try clear hb); (try clear hb2); (try clear hk); (try clear hi); have hcz14_0 : w13.cell? ⟨gb122, 0, none⟩ = some (.int .u64 a1_0) := (blk_cell BK122.out 0).trans rfl; have hcz14_1 : w13.cell? ⟨gb122, 1, none⟩ = some (.int .u64 a1_1) := (blk_cell BK122.out 1).trans rfl; have hcz14_2 : w13.cell? ⟨gb122, 2, none⟩ = some (.bool false) := (blk_cell BK122.out 2).trans rfl; have hfz14_0 := blk_frozen BK122.out 0; have hfz14_1 := blk_frozen BK122.out 1; have hfz14_2 := blk_frozen BK122.out 2; have hcz15_0 : w13.cell? ⟨gb123, 0, none⟩ = some (.int .u64 0) := (blk_cell BK123.out 0).trans rfl; have hcz15_1 : w13.cell? ⟨gb123, 1, none⟩ = some (.int .u64 0) := (blk_cell BK123.out 1).trans rfl; have hcz15_2 : w13.cell? ⟨gb123, 2, none⟩ = some (.bool false) := (blk_cell BK123.out 2).trans rfl; have hfz15_0 := blk_frozen BK123.out 0; have hfz15_1 := blk_frozen BK123.out 1; have hfz15_2 := blk_frozen BK123.out 2))
    refine bodyPost_ret (results_cell_row rfl _ _ gb123 72 #[.int .u64 a1_0, .int .u64 a1_1, .bool false] (0, 0) _ rfl (by (with_reducible repeat (first | refine blk_drewN ?_ _ | refine blk_drew ?_ | refine blk_alloc ?_ _)); refine blk_put (cs := #[.int .u64 a1_0, .int .u64 a1_1, .bool false]) ?_ 2 _ rfl; (with_reducible repeat (first | refine blk_drewN ?_ _ | refine blk_drew ?_ | refine blk_alloc ?_ _)); refine blk_put (cs := #[.int .u64 a1_0, .int .u64 0, .bool false]) ?_ 1 _ rfl; (with_reducible repeat (first | refine blk_drewN ?_ _ | refine blk_drew ?_ | refine blk_alloc ?_ _)); refine blk_put (cs := #[.int .u64 0, .int .u64 0, .bool false]) ?_ 0 _ rfl; (with_reducible repeat (first | refine blk_drewN ?_ _ | refine blk_drew ?_ | refine blk_alloc ?_ _)); exact BK123.out) Try.underlying72 rfl (by kernel_rfl)) rfl ?_
    exact ⟨by first | rfl | (simp [errW_none, errW_some] <;> rfl) | (simp [*, errW_none, errW_some] <;> rfl), by repeat (first | (with_reducible first | exact HB.out | apply below_alloc | apply pw_below_drewN | apply below_drew1 | refine below_set ?_ GE121.out | refine below_set ?_ GE122.out | refine below_set ?_ GE123.out) | exact HB.out)⟩
  · replace c4 := Bool.eq_false_iff.mpr c4
    subst c4
    have H1 : ((wide_Number_Zero.f a1_0 a1_1 false).bind fun t125 => (if t125 = true then (some (a0_0, a0_1, false)) else (wide_Common.l0 k 0 a0_0 a0_1 false a1_0 a1_1 false))) = some (r1, r2, r3) := by rw [if_neg (show ¬ (false = true) by decide)] at H; exact H
    clear H
    have H := H1
    clear H1
    replace H := Option.bind_eq_some_iff.mp H
    obtain ⟨t125, A160, H⟩ := H
    replace H : (if t125 = true then (some (a0_0, a0_1, false)) else (wide_Common.l0 k 0 a0_0 a0_1 false a1_0 a1_1 false)) = some (r1, r2, r3) := H
    have A16 := Aside0.mk A160
    clear A160
    by_cases c17 : t125 = true
    · subst c17
      have H1 : (some (a0_0, a0_1, false)) = some (r1, r2, r3) := by rw [if_pos rfl] at H; exact H
      clear H
      have H := H1
      clear H1
      simp only [Option.some.injEq, Prod.mk.injEq] at H
      obtain ⟨rfl, rfl, rfl⟩ := H
      go_enter Try.func96, Try.ntmps96
      go_wp2_with (first | ((with_reducible refine gate_dst (N := 2) rfl ?_); refine box_event ?hg (N := 2) ?hd (cs := #[.int .u64 a0_0, .int .u64 a0_1, .bool a0_2]) (t := 72) ?hr ?_; (case hd => rfl); (case hg => rfl); (case hr => first | (go_simp; done) | (go_simp; rfl)); intro gb121 hg w18 hbox hb; have BK121 := Aside0.mk (hbox); have GW121 := gww hg HB; have GE121 := gww hg HB; replace HB := blw HB hb; clear hb hbox hg) | ((with_reducible refine gate_dst (N := 3) rfl ?_); refine box_event ?hg (N := 3) ?hd (cs := #[.int .u64 a1_0, .int .u64 a1_1, .bool a1_2]) (t := 72) ?hr ?_; (case hd => rfl); (case hg => rfl); (case hr => first | (go_simp; done) | (go_simp; rfl)); intro gb122 hg w19 hbox hb; have BK122 := Aside0.mk (hbox); have GW122 := gww hg HB; have GE122 := gww hg HB; have NB121_122 := nbl hg BK121; have NB122_121 := nbr hg BK121; replace BK121 := bkb BK121 hb; replace HB := blw HB hb; clear hb hbox hg) | ((with_reducible refine gate_dst (N := 4) rfl ?_); refine box_event ?hg (N := 4) ?hd (cs := #[.int .u64 0, .int .u64 0, .bool false]) (t := 72) ?hr ?_; (case hd => rfl); (case hg => rfl); (case hr => first | (go_simp; done) | (go_simp; rfl)); intro gb123 hg w20 hbox hb; have BK123 := Aside0.mk (hbox); have GW123 := gww hg HB; have GE123 := gww hg HB; have NB121_123 := nbl hg BK121; have NB123_121 := nbr hg BK121; have NB122_123 := nbl hg BK122; have NB123_122 := nbr hg BK122; replace BK121 := bkb BK121 hb; replace BK122 := bkb BK122 hb; replace HB := blw HB hb; clear hb hbox hg; have hnb21 := NB121_122.out; have hnc21 := NB122_121.out; have hnb22 := NB121_123.out; have hnc22 := NB123_121.out; have hcz23_0 : w20.cell? ⟨gb121, 0, none⟩ = some (.int .u64 a0_0) := (blk_cell BK121.out 0).trans rfl; have hcz23_1 : w20.cell? ⟨gb121, 1, none⟩ = some (.int .u64 a0_1) := (blk_cell BK121.out 1).trans rfl; have hcz23_2 : w20.cell? ⟨gb121, 2, none⟩ = some (.bool a0_2) := (blk_cell BK121.out 2).trans rfl; have hfz23_0 := blk_frozen BK121.out 0; have hfz23_1 := blk_frozen BK121.out 1; have hfz23_2 := blk_frozen BK121.out 2; have hnb24 := NB122_123.out; have hnc24 := NB123_122.out; have hcz25_0 : w20.cell? ⟨gb122, 0, none⟩ = some (.int .u64 a1_0) := (blk_cell BK122.out 0).trans rfl; have hcz25_1 : w20.cell? ⟨gb122, 1, none⟩ = some (.int .u64 a1_1) := (blk_cell BK122.out 1).trans rfl; have hcz25_2 : w20.cell? ⟨gb122, 2, none⟩ = some (.bool a1_2) := (blk_cell BK122.out 2).trans rfl; have hfz25_0 := blk_frozen BK122.out 0; have hfz25_1 := blk_frozen BK122.out 1; have hfz25_2 := blk_frozen BK122.out 2) | ((with_reducible refine gate_callee (f := 118) rfl ?_); refine goesL_ (some 9) rfl rfl Try.func118 (by kernel_rfl) rfl #[.agg #[.int .u64 a0_0, .int .u64 a0_1, .bool false]] rfl (by (try simp only [List.map_toArray, List.map_cons, List.map_nil]); first | done | rfl | (simp only [List.length_drop, List.length_take]; rfl)) ?_; (with_reducible refine (wide_Number_Zero.calls a0_0 a0_1 false false _ A3.out).mono ?_); rintro e w26 ⟨rfl, hb⟩; refine ⟨_, rfl, ?_⟩; replace BK121 := Aside0.mk (blk_below (g := gb121) (o := .cells #[.int .u64 a0_0, .int .u64 a0_1, .bool false] 72 (0, 0)) (by (with_reducible repeat (first | refine blk_drewN ?_ _ | refine blk_drew ?_ | refine blk_alloc ?_ _)); refine blk_far ?_ NB121_122.out _; (with_reducible repeat (first | refine blk_drewN ?_ _ | refine blk_drew ?_ | refine blk_alloc ?_ _)); refine blk_put (cs := #[.int .u64 a0_0, .int .u64 a0_1, .bool a0_2]) ?_ 2 _ rfl; (with_reducible repeat (first | refine blk_drewN ?_ _ | refine blk_drew ?_ | refine blk_alloc ?_ _)); exact BK121.out) hb); replace BK122 := Aside0.mk (blk_below (g := gb122) (o := .cells #[.int .u64 a1_0, .int .u64 a1_1, .bool false] 72 (0, 0)) (by (with_reducible repeat (first | refine blk_drewN ?_ _ | refine blk_drew ?_ | refine blk_alloc ?_ _)); refine blk_put (cs := #[.int .u64 a1_0, .int .u64 a1_1, .bool a1_2]) ?_ 2 _ rfl; (with_reducible repeat (first | refine blk_drewN ?_ _ | refine blk_drew ?_ | refine blk_alloc ?_ _)); refine blk_far ?_ NB122_121.out _; (with_reducible repeat (first | refine blk_drewN ?_ _ | refine blk_drew ?_ | refine blk_alloc ?_ _)); exact BK122.out) hb); replace BK123 := Aside0.mk (blk_below (g := gb123) (o := .cells #[.int .u64 0, .int .u64 0, .bool false] 72 (0, 0)) (by (with_reducible repeat (first | refine blk_drewN ?_ _ | refine blk_drew ?_ | refine blk_alloc ?_ _)); refine blk_far ?_ NB123_122.out _; (with_reducible repeat (first | refine blk_drewN ?_ _ | refine blk_drew ?_ | refine blk_alloc ?_ _)); refine blk_far ?_ NB123_121.out _; (with_reducible repeat (first | refine blk_drewN ?_ _ | refine blk_drew ?_ | refine blk_alloc ?_ _)); exact BK123.out) hb); replace HB := Aside0.mk (below_step (by repeat (first | (with_reducible first | exact HB.out | apply below_alloc | apply pw_below_drewN | apply below_drew1 | refine below_set ?_ GE121.out | refine below_set ?_ GE122.out | refine below_set ?_ GE123.out) | exact HB.out)) hb); (try clear hb); (try clear hb2); (try clear hk); (try clear hi); have hcz27_0 : w26.cell? ⟨gb122, 0, none⟩ = some (.int .u64 a1_0) := (blk_cell BK122.out 0).trans rfl; have hcz27_1 : w26.cell? ⟨gb122, 1, none⟩ = some (.int .u64 a1_1) := (blk_cell BK122.out 1).trans rfl; have hcz27_2 : w26.cell? ⟨gb122, 2, none⟩ = some (.bool false) := (blk_cell BK122.out 2).trans rfl; have hfz27_0 := blk_frozen BK122.out 0; have hfz27_1 := blk_frozen BK122.out 1; have hfz27_2 := blk_frozen BK122.out 2) | ((with_reducible refine gate_callee (f := 118) rfl ?_); refine goesL_ (some 12) rfl rfl Try.func118 (by kernel_rfl) rfl #[.agg #[.int .u64 a1_0, .int .u64 a1_1, .bool false]] rfl (by (try simp only [List.map_toArray, List.map_cons, List.map_nil]); first | done | rfl | (simp only [List.length_drop, List.length_take]; rfl)) ?_; (with_reducible refine (wide_Number_Zero.calls a1_0 a1_1 false true _ A16.out).mono ?_); rintro e w28 ⟨rfl, hb⟩; refine ⟨_, rfl, ?_⟩; replace BK121 := bkb BK121 hb; replace BK122 := bkb BK122 hb; replace BK123 := bkb BK123 hb; replace HB := blw HB hb; (try clear hb); (try clear hb2); (try clear hk); (try clear hi); have hcz29_0 : w28.cell? ⟨gb121, 0, none⟩ = some (.int .u64 a0_0) := (blk_cell BK121.out 0).trans rfl; have hcz29_1 : w28.cell? ⟨gb121, 1, none⟩ = some (.int .u64 a0_1) := (blk_cell BK121.out 1).trans rfl; have hcz29_2 : w28.cell? ⟨gb121, 2, none⟩ = some (.bool false) := (blk_cell BK121.out 2).trans rfl; have hfz29_0 := blk_frozen BK121.out 0; have hfz29_1 := blk_frozen BK121.out 1; have hfz29_2 := blk_frozen BK121.out 2; have hcz30_0 : w28.cell? ⟨gb123, 0, none⟩ = some (.int .u64 0) := (blk_cell BK123.out 0).trans rfl; have hcz30_1 : w28.cell? ⟨gb123, 1, none⟩ = some (.int .u64 0) := (blk_cell BK123.out 1).trans rfl; have hcz30_2 : w28.cell? ⟨gb123, 2, none⟩ = some (.bool false) := (blk_cell BK123.out 2).trans rfl; have hfz30_0 := blk_frozen BK123.out 0; have hfz30_1 := blk_frozen BK123.out 1; have hfz30_2 := blk_frozen BK123.out 2))
      refine bodyPost_ret (results_cell_row rfl _ _ gb123 72 #[.int .u64 a0_0, .int .u64 a0_1, .bool false] (0, 0) _ rfl (by (with_reducible repeat (first | refine blk_drewN ?_ _ | refine blk_drew ?_ | refine blk_alloc ?_ _)); refine blk_put (cs := #[.int .u64 a0_0, .int .u64 a0_1, .bool false]) ?_ 2 _ rfl; (with_reducible repeat (first | refine blk_drewN ?_ _ | refine blk_drew ?_ | refine blk_alloc ?_ _)); refine blk_put (cs := #[.int .u64 a0_0, .int .u64 0, .bool false]) ?_ 1 _ rfl; (with_reducible repeat (first | refine blk_drewN ?_ _ | refine blk_drew ?_ | refine blk_alloc ?_ _)); refine blk_put (cs := #[.int .u64 0, .int .u64 0, .bool false]) ?_ 0 _ rfl; (with_reducible repeat (first | refine blk_drewN ?_ _ | refine blk_drew ?_ | refine blk_alloc ?_ _)); exact BK123.out) Try.underlying72 rfl (by kernel_rfl)) rfl ?_
      exact ⟨by first | rfl | (simp [errW_none, errW_some] <;> rfl) | (simp [*, errW_none, errW_some] <;> rfl), by repeat (first | (with_reducible first | exact HB.out | apply below_alloc | apply pw_below_drewN | apply below_drew1 | refine below_set ?_ GE121.out | refine below_set ?_ GE122.out | refine below_set ?_ GE123.out) | exact HB.out)⟩
    · replace c17 := Bool.eq_false_iff.mpr c17
      subst c17
      have H1 : (wide_Common.l0 k 0 a0_0 a0_1 false a1_0 a1_1 false) = some (r1, r2, r3) := by rw [if_neg (show ¬ (false = true) by decide)] at H; exact H
      clear H
      have H := H1
      clear H1
      have H' := Aside0.mk H
      clear H
      go_enter Try.func96, Try.ntmps96
      go_wp2_with (first | ((with_reducible refine gate_dst (N := 2) rfl ?_); refine box_event ?hg (N := 2) ?hd (cs := #[.int .u64 a0_0, .int .u64 a0_1, .bool a0_2]) (t := 72) ?hr ?_; (case hd => rfl); (case hg => rfl); (case hr => first | (go_simp; done) | (go_simp; rfl)); intro gb121 hg w31 hbox hb; have BK121 := Aside0.mk (hbox); have GW121 := gww hg HB; have GE121 := gww hg HB; replace HB := blw HB hb; clear hb hbox hg) | ((with_reducible refine gate_dst (N := 3) rfl ?_); refine box_event ?hg (N := 3) ?hd (cs := #[.int .u64 a1_0, .int .u64 a1_1, .bool a1_2]) (t := 72) ?hr ?_; (case hd => rfl); (case hg => rfl); (case hr => first | (go_simp; done) | (go_simp; rfl)); intro gb122 hg w32 hbox hb; have BK122 := Aside0.mk (hbox); have GW122 := gww hg HB; have GE122 := gww hg HB; have NB121_122 := nbl hg BK121; have NB122_121 := nbr hg BK121; replace BK121 := bkb BK121 hb; replace HB := blw HB hb; clear hb hbox hg) | ((with_reducible refine gate_dst (N := 4) rfl ?_); refine box_event ?hg (N := 4) ?hd (cs := #[.int .u64 0, .int .u64 0, .bool false]) (t := 72) ?hr ?_; (case hd => rfl); (case hg => rfl); (case hr => first | (go_simp; done) | (go_simp; rfl)); intro gb123 hg w33 hbox hb; have BK123 := Aside0.mk (hbox); have GW123 := gww hg HB; have GE123 := gww hg HB; have NB121_123 := nbl hg BK121; have NB123_121 := nbr hg BK121; have NB122_123 := nbl hg BK122; have NB123_122 := nbr hg BK122; replace BK121 := bkb BK121 hb; replace BK122 := bkb BK122 hb; replace HB := blw HB hb; clear hb hbox hg; have hnb34 := NB121_122.out; have hnc34 := NB122_121.out; have hnb35 := NB121_123.out; have hnc35 := NB123_121.out; have hcz36_0 : w33.cell? ⟨gb121, 0, none⟩ = some (.int .u64 a0_0) := (blk_cell BK121.out 0).trans rfl; have hcz36_1 : w33.cell? ⟨gb121, 1, none⟩ = some (.int .u64 a0_1) := (blk_cell BK121.out 1).trans rfl; have hcz36_2 : w33.cell? ⟨gb121, 2, none⟩ = some (.bool a0_2) := (blk_cell BK121.out 2).trans rfl; have hfz36_0 := blk_frozen BK121.out 0; have hfz36_1 := blk_frozen BK121.out 1; have hfz36_2 := blk_frozen BK121.out 2; have hnb37 := NB122_123.out; have hnc37 := NB123_122.out; have hcz38_0 : w33.cell? ⟨gb122, 0, none⟩ = some (.int .u64 a1_0) := (blk_cell BK122.out 0).trans rfl; have hcz38_1 : w33.cell? ⟨gb122, 1, none⟩ = some (.int .u64 a1_1) := (blk_cell BK122.out 1).trans rfl; have hcz38_2 : w33.cell? ⟨gb122, 2, none⟩ = some (.bool a1_2) := (blk_cell BK122.out 2).trans rfl; have hfz38_0 := blk_frozen BK122.out 0; have hfz38_1 := blk_frozen BK122.out 1; have hfz38_2 := blk_frozen BK122.out 2) | ((with_reducible refine gate_callee (f := 118) rfl ?_); refine goesL_ (some 9) rfl rfl Try.func118 (by kernel_rfl) rfl #[.agg #[.int .u64 a0_0, .int .u64 a0_1, .bool false]] rfl (by (try simp only [List.map_toArray, List.map_cons, List.map_nil]); first | done | rfl | (simp only [List.length_drop, List.length_take]; rfl)) ?_; (with_reducible refine (wide_Number_Zero.calls a0_0 a0_1 false false _ A3.out).mono ?_); rintro e w39 ⟨rfl, hb⟩; refine ⟨_, rfl, ?_⟩; replace BK121 := Aside0.mk (blk_below (g := gb121) (o := .cells #[.int .u64 a0_0, .int .u64 a0_1, .bool false] 72 (0, 0)) (by (with_reducible repeat (first | refine blk_drewN ?_ _ | refine blk_drew ?_ | refine blk_alloc ?_ _)); refine blk_far ?_ NB121_122.out _; (with_reducible repeat (first | refine blk_drewN ?_ _ | refine blk_drew ?_ | refine blk_alloc ?_ _)); refine blk_put (cs := #[.int .u64 a0_0, .int .u64 a0_1, .bool a0_2]) ?_ 2 _ rfl; (with_reducible repeat (first | refine blk_drewN ?_ _ | refine blk_drew ?_ | refine blk_alloc ?_ _)); exact BK121.out) hb); replace BK122 := Aside0.mk (blk_below (g := gb122) (o := .cells #[.int .u64 a1_0, .int .u64 a1_1, .bool false] 72 (0, 0)) (by (with_reducible repeat (first | refine blk_drewN ?_ _ | refine blk_drew ?_ | refine blk_alloc ?_ _)); refine blk_put (cs := #[.int .u64 a1_0, .int .u64 a1_1, .bool a1_2]) ?_ 2 _ rfl; (with_reducible repeat (first | refine blk_drewN ?_ _ | refine blk_drew ?_ | refine blk_alloc ?_ _)); refine blk_far ?_ NB122_121.out _; (with_reducible repeat (first | refine blk_drewN ?_ _ | refine blk_drew ?_ | refine blk_alloc ?_ _)); exact BK122.out) hb); replace BK123 := Aside0.mk (blk_below (g := gb123) (o := .cells #[.int .u64 0, .int .u64 0, .bool false] 72 (0, 0)) (by (with_reducible repeat (first | refine blk_drewN ?_ _ | refine blk_drew ?_ | refine blk_alloc ?_ _)); refine blk_far ?_ NB123_122.out _; (with_reducible repeat (first | refine blk_drewN ?_ _ | refine blk_drew ?_ | refine blk_alloc ?_ _)); refine blk_far ?_ NB123_121.out _; (with_reducible repeat (first | refine blk_drewN ?_ _ | refine blk_drew ?_ | refine blk_alloc ?_ _)); exact BK123.out) hb); replace HB := Aside0.mk (below_step (by repeat (first | (with_reducible first | exact HB.out | apply below_alloc | apply pw_below_drewN | apply below_drew1 | refine below_set ?_ GE121.out | refine below_set ?_ GE122.out | refine below_set ?_ GE123.out) | exact HB.out)) hb); (try clear hb); (try clear hb2); (try clear hk); (try clear hi); have hcz40_0 : w39.cell? ⟨gb122, 0, none⟩ = some (.int .u64 a1_0) := (blk_cell BK122.out 0).trans rfl; have hcz40_1 : w39.cell? ⟨gb122, 1, none⟩ = some (.int .u64 a1_1) := (blk_cell BK122.out 1).trans rfl; have hcz40_2 : w39.cell? ⟨gb122, 2, none⟩ = some (.bool false) := (blk_cell BK122.out 2).trans rfl; have hfz40_0 := blk_frozen BK122.out 0; have hfz40_1 := blk_frozen BK122.out 1; have hfz40_2 := blk_frozen BK122.out 2) | ((with_reducible refine gate_callee (f := 118) rfl ?_); refine goesL_ (some 12) rfl rfl Try.func118 (by kernel_rfl) rfl #[.agg #[.int .u64 a1_0, .int .u64 a1_1, .bool false]] rfl (by (try simp only [List.map_toArray, List.map_cons, List.map_nil]); first | done | rfl | (simp only [List.length_drop, List.length_take]; rfl)) ?_; (with_reducible refine (wide_Number_Zero.calls a1_0 a1_1 false false _ A16.out).mono ?_); rintro e w41 ⟨rfl, hb⟩; refine ⟨_, rfl, ?_⟩; replace BK121 := bkb BK121 hb; replace BK122 := bkb BK122 hb; replace BK123 := bkb BK123 hb; replace HB := blw HB hb; (try clear hb); (try clear hb2); (try clear hk); (try clear hi)))
      (try simp only [Act.put, List.setIfInBounds_toArray, List.set_cons_succ, List.set_cons_zero])
      go_loopg [5] k (fun kq v5 w' => ∃ (x5_1 : Int) (x122000_1 : Int) (x122001_1 : Int) (x122002_1 : Bool) (x123000_1 : Int) (x123001_1 : Int) (x123002_1 : Bool), v5 = .int .i64 x5_1 ∧ Aside0 (wide_Common.l0 kq x5_1 x122000_1 x122001_1 x122002_1 x123000_1 x123001_1 x123002_1 = some (r1, r2, r3)) ∧ Aside0 (kq ≤ k) ∧ Aside0 (w'.heap[gb121]? = some (.cells #[.int .u64 x122000_1, .int .u64 x122001_1, .bool x122002_1] 72 (0, 0))) ∧ Aside0 (w'.heap[gb122]? = some (.cells #[.int .u64 x123000_1, .int .u64 x123001_1, .bool x123002_1] 72 (0, 0))) ∧ Aside0 (w'.heap[gb123]? = some (.cells #[.int .u64 0, .int .u64 0, .bool false] 72 (0, 0))) ∧ Aside0 (Below w.heap.size w w'))
      case atStart => exact ⟨(0), (a0_0), (a0_1), (false), (a1_0), (a1_1), (false), (by first | rfl | (simp; done) | (simp [*]; done)), H', ⟨Nat.le_refl _⟩, ⟨by (with_reducible repeat (first | refine blk_drewN ?_ _ | refine blk_drew ?_ | refine blk_alloc ?_ _)); exact BK121.out⟩, ⟨by (with_reducible repeat (first | refine blk_drewN ?_ _ | refine blk_drew ?_ | refine blk_alloc ?_ _)); exact BK122.out⟩, ⟨by (with_reducible repeat (first | refine blk_drewN ?_ _ | refine blk_drew ?_ | refine blk_alloc ?_ _)); exact BK123.out⟩, ⟨by repeat (first | (with_reducible first | exact HB.out | apply below_alloc | apply pw_below_drewN | apply below_drew1 | refine below_set ?_ GE121.out | refine below_set ?_ GE122.out | refine below_set ?_ GE123.out) | exact HB.out)⟩⟩
      case round =>
        clear H'
        try clear c1
        try clear c2
        try clear p2
        try clear c3
        try clear c4
        try clear c8
        try clear c9
        try clear c11
        try clear c17
        try clear c21
        try clear c22
        try clear c24
        try clear c34
        try clear c35
        try clear c37
        try clear hcz10_0
        try clear hcz10_1
        try clear hcz10_2
        try clear hcz12_0
        try clear hcz12_1
        try clear hcz12_2
        try clear hcz14_0
        try clear hcz14_1
        try clear hcz14_2
        try clear hcz15_0
        try clear hcz15_1
        try clear hcz15_2
        try clear hcz23_0
        try clear hcz23_1
        try clear hcz23_2
        try clear hcz25_0
        try clear hcz25_1
        try clear hcz25_2
        try clear hcz27_0
        try clear hcz27_1
        try clear hcz27_2
        try clear hcz29_0
        try clear hcz29_1
        try clear hcz29_2
        try clear hcz30_0
        try clear hcz30_1
        try clear hcz30_2
        try clear hcz36_0
        try clear hcz36_1
        try clear hcz36_2
        try clear hcz38_0
        try clear hcz38_1
        try clear hcz38_2
        try clear hcz40_0
        try clear hcz40_1
        try clear hcz40_2
        try clear hfz10_0
        try clear hfz10_1
        try clear hfz10_2
        try clear hfz12_0
        try clear hfz12_1
        try clear hfz12_2
        try clear hfz14_0
        try clear hfz14_1
        try clear hfz14_2
        try clear hfz15_0
        try clear hfz15_1
        try clear hfz15_2
        try clear hfz23_0
        try clear hfz23_1
        try clear hfz23_2
        try clear hfz25_0
        try clear hfz25_1
        try clear hfz25_2
        try clear hfz27_0
        try clear hfz27_1
        try clear hfz27_2
        try clear hfz29_0
        try clear hfz29_1
        try clear hfz29_2
        try clear hfz30_0
        try clear hfz30_1
        try clear hfz30_2
        try clear hfz36_0
        try clear hfz36_1
        try clear hfz36_2
        try clear hfz38_0
        try clear hfz38_1
        try clear hfz38_2
        try clear hfz40_0
        try clear hfz40_1
        try clear hfz40_2
        obtain ⟨x5_1, x122000_1, x122001_1, x122002_1, x123000_1, x123001_1, x123002_1, rfl, HA, HK1, BK121, BK122, BK123, HB⟩ := hrel
        cases gk with
        | zero => exact absurd HA.out (by simp [wide_Common.l0])
        | succ k1 =>
          have H := HA.out
          clear HA
          simp only [wide_Common.l0] at H
          have HC42 := Aside0.mk H
          clear H
          go_upto_region 7 with (fail)
          go_cut [19] (fun v19 wc => ∃ (kq : Nat) (x19_41 : Bool), v19 = .bool x19_41 ∧ Aside0 (wide_Common.j1 kq x5_1 x19_41 x122000_1 x122001_1 x122002_1 x123000_1 x123001_1 x123002_1 = some (r1, r2, r3)) ∧ Aside0 (kq ≤ k1) ∧ Aside0 (wc.heap[gb121]? = some (.cells #[.int .u64 x122000_1, .int .u64 x122001_1, .bool x122002_1] 72 (0, 0))) ∧ Aside0 (wc.heap[gb122]? = some (.cells #[.int .u64 x123000_1, .int .u64 x123001_1, .bool x123002_1] 72 (0, 0))) ∧ Aside0 (wc.heap[gb123]? = some (.cells #[.int .u64 0, .int .u64 0, .bool false] 72 (0, 0))) ∧ Aside0 (Below w.heap.size w wc))
          case first =>
            have H := HC42.out
            clear HC42
            replace H := Option.bind_eq_some_iff.mp H
            obtain ⟨t126, A430, H⟩ := H
            replace H : (if t126 = true then ((wide_Number_even.f x123000_1 x123001_1 x123002_1).bind fun t127 => (wide_Common.j1 k1 x5_1 t127 x122000_1 x122001_1 x122002_1 x123000_1 x123001_1 x123002_1)) else (wide_Common.j1 k1 x5_1 false x122000_1 x122001_1 x122002_1 x123000_1 x123001_1 x123002_1)) = some (r1, r2, r3) := H
            have A43 := Aside0.mk A430
            clear A430
            by_cases c44 : t126 = true
            · subst c44
              have H1 : ((wide_Number_even.f x123000_1 x123001_1 x123002_1).bind fun t127 => (wide_Common.j1 k1 x5_1 t127 x122000_1 x122001_1 x122002_1 x123000_1 x123001_1 x123002_1)) = some (r1, r2, r3) := by rw [if_pos rfl] at H; exact H
              clear H
              have H := H1
              clear H1
              replace H := Option.bind_eq_some_iff.mp H
              obtain ⟨t127, A450, H⟩ := H
              replace H : (wide_Common.j1 k1 x5_1 t127 x122000_1 x122001_1 x122002_1 x123000_1 x123001_1 x123002_1) = some (r1, r2, r3) := H
              have A45 := Aside0.mk A450
              clear A450
              have H' := Aside0.mk H
              clear H
              have hcz46_0 : wr.cell? ⟨gb121, 0, none⟩ = some (.int .u64 x122000_1) := (blk_cell BK121.out 0).trans rfl
              have hcz46_1 : wr.cell? ⟨gb121, 1, none⟩ = some (.int .u64 x122001_1) := (blk_cell BK121.out 1).trans rfl
              have hcz46_2 : wr.cell? ⟨gb121, 2, none⟩ = some (.bool x122002_1) := (blk_cell BK121.out 2).trans rfl
              have hfz46_0 := blk_frozen BK121.out 0
              have hfz46_1 := blk_frozen BK121.out 1
              have hfz46_2 := blk_frozen BK121.out 2
              go_wp2_with (first | ((with_reducible refine gate_callee (f := 119) rfl ?_); refine goesL_ (some 15) rfl rfl Try.func119 (by kernel_rfl) rfl #[.agg #[.int .u64 x122000_1, .int .u64 x122001_1, .bool x122002_1]] rfl (by (try simp only [List.map_toArray, List.map_cons, List.map_nil]); first | done | rfl | (simp only [List.length_drop, List.length_take]; rfl)) ?_; (with_reducible refine (wide_Number_even.calls x122000_1 x122001_1 x122002_1 true _ A43.out).mono ?_); rintro e w47 ⟨rfl, hb⟩; refine ⟨_, rfl, ?_⟩; replace BK121 := bkb BK121 hb; replace BK122 := bkb BK122 hb; replace BK123 := bkb BK123 hb; replace HB := blw HB hb; (try clear hb); (try clear hb2); (try clear hk); (try clear hi); have hcz48_0 : w47.cell? ⟨gb122, 0, none⟩ = some (.int .u64 x123000_1) := (blk_cell BK122.out 0).trans rfl; have hcz48_1 : w47.cell? ⟨gb122, 1, none⟩ = some (.int .u64 x123001_1) := (blk_cell BK122.out 1).trans rfl; have hcz48_2 : w47.cell? ⟨gb122, 2, none⟩ = some (.bool x123002_1) := (blk_cell BK122.out 2).trans rfl; have hfz48_0 := blk_frozen BK122.out 0; have hfz48_1 := blk_frozen BK122.out 1; have hfz48_2 := blk_frozen BK122.out 2) | (go_at_call 119; (with_reducible refine (wide_Number_even.calls x123000_1 x123001_1 x123002_1 t127 _ A45.out).mono ?_); rintro e w49 ⟨rfl, hb⟩; replace BK121 := bkb BK121 hb; replace BK122 := bkb BK122 hb; replace BK123 := bkb BK123 hb; replace HB := blw HB hb; (try clear hb); (try clear hb2); (try clear hk); (try clear hi)))
              go_meet
              case rel => exact ⟨_, (t127), (by first | rfl | (simp; done) | (simp [*]; done)), H', ⟨by have := HK1.out; first | omega | exact Nat.le_refl _⟩, ⟨by (with_reducible repeat (first | refine blk_drewN ?_ _ | refine blk_drew ?_ | refine blk_alloc ?_ _)); exact BK121.out⟩, ⟨by (with_reducible repeat (first | refine blk_drewN ?_ _ | refine blk_drew ?_ | refine blk_alloc ?_ _)); exact BK122.out⟩, ⟨by (with_reducible repeat (first | refine blk_drewN ?_ _ | refine blk_drew ?_ | refine blk_alloc ?_ _)); exact BK123.out⟩, ⟨by repeat (first | (with_reducible first | exact HB.out | apply below_alloc | apply pw_below_drewN | apply below_drew1 | refine below_set ?_ GE121.out | refine below_set ?_ GE122.out | refine below_set ?_ GE123.out) | exact HB.out)⟩⟩
            · replace c44 := Bool.eq_false_iff.mpr c44
              subst c44
              have H1 : (wide_Common.j1 k1 x5_1 false x122000_1 x122001_1 x122002_1 x123000_1 x123001_1 x123002_1) = some (r1, r2, r3) := by rw [if_neg (show ¬ (false = true) by decide)] at H; exact H
              clear H
              have H := H1
              clear H1
              have H' := Aside0.mk H
              clear H
              have hcz50_0 : wr.cell? ⟨gb121, 0, none⟩ = some (.int .u64 x122000_1) := (blk_cell BK121.out 0).trans rfl
              have hcz50_1 : wr.cell? ⟨gb121, 1, none⟩ = some (.int .u64 x122001_1) := (blk_cell BK121.out 1).trans rfl
              have hcz50_2 : wr.cell? ⟨gb121, 2, none⟩ = some (.bool x122002_1) := (blk_cell BK121.out 2).trans rfl
              have hfz50_0 := blk_frozen BK121.out 0
              have hfz50_1 := blk_frozen BK121.out 1
              have hfz50_2 := blk_frozen BK121.out 2
              go_wp2_with (first | ((with_reducible refine gate_callee (f := 119) rfl ?_); refine goesL_ (some 15) rfl rfl Try.func119 (by kernel_rfl) rfl #[.agg #[.int .u64 x122000_1, .int .u64 x122001_1, .bool x122002_1]] rfl (by (try simp only [List.map_toArray, List.map_cons, List.map_nil]); first | done | rfl | (simp only [List.length_drop, List.length_take]; rfl)) ?_; (with_reducible refine (wide_Number_even.calls x122000_1 x122001_1 x122002_1 false _ A43.out).mono ?_); rintro e w51 ⟨rfl, hb⟩; refine ⟨_, rfl, ?_⟩; replace BK121 := bkb BK121 hb; replace BK122 := bkb BK122 hb; replace BK123 := bkb BK123 hb; replace HB := blw HB hb; (try clear hb); (try clear hb2); (try clear hk); (try clear hi)))
              go_meet
              case rel => exact ⟨_, (false), (by first | rfl | (simp; done) | (simp [*]; done)), H', ⟨by have := HK1.out; first | omega | exact Nat.le_refl _⟩, ⟨by (with_reducible repeat (first | refine blk_drewN ?_ _ | refine blk_drew ?_ | refine blk_alloc ?_ _)); exact BK121.out⟩, ⟨by (with_reducible repeat (first | refine blk_drewN ?_ _ | refine blk_drew ?_ | refine blk_alloc ?_ _)); exact BK122.out⟩, ⟨by (with_reducible repeat (first | refine blk_drewN ?_ _ | refine blk_drew ?_ | refine blk_alloc ?_ _)); exact BK123.out⟩, ⟨by repeat (first | (with_reducible first | exact HB.out | apply below_alloc | apply pw_below_drewN | apply below_drew1 | refine below_set ?_ GE121.out | refine below_set ?_ GE122.out | refine below_set ?_ GE123.out) | exact HB.out)⟩⟩
          case rest =>
            clear HC42
            try clear c1
            try clear c2
            try clear p2
            try clear c3
            try clear c4
            try clear c8
            try clear c9
            try clear c11
            try clear c17
            try clear c21
            try clear c22
            try clear c24
            try clear c34
            try clear c35
            try clear c37
            try clear c44
            try clear hcz10_0
            try clear hcz10_1
            try clear hcz10_2
            try clear hcz12_0
            try clear hcz12_1
            try clear hcz12_2
            try clear hcz14_0
            try clear hcz14_1
            try clear hcz14_2
            try clear hcz15_0
            try clear hcz15_1
            try clear hcz15_2
            try clear hcz23_0
            try clear hcz23_1
            try clear hcz23_2
            try clear hcz25_0
            try clear hcz25_1
            try clear hcz25_2
            try clear hcz27_0
            try clear hcz27_1
            try clear hcz27_2
            try clear hcz29_0
            try clear hcz29_1
            try clear hcz29_2
            try clear hcz30_0
            try clear hcz30_1
            try clear hcz30_2
            try clear hcz36_0
            try clear hcz36_1
            try clear hcz36_2
            try clear hcz38_0
            try clear hcz38_1
            try clear hcz38_2
            try clear hcz40_0
            try clear hcz40_1
            try clear hcz40_2
            try clear hcz46_0
            try clear hcz46_1
            try clear hcz46_2
            try clear hcz48_0
            try clear hcz48_1
            try clear hcz48_2
            try clear hcz50_0
            try clear hcz50_1
            try clear hcz50_2
            try clear hfz10_0
            try clear hfz10_1
            try clear hfz10_2
            try clear hfz12_0
            try clear hfz12_1
            try clear hfz12_2
            try clear hfz14_0
            try clear hfz14_1
            try clear hfz14_2
            try clear hfz15_0
            try clear hfz15_1
            try clear hfz15_2
            try clear hfz23_0
            try clear hfz23_1
            try clear hfz23_2
            try clear hfz25_0
            try clear hfz25_1
            try clear hfz25_2
            try clear hfz27_0
            try clear hfz27_1
            try clear hfz27_2
            try clear hfz29_0
            try clear hfz29_1
            try clear hfz29_2
            try clear hfz30_0
            try clear hfz30_1
            try clear hfz30_2
            try clear hfz36_0
            try clear hfz36_1
            try clear hfz36_2
            try clear hfz38_0
            try clear hfz38_1
            try clear hfz38_2
            try clear hfz40_0
            try clear hfz40_1
            try clear hfz40_2
            try clear hfz46_0
            try clear hfz46_1
            try clear hfz46_2
            try clear hfz48_0
            try clear hfz48_1
            try clear hfz48_2
            try clear hfz50_0
            try clear hfz50_1
            try clear hfz50_2
            try clear p2
            obtain ⟨kq, x19_41, rfl, HA, HJ41, BK121, BK122, BK123, HB⟩ := hcut
            cases kq with
            | zero => exact absurd HA.out (by simp [wide_Common.j1])
            | succ kj41 =>
              have H := HA.out
              clear HA
              simp only [wide_Common.j1] at H
              by_cases c52 : x19_41 = true
              · subst c52
                have H1 : ((wide_Number_half.f x122000_1 x122001_1 x122002_1).bind fun bt128 => ((wide_Number_half.f x123000_1 x123001_1 x123002_1).bind fun bt131 => (wide_Common.l0 kj41 (wrap64 (x5_1 + 1)) bt128.1 bt128.2.1 bt128.2.2 bt131.1 bt131.2.1 bt131.2.2))) = some (r1, r2, r3) := by rw [if_pos rfl] at H; exact H
                clear H
                have H := H1
                clear H1
                replace H := Option.bind_eq_some_iff.mp H
                obtain ⟨⟨t128, t129, t130⟩, A530, H⟩ := H
                replace H : ((wide_Number_half.f x123000_1 x123001_1 x123002_1).bind fun bt131 => (wide_Common.l0 kj41 (wrap64 (x5_1 + 1)) t128 t129 t130 bt131.1 bt131.2.1 bt131.2.2)) = some (r1, r2, r3) := H
                have A53 := Aside0.mk A530
                clear A530
                replace H := Option.bind_eq_some_iff.mp H
                obtain ⟨⟨t131, t132, t133⟩, A540, H⟩ := H
                replace H : (wide_Common.l0 kj41 (wrap64 (x5_1 + 1)) t128 t129 t130 t131 t132 t133) = some (r1, r2, r3) := H
                have A54 := Aside0.mk A540
                clear A540
                have H' := Aside0.mk H
                clear H
                try go_wp2
                have n0_ := Aside0.mk (blk_drew BK121.out)
                have n1_ := Aside0.mk (blk_drew BK122.out)
                have n2_ := Aside0.mk (blk_drew BK123.out)
                have n3_ := Aside0.mk (below_drew1 HB.out)
                clear BK121
                clear BK122
                clear BK123
                clear HB
                have BK121 := n0_
                have BK122 := n1_
                have BK123 := n2_
                have HB := n3_
                clear n0_ n1_ n2_ n3_
                refine start_ (n := 9) (S := fun w' => w'.cell? ⟨gb121, 0, none⟩ = some (.int .u64 x122000_1) ∧ w'.cell? ⟨gb121, 1, none⟩ = some (.int .u64 x122001_1) ∧ w'.cell? ⟨gb121, 2, none⟩ = some (.bool x122002_1) ∧ w'.cell? ⟨gb122, 0, none⟩ = some (.int .u64 x123000_1) ∧ w'.cell? ⟨gb122, 1, none⟩ = some (.int .u64 x123001_1) ∧ w'.cell? ⟨gb122, 2, none⟩ = some (.bool x123002_1)) (ds := [6, 7]) #[false, false, false, false, false, false, false, false, false] (by kernel_rfl) rfl rfl ⟨(blk_cell BK121.out 0).trans rfl, (blk_cell BK121.out 1).trans rfl, (blk_cell BK121.out 2).trans rfl, (blk_cell BK122.out 0).trans rfl, (blk_cell BK122.out 1).trans rfl, (blk_cell BK122.out 2).trans rfl⟩ (fun hHeld => ?_); refine with_tabW wide_Common.tab8 wide_Common.bits8 (fun HT_ HW_ => ?_)
                generalize wc.drew = w55 at BK121 BK122 BK123 HB hHeld ⊢
                refine pure_ (i := 4) (N := some 24) (v := ?_) (a' := ?_) #[false, false, false, false, true, false, false, false, false] rfl rfl (any_of HT_.out (by kernel_rfl)) (fun _ _ _ h => h) (Or.inl ⟨by rfl, ?_⟩) ?_ ?_
                rotate_left
                · intro w'
                  go_simp
                  with_reducible rfl
                rotate_left
                · simp only [Act.put, List.setIfInBounds_toArray, List.set_cons_zero, List.set_cons_succ, i64_w, i32_w]
                  rfl
                refine pure_ (i := 5) (N := some 25) (v := ?_) (a' := ?_) #[false, false, false, false, true, true, false, false, false] rfl rfl (any_of HT_.out (by kernel_rfl)) (fun _ _ _ h => h) (Or.inl ⟨by rfl, ?_⟩) ?_ ?_
                rotate_left
                · intro w'
                  go_simp
                  with_reducible rfl
                rotate_left
                · simp only [Act.put, List.setIfInBounds_toArray, List.set_cons_zero, List.set_cons_succ, i64_w, i32_w]
                  rfl
                refine take_ (i := 0) (N := some 20) (v := ?_) (a' := ?_) #[true, false, false, false, true, true, false, false, false] rfl rfl (take_ofW HT_.out HW_.out (by kernel_rfl)) (fun _ _ _ h => h) (Or.inl ⟨by rfl, ?_⟩) hHeld ?_ ?_
                rotate_left
                · rintro w' ⟨s0, s1, s2, s3, s4, s5⟩
                  go_simp
                  with_reducible rfl
                rotate_left
                · simp only [Act.put, List.setIfInBounds_toArray, List.set_cons_zero, List.set_cons_succ, i64_w, i32_w]
                  rfl
                refine take_ (i := 2) (N := some 22) (v := ?_) (a' := ?_) #[true, false, true, false, true, true, false, false, false] rfl rfl (take_ofW HT_.out HW_.out (by kernel_rfl)) (fun _ _ _ h => h) (Or.inl ⟨by rfl, ?_⟩) hHeld ?_ ?_
                rotate_left
                · rintro w' ⟨s0, s1, s2, s3, s4, s5⟩
                  go_simp
                  with_reducible rfl
                rotate_left
                · simp only [Act.put, List.setIfInBounds_toArray, List.set_cons_zero, List.set_cons_succ, i64_w, i32_w]
                  rfl
                refine one_ (i := 1) (N := some 21) #[true, true, true, false, true, true, false, false, false] rfl rfl (one_of HT_.out (by kernel_rfl)) (by decide) (fun K hK => ?_)
                refine goes_ Try.func120 (by kernel_rfl) rfl #[.agg #[.int .u64 x122000_1, .int .u64 x122001_1, .bool x122002_1]] (by rfl) rfl rfl (by (try simp only [List.map_toArray, List.map_cons, List.map_nil]); first | done | rfl | (simp only [List.length_drop, List.length_take]; rfl)) ?_
                with_reducible refine (wide_Number_half.calls x122000_1 x122001_1 x122002_1 t128 t129 t130 _ A53.out).mono ?_
                rintro e w56 ⟨rfl, hb⟩
                refine ⟨_, rfl, ?_⟩
                have n0_ := bkb BK121 hb
                have n1_ := bkb BK122 hb
                have n2_ := bkb BK123 hb
                have n3_ := blw HB hb
                clear BK121
                clear BK122
                clear BK123
                clear HB
                have BK121 := n0_
                have BK122 := n1_
                have BK123 := n2_
                have HB := n3_
                clear n0_ n1_ n2_ n3_
                (try clear hb)
                (try clear hb2)
                (try clear hk)
                (try clear hi)
                refine hK.out _ _ ⟨(blk_cell BK121.out 0).trans rfl, (blk_cell BK121.out 1).trans rfl, (blk_cell BK121.out 2).trans rfl, (blk_cell BK122.out 0).trans rfl, (blk_cell BK122.out 1).trans rfl, (blk_cell BK122.out 2).trans rfl⟩ (fun hHeld => ?_)
                clear hK K
                refine norm_ (a' := ?_) ?_ ?_
                rotate_left
                · show Act.put _ (some 21) _ = _
                  simp only [Act.put, List.setIfInBounds_toArray, List.set_cons_zero, List.set_cons_succ, i64_w, i32_w]
                  rfl
                refine one_ (i := 3) (N := some 23) #[true, true, true, true, true, true, false, false, false] rfl rfl (one_of HT_.out (by kernel_rfl)) (by decide) (fun K hK => ?_)
                refine goes_ Try.func120 (by kernel_rfl) rfl #[.agg #[.int .u64 x123000_1, .int .u64 x123001_1, .bool x123002_1]] (by rfl) rfl rfl (by (try simp only [List.map_toArray, List.map_cons, List.map_nil]); first | done | rfl | (simp only [List.length_drop, List.length_take]; rfl)) ?_
                with_reducible refine (wide_Number_half.calls x123000_1 x123001_1 x123002_1 t131 t132 t133 _ A54.out).mono ?_
                rintro e w57 ⟨rfl, hb⟩
                refine ⟨_, rfl, ?_⟩
                have n0_ := bkb BK121 hb
                have n1_ := bkb BK122 hb
                have n2_ := bkb BK123 hb
                have n3_ := blw HB hb
                clear BK121
                clear BK122
                clear BK123
                clear HB
                have BK121 := n0_
                have BK122 := n1_
                have BK123 := n2_
                have HB := n3_
                clear n0_ n1_ n2_ n3_
                (try clear hb)
                (try clear hb2)
                (try clear hk)
                (try clear hi)
                refine hK.out _ _ ⟨(blk_cell BK121.out 0).trans rfl, (blk_cell BK121.out 1).trans rfl, (blk_cell BK121.out 2).trans rfl, (blk_cell BK122.out 0).trans rfl, (blk_cell BK122.out 1).trans rfl, (blk_cell BK122.out 2).trans rfl⟩ (fun hHeld => ?_)
                clear hK K
                refine norm_ (a' := ?_) ?_ ?_
                rotate_left
                · show Act.put _ (some 23) _ = _
                  simp only [Act.put, List.setIfInBounds_toArray, List.set_cons_zero, List.set_cons_succ, i64_w, i32_w]
                  rfl
                refine last_ (i := 6) (N := none) #[true, true, true, true, true, true, true, false, false] rfl rfl (one_of HT_.out (by kernel_rfl)) (by decide) (fun K hK => ?_)
                have hs58 : w57.cell? ⟨gb121, 0, none⟩ = some (.int .u64 x122000_1) := (blk_cell BK121.out 0).trans rfl
                have hfs58 := blk_frozen BK121.out 0
                have hns58_1 := NB122_121.out
                have hns58_2 := NB123_121.out
                have hms58_1 := NB121_122.out
                have hms58_2 := NB121_123.out
                have hs59 : w57.cell? ⟨gb121, 1, none⟩ = some (.int .u64 x122001_1) := (blk_cell BK121.out 1).trans rfl
                have hfs59 := blk_frozen BK121.out 1
                have hns59_1 := NB122_121.out
                have hns59_2 := NB123_121.out
                have hms59_1 := NB121_122.out
                have hms59_2 := NB121_123.out
                have hs60 : w57.cell? ⟨gb121, 2, none⟩ = some (.bool x122002_1) := (blk_cell BK121.out 2).trans rfl
                have hfs60 := blk_frozen BK121.out 2
                have hns60_1 := NB122_121.out
                have hns60_2 := NB123_121.out
                have hms60_1 := NB121_122.out
                have hms60_2 := NB121_123.out
                refine skip_ (w1 := ?_) (by rfl) rfl ?_ ?_
                rotate_left
                · go_simp
                  rfl
                refine hK.out _ _ ?_
                clear hK K
                refine last_ (i := 7) (N := none) #[true, true, true, true, true, true, true, true, false] rfl rfl (one_of HT_.out (by kernel_rfl)) (by decide) (fun K hK => ?_)
                have hs61 : w57.cell? ⟨gb122, 0, none⟩ = some (.int .u64 x123000_1) := (blk_cell BK122.out 0).trans rfl
                have hfs61 := blk_frozen BK122.out 0
                have hns61_0 := NB121_122.out
                have hns61_2 := NB123_122.out
                have hms61_0 := NB122_121.out
                have hms61_2 := NB122_123.out
                have hs62 : w57.cell? ⟨gb122, 1, none⟩ = some (.int .u64 x123001_1) := (blk_cell BK122.out 1).trans rfl
                have hfs62 := blk_frozen BK122.out 1
                have hns62_0 := NB121_122.out
                have hns62_2 := NB123_122.out
                have hms62_0 := NB122_121.out
                have hms62_2 := NB122_123.out
                have hs63 : w57.cell? ⟨gb122, 2, none⟩ = some (.bool x123002_1) := (blk_cell BK122.out 2).trans rfl
                have hfs63 := blk_frozen BK122.out 2
                have hns63_0 := NB121_122.out
                have hns63_2 := NB123_122.out
                have hms63_0 := NB122_121.out
                have hms63_2 := NB122_123.out
                refine skip_ (w1 := ?_) (by rfl) rfl ?_ ?_
                rotate_left
                · go_simp
                  rfl
                refine hK.out _ _ ?_
                clear hK K
                refine pure_ (i := 8) (N := some 5) (v := ?_) (a' := ?_) #[true, true, true, true, true, true, true, true, true] rfl rfl (any_of HT_.out (by kernel_rfl)) (fun _ _ _ h => h) (Or.inl ⟨by rfl, ?_⟩) ?_ ?_
                rotate_left
                · intro w'
                  go_simp
                  with_reducible rfl
                rotate_left
                · simp only [Act.put, List.setIfInBounds_toArray, List.set_cons_zero, List.set_cons_succ, i64_w, i32_w]
                  rfl
                refine done_ (done_of HT_.out (by kernel_rfl)) ?_
                try go_wp2
                go_roundg kj41
                case measure => have := HK1.out; have := HJ41.out; omega
                case rel => exact ⟨(wrap64 (x5_1 + 1)), (t128), (t129), (t130), (t131), (t132), (t133), (by first | rfl | (simp; done) | (simp [*]; done)), H', ⟨by have := HK1.out; have := HJ41.out; omega⟩, ⟨by (with_reducible repeat (first | refine blk_drewN ?_ _ | refine blk_drew ?_ | refine blk_alloc ?_ _)); refine blk_far ?_ NB121_122.out _; (with_reducible repeat (first | refine blk_drewN ?_ _ | refine blk_drew ?_ | refine blk_alloc ?_ _)); refine blk_far ?_ NB121_122.out _; (with_reducible repeat (first | refine blk_drewN ?_ _ | refine blk_drew ?_ | refine blk_alloc ?_ _)); refine blk_far ?_ NB121_122.out _; (with_reducible repeat (first | refine blk_drewN ?_ _ | refine blk_drew ?_ | refine blk_alloc ?_ _)); refine blk_put (cs := #[.int .u64 t128, .int .u64 t129, .bool x122002_1]) ?_ 2 _ rfl; (with_reducible repeat (first | refine blk_drewN ?_ _ | refine blk_drew ?_ | refine blk_alloc ?_ _)); refine blk_put (cs := #[.int .u64 t128, .int .u64 x122001_1, .bool x122002_1]) ?_ 1 _ rfl; (with_reducible repeat (first | refine blk_drewN ?_ _ | refine blk_drew ?_ | refine blk_alloc ?_ _)); refine blk_put (cs := #[.int .u64 x122000_1, .int .u64 x122001_1, .bool x122002_1]) ?_ 0 _ rfl; (with_reducible repeat (first | refine blk_drewN ?_ _ | refine blk_drew ?_ | refine blk_alloc ?_ _)); exact BK121.out⟩, ⟨by (with_reducible repeat (first | refine blk_drewN ?_ _ | refine blk_drew ?_ | refine blk_alloc ?_ _)); refine blk_put (cs := #[.int .u64 t131, .int .u64 t132, .bool x123002_1]) ?_ 2 _ rfl; (with_reducible repeat (first | refine blk_drewN ?_ _ | refine blk_drew ?_ | refine blk_alloc ?_ _)); refine blk_put (cs := #[.int .u64 t131, .int .u64 x123001_1, .bool x123002_1]) ?_ 1 _ rfl; (with_reducible repeat (first | refine blk_drewN ?_ _ | refine blk_drew ?_ | refine blk_alloc ?_ _)); refine blk_put (cs := #[.int .u64 x123000_1, .int .u64 x123001_1, .bool x123002_1]) ?_ 0 _ rfl; (with_reducible repeat (first | refine blk_drewN ?_ _ | refine blk_drew ?_ | refine blk_alloc ?_ _)); refine blk_far ?_ NB122_121.out _; (with_reducible repeat (first | refine blk_drewN ?_ _ | refine blk_drew ?_ | refine blk_alloc ?_ _)); refine blk_far ?_ NB122_121.out _; (with_reducible repeat (first | refine blk_drewN ?_ _ | refine blk_drew ?_ | refine blk_alloc ?_ _)); refine blk_far ?_ NB122_121.out _; (with_reducible repeat (first | refine blk_drewN ?_ _ | refine blk_drew ?_ | refine blk_alloc ?_ _)); exact BK122.out⟩, ⟨by (with_reducible repeat (first | refine blk_drewN ?_ _ | refine blk_drew ?_ | refine blk_alloc ?_ _)); refine blk_far ?_ NB123_122.out _; (with_reducible repeat (first | refine blk_drewN ?_ _ | refine blk_drew ?_ | refine blk_alloc ?_ _)); refine blk_far ?_ NB123_122.out _; (with_reducible repeat (first | refine blk_drewN ?_ _ | refine blk_drew ?_ | refine blk_alloc ?_ _)); refine blk_far ?_ NB123_122.out _; (with_reducible repeat (first | refine blk_drewN ?_ _ | refine blk_drew ?_ | refine blk_alloc ?_ _)); refine blk_far ?_ NB123_121.out _; (with_reducible repeat (first | refine blk_drewN ?_ _ | refine blk_drew ?_ | refine blk_alloc ?_ _)); refine blk_far ?_ NB123_121.out _; (with_reducible repeat (first | refine blk_drewN ?_ _ | refine blk_drew ?_ | refine blk_alloc ?_ _)); refine blk_far ?_ NB123_121.out _; (with_reducible repeat (first | refine blk_drewN ?_ _ | refine blk_drew ?_ | refine blk_alloc ?_ _)); exact BK123.out⟩, ⟨by repeat (first | (with_reducible first | exact HB.out | apply below_alloc | apply pw_below_drewN | apply below_drew1 | refine below_set ?_ GE121.out | refine below_set ?_ GE122.out | refine below_set ?_ GE123.out) | exact HB.out)⟩⟩
              · replace c52 := Bool.eq_false_iff.mpr c52
                subst c52
                have H1 : (wide_Common.l1 kj41 x5_1 x122000_1 x122001_1 x122002_1 x123000_1 x123001_1 x123002_1) = some (r1, r2, r3) := by rw [if_neg (show ¬ (false = true) by decide)] at H; exact H
                clear H
                have H := H1
                clear H1
                have H' := Aside0.mk H
                clear H
                go_wp2
                (try simp only [Act.put, List.setIfInBounds_toArray, List.set_cons_succ, List.set_cons_zero])
                go_loopg [] kj41 (fun kq w' => ∃ (x122000_3 : Int) (x122001_3 : Int) (x122002_3 : Bool), Aside0 (wide_Common.l1 kq x5_1 x122000_3 x122001_3 x122002_3 x123000_1 x123001_1 x123002_1 = some (r1, r2, r3)) ∧ Aside0 (kq ≤ kj41) ∧ Aside0 (w'.heap[gb121]? = some (.cells #[.int .u64 x122000_3, .int .u64 x122001_3, .bool x122002_3] 72 (0, 0))) ∧ Aside0 (w'.heap[gb122]? = some (.cells #[.int .u64 x123000_1, .int .u64 x123001_1, .bool x123002_1] 72 (0, 0))) ∧ Aside0 (w'.heap[gb123]? = some (.cells #[.int .u64 0, .int .u64 0, .bool false] 72 (0, 0))) ∧ Aside0 (Below w.heap.size w w'))
                case atStart => exact ⟨(x122000_1), (x122001_1), (x122002_1), H', ⟨Nat.le_refl _⟩, ⟨by (with_reducible repeat (first | refine blk_drewN ?_ _ | refine blk_drew ?_ | refine blk_alloc ?_ _)); exact BK121.out⟩, ⟨by (with_reducible repeat (first | refine blk_drewN ?_ _ | refine blk_drew ?_ | refine blk_alloc ?_ _)); exact BK122.out⟩, ⟨by (with_reducible repeat (first | refine blk_drewN ?_ _ | refine blk_drew ?_ | refine blk_alloc ?_ _)); exact BK123.out⟩, ⟨by repeat (first | (with_reducible first | exact HB.out | apply below_alloc | apply pw_below_drewN | apply below_drew1 | refine below_set ?_ GE121.out | refine below_set ?_ GE122.out | refine below_set ?_ GE123.out) | exact HB.out)⟩⟩
                case round =>
                  clear H'
                  try clear c1
                  try clear c2
                  try clear p2
                  try clear c3
                  try clear c4
                  try clear c5
                  try clear p6
                  try clear c8
                  try clear c9
                  try clear c11
                  try clear c12
                  try clear c17
                  try clear c21
                  try clear c22
                  try clear c24
                  try clear c34
                  try clear c35
                  try clear c37
                  try clear c44
                  try clear c52
                  try clear hcz10_0
                  try clear hcz10_1
                  try clear hcz10_2
                  try clear hcz12_0
                  try clear hcz12_1
                  try clear hcz12_2
                  try clear hcz14_0
                  try clear hcz14_1
                  try clear hcz14_2
                  try clear hcz15_0
                  try clear hcz15_1
                  try clear hcz15_2
                  try clear hcz23_0
                  try clear hcz23_1
                  try clear hcz23_2
                  try clear hcz25_0
                  try clear hcz25_1
                  try clear hcz25_2
                  try clear hcz27_0
                  try clear hcz27_1
                  try clear hcz27_2
                  try clear hcz29_0
                  try clear hcz29_1
                  try clear hcz29_2
                  try clear hcz30_0
                  try clear hcz30_1
                  try clear hcz30_2
                  try clear hcz36_0
                  try clear hcz36_1
                  try clear hcz36_2
                  try clear hcz38_0
                  try clear hcz38_1
                  try clear hcz38_2
                  try clear hcz40_0
                  try clear hcz40_1
                  try clear hcz40_2
                  try clear hcz46_0
                  try clear hcz46_1
                  try clear hcz46_2
                  try clear hcz48_0
                  try clear hcz48_1
                  try clear hcz48_2
                  try clear hcz50_0
                  try clear hcz50_1
                  try clear hcz50_2
                  try clear hfz10_0
                  try clear hfz10_1
                  try clear hfz10_2
                  try clear hfz12_0
                  try clear hfz12_1
                  try clear hfz12_2
                  try clear hfz14_0
                  try clear hfz14_1
                  try clear hfz14_2
                  try clear hfz15_0
                  try clear hfz15_1
                  try clear hfz15_2
                  try clear hfz23_0
                  try clear hfz23_1
                  try clear hfz23_2
                  try clear hfz25_0
                  try clear hfz25_1
                  try clear hfz25_2
                  try clear hfz27_0
                  try clear hfz27_1
                  try clear hfz27_2
                  try clear hfz29_0
                  try clear hfz29_1
                  try clear hfz29_2
                  try clear hfz30_0
                  try clear hfz30_1
                  try clear hfz30_2
                  try clear hfz36_0
                  try clear hfz36_1
                  try clear hfz36_2
                  try clear hfz38_0
                  try clear hfz38_1
                  try clear hfz38_2
                  try clear hfz40_0
                  try clear hfz40_1
                  try clear hfz40_2
                  try clear hfz46_0
                  try clear hfz46_1
                  try clear hfz46_2
                  try clear hfz48_0
                  try clear hfz48_1
                  try clear hfz48_2
                  try clear hfz50_0
                  try clear hfz50_1
                  try clear hfz50_2
                  try clear p2
                  obtain ⟨x122000_3, x122001_3, x122002_3, HA, HK3, BK121, BK122, BK123, HB⟩ := hrel
                  cases gk with
                  | zero => exact absurd HA.out (by simp [wide_Common.l1])
                  | succ k3 =>
                    have H := HA.out
                    clear HA
                    simp only [wide_Common.l1] at H
                    replace H := Option.bind_eq_some_iff.mp H
                    obtain ⟨t134, A640, H⟩ := H
                    replace H : (if t134 = true then ((wide_Number_half.f x122000_3 x122001_3 x122002_3).bind fun bt135 => (wide_Common.l1 k3 x5_1 bt135.1 bt135.2.1 bt135.2.2 x123000_1 x123001_1 x123002_1)) else (wide_Common.l2 k3 x5_1 x122000_3 x122001_3 x122002_3 x123000_1 x123001_1 x123002_1)) = some (r1, r2, r3) := H
                    have A64 := Aside0.mk A640
                    clear A640
                    by_cases c65 : t134 = true
                    · subst c65
                      have H1 : ((wide_Number_half.f x122000_3 x122001_3 x122002_3).bind fun bt135 => (wide_Common.l1 k3 x5_1 bt135.1 bt135.2.1 bt135.2.2 x123000_1 x123001_1 x123002_1)) = some (r1, r2, r3) := by rw [if_pos rfl] at H; exact H
                      clear H
                      have H := H1
                      clear H1
                      replace H := Option.bind_eq_some_iff.mp H
                      obtain ⟨⟨t135, t136, t137⟩, A660, H⟩ := H
                      replace H : (wide_Common.l1 k3 x5_1 t135 t136 t137 x123000_1 x123001_1 x123002_1) = some (r1, r2, r3) := H
                      have A66 := Aside0.mk A660
                      clear A660
                      have H' := Aside0.mk H
                      clear H
                      have hcz67_0 : wr.cell? ⟨gb121, 0, none⟩ = some (.int .u64 x122000_3) := (blk_cell BK121.out 0).trans rfl
                      have hcz67_1 : wr.cell? ⟨gb121, 1, none⟩ = some (.int .u64 x122001_3) := (blk_cell BK121.out 1).trans rfl
                      have hcz67_2 : wr.cell? ⟨gb121, 2, none⟩ = some (.bool x122002_3) := (blk_cell BK121.out 2).trans rfl
                      have hfz67_0 := blk_frozen BK121.out 0
                      have hfz67_1 := blk_frozen BK121.out 1
                      have hfz67_2 := blk_frozen BK121.out 2
                      go_wp2_with (first | ((with_reducible refine gate_callee (f := 119) rfl ?_); refine goesL_ (some 27) rfl rfl Try.func119 (by kernel_rfl) rfl #[.agg #[.int .u64 x122000_3, .int .u64 x122001_3, .bool x122002_3]] rfl (by (try simp only [List.map_toArray, List.map_cons, List.map_nil]); first | done | rfl | (simp only [List.length_drop, List.length_take]; rfl)) ?_; (with_reducible refine (wide_Number_even.calls x122000_3 x122001_3 x122002_3 true _ A64.out).mono ?_); rintro e w68 ⟨rfl, hb⟩; refine ⟨_, rfl, ?_⟩; replace BK121 := bkb BK121 hb; replace BK122 := bkb BK122 hb; replace BK123 := bkb BK123 hb; replace HB := blw HB hb; (try clear hb); (try clear hb2); (try clear hk); (try clear hi); have hcz69_0 : w68.cell? ⟨gb121, 0, none⟩ = some (.int .u64 x122000_3) := (blk_cell BK121.out 0).trans rfl; have hcz69_1 : w68.cell? ⟨gb121, 1, none⟩ = some (.int .u64 x122001_3) := (blk_cell BK121.out 1).trans rfl; have hcz69_2 : w68.cell? ⟨gb121, 2, none⟩ = some (.bool x122002_3) := (blk_cell BK121.out 2).trans rfl; have hfz69_0 := blk_frozen BK121.out 0; have hfz69_1 := blk_frozen BK121.out 1; have hfz69_2 := blk_frozen BK121.out 2) | ((with_reducible refine gate_callee (f := 120) rfl ?_); refine goesL_ (some 29) rfl rfl Try.func120 (by kernel_rfl) rfl #[.agg #[.int .u64 x122000_3, .int .u64 x122001_3, .bool x122002_3]] rfl (by (try simp only [List.map_toArray, List.map_cons, List.map_nil]); first | done | rfl | (simp only [List.length_drop, List.length_take]; rfl)) ?_; (with_reducible refine (wide_Number_half.calls x122000_3 x122001_3 x122002_3 t135 t136 t137 _ A66.out).mono ?_); rintro e w70 ⟨rfl, hb⟩; refine ⟨_, rfl, ?_⟩; replace BK121 := bkb BK121 hb; replace BK122 := bkb BK122 hb; replace BK123 := bkb BK123 hb; replace HB := blw HB hb; (try clear hb); (try clear hb2); (try clear hk); (try clear hi); have hnb71 := NB121_122.out; have hnc71 := NB122_121.out; have hnb72 := NB121_123.out; have hnc72 := NB123_121.out; have hcz73_0 : w70.cell? ⟨gb121, 0, none⟩ = some (.int .u64 x122000_3) := (blk_cell BK121.out 0).trans rfl; have hcz73_1 : w70.cell? ⟨gb121, 1, none⟩ = some (.int .u64 x122001_3) := (blk_cell BK121.out 1).trans rfl; have hcz73_2 : w70.cell? ⟨gb121, 2, none⟩ = some (.bool x122002_3) := (blk_cell BK121.out 2).trans rfl; have hfz73_0 := blk_frozen BK121.out 0; have hfz73_1 := blk_frozen BK121.out 1; have hfz73_2 := blk_frozen BK121.out 2))
                      go_roundg k3
                      case measure => have := HK1.out; have := HJ41.out; have := HK3.out; omega
                      case rel => exact ⟨(t135), (t136), (t137), H', ⟨by have := HK1.out; have := HJ41.out; have := HK3.out; omega⟩, ⟨by (with_reducible repeat (first | refine blk_drewN ?_ _ | refine blk_drew ?_ | refine blk_alloc ?_ _)); refine blk_put (cs := #[.int .u64 t135, .int .u64 t136, .bool x122002_3]) ?_ 2 _ rfl; (with_reducible repeat (first | refine blk_drewN ?_ _ | refine blk_drew ?_ | refine blk_alloc ?_ _)); refine blk_put (cs := #[.int .u64 t135, .int .u64 x122001_3, .bool x122002_3]) ?_ 1 _ rfl; (with_reducible repeat (first | refine blk_drewN ?_ _ | refine blk_drew ?_ | refine blk_alloc ?_ _)); refine blk_put (cs := #[.int .u64 x122000_3, .int .u64 x122001_3, .bool x122002_3]) ?_ 0 _ rfl; (with_reducible repeat (first | refine blk_drewN ?_ _ | refine blk_drew ?_ | refine blk_alloc ?_ _)); exact BK121.out⟩, ⟨by (with_reducible repeat (first | refine blk_drewN ?_ _ | refine blk_drew ?_ | refine blk_alloc ?_ _)); refine blk_far ?_ NB122_121.out _; (with_reducible repeat (first | refine blk_drewN ?_ _ | refine blk_drew ?_ | refine blk_alloc ?_ _)); refine blk_far ?_ NB122_121.out _; (with_reducible repeat (first | refine blk_drewN ?_ _ | refine blk_drew ?_ | refine blk_alloc ?_ _)); refine blk_far ?_ NB122_121.out _; (with_reducible repeat (first | refine blk_drewN ?_ _ | refine blk_drew ?_ | refine blk_alloc ?_ _)); exact BK122.out⟩, ⟨by (with_reducible repeat (first | refine blk_drewN ?_ _ | refine blk_drew ?_ | refine blk_alloc ?_ _)); refine blk_far ?_ NB123_121.out _; (with_reducible repeat (first | refine blk_drewN ?_ _ | refine blk_drew ?_ | refine blk_alloc ?_ _)); refine blk_far ?_ NB123_121.out _; (with_reducible repeat (first | refine blk_drewN ?_ _ | refine blk_drew ?_ | refine blk_alloc ?_ _)); refine blk_far ?_ NB123_121.out _; (with_reducible repeat (first | refine blk_drewN ?_ _ | refine blk_drew ?_ | refine blk_alloc ?_ _)); exact BK123.out⟩, ⟨by repeat (first | (with_reducible first | exact HB.out | apply below_alloc | apply pw_below_drewN | apply below_drew1 | refine below_set ?_ GE121.out | refine below_set ?_ GE122.out | refine below_set ?_ GE123.out) | exact HB.out)⟩⟩
                    · replace c65 := Bool.eq_false_iff.mpr c65
                      subst c65
                      have H1 : (wide_Common.l2 k3 x5_1 x122000_3 x122001_3 x122002_3 x123000_1 x123001_1 x123002_1) = some (r1, r2, r3) := by rw [if_neg (show ¬ (false = true) by decide)] at H; exact H
                      clear H
                      have H := H1
                      clear H1
                      have H' := Aside0.mk H
                      clear H
                      have hcz74_0 : wr.cell? ⟨gb121, 0, none⟩ = some (.int .u64 x122000_3) := (blk_cell BK121.out 0).trans rfl
                      have hcz74_1 : wr.cell? ⟨gb121, 1, none⟩ = some (.int .u64 x122001_3) := (blk_cell BK121.out 1).trans rfl
                      have hcz74_2 : wr.cell? ⟨gb121, 2, none⟩ = some (.bool x122002_3) := (blk_cell BK121.out 2).trans rfl
                      have hfz74_0 := blk_frozen BK121.out 0
                      have hfz74_1 := blk_frozen BK121.out 1
                      have hfz74_2 := blk_frozen BK121.out 2
                      go_wp2_with (first | ((with_reducible refine gate_callee (f := 119) rfl ?_); refine goesL_ (some 27) rfl rfl Try.func119 (by kernel_rfl) rfl #[.agg #[.int .u64 x122000_3, .int .u64 x122001_3, .bool x122002_3]] rfl (by (try simp only [List.map_toArray, List.map_cons, List.map_nil]); first | done | rfl | (simp only [List.length_drop, List.length_take]; rfl)) ?_; (with_reducible refine (wide_Number_even.calls x122000_3 x122001_3 x122002_3 false _ A64.out).mono ?_); rintro e w75 ⟨rfl, hb⟩; refine ⟨_, rfl, ?_⟩; replace BK121 := bkb BK121 hb; replace BK122 := bkb BK122 hb; replace BK123 := bkb BK123 hb; replace HB := blw HB hb; (try clear hb); (try clear hb2); (try clear hk); (try clear hi)))
                      (try simp only [Act.put, List.setIfInBounds_toArray, List.set_cons_succ, List.set_cons_zero])
                      go_loopg [] k3 (fun kq w' => ∃ (x122000_4 : Int) (x122001_4 : Int) (x122002_4 : Bool) (x123000_4 : Int) (x123001_4 : Int) (x123002_4 : Bool), Aside0 (wide_Common.l2 kq x5_1 x122000_4 x122001_4 x122002_4 x123000_4 x123001_4 x123002_4 = some (r1, r2, r3)) ∧ Aside0 (kq ≤ k3) ∧ Aside0 (w'.heap[gb121]? = some (.cells #[.int .u64 x122000_4, .int .u64 x122001_4, .bool x122002_4] 72 (0, 0))) ∧ Aside0 (w'.heap[gb122]? = some (.cells #[.int .u64 x123000_4, .int .u64 x123001_4, .bool x123002_4] 72 (0, 0))) ∧ Aside0 (w'.heap[gb123]? = some (.cells #[.int .u64 0, .int .u64 0, .bool false] 72 (0, 0))) ∧ Aside0 (Below w.heap.size w w'))
                      case atStart => exact ⟨(x122000_3), (x122001_3), (x122002_3), (x123000_1), (x123001_1), (x123002_1), H', ⟨Nat.le_refl _⟩, ⟨by (with_reducible repeat (first | refine blk_drewN ?_ _ | refine blk_drew ?_ | refine blk_alloc ?_ _)); exact BK121.out⟩, ⟨by (with_reducible repeat (first | refine blk_drewN ?_ _ | refine blk_drew ?_ | refine blk_alloc ?_ _)); exact BK122.out⟩, ⟨by (with_reducible repeat (first | refine blk_drewN ?_ _ | refine blk_drew ?_ | refine blk_alloc ?_ _)); exact BK123.out⟩, ⟨by repeat (first | (with_reducible first | exact HB.out | apply below_alloc | apply pw_below_drewN | apply below_drew1 | refine below_set ?_ GE121.out | refine below_set ?_ GE122.out | refine below_set ?_ GE123.out) | exact HB.out)⟩⟩
                      case round =>
                        clear H'
                        try clear c1
                        try clear c2
                        try clear p2
                        try clear c3
                        try clear c4
                        try clear c5
                        try clear c6
                        try clear p6
                        try clear c7
                        try clear c8
                        try clear c9
                        try clear c11
                        try clear c12
                        try clear c17
                        try clear c21
                        try clear c22
                        try clear c24
                        try clear c34
                        try clear c35
                        try clear c37
                        try clear c44
                        try clear c52
                        try clear p64
                        try clear c65
                        try clear c71
                        try clear c72
                        try clear hcz10_0
                        try clear hcz10_1
                        try clear hcz10_2
                        try clear hcz12_0
                        try clear hcz12_1
                        try clear hcz12_2
                        try clear hcz14_0
                        try clear hcz14_1
                        try clear hcz14_2
                        try clear hcz15_0
                        try clear hcz15_1
                        try clear hcz15_2
                        try clear hcz23_0
                        try clear hcz23_1
                        try clear hcz23_2
                        try clear hcz25_0
                        try clear hcz25_1
                        try clear hcz25_2
                        try clear hcz27_0
                        try clear hcz27_1
                        try clear hcz27_2
                        try clear hcz29_0
                        try clear hcz29_1
                        try clear hcz29_2
                        try clear hcz30_0
                        try clear hcz30_1
                        try clear hcz30_2
                        try clear hcz36_0
                        try clear hcz36_1
                        try clear hcz36_2
                        try clear hcz38_0
                        try clear hcz38_1
                        try clear hcz38_2
                        try clear hcz40_0
                        try clear hcz40_1
                        try clear hcz40_2
                        try clear hcz46_0
                        try clear hcz46_1
                        try clear hcz46_2
                        try clear hcz48_0
                        try clear hcz48_1
                        try clear hcz48_2
                        try clear hcz50_0
                        try clear hcz50_1
                        try clear hcz50_2
                        try clear hcz67_0
                        try clear hcz67_1
                        try clear hcz67_2
                        try clear hcz69_0
                        try clear hcz69_1
                        try clear hcz69_2
                        try clear hcz73_0
                        try clear hcz73_1
                        try clear hcz73_2
                        try clear hcz74_0
                        try clear hcz74_1
                        try clear hcz74_2
                        try clear hfz10_0
                        try clear hfz10_1
                        try clear hfz10_2
                        try clear hfz12_0
                        try clear hfz12_1
                        try clear hfz12_2
                        try clear hfz14_0
                        try clear hfz14_1
                        try clear hfz14_2
                        try clear hfz15_0
                        try clear hfz15_1
                        try clear hfz15_2
                        try clear hfz23_0
                        try clear hfz23_1
                        try clear hfz23_2
                        try clear hfz25_0
                        try clear hfz25_1
                        try clear hfz25_2
                        try clear hfz27_0
                        try clear hfz27_1
                        try clear hfz27_2
                        try clear hfz29_0
                        try clear hfz29_1
                        try clear hfz29_2
                        try clear hfz30_0
                        try clear hfz30_1
                        try clear hfz30_2
                        try clear hfz36_0
                        try clear hfz36_1
                        try clear hfz36_2
                        try clear hfz38_0
                        try clear hfz38_1
                        try clear hfz38_2
                        try clear hfz40_0
                        try clear hfz40_1
                        try clear hfz40_2
                        try clear hfz46_0
                        try clear hfz46_1
                        try clear hfz46_2
                        try clear hfz48_0
                        try clear hfz48_1
                        try clear hfz48_2
                        try clear hfz50_0
                        try clear hfz50_1
                        try clear hfz50_2
                        try clear hfz67_0
                        try clear hfz67_1
                        try clear hfz67_2
                        try clear hfz69_0
                        try clear hfz69_1
                        try clear hfz69_2
                        try clear hfz73_0
                        try clear hfz73_1
                        try clear hfz73_2
                        try clear hfz74_0
                        try clear hfz74_1
                        try clear hfz74_2
                        try clear p2
                        try clear p6
                        obtain ⟨x122000_4, x122001_4, x122002_4, x123000_4, x123001_4, x123002_4, HA, HK4, BK121, BK122, BK123, HB⟩ := hrel
                        cases gk with
                        | zero => exact absurd HA.out (by simp [wide_Common.l2])
                        | succ k4 =>
                          have H := HA.out
                          clear HA
                          simp only [wide_Common.l2] at H
                          replace H := Option.bind_eq_some_iff.mp H
                          obtain ⟨t138, A760, H⟩ := H
                          replace H : (if t138 = true then (wide_Common.l4 k4 x5_1 0 x122000_4 x122001_4 x122002_4) else (wide_Common.l3 k4 x5_1 x122000_4 x122001_4 x122002_4 x123000_4 x123001_4 x123002_4)) = some (r1, r2, r3) := H
                          have A76 := Aside0.mk A760
                          clear A760
                          by_cases c77 : t138 = true
                          · subst c77
                            have H1 : (wide_Common.l4 k4 x5_1 0 x122000_4 x122001_4 x122002_4) = some (r1, r2, r3) := by rw [if_pos rfl] at H; exact H
                            clear H
                            have H := H1
                            clear H1
                            have H' := Aside0.mk H
                            clear H
                            have hcz78_0 : wr.cell? ⟨gb122, 0, none⟩ = some (.int .u64 x123000_4) := (blk_cell BK122.out 0).trans rfl
                            have hcz78_1 : wr.cell? ⟨gb122, 1, none⟩ = some (.int .u64 x123001_4) := (blk_cell BK122.out 1).trans rfl
                            have hcz78_2 : wr.cell? ⟨gb122, 2, none⟩ = some (.bool x123002_4) := (blk_cell BK122.out 2).trans rfl
                            have hfz78_0 := blk_frozen BK122.out 0
                            have hfz78_1 := blk_frozen BK122.out 1
                            have hfz78_2 := blk_frozen BK122.out 2
                            go_wp2_with (first | ((with_reducible refine gate_callee (f := 118) rfl ?_); refine goesL_ (some 31) rfl rfl Try.func118 (by kernel_rfl) rfl #[.agg #[.int .u64 x123000_4, .int .u64 x123001_4, .bool x123002_4]] rfl (by (try simp only [List.map_toArray, List.map_cons, List.map_nil]); first | done | rfl | (simp only [List.length_drop, List.length_take]; rfl)) ?_; (with_reducible refine (wide_Number_Zero.calls x123000_4 x123001_4 x123002_4 true _ A76.out).mono ?_); rintro e w79 ⟨rfl, hb⟩; refine ⟨_, rfl, ?_⟩; replace BK121 := bkb BK121 hb; replace BK122 := bkb BK122 hb; replace BK123 := bkb BK123 hb; replace HB := blw HB hb; (try clear hb); (try clear hb2); (try clear hk); (try clear hi)))
                            (try simp only [Act.put, List.setIfInBounds_toArray, List.set_cons_succ, List.set_cons_zero])
                            go_loopg [46] k4 (fun kq v46 w' => ∃ (x46_5 : Int) (x122000_5 : Int) (x122001_5 : Int) (x122002_5 : Bool), v46 = .int .i64 x46_5 ∧ Aside0 (wide_Common.l4 kq x5_1 x46_5 x122000_5 x122001_5 x122002_5 = some (r1, r2, r3)) ∧ Aside0 (kq ≤ k4) ∧ Aside0 (w'.heap[gb121]? = some (.cells #[.int .u64 x122000_5, .int .u64 x122001_5, .bool x122002_5] 72 (0, 0))) ∧ Aside0 (w'.heap[gb122]? = some (.cells #[.int .u64 x123000_4, .int .u64 x123001_4, .bool x123002_4] 72 (0, 0))) ∧ Aside0 (w'.heap[gb123]? = some (.cells #[.int .u64 0, .int .u64 0, .bool false] 72 (0, 0))) ∧ Aside0 (Below w.heap.size w w'))
                            case atStart => exact ⟨(0), (x122000_4), (x122001_4), (x122002_4), (by first | rfl | (simp; done) | (simp [*]; done)), H', ⟨Nat.le_refl _⟩, ⟨by (with_reducible repeat (first | refine blk_drewN ?_ _ | refine blk_drew ?_ | refine blk_alloc ?_ _)); exact BK121.out⟩, ⟨by (with_reducible repeat (first | refine blk_drewN ?_ _ | refine blk_drew ?_ | refine blk_alloc ?_ _)); exact BK122.out⟩, ⟨by (with_reducible repeat (first | refine blk_drewN ?_ _ | refine blk_drew ?_ | refine blk_alloc ?_ _)); exact BK123.out⟩, ⟨by repeat (first | (with_reducible first | exact HB.out | apply below_alloc | apply pw_below_drewN | apply below_drew1 | refine below_set ?_ GE121.out | refine below_set ?_ GE122.out | refine below_set ?_ GE123.out) | exact HB.out)⟩⟩
                            case round =>
                              clear H'
                              try clear c1
                              try clear c2
                              try clear p2
                              try clear c3
                              try clear c4
                              try clear c5
                              try clear c6
                              try clear p6
                              try clear c7
                              try clear c8
                              try clear c9
                              try clear c11
                              try clear c12
                              try clear c17
                              try clear c21
                              try clear c22
                              try clear c24
                              try clear c34
                              try clear c35
                              try clear c37
                              try clear c44
                              try clear c52
                              try clear p64
                              try clear c65
                              try clear c71
                              try clear c72
                              try clear c77
                              try clear hcz10_0
                              try clear hcz10_1
                              try clear hcz10_2
                              try clear hcz12_0
                              try clear hcz12_1
                              try clear hcz12_2
                              try clear hcz14_0
                              try clear hcz14_1
                              try clear hcz14_2
                              try clear hcz15_0
                              try clear hcz15_1
                              try clear hcz15_2
                              try clear hcz23_0
                              try clear hcz23_1
                              try clear hcz23_2
                              try clear hcz25_0
                              try clear hcz25_1
                              try clear hcz25_2
                              try clear hcz27_0
                              try clear hcz27_1
                              try clear hcz27_2
                              try clear hcz29_0
                              try clear hcz29_1
                              try clear hcz29_2
                              try clear hcz30_0
                              try clear hcz30_1
                              try clear hcz30_2
                              try clear hcz36_0
                              try clear hcz36_1
                              try clear hcz36_2
                              try clear hcz38_0
                              try clear hcz38_1
                              try clear hcz38_2
                              try clear hcz40_0
                              try clear hcz40_1
                              try clear hcz40_2
                              try clear hcz46_0
                              try clear hcz46_1
                              try clear hcz46_2
                              try clear hcz48_0
                              try clear hcz48_1
                              try clear hcz48_2
                              try clear hcz50_0
                              try clear hcz50_1
                              try clear hcz50_2
                              try clear hcz67_0
                              try clear hcz67_1
                              try clear hcz67_2
                              try clear hcz69_0
                              try clear hcz69_1
                              try clear hcz69_2
                              try clear hcz73_0
                              try clear hcz73_1
                              try clear hcz73_2
                              try clear hcz74_0
                              try clear hcz74_1
                              try clear hcz74_2
                              try clear hcz78_0
                              try clear hcz78_1
                              try clear hcz78_2
                              try clear hfz10_0
                              try clear hfz10_1
                              try clear hfz10_2
                              try clear hfz12_0
                              try clear hfz12_1
                              try clear hfz12_2
                              try clear hfz14_0
                              try clear hfz14_1
                              try clear hfz14_2
                              try clear hfz15_0
                              try clear hfz15_1
                              try clear hfz15_2
                              try clear hfz23_0
                              try clear hfz23_1
                              try clear hfz23_2
                              try clear hfz25_0
                              try clear hfz25_1
                              try clear hfz25_2
                              try clear hfz27_0
                              try clear hfz27_1
                              try clear hfz27_2
                              try clear hfz29_0
                              try clear hfz29_1
                              try clear hfz29_2
                              try clear hfz30_0
                              try clear hfz30_1
                              try clear hfz30_2
                              try clear hfz36_0
                              try clear hfz36_1
                              try clear hfz36_2
                              try clear hfz38_0
                              try clear hfz38_1
                              try clear hfz38_2
                              try clear hfz40_0
                              try clear hfz40_1
                              try clear hfz40_2
                              try clear hfz46_0
                              try clear hfz46_1
                              try clear hfz46_2
                              try clear hfz48_0
                              try clear hfz48_1
                              try clear hfz48_2
                              try clear hfz50_0
                              try clear hfz50_1
                              try clear hfz50_2
                              try clear hfz67_0
                              try clear hfz67_1
                              try clear hfz67_2
                              try clear hfz69_0
                              try clear hfz69_1
                              try clear hfz69_2
                              try clear hfz73_0
                              try clear hfz73_1
                              try clear hfz73_2
                              try clear hfz74_0
                              try clear hfz74_1
                              try clear hfz74_2
                              try clear hfz78_0
                              try clear hfz78_1
                              try clear hfz78_2
                              try clear p2
                              try clear p6
                              try clear p64
                              obtain ⟨x46_5, x122000_5, x122001_5, x122002_5, rfl, HA, HK5, BK121, BK122, BK123, HB⟩ := hrel
                              cases gk with
                              | zero => exact absurd HA.out (by simp [wide_Common.l4])
                              | succ k5 =>
                                have H := HA.out
                                clear HA
                                simp only [wide_Common.l4] at H
                                by_cases c80 : x46_5 < x5_1
                                · rw [if_pos c80] at H
                                  have c80b0 : decide (x46_5 < x5_1) = true := decide_eq_true c80
                                  clear c80
                                  replace H := Option.bind_eq_some_iff.mp H
                                  obtain ⟨⟨t150, t151, t152⟩, A810, H⟩ := H
                                  replace H : (wide_Common.l4 k5 x5_1 (wrap64 (x46_5 + 1)) t150 t151 t152) = some (r1, r2, r3) := H
                                  have A81 := Aside0.mk A810
                                  clear A810
                                  have H' := Aside0.mk H
                                  clear H
                                  have hcz82_0 : wr.cell? ⟨gb121, 0, none⟩ = some (.int .u64 x122000_5) := (blk_cell BK121.out 0).trans rfl
                                  have hcz82_1 : wr.cell? ⟨gb121, 1, none⟩ = some (.int .u64 x122001_5) := (blk_cell BK121.out 1).trans rfl
                                  have hcz82_2 : wr.cell? ⟨gb121, 2, none⟩ = some (.bool x122002_5) := (blk_cell BK121.out 2).trans rfl
                                  have hfz82_0 := blk_frozen BK121.out 0
                                  have hfz82_1 := blk_frozen BK121.out 1
                                  have hfz82_2 := blk_frozen BK121.out 2
                                  go_wp2_with (first | ((with_reducible refine gate_callee (f := 121) rfl ?_); refine goesL_ (some 49) rfl rfl Try.func121 (by kernel_rfl) rfl #[.agg #[.int .u64 x122000_5, .int .u64 x122001_5, .bool x122002_5]] rfl (by (try simp only [List.map_toArray, List.map_cons, List.map_nil]); first | done | rfl | (simp only [List.length_drop, List.length_take]; rfl)) ?_; (with_reducible refine (wide_Number_twice.calls x122000_5 x122001_5 x122002_5 t150 t151 t152 _ A81.out).mono ?_); rintro e w83 ⟨rfl, hb⟩; refine ⟨_, rfl, ?_⟩; replace BK121 := bkb BK121 hb; replace BK122 := bkb BK122 hb; replace BK123 := bkb BK123 hb; replace HB := blw HB hb; (try clear hb); (try clear hb2); (try clear hk); (try clear hi); have hnb84 := NB121_122.out; have hnc84 := NB122_121.out; have hnb85 := NB121_123.out; have hnc85 := NB123_121.out; have hcz86_0 : w83.cell? ⟨gb121, 0, none⟩ = some (.int .u64 x122000_5) := (blk_cell BK121.out 0).trans rfl; have hcz86_1 : w83.cell? ⟨gb121, 1, none⟩ = some (.int .u64 x122001_5) := (blk_cell BK121.out 1).trans rfl; have hcz86_2 : w83.cell? ⟨gb121, 2, none⟩ = some (.bool x122002_5) := (blk_cell BK121.out 2).trans rfl; have hfz86_0 := blk_frozen BK121.out 0; have hfz86_1 := blk_frozen BK121.out 1; have hfz86_2 := blk_frozen BK121.out 2))
                                  go_roundg k5
                                  case measure => have := HK1.out; have := HJ41.out; have := HK3.out; have := HK4.out; have := HK5.out; omega
                                  case rel => exact ⟨(wrap64 (x46_5 + 1)), (t150), (t151), (t152), (by first | rfl | (simp; done) | (simp [*]; done)), H', ⟨by have := HK1.out; have := HJ41.out; have := HK3.out; have := HK4.out; have := HK5.out; omega⟩, ⟨by (with_reducible repeat (first | refine blk_drewN ?_ _ | refine blk_drew ?_ | refine blk_alloc ?_ _)); refine blk_put (cs := #[.int .u64 t150, .int .u64 t151, .bool x122002_5]) ?_ 2 _ rfl; (with_reducible repeat (first | refine blk_drewN ?_ _ | refine blk_drew ?_ | refine blk_alloc ?_ _)); refine blk_put (cs := #[.int .u64 t150, .int .u64 x122001_5, .bool x122002_5]) ?_ 1 _ rfl; (with_reducible repeat (first | refine blk_drewN ?_ _ | refine blk_drew ?_ | refine blk_alloc ?_ _)); refine blk_put (cs := #[.int .u64 x122000_5, .int .u64 x122001_5, .bool x122002_5]) ?_ 0 _ rfl; (with_reducible repeat (first | refine blk_drewN ?_ _ | refine blk_drew ?_ | refine blk_alloc ?_ _)); exact BK121.out⟩, ⟨by (with_reducible repeat (first | refine blk_drewN ?_ _ | refine blk_drew ?_ | refine blk_alloc ?_ _)); refine blk_far ?_ NB122_121.out _; (with_reducible repeat (first | refine blk_drewN ?_ _ | refine blk_drew ?_ | refine blk_alloc ?_ _)); refine blk_far ?_ NB122_121.out _; (with_reducible repeat (first | refine blk_drewN ?_ _ | refine blk_drew ?_ | refine blk_alloc ?_ _)); refine blk_far ?_ NB122_121.out _; (with_reducible repeat (first | refine blk_drewN ?_ _ | refine blk_drew ?_ | refine blk_alloc ?_ _)); exact BK122.out⟩, ⟨by (with_reducible repeat (first | refine blk_drewN ?_ _ | refine blk_drew ?_ | refine blk_alloc ?_ _)); refine blk_far ?_ NB123_121.out _; (with_reducible repeat (first | refine blk_drewN ?_ _ | refine blk_drew ?_ | refine blk_alloc ?_ _)); refine blk_far ?_ NB123_121.out _; (with_reducible repeat (first | refine blk_drewN ?_ _ | refine blk_drew ?_ | refine blk_alloc ?_ _)); refine blk_far ?_ NB123_121.out _; (with_reducible repeat (first | refine blk_drewN ?_ _ | refine blk_drew ?_ | refine blk_alloc ?_ _)); exact BK123.out⟩, ⟨by repeat (first | (with_reducible first | exact HB.out | apply below_alloc | apply pw_below_drewN | apply below_drew1 | refine below_set ?_ GE121.out | refine below_set ?_ GE122.out | refine below_set ?_ GE123.out) | exact HB.out)⟩⟩
                                · rw [if_neg c80] at H
                                  have c80b0 : decide (x46_5 < x5_1) = false := decide_eq_false c80
                                  clear c80
                                  simp only [Option.some.injEq, Prod.mk.injEq] at H
                                  obtain ⟨rfl, rfl, rfl⟩ := H
                                  have hcz87_0 : wr.cell? ⟨gb121, 0, none⟩ = some (.int .u64 x122000_5) := (blk_cell BK121.out 0).trans rfl
                                  have hcz87_1 : wr.cell? ⟨gb121, 1, none⟩ = some (.int .u64 x122001_5) := (blk_cell BK121.out 1).trans rfl
                                  have hcz87_2 : wr.cell? ⟨gb121, 2, none⟩ = some (.bool x122002_5) := (blk_cell BK121.out 2).trans rfl
                                  have hfz87_0 := blk_frozen BK121.out 0
                                  have hfz87_1 := blk_frozen BK121.out 1
                                  have hfz87_2 := blk_frozen BK121.out 2
                                  have hnb88 := NB123_121.out
                                  have hnc88 := NB121_123.out
                                  have hnb89 := NB123_122.out
                                  have hnc89 := NB122_123.out
                                  have hcz90_0 : wr.cell? ⟨gb123, 0, none⟩ = some (.int .u64 0) := (blk_cell BK123.out 0).trans rfl
                                  have hcz90_1 : wr.cell? ⟨gb123, 1, none⟩ = some (.int .u64 0) := (blk_cell BK123.out 1).trans rfl
                                  have hcz90_2 : wr.cell? ⟨gb123, 2, none⟩ = some (.bool false) := (blk_cell BK123.out 2).trans rfl
                                  have hfz90_0 := blk_frozen BK123.out 0
                                  have hfz90_1 := blk_frozen BK123.out 1
                                  have hfz90_2 := blk_frozen BK123.out 2
                                  go_wp2
                                  refine bodyPost_ret (results_cell_row rfl _ _ gb123 72 #[.int .u64 x122000_5, .int .u64 x122001_5, .bool x122002_5] (0, 0) _ rfl (by (with_reducible repeat (first | refine blk_drewN ?_ _ | refine blk_drew ?_ | refine blk_alloc ?_ _)); refine blk_put (cs := #[.int .u64 x122000_5, .int .u64 x122001_5, .bool false]) ?_ 2 _ rfl; (with_reducible repeat (first | refine blk_drewN ?_ _ | refine blk_drew ?_ | refine blk_alloc ?_ _)); refine blk_put (cs := #[.int .u64 x122000_5, .int .u64 0, .bool false]) ?_ 1 _ rfl; (with_reducible repeat (first | refine blk_drewN ?_ _ | refine blk_drew ?_ | refine blk_alloc ?_ _)); refine blk_put (cs := #[.int .u64 0, .int .u64 0, .bool false]) ?_ 0 _ rfl; (with_reducible repeat (first | refine blk_drewN ?_ _ | refine blk_drew ?_ | refine blk_alloc ?_ _)); exact BK123.out) Try.underlying72 rfl (by kernel_rfl)) rfl ?_
                                  exact ⟨by first | rfl | (simp [errW_none, errW_some] <;> rfl) | (simp [*, errW_none, errW_some] <;> rfl), by repeat (first | (with_reducible first | exact HB.out | apply below_alloc | apply pw_below_drewN | apply below_drew1 | refine below_set ?_ GE121.out | refine below_set ?_ GE122.out | refine below_set ?_ GE123.out) | exact HB.out)⟩
                          · replace c77 := Bool.eq_false_iff.mpr c77
                            subst c77
                            have H1 : (wide_Common.l3 k4 x5_1 x122000_4 x122001_4 x122002_4 x123000_4 x123001_4 x123002_4) = some (r1, r2, r3) := by rw [if_neg (show ¬ (false = true) by decide)] at H; exact H
                            clear H
                            have H := H1
                            clear H1
                            have H' := Aside0.mk H
                            clear H
                            have hcz91_0 : wr.cell? ⟨gb122, 0, none⟩ = some (.int .u64 x123000_4) := (blk_cell BK122.out 0).trans rfl
                            have hcz91_1 : wr.cell? ⟨gb122, 1, none⟩ = some (.int .u64 x123001_4) := (blk_cell BK122.out 1).trans rfl
                            have hcz91_2 : wr.cell? ⟨gb122, 2, none⟩ = some (.bool x123002_4) := (blk_cell BK122.out 2).trans rfl
                            have hfz91_0 := blk_frozen BK122.out 0
                            have hfz91_1 := blk_frozen BK122.out 1
                            have hfz91_2 := blk_frozen BK122.out 2
                            go_wp2_with (first | ((with_reducible refine gate_callee (f := 118) rfl ?_); refine goesL_ (some 31) rfl rfl Try.func118 (by kernel_rfl) rfl #[.agg #[.int .u64 x123000_4, .int .u64 x123001_4, .bool x123002_4]] rfl (by (try simp only [List.map_toArray, List.map_cons, List.map_nil]); first | done | rfl | (simp only [List.length_drop, List.length_take]; rfl)) ?_; (with_reducible refine (wide_Number_Zero.calls x123000_4 x123001_4 x123002_4 false _ A76.out).mono ?_); rintro e w92 ⟨rfl, hb⟩; refine ⟨_, rfl, ?_⟩; replace BK121 := bkb BK121 hb; replace BK122 := bkb BK122 hb; replace BK123 := bkb BK123 hb; replace HB := blw HB hb; (try clear hb); (try clear hb2); (try clear hk); (try clear hi)))
                            (try simp only [Act.put, List.setIfInBounds_toArray, List.set_cons_succ, List.set_cons_zero])
                            go_loopg [] k4 (fun kq w' => ∃ (x123000_5 : Int) (x123001_5 : Int) (x123002_5 : Bool), Aside0 (wide_Common.l3 kq x5_1 x122000_4 x122001_4 x122002_4 x123000_5 x123001_5 x123002_5 = some (r1, r2, r3)) ∧ Aside0 (kq ≤ k4) ∧ Aside0 (w'.heap[gb121]? = some (.cells #[.int .u64 x122000_4, .int .u64 x122001_4, .bool x122002_4] 72 (0, 0))) ∧ Aside0 (w'.heap[gb122]? = some (.cells #[.int .u64 x123000_5, .int .u64 x123001_5, .bool x123002_5] 72 (0, 0))) ∧ Aside0 (w'.heap[gb123]? = some (.cells #[.int .u64 0, .int .u64 0, .bool false] 72 (0, 0))) ∧ Aside0 (Below w.heap.size w w'))
                            case atStart => exact ⟨(x123000_4), (x123001_4), (x123002_4), H', ⟨Nat.le_refl _⟩, ⟨by (with_reducible repeat (first | refine blk_drewN ?_ _ | refine blk_drew ?_ | refine blk_alloc ?_ _)); exact BK121.out⟩, ⟨by (with_reducible repeat (first | refine blk_drewN ?_ _ | refine blk_drew ?_ | refine blk_alloc ?_ _)); exact BK122.out⟩, ⟨by (with_reducible repeat (first | refine blk_drewN ?_ _ | refine blk_drew ?_ | refine blk_alloc ?_ _)); exact BK123.out⟩, ⟨by repeat (first | (with_reducible first | exact HB.out | apply below_alloc | apply pw_below_drewN | apply below_drew1 | refine below_set ?_ GE121.out | refine below_set ?_ GE122.out | refine below_set ?_ GE123.out) | exact HB.out)⟩⟩
                            case round =>
                              clear H'
                              try clear c1
                              try clear c2
                              try clear p2
                              try clear c3
                              try clear c4
                              try clear c5
                              try clear c6
                              try clear p6
                              try clear c7
                              try clear c8
                              try clear c9
                              try clear c11
                              try clear c12
                              try clear c17
                              try clear c21
                              try clear c22
                              try clear c24
                              try clear c34
                              try clear c35
                              try clear c37
                              try clear c44
                              try clear c52
                              try clear p64
                              try clear c65
                              try clear c71
                              try clear c72
                              try clear c77
                              try clear c80
                              try clear c80b0
                              try clear c84
                              try clear c85
                              try clear c88
                              try clear c89
                              try clear hcz10_0
                              try clear hcz10_1
                              try clear hcz10_2
                              try clear hcz12_0
                              try clear hcz12_1
                              try clear hcz12_2
                              try clear hcz14_0
                              try clear hcz14_1
                              try clear hcz14_2
                              try clear hcz15_0
                              try clear hcz15_1
                              try clear hcz15_2
                              try clear hcz23_0
                              try clear hcz23_1
                              try clear hcz23_2
                              try clear hcz25_0
                              try clear hcz25_1
                              try clear hcz25_2
                              try clear hcz27_0
                              try clear hcz27_1
                              try clear hcz27_2
                              try clear hcz29_0
                              try clear hcz29_1
                              try clear hcz29_2
                              try clear hcz30_0
                              try clear hcz30_1
                              try clear hcz30_2
                              try clear hcz36_0
                              try clear hcz36_1
                              try clear hcz36_2
                              try clear hcz38_0
                              try clear hcz38_1
                              try clear hcz38_2
                              try clear hcz40_0
                              try clear hcz40_1
                              try clear hcz40_2
                              try clear hcz46_0
                              try clear hcz46_1
                              try clear hcz46_2
                              try clear hcz48_0
                              try clear hcz48_1
                              try clear hcz48_2
                              try clear hcz50_0
                              try clear hcz50_1
                              try clear hcz50_2
                              try clear hcz67_0
                              try clear hcz67_1
                              try clear hcz67_2
                              try clear hcz69_0
                              try clear hcz69_1
                              try clear hcz69_2
                              try clear hcz73_0
                              try clear hcz73_1
                              try clear hcz73_2
                              try clear hcz74_0
                              try clear hcz74_1
                              try clear hcz74_2
                              try clear hcz78_0
                              try clear hcz78_1
                              try clear hcz78_2
                              try clear hcz82_0
                              try clear hcz82_1
                              try clear hcz82_2
                              try clear hcz86_0
                              try clear hcz86_1
                              try clear hcz86_2
                              try clear hcz87_0
                              try clear hcz87_1
                              try clear hcz87_2
                              try clear hcz90_0
                              try clear hcz90_1
                              try clear hcz90_2
                              try clear hcz91_0
                              try clear hcz91_1
                              try clear hcz91_2
                              try clear hfz10_0
                              try clear hfz10_1
                              try clear hfz10_2
                              try clear hfz12_0
                              try clear hfz12_1
                              try clear hfz12_2
                              try clear hfz14_0
                              try clear hfz14_1
                              try clear hfz14_2
                              try clear hfz15_0
                              try clear hfz15_1
                              try clear hfz15_2
                              try clear hfz23_0
                              try clear hfz23_1
                              try clear hfz23_2
                              try clear hfz25_0
                              try clear hfz25_1
                              try clear hfz25_2
                              try clear hfz27_0
                              try clear hfz27_1
                              try clear hfz27_2
                              try clear hfz29_0
                              try clear hfz29_1
                              try clear hfz29_2
                              try clear hfz30_0
                              try clear hfz30_1
                              try clear hfz30_2
                              try clear hfz36_0
                              try clear hfz36_1
                              try clear hfz36_2
                              try clear hfz38_0
                              try clear hfz38_1
                              try clear hfz38_2
                              try clear hfz40_0
                              try clear hfz40_1
                              try clear hfz40_2
                              try clear hfz46_0
                              try clear hfz46_1
                              try clear hfz46_2
                              try clear hfz48_0
                              try clear hfz48_1
                              try clear hfz48_2
                              try clear hfz50_0
                              try clear hfz50_1
                              try clear hfz50_2
                              try clear hfz67_0
                              try clear hfz67_1
                              try clear hfz67_2
                              try clear hfz69_0
                              try clear hfz69_1
                              try clear hfz69_2
                              try clear hfz73_0
                              try clear hfz73_1
                              try clear hfz73_2
                              try clear hfz74_0
                              try clear hfz74_1
                              try clear hfz74_2
                              try clear hfz78_0
                              try clear hfz78_1
                              try clear hfz78_2
                              try clear hfz82_0
                              try clear hfz82_1
                              try clear hfz82_2
                              try clear hfz86_0
                              try clear hfz86_1
                              try clear hfz86_2
                              try clear hfz87_0
                              try clear hfz87_1
                              try clear hfz87_2
                              try clear hfz90_0
                              try clear hfz90_1
                              try clear hfz90_2
                              try clear hfz91_0
                              try clear hfz91_1
                              try clear hfz91_2
                              try clear p2
                              try clear p6
                              try clear p64
                              obtain ⟨x123000_5, x123001_5, x123002_5, HA, HK5, BK121, BK122, BK123, HB⟩ := hrel
                              cases gk with
                              | zero => exact absurd HA.out (by simp [wide_Common.l3])
                              | succ k5 =>
                                have H := HA.out
                                clear HA
                                simp only [wide_Common.l3] at H
                                replace H := Option.bind_eq_some_iff.mp H
                                obtain ⟨t139, A930, H⟩ := H
                                replace H : (if t139 = true then ((wide_Number_half.f x123000_5 x123001_5 x123002_5).bind fun bt140 => (wide_Common.l3 k5 x5_1 x122000_4 x122001_4 x122002_4 bt140.1 bt140.2.1 bt140.2.2)) else ((wide_Number_below.f x123000_5 x123001_5 x123002_5 x122000_4 x122001_4 x122002_4).bind fun t143 => (if t143 = true then ((wide_Number_less.f x122000_4 x122001_4 x122002_4 x123000_5 x123001_5 x123002_5).bind fun bt144 => (wide_Common.l2 k5 x5_1 x123000_5 x123001_5 x123002_5 bt144.1 bt144.2.1 bt144.2.2)) else ((wide_Number_less.f x123000_5 x123001_5 x123002_5 x122000_4 x122001_4 x122002_4).bind fun bt147 => (wide_Common.l2 k5 x5_1 x122000_4 x122001_4 x122002_4 bt147.1 bt147.2.1 bt147.2.2))))) = some (r1, r2, r3) := H
                                have A93 := Aside0.mk A930
                                clear A930
                                by_cases c94 : t139 = true
                                · subst c94
                                  have H1 : ((wide_Number_half.f x123000_5 x123001_5 x123002_5).bind fun bt140 => (wide_Common.l3 k5 x5_1 x122000_4 x122001_4 x122002_4 bt140.1 bt140.2.1 bt140.2.2)) = some (r1, r2, r3) := by rw [if_pos rfl] at H; exact H
                                  clear H
                                  have H := H1
                                  clear H1
                                  replace H := Option.bind_eq_some_iff.mp H
                                  obtain ⟨⟨t140, t141, t142⟩, A950, H⟩ := H
                                  replace H : (wide_Common.l3 k5 x5_1 x122000_4 x122001_4 x122002_4 t140 t141 t142) = some (r1, r2, r3) := H
                                  have A95 := Aside0.mk A950
                                  clear A950
                                  have H' := Aside0.mk H
                                  clear H
                                  have hcz96_0 : wr.cell? ⟨gb122, 0, none⟩ = some (.int .u64 x123000_5) := (blk_cell BK122.out 0).trans rfl
                                  have hcz96_1 : wr.cell? ⟨gb122, 1, none⟩ = some (.int .u64 x123001_5) := (blk_cell BK122.out 1).trans rfl
                                  have hcz96_2 : wr.cell? ⟨gb122, 2, none⟩ = some (.bool x123002_5) := (blk_cell BK122.out 2).trans rfl
                                  have hfz96_0 := blk_frozen BK122.out 0
                                  have hfz96_1 := blk_frozen BK122.out 1
                                  have hfz96_2 := blk_frozen BK122.out 2
                                  go_wp2_with (first | ((with_reducible refine gate_callee (f := 119) rfl ?_); refine goesL_ (some 34) rfl rfl Try.func119 (by kernel_rfl) rfl #[.agg #[.int .u64 x123000_5, .int .u64 x123001_5, .bool x123002_5]] rfl (by (try simp only [List.map_toArray, List.map_cons, List.map_nil]); first | done | rfl | (simp only [List.length_drop, List.length_take]; rfl)) ?_; (with_reducible refine (wide_Number_even.calls x123000_5 x123001_5 x123002_5 true _ A93.out).mono ?_); rintro e w97 ⟨rfl, hb⟩; refine ⟨_, rfl, ?_⟩; replace BK121 := bkb BK121 hb; replace BK122 := bkb BK122 hb; replace BK123 := bkb BK123 hb; replace HB := blw HB hb; (try clear hb); (try clear hb2); (try clear hk); (try clear hi); have hcz98_0 : w97.cell? ⟨gb122, 0, none⟩ = some (.int .u64 x123000_5) := (blk_cell BK122.out 0).trans rfl; have hcz98_1 : w97.cell? ⟨gb122, 1, none⟩ = some (.int .u64 x123001_5) := (blk_cell BK122.out 1).trans rfl; have hcz98_2 : w97.cell? ⟨gb122, 2, none⟩ = some (.bool x123002_5) := (blk_cell BK122.out 2).trans rfl; have hfz98_0 := blk_frozen BK122.out 0; have hfz98_1 := blk_frozen BK122.out 1; have hfz98_2 := blk_frozen BK122.out 2) | ((with_reducible refine gate_callee (f := 120) rfl ?_); refine goesL_ (some 36) rfl rfl Try.func120 (by kernel_rfl) rfl #[.agg #[.int .u64 x123000_5, .int .u64 x123001_5, .bool x123002_5]] rfl (by (try simp only [List.map_toArray, List.map_cons, List.map_nil]); first | done | rfl | (simp only [List.length_drop, List.length_take]; rfl)) ?_; (with_reducible refine (wide_Number_half.calls x123000_5 x123001_5 x123002_5 t140 t141 t142 _ A95.out).mono ?_); rintro e w99 ⟨rfl, hb⟩; refine ⟨_, rfl, ?_⟩; replace BK121 := bkb BK121 hb; replace BK122 := bkb BK122 hb; replace BK123 := bkb BK123 hb; replace HB := blw HB hb; (try clear hb); (try clear hb2); (try clear hk); (try clear hi); have hnb100 := NB122_121.out; have hnc100 := NB121_122.out; have hnb101 := NB122_123.out; have hnc101 := NB123_122.out; have hcz102_0 : w99.cell? ⟨gb122, 0, none⟩ = some (.int .u64 x123000_5) := (blk_cell BK122.out 0).trans rfl; have hcz102_1 : w99.cell? ⟨gb122, 1, none⟩ = some (.int .u64 x123001_5) := (blk_cell BK122.out 1).trans rfl; have hcz102_2 : w99.cell? ⟨gb122, 2, none⟩ = some (.bool x123002_5) := (blk_cell BK122.out 2).trans rfl; have hfz102_0 := blk_frozen BK122.out 0; have hfz102_1 := blk_frozen BK122.out 1; have hfz102_2 := blk_frozen BK122.out 2))
                                  go_roundg k5
                                  case measure => have := HK1.out; have := HJ41.out; have := HK3.out; have := HK4.out; have := HK5.out; omega
                                  case rel => exact ⟨(t140), (t141), (t142), H', ⟨by have := HK1.out; have := HJ41.out; have := HK3.out; have := HK4.out; have := HK5.out; omega⟩, ⟨by (with_reducible repeat (first | refine blk_drewN ?_ _ | refine blk_drew ?_ | refine blk_alloc ?_ _)); refine blk_far ?_ NB121_122.out _; (with_reducible repeat (first | refine blk_drewN ?_ _ | refine blk_drew ?_ | refine blk_alloc ?_ _)); refine blk_far ?_ NB121_122.out _; (with_reducible repeat (first | refine blk_drewN ?_ _ | refine blk_drew ?_ | refine blk_alloc ?_ _)); refine blk_far ?_ NB121_122.out _; (with_reducible repeat (first | refine blk_drewN ?_ _ | refine blk_drew ?_ | refine blk_alloc ?_ _)); exact BK121.out⟩, ⟨by (with_reducible repeat (first | refine blk_drewN ?_ _ | refine blk_drew ?_ | refine blk_alloc ?_ _)); refine blk_put (cs := #[.int .u64 t140, .int .u64 t141, .bool x123002_5]) ?_ 2 _ rfl; (with_reducible repeat (first | refine blk_drewN ?_ _ | refine blk_drew ?_ | refine blk_alloc ?_ _)); refine blk_put (cs := #[.int .u64 t140, .int .u64 x123001_5, .bool x123002_5]) ?_ 1 _ rfl; (with_reducible repeat (first | refine blk_drewN ?_ _ | refine blk_drew ?_ | refine blk_alloc ?_ _)); refine blk_put (cs := #[.int .u64 x123000_5, .int .u64 x123001_5, .bool x123002_5]) ?_ 0 _ rfl; (with_reducible repeat (first | refine blk_drewN ?_ _ | refine blk_drew ?_ | refine blk_alloc ?_ _)); exact BK122.out⟩, ⟨by (with_reducible repeat (first | refine blk_drewN ?_ _ | refine blk_drew ?_ | refine blk_alloc ?_ _)); refine blk_far ?_ NB123_122.out _; (with_reducible repeat (first | refine blk_drewN ?_ _ | refine blk_drew ?_ | refine blk_alloc ?_ _)); refine blk_far ?_ NB123_122.out _; (with_reducible repeat (first | refine blk_drewN ?_ _ | refine blk_drew ?_ | refine blk_alloc ?_ _)); refine blk_far ?_ NB123_122.out _; (with_reducible repeat (first | refine blk_drewN ?_ _ | refine blk_drew ?_ | refine blk_alloc ?_ _)); exact BK123.out⟩, ⟨by repeat (first | (with_reducible first | exact HB.out | apply below_alloc | apply pw_below_drewN | apply below_drew1 | refine below_set ?_ GE121.out | refine below_set ?_ GE122.out | refine below_set ?_ GE123.out) | exact HB.out)⟩⟩
                                · replace c94 := Bool.eq_false_iff.mpr c94
                                  subst c94
                                  have H1 : ((wide_Number_below.f x123000_5 x123001_5 x123002_5 x122000_4 x122001_4 x122002_4).bind fun t143 => (if t143 = true then ((wide_Number_less.f x122000_4 x122001_4 x122002_4 x123000_5 x123001_5 x123002_5).bind fun bt144 => (wide_Common.l2 k5 x5_1 x123000_5 x123001_5 x123002_5 bt144.1 bt144.2.1 bt144.2.2)) else ((wide_Number_less.f x123000_5 x123001_5 x123002_5 x122000_4 x122001_4 x122002_4).bind fun bt147 => (wide_Common.l2 k5 x5_1 x122000_4 x122001_4 x122002_4 bt147.1 bt147.2.1 bt147.2.2)))) = some (r1, r2, r3) := by rw [if_neg (show ¬ (false = true) by decide)] at H; exact H
                                  clear H
                                  have H := H1
                                  clear H1
                                  replace H := Option.bind_eq_some_iff.mp H
                                  obtain ⟨t143, A1030, H⟩ := H
                                  replace H : (if t143 = true then ((wide_Number_less.f x122000_4 x122001_4 x122002_4 x123000_5 x123001_5 x123002_5).bind fun bt144 => (wide_Common.l2 k5 x5_1 x123000_5 x123001_5 x123002_5 bt144.1 bt144.2.1 bt144.2.2)) else ((wide_Number_less.f x123000_5 x123001_5 x123002_5 x122000_4 x122001_4 x122002_4).bind fun bt147 => (wide_Common.l2 k5 x5_1 x122000_4 x122001_4 x122002_4 bt147.1 bt147.2.1 bt147.2.2))) = some (r1, r2, r3) := H
                                  have A103 := Aside0.mk A1030
                                  clear A1030
                                  by_cases c104 : t143 = true
                                  · subst c104
                                    have H1 : ((wide_Number_less.f x122000_4 x122001_4 x122002_4 x123000_5 x123001_5 x123002_5).bind fun bt144 => (wide_Common.l2 k5 x5_1 x123000_5 x123001_5 x123002_5 bt144.1 bt144.2.1 bt144.2.2)) = some (r1, r2, r3) := by rw [if_pos rfl] at H; exact H
                                    clear H
                                    have H := H1
                                    clear H1
                                    replace H := Option.bind_eq_some_iff.mp H
                                    obtain ⟨⟨t144, t145, t146⟩, A1050, H⟩ := H
                                    replace H : (wide_Common.l2 k5 x5_1 x123000_5 x123001_5 x123002_5 t144 t145 t146) = some (r1, r2, r3) := H
                                    have A105 := Aside0.mk A1050
                                    clear A1050
                                    have H' := Aside0.mk H
                                    clear H
                                    have hcz106_0 : wr.cell? ⟨gb122, 0, none⟩ = some (.int .u64 x123000_5) := (blk_cell BK122.out 0).trans rfl
                                    have hcz106_1 : wr.cell? ⟨gb122, 1, none⟩ = some (.int .u64 x123001_5) := (blk_cell BK122.out 1).trans rfl
                                    have hcz106_2 : wr.cell? ⟨gb122, 2, none⟩ = some (.bool x123002_5) := (blk_cell BK122.out 2).trans rfl
                                    have hfz106_0 := blk_frozen BK122.out 0
                                    have hfz106_1 := blk_frozen BK122.out 1
                                    have hfz106_2 := blk_frozen BK122.out 2
                                    go_wp2_with (first | ((with_reducible refine gate_callee (f := 119) rfl ?_); refine goesL_ (some 34) rfl rfl Try.func119 (by kernel_rfl) rfl #[.agg #[.int .u64 x123000_5, .int .u64 x123001_5, .bool x123002_5]] rfl (by (try simp only [List.map_toArray, List.map_cons, List.map_nil]); first | done | rfl | (simp only [List.length_drop, List.length_take]; rfl)) ?_; (with_reducible refine (wide_Number_even.calls x123000_5 x123001_5 x123002_5 false _ A93.out).mono ?_); rintro e w107 ⟨rfl, hb⟩; refine ⟨_, rfl, ?_⟩; replace BK121 := bkb BK121 hb; replace BK122 := bkb BK122 hb; replace BK123 := bkb BK123 hb; replace HB := blw HB hb; (try clear hb); (try clear hb2); (try clear hk); (try clear hi); have hcz108_0 : w107.cell? ⟨gb122, 0, none⟩ = some (.int .u64 x123000_5) := (blk_cell BK122.out 0).trans rfl; have hcz108_1 : w107.cell? ⟨gb122, 1, none⟩ = some (.int .u64 x123001_5) := (blk_cell BK122.out 1).trans rfl; have hcz108_2 : w107.cell? ⟨gb122, 2, none⟩ = some (.bool x123002_5) := (blk_cell BK122.out 2).trans rfl; have hfz108_0 := blk_frozen BK122.out 0; have hfz108_1 := blk_frozen BK122.out 1; have hfz108_2 := blk_frozen BK122.out 2; have hcz109_0 : w107.cell? ⟨gb121, 0, none⟩ = some (.int .u64 x122000_4) := (blk_cell BK121.out 0).trans rfl; have hcz109_1 : w107.cell? ⟨gb121, 1, none⟩ = some (.int .u64 x122001_4) := (blk_cell BK121.out 1).trans rfl; have hcz109_2 : w107.cell? ⟨gb121, 2, none⟩ = some (.bool x122002_4) := (blk_cell BK121.out 2).trans rfl; have hfz109_0 := blk_frozen BK121.out 0; have hfz109_1 := blk_frozen BK121.out 1; have hfz109_2 := blk_frozen BK121.out 2) | ((with_reducible refine gate_callee (f := 111) rfl ?_); refine goesL_ (some 39) rfl rfl Try.func111 (by kernel_rfl) rfl #[.agg #[.int .u64 x123000_5, .int .u64 x123001_5, .bool x123002_5], .agg #[.int .u64 x122000_4, .int .u64 x122001_4, .bool x122002_4]] rfl (by (try simp only [List.map_toArray, List.map_cons, List.map_nil]); first | done | rfl | (simp only [List.length_drop, List.length_take]; rfl)) ?_; (with_reducible refine (wide_Number_below.calls x123000_5 x123001_5 x123002_5 x122000_4 x122001_4 x122002_4 true _ A103.out).mono ?_); rintro e w110 ⟨rfl, hb⟩; refine ⟨_, rfl, ?_⟩; replace BK121 := bkb BK121 hb; replace BK122 := bkb BK122 hb; replace BK123 := bkb BK123 hb; replace HB := blw HB hb; (try clear hb); (try clear hb2); (try clear hk); (try clear hi); have hcz111_0 : w110.cell? ⟨gb122, 0, none⟩ = some (.int .u64 x123000_5) := (blk_cell BK122.out 0).trans rfl; have hcz111_1 : w110.cell? ⟨gb122, 1, none⟩ = some (.int .u64 x123001_5) := (blk_cell BK122.out 1).trans rfl; have hcz111_2 : w110.cell? ⟨gb122, 2, none⟩ = some (.bool x123002_5) := (blk_cell BK122.out 2).trans rfl; have hfz111_0 := blk_frozen BK122.out 0; have hfz111_1 := blk_frozen BK122.out 1; have hfz111_2 := blk_frozen BK122.out 2; have hcz112_0 : w110.cell? ⟨gb121, 0, none⟩ = some (.int .u64 x122000_4) := (blk_cell BK121.out 0).trans rfl; have hcz112_1 : w110.cell? ⟨gb121, 1, none⟩ = some (.int .u64 x122001_4) := (blk_cell BK121.out 1).trans rfl; have hcz112_2 : w110.cell? ⟨gb121, 2, none⟩ = some (.bool x122002_4) := (blk_cell BK121.out 2).trans rfl; have hfz112_0 := blk_frozen BK121.out 0; have hfz112_1 := blk_frozen BK121.out 1; have hfz112_2 := blk_frozen BK121.out 2; have hnb113 := NB121_122.out; have hnc113 := NB122_121.out; have hnb114 := NB121_123.out; have hnc114 := NB123_121.out; have hnb115 := NB122_123.out; have hnc115 := NB123_122.out) | ((with_reducible refine gate_callee (f := 112) rfl ?_); refine goesL_ (some 44) rfl rfl Try.func112 (by kernel_rfl) rfl #[.agg #[.int .u64 x122000_4, .int .u64 x122001_4, .bool x122002_4], .agg #[.int .u64 x123000_5, .int .u64 x123001_5, .bool x123002_5]] rfl (by (try simp only [List.map_toArray, List.map_cons, List.map_nil]); first | done | rfl | (simp only [List.length_drop, List.length_take]; rfl)) ?_; (with_reducible refine (wide_Number_less.calls x122000_4 x122001_4 x122002_4 x123000_5 x123001_5 x123002_5 t144 t145 t146 _ A105.out).mono ?_); rintro e w116 ⟨rfl, hb⟩; refine ⟨_, rfl, ?_⟩; replace BK121 := Aside0.mk (blk_below (g := gb121) (o := .cells #[.int .u64 x123000_5, .int .u64 x123001_5, .bool x123002_5] 72 (0, 0)) (by (with_reducible repeat (first | refine blk_drewN ?_ _ | refine blk_drew ?_ | refine blk_alloc ?_ _)); refine blk_far ?_ NB121_122.out _; (with_reducible repeat (first | refine blk_drewN ?_ _ | refine blk_drew ?_ | refine blk_alloc ?_ _)); refine blk_far ?_ NB121_122.out _; (with_reducible repeat (first | refine blk_drewN ?_ _ | refine blk_drew ?_ | refine blk_alloc ?_ _)); refine blk_far ?_ NB121_122.out _; (with_reducible repeat (first | refine blk_drewN ?_ _ | refine blk_drew ?_ | refine blk_alloc ?_ _)); refine blk_put (cs := #[.int .u64 x123000_5, .int .u64 x123001_5, .bool x122002_4]) ?_ 2 _ rfl; (with_reducible repeat (first | refine blk_drewN ?_ _ | refine blk_drew ?_ | refine blk_alloc ?_ _)); refine blk_put (cs := #[.int .u64 x123000_5, .int .u64 x122001_4, .bool x122002_4]) ?_ 1 _ rfl; (with_reducible repeat (first | refine blk_drewN ?_ _ | refine blk_drew ?_ | refine blk_alloc ?_ _)); refine blk_put (cs := #[.int .u64 x122000_4, .int .u64 x122001_4, .bool x122002_4]) ?_ 0 _ rfl; (with_reducible repeat (first | refine blk_drewN ?_ _ | refine blk_drew ?_ | refine blk_alloc ?_ _)); exact BK121.out) hb); replace BK122 := Aside0.mk (blk_below (g := gb122) (o := .cells #[.int .u64 x122000_4, .int .u64 x122001_4, .bool x122002_4] 72 (0, 0)) (by (with_reducible repeat (first | refine blk_drewN ?_ _ | refine blk_drew ?_ | refine blk_alloc ?_ _)); refine blk_put (cs := #[.int .u64 x122000_4, .int .u64 x122001_4, .bool x123002_5]) ?_ 2 _ rfl; (with_reducible repeat (first | refine blk_drewN ?_ _ | refine blk_drew ?_ | refine blk_alloc ?_ _)); refine blk_put (cs := #[.int .u64 x122000_4, .int .u64 x123001_5, .bool x123002_5]) ?_ 1 _ rfl; (with_reducible repeat (first | refine blk_drewN ?_ _ | refine blk_drew ?_ | refine blk_alloc ?_ _)); refine blk_put (cs := #[.int .u64 x123000_5, .int .u64 x123001_5, .bool x123002_5]) ?_ 0 _ rfl; (with_reducible repeat (first | refine blk_drewN ?_ _ | refine blk_drew ?_ | refine blk_alloc ?_ _)); refine blk_far ?_ NB122_121.out _; (with_reducible repeat (first | refine blk_drewN ?_ _ | refine blk_drew ?_ | refine blk_alloc ?_ _)); refine blk_far ?_ NB122_121.out _; (with_reducible repeat (first | refine blk_drewN ?_ _ | refine blk_drew ?_ | refine blk_alloc ?_ _)); refine blk_far ?_ NB122_121.out _; (with_reducible repeat (first | refine blk_drewN ?_ _ | refine blk_drew ?_ | refine blk_alloc ?_ _)); exact BK122.out) hb); replace BK123 := Aside0.mk (blk_below (g := gb123) (o := .cells #[.int .u64 0, .int .u64 0, .bool false] 72 (0, 0)) (by (with_reducible repeat (first | refine blk_drewN ?_ _ | refine blk_drew ?_ | refine blk_alloc ?_ _)); refine blk_far ?_ NB123_122.out _; (with_reducible repeat (first | refine blk_drewN ?_ _ | refine blk_drew ?_ | refine blk_alloc ?_ _)); refine blk_far ?_ NB123_122.out _; (with_reducible repeat (first | refine blk_drewN ?_ _ | refine blk_drew ?_ | refine blk_alloc ?_ _)); refine blk_far ?_ NB123_122.out _; (with_reducible repeat (first | refine blk_drewN ?_ _ | refine blk_drew ?_ | refine blk_alloc ?_ _)); refine blk_far ?_ NB123_121.out _; (with_reducible repeat (first | refine blk_drewN ?_ _ | refine blk_drew ?_ | refine blk_alloc ?_ _)); refine blk_far ?_ NB123_121.out _; (with_reducible repeat (first | refine blk_drewN ?_ _ | refine blk_drew ?_ | refine blk_alloc ?_ _)); refine blk_far ?_ NB123_121.out _; (with_reducible repeat (first | refine blk_drewN ?_ _ | refine blk_drew ?_ | refine blk_alloc ?_ _)); exact BK123.out) hb); replace HB := Aside0.mk (below_step (by repeat (first | (with_reducible first | exact HB.out | apply below_alloc | apply pw_below_drewN | apply below_drew1 | refine below_set ?_ GE121.out | refine below_set ?_ GE122.out | refine below_set ?_ GE123.out) | exact HB.out)) hb); (try clear hb); (try clear hb2); (try clear hk); (try clear hi); have hcz117_0 : w116.cell? ⟨gb122, 0, none⟩ = some (.int .u64 x122000_4) := (blk_cell BK122.out 0).trans rfl; have hcz117_1 : w116.cell? ⟨gb122, 1, none⟩ = some (.int .u64 x122001_4) := (blk_cell BK122.out 1).trans rfl; have hcz117_2 : w116.cell? ⟨gb122, 2, none⟩ = some (.bool x122002_4) := (blk_cell BK122.out 2).trans rfl; have hfz117_0 := blk_frozen BK122.out 0; have hfz117_1 := blk_frozen BK122.out 1; have hfz117_2 := blk_frozen BK122.out 2))
                                    go_roundg k5
                                    case measure => have := HK1.out; have := HJ41.out; have := HK3.out; have := HK4.out; have := HK5.out; omega
                                    case rel => exact ⟨(x123000_5), (x123001_5), (x123002_5), (t144), (t145), (t146), H', ⟨by have := HK1.out; have := HJ41.out; have := HK3.out; have := HK4.out; have := HK5.out; omega⟩, ⟨by (with_reducible repeat (first | refine blk_drewN ?_ _ | refine blk_drew ?_ | refine blk_alloc ?_ _)); refine blk_far ?_ NB121_122.out _; (with_reducible repeat (first | refine blk_drewN ?_ _ | refine blk_drew ?_ | refine blk_alloc ?_ _)); refine blk_far ?_ NB121_122.out _; (with_reducible repeat (first | refine blk_drewN ?_ _ | refine blk_drew ?_ | refine blk_alloc ?_ _)); refine blk_far ?_ NB121_122.out _; (with_reducible repeat (first | refine blk_drewN ?_ _ | refine blk_drew ?_ | refine blk_alloc ?_ _)); exact BK121.out⟩, ⟨by (with_reducible repeat (first | refine blk_drewN ?_ _ | refine blk_drew ?_ | refine blk_alloc ?_ _)); refine blk_put (cs := #[.int .u64 t144, .int .u64 t145, .bool x122002_4]) ?_ 2 _ rfl; (with_reducible repeat (first | refine blk_drewN ?_ _ | refine blk_drew ?_ | refine blk_alloc ?_ _)); refine blk_put (cs := #[.int .u64 t144, .int .u64 x122001_4, .bool x122002_4]) ?_ 1 _ rfl; (with_reducible repeat (first | refine blk_drewN ?_ _ | refine blk_drew ?_ | refine blk_alloc ?_ _)); refine blk_put (cs := #[.int .u64 x122000_4, .int .u64 x122001_4, .bool x122002_4]) ?_ 0 _ rfl; (with_reducible repeat (first | refine blk_drewN ?_ _ | refine blk_drew ?_ | refine blk_alloc ?_ _)); exact BK122.out⟩, ⟨by (with_reducible repeat (first | refine blk_drewN ?_ _ | refine blk_drew ?_ | refine blk_alloc ?_ _)); refine blk_far ?_ NB123_122.out _; (with_reducible repeat (first | refine blk_drewN ?_ _ | refine blk_drew ?_ | refine blk_alloc ?_ _)); refine blk_far ?_ NB123_122.out _; (with_reducible repeat (first | refine blk_drewN ?_ _ | refine blk_drew ?_ | refine blk_alloc ?_ _)); refine blk_far ?_ NB123_122.out _; (with_reducible repeat (first | refine blk_drewN ?_ _ | refine blk_drew ?_ | refine blk_alloc ?_ _)); exact BK123.out⟩, ⟨by repeat (first | (with_reducible first | exact HB.out | apply below_alloc | apply pw_below_drewN | apply below_drew1 | refine below_set ?_ GE121.out | refine below_set ?_ GE122.out | refine below_set ?_ GE123.out) | exact HB.out)⟩⟩
                                  · replace c104 := Bool.eq_false_iff.mpr c104
                                    subst c104
                                    have H1 : ((wide_Number_less.f x123000_5 x123001_5 x123002_5 x122000_4 x122001_4 x122002_4).bind fun bt147 => (wide_Common.l2 k5 x5_1 x122000_4 x122001_4 x122002_4 bt147.1 bt147.2.1 bt147.2.2)) = some (r1, r2, r3) := by rw [if_neg (show ¬ (false = true) by decide)] at H; exact H
                                    clear H
                                    have H := H1
                                    clear H1
                                    replace H := Option.bind_eq_some_iff.mp H
                                    obtain ⟨⟨t147, t148, t149⟩, A1180, H⟩ := H
                                    replace H : (wide_Common.l2 k5 x5_1 x122000_4 x122001_4 x122002_4 t147 t148 t149) = some (r1, r2, r3) := H
                                    have A118 := Aside0.mk A1180
                                    clear A1180
                                    have H' := Aside0.mk H
                                    clear H
                                    have hcz119_0 : wr.cell? ⟨gb122, 0, none⟩ = some (.int .u64 x123000_5) := (blk_cell BK122.out 0).trans rfl
                                    have hcz119_1 : wr.cell? ⟨gb122, 1, none⟩ = some (.int .u64 x123001_5) := (blk_cell BK122.out 1).trans rfl
                                    have hcz119_2 : wr.cell? ⟨gb122, 2, none⟩ = some (.bool x123002_5) := (blk_cell BK122.out 2).trans rfl
                                    have hfz119_0 := blk_frozen BK122.out 0
                                    have hfz119_1 := blk_frozen BK122.out 1
                                    have hfz119_2 := blk_frozen BK122.out 2
                                    go_wp2_with (first | ((with_reducible refine gate_callee (f := 119) rfl ?_); refine goesL_ (some 34) rfl rfl Try.func119 (by kernel_rfl) rfl #[.agg #[.int .u64 x123000_5, .int .u64 x123001_5, .bool x123002_5]] rfl (by (try simp only [List.map_toArray, List.map_cons, List.map_nil]); first | done | rfl | (simp only [List.length_drop, List.length_take]; rfl)) ?_; (with_reducible refine (wide_Number_even.calls x123000_5 x123001_5 x123002_5 false _ A93.out).mono ?_); rintro e w120 ⟨rfl, hb⟩; refine ⟨_, rfl, ?_⟩; replace BK121 := bkb BK121 hb; replace BK122 := bkb BK122 hb; replace BK123 := bkb BK123 hb; replace HB := blw HB hb; (try clear hb); (try clear hb2); (try clear hk); (try clear hi); have hcz121_0 : w120.cell? ⟨gb122, 0, none⟩ = some (.int .u64 x123000_5) := (blk_cell BK122.out 0).trans rfl; have hcz121_1 : w120.cell? ⟨gb122, 1, none⟩ = some (.int .u64 x123001_5) := (blk_cell BK122.out 1).trans rfl; have hcz121_2 : w120.cell? ⟨gb122, 2, none⟩ = some (.bool x123002_5) := (blk_cell BK122.out 2).trans rfl; have hfz121_0 := blk_frozen BK122.out 0; have hfz121_1 := blk_frozen BK122.out 1; have hfz121_2 := blk_frozen BK122.out 2; have hcz122_0 : w120.cell? ⟨gb121, 0, none⟩ = some (.int .u64 x122000_4) := (blk_cell BK121.out 0).trans rfl; have hcz122_1 : w120.cell? ⟨gb121, 1, none⟩ = some (.int .u64 x122001_4) := (blk_cell BK121.out 1).trans rfl; have hcz122_2 : w120.cell? ⟨gb121, 2, none⟩ = some (.bool x122002_4) := (blk_cell BK121.out 2).trans rfl; have hfz122_0 := blk_frozen BK121.out 0; have hfz122_1 := blk_frozen BK121.out 1; have hfz122_2 := blk_frozen BK121.out 2) | ((with_reducible refine gate_callee (f := 111) rfl ?_); refine goesL_ (some 39) rfl rfl Try.func111 (by kernel_rfl) rfl #[.agg #[.int .u64 x123000_5, .int .u64 x123001_5, .bool x123002_5], .agg #[.int .u64 x122000_4, .int .u64 x122001_4, .bool x122002_4]] rfl (by (try simp only [List.map_toArray, List.map_cons, List.map_nil]); first | done | rfl | (simp only [List.length_drop, List.length_take]; rfl)) ?_; (with_reducible refine (wide_Number_below.calls x123000_5 x123001_5 x123002_5 x122000_4 x122001_4 x122002_4 false _ A103.out).mono ?_); rintro e w123 ⟨rfl, hb⟩; refine ⟨_, rfl, ?_⟩; replace BK121 := bkb BK121 hb; replace BK122 := bkb BK122 hb; replace BK123 := bkb BK123 hb; replace HB := blw HB hb; (try clear hb); (try clear hb2); (try clear hk); (try clear hi); have hcz124_0 : w123.cell? ⟨gb122, 0, none⟩ = some (.int .u64 x123000_5) := (blk_cell BK122.out 0).trans rfl; have hcz124_1 : w123.cell? ⟨gb122, 1, none⟩ = some (.int .u64 x123001_5) := (blk_cell BK122.out 1).trans rfl; have hcz124_2 : w123.cell? ⟨gb122, 2, none⟩ = some (.bool x123002_5) := (blk_cell BK122.out 2).trans rfl; have hfz124_0 := blk_frozen BK122.out 0; have hfz124_1 := blk_frozen BK122.out 1; have hfz124_2 := blk_frozen BK122.out 2; have hcz125_0 : w123.cell? ⟨gb121, 0, none⟩ = some (.int .u64 x122000_4) := (blk_cell BK121.out 0).trans rfl; have hcz125_1 : w123.cell? ⟨gb121, 1, none⟩ = some (.int .u64 x122001_4) := (blk_cell BK121.out 1).trans rfl; have hcz125_2 : w123.cell? ⟨gb121, 2, none⟩ = some (.bool x122002_4) := (blk_cell BK121.out 2).trans rfl; have hfz125_0 := blk_frozen BK121.out 0; have hfz125_1 := blk_frozen BK121.out 1; have hfz125_2 := blk_frozen BK121.out 2) | ((with_reducible refine gate_callee (f := 112) rfl ?_); refine goesL_ (some 44) rfl rfl Try.func112 (by kernel_rfl) rfl #[.agg #[.int .u64 x123000_5, .int .u64 x123001_5, .bool x123002_5], .agg #[.int .u64 x122000_4, .int .u64 x122001_4, .bool x122002_4]] rfl (by (try simp only [List.map_toArray, List.map_cons, List.map_nil]); first | done | rfl | (simp only [List.length_drop, List.length_take]; rfl)) ?_; (with_reducible refine (wide_Number_less.calls x123000_5 x123001_5 x123002_5 x122000_4 x122001_4 x122002_4 t147 t148 t149 _ A118.out).mono ?_); rintro e w126 ⟨rfl, hb⟩; refine ⟨_, rfl, ?_⟩; replace BK121 := bkb BK121 hb; replace BK122 := bkb BK122 hb; replace BK123 := bkb BK123 hb; replace HB := blw HB hb; (try clear hb); (try clear hb2); (try clear hk); (try clear hi); have hnb127 := NB122_121.out; have hnc127 := NB121_122.out; have hnb128 := NB122_123.out; have hnc128 := NB123_122.out; have hcz129_0 : w126.cell? ⟨gb122, 0, none⟩ = some (.int .u64 x123000_5) := (blk_cell BK122.out 0).trans rfl; have hcz129_1 : w126.cell? ⟨gb122, 1, none⟩ = some (.int .u64 x123001_5) := (blk_cell BK122.out 1).trans rfl; have hcz129_2 : w126.cell? ⟨gb122, 2, none⟩ = some (.bool x123002_5) := (blk_cell BK122.out 2).trans rfl; have hfz129_0 := blk_frozen BK122.out 0; have hfz129_1 := blk_frozen BK122.out 1; have hfz129_2 := blk_frozen BK122.out 2))
                                    go_roundg k5
                                    case measure => have := HK1.out; have := HJ41.out; have := HK3.out; have := HK4.out; have := HK5.out; omega
                                    case rel => exact ⟨(x122000_4), (x122001_4), (x122002_4), (t147), (t148), (t149), H', ⟨by have := HK1.out; have := HJ41.out; have := HK3.out; have := HK4.out; have := HK5.out; omega⟩, ⟨by (with_reducible repeat (first | refine blk_drewN ?_ _ | refine blk_drew ?_ | refine blk_alloc ?_ _)); refine blk_far ?_ NB121_122.out _; (with_reducible repeat (first | refine blk_drewN ?_ _ | refine blk_drew ?_ | refine blk_alloc ?_ _)); refine blk_far ?_ NB121_122.out _; (with_reducible repeat (first | refine blk_drewN ?_ _ | refine blk_drew ?_ | refine blk_alloc ?_ _)); refine blk_far ?_ NB121_122.out _; (with_reducible repeat (first | refine blk_drewN ?_ _ | refine blk_drew ?_ | refine blk_alloc ?_ _)); exact BK121.out⟩, ⟨by (with_reducible repeat (first | refine blk_drewN ?_ _ | refine blk_drew ?_ | refine blk_alloc ?_ _)); refine blk_put (cs := #[.int .u64 t147, .int .u64 t148, .bool x123002_5]) ?_ 2 _ rfl; (with_reducible repeat (first | refine blk_drewN ?_ _ | refine blk_drew ?_ | refine blk_alloc ?_ _)); refine blk_put (cs := #[.int .u64 t147, .int .u64 x123001_5, .bool x123002_5]) ?_ 1 _ rfl; (with_reducible repeat (first | refine blk_drewN ?_ _ | refine blk_drew ?_ | refine blk_alloc ?_ _)); refine blk_put (cs := #[.int .u64 x123000_5, .int .u64 x123001_5, .bool x123002_5]) ?_ 0 _ rfl; (with_reducible repeat (first | refine blk_drewN ?_ _ | refine blk_drew ?_ | refine blk_alloc ?_ _)); exact BK122.out⟩, ⟨by (with_reducible repeat (first | refine blk_drewN ?_ _ | refine blk_drew ?_ | refine blk_alloc ?_ _)); refine blk_far ?_ NB123_122.out _; (with_reducible repeat (first | refine blk_drewN ?_ _ | refine blk_drew ?_ | refine blk_alloc ?_ _)); refine blk_far ?_ NB123_122.out _; (with_reducible repeat (first | refine blk_drewN ?_ _ | refine blk_drew ?_ | refine blk_alloc ?_ _)); refine blk_far ?_ NB123_122.out _; (with_reducible repeat (first | refine blk_drewN ?_ _ | refine blk_drew ?_ | refine blk_alloc ?_ _)); exact BK123.out⟩, ⟨by repeat (first | (with_reducible first | exact HB.out | apply below_alloc | apply pw_below_drewN | apply below_drew1 | refine below_set ?_ GE121.out | refine below_set ?_ GE122.out | refine below_set ?_ GE123.out) | exact HB.out)⟩⟩

end Go.Proofs.Ytjoddcfcolhimaa.QFr
