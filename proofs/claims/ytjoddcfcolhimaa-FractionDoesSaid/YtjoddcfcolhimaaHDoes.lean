import Derived.Test.YtjoddcfcolhimaaQFrx1
import Derived.Test.YtjoddcfcolhimaaQFrx6
import Derived.Test.YtjoddcfcolhimaaQFrx8
import Derived.Test.YtjoddcfcolhimaaQFrx11
import Derived.Test.YtjoddcfcolhimaaQFrx13
import Derived.Test.YtjoddcfcolhimaaQFrx14
import Derived.Test.YtjoddcfcolhimaaQFrx16
import Derived.Test.YtjoddcfcolhimaaQFrx20
import Derived.Test.YtjoddcfcolhimaaHAdd
import Derived.Test.YtjoddcfcolhimaaHCmp
namespace Go.Proofs.Ytjoddcfcolhimaa.QFr
open Go.RowKit Go.Proofs.YtjoddcfcolhimaaW.PrintWords Go.Proofs.YtjoddcfcolhimaaW.PrintLast Go.Proofs.YtjoddcfcolhimaaW.PrintMore Ow
set_option linter.unusedVariables false
set_option linter.unusedSimpArgs false
def timeboundlaw31_FractionDoes.T3 : Bool × List (List Nat × List Nat) := (true, [([], []), ([], []), ([0, 1], [0, 1]), ([2], [2]), ([3], [3]), ([3], [3]), ([4, 5, 3], [3, 4, 5]), ([3, 6], [3, 6]), ([7, 3], [7]), ([8], [8]), ([9, 8, 8], [8, 9]), ([8], [8]), ([11, 10, 8], [8, 11]), ([10, 12, 8], [8, 10, 12]), ([8, 13], [8, 13])])
def timeboundlaw31_FractionDoes.B3 : List Nat := [0, 0, 3, 7, 15, 15, 63, 127, 255, 511, 1023, 511, 4095, 8191, 16383]
theorem timeboundlaw31_FractionDoes.tab3 : rtab .any (opsOf Try.f9 3) = timeboundlaw31_FractionDoes.T3 := by kernel_rfl
theorem timeboundlaw31_FractionDoes.bits3 : waitsOk timeboundlaw31_FractionDoes.T3.2 timeboundlaw31_FractionDoes.B3 = true := by kernel_rfl
def timeboundlaw31_FractionDoes.T16 : Bool × List (List Nat × List Nat) := (true, [([], []), ([], []), ([0, 1], [0, 1]), ([], []), ([], []), ([3, 4, 2], [3, 4]), ([2, 5], [2, 5]), ([6, 5], [6]), ([7], [7]), ([8, 7, 7], [7, 8]), ([7], [7]), ([10, 9, 7], [7, 10]), ([9, 11, 7], [7, 9, 11]), ([7, 12], [7, 12]), ([13, 11], [13]), ([14], [14]), ([15, 14, 14], [14, 15]), ([14], [14]), ([17, 16, 14], [14, 17]), ([16, 18, 14], [14, 16, 18]), ([14, 19], [14, 19]), ([20, 18], [20]), ([21, 21], [21]), ([21, 22], [21, 22]), ([23, 22, 0, 1, 2, 3, 4, 5, 6, 7, 8, 9, 10, 11, 12, 13, 14, 15, 16, 17, 18, 19, 20, 21, 22, 23], [23])])
def timeboundlaw31_FractionDoes.B16 : List Nat := [0, 0, 3, 0, 0, 31, 63, 127, 255, 511, 255, 2047, 4095, 8191, 16383, 32767, 65535, 32767, 262143, 524287, 1048575, 2097151, 4194303, 8388607, 16777215]
theorem timeboundlaw31_FractionDoes.tab16 : rtab .any (opsOf Try.f9 16) = timeboundlaw31_FractionDoes.T16 := by kernel_rfl
theorem timeboundlaw31_FractionDoes.bits16 : waitsOk timeboundlaw31_FractionDoes.T16.2 timeboundlaw31_FractionDoes.B16 = true := by kernel_rfl
set_option maxHeartbeats 8000000 in
set_option maxRecDepth 100000 in
theorem FractionDoes_walk (k : Nat) (m n a b c d m1 m2 m3 p1 p2 q1 q2 x1 x2 x3 y1 y2 y3 z1 z2 z3 t1 t2 t3 s u1 u2 : Int) (v : Bool) (w : World)
    (h1 : fraction_Make.f k a b = some (m1, m2, m3)) (h2 : timeboundref31_Make.f k a b = some (m1, m2, m3)) (h3 : fraction_Valid.f k m n = some v) (h4 : timeboundref31_Valid.f k m n = some v) (h5 : timeboundlaw31_large.f k a b = some (p1, p2)) (h6 : timeboundlaw31_large.f k c d = some (q1, q2)) (h7 : fraction_Add.f k p1 p2 q1 q2 = some (x1, x2, x3)) (h8 : timeboundref31_Add.f k p1 p2 q1 q2 = some (x1, x2, x3)) (h9 : fraction_Sub.f k p1 p2 q1 q2 = some (y1, y2, y3)) (h10 : timeboundref31_Sub.f k p1 p2 q1 q2 = some (y1, y2, y3)) (h11 : fraction_Mul.f k p1 p2 q1 q2 = some (z1, z2, z3)) (h12 : timeboundref31_Mul.f k p1 p2 q1 q2 = some (z1, z2, z3)) (h13 : fraction_Div.f k p1 p2 q1 q2 = some (t1, t2, t3)) (h14 : timeboundref31_Div.f k p1 p2 q1 q2 = some (t1, t2, t3)) (h15 : fraction_Cmp.f k p1 p2 q1 q2 = some s) (h16 : timeboundref31_Cmp.f k p1 p2 q1 q2 = some s) (h17 : fraction_Floor.f p1 p2 = some u1) (h18 : timeboundref31_Floor.f p1 p2 = some u1) (h19 : fraction_Ceil.f p1 p2 = some u2) (h20 : timeboundref31_Ceil.f p1 p2 = some u2) (h21 : timeboundlaw31_awake.f k = some true) :
    Calls Try.prog 9 #[.agg #[.int .i64 m, .int .i64 n], .int .i64 a, .int .i64 b, .int .i64 c, .int .i64 d] w fun e w' => e = .returned (.bool true) ∧ Below w.heap.size w w' := by
  replace h1 := Aside0.mk h1
  replace h2 := Aside0.mk h2
  replace h3 := Aside0.mk h3
  replace h4 := Aside0.mk h4
  replace h5 := Aside0.mk h5
  replace h6 := Aside0.mk h6
  replace h7 := Aside0.mk h7
  replace h8 := Aside0.mk h8
  replace h9 := Aside0.mk h9
  replace h10 := Aside0.mk h10
  replace h11 := Aside0.mk h11
  replace h12 := Aside0.mk h12
  replace h13 := Aside0.mk h13
  replace h14 := Aside0.mk h14
  replace h15 := Aside0.mk h15
  replace h16 := Aside0.mk h16
  replace h17 := Aside0.mk h17
  replace h18 := Aside0.mk h18
  replace h19 := Aside0.mk h19
  replace h20 := Aside0.mk h20
  replace h21 := Aside0.mk h21
  have hu24 := Try.underlying24
  have HO := Aside0.mk (Own.start w)
  go_enter Try.func9, Try.ntmps9
  go_upto_region 3 with (first
    | ((with_reducible refine gate_dst (N := 5) rfl ?_); refine box_event ?hg (N := 5) ?hd (cs := #[.int .i64 m, .int .i64 n]) (t := 24) ?hr ?_; (case hd => rfl); (case hg => rfl); (case hr => first | (go_simp; done) | (go_simp; rfl)); intro gi hg w1 hb hbl; replace HO : Aside0 (Own w w1 [(gi, 24, [.int .i64 m, .int .i64 n])]) := Aside0.mk (HO.out.new hg hb hbl); clear hg hb hbl; have x_gi_0 := HO.out.cell 0 rfl 0 rfl; have f_gi_0 := HO.out.frozen 0 rfl 0; have x_gi_1 := HO.out.cell 0 rfl 1 rfl; have f_gi_1 := HO.out.frozen 0 rfl 1)
    | (go_at_call 15; (with_reducible refine (fraction_Make.calls k a b m1 m2 m3 _ h1.out).mono ?_); rintro e w2 ⟨rfl, hbl⟩; replace HO : Aside0 (Own w w2 [(gi, 24, [.int .i64 m, .int .i64 n])]) := Aside0.mk (HO.out.step hbl); clear hbl; skip)
    | ((with_reducible refine gate_dst (N := 11) rfl ?_); refine box_event ?hg (N := 11) ?hd (cs := #[.int .i64 0, .int .i64 0]) (t := 24) ?hr ?_; (case hd => rfl); (case hg => rfl); (case hr => first | (go_simp; done) | (go_simp; rfl)); intro ga hg w3 hb hbl; replace HO : Aside0 (Own w w3 [(ga, 24, [.int .i64 0, .int .i64 0]), (gi, 24, [.int .i64 m, .int .i64 n])]) := Aside0.mk (HO.out.new hg hb hbl); clear hg hb hbl; have x_ga_0 := HO.out.cell 0 rfl 0 rfl; have f_ga_0 := HO.out.frozen 0 rfl 0; have x_ga_1 := HO.out.cell 0 rfl 1 rfl; have f_ga_1 := HO.out.frozen 0 rfl 1)
    | (go_at_call 36; (with_reducible refine (timeboundref31_Make.calls k a b m1 m2 m3 _ h2.out).mono ?_); rintro e w4 ⟨rfl, hbl⟩; replace HO : Aside0 (Own w w4 [(ga, 24, [.int .i64 m1, .int .i64 m2]), (gi, 24, [.int .i64 m, .int .i64 n])]) := Aside0.mk (((HO.out.set 0 rfl 0 (.int .i64 m1)).set 0 rfl 1 (.int .i64 m2)).step hbl); clear hbl; skip)
    | ((with_reducible refine gate_dst (N := 13) rfl ?_); refine box_event ?hg (N := 13) ?hd (cs := #[.int .i64 0, .int .i64 0]) (t := 24) ?hr ?_; (case hd => rfl); (case hg => rfl); (case hr => first | (go_simp; done) | (go_simp; rfl)); intro gb hg w5 hb hbl; replace HO : Aside0 (Own w w5 [(gb, 24, [.int .i64 0, .int .i64 0]), (ga, 24, [.int .i64 m1, .int .i64 m2]), (gi, 24, [.int .i64 m, .int .i64 n])]) := Aside0.mk (HO.out.new hg hb hbl); clear hg hb hbl; have x_gb_0 := HO.out.cell 0 rfl 0 rfl; have f_gb_0 := HO.out.frozen 0 rfl 0; have x_gb_1 := HO.out.cell 0 rfl 1 rfl; have f_gb_1 := HO.out.frozen 0 rfl 1))
  (try simp only [Act.put, List.setIfInBounds_toArray, List.set_cons_succ, List.set_cons_zero])
  replace HO := Aside0.mk ((HO.out.set 0 rfl 0 (.int .i64 m1)).set 0 rfl 1 (.int .i64 m2))
  refine start_ (n := 15) (S := fun w' => w'.cell? ⟨gb, 0, none⟩ = some (.int .i64 m1) ∧ w'.cell? ⟨gb, 1, none⟩ = some (.int .i64 m2) ∧ w'.cell? ⟨ga, 0, none⟩ = some (.int .i64 m1) ∧ w'.cell? ⟨ga, 1, none⟩ = some (.int .i64 m2) ∧ w'.cell? ⟨gi, 0, none⟩ = some (.int .i64 m) ∧ w'.cell? ⟨gi, 1, none⟩ = some (.int .i64 n)) (ds := []) #[false, false, false, false, false, false, false, false, false, false, false, false, false, false, false] (by kernel_rfl) rfl rfl ⟨HO.out.cell 0 rfl 0 rfl, HO.out.cell 0 rfl 1 rfl, HO.out.cell 1 rfl 0 rfl, HO.out.cell 1 rfl 1 rfl, HO.out.cell 2 rfl 0 rfl, HO.out.cell 2 rfl 1 rfl⟩ (fun hHeld => ?_); refine with_tabW timeboundlaw31_FractionDoes.tab3 timeboundlaw31_FractionDoes.bits3 (fun HT_ HW_ => ?_)
  replace HO := Aside0.mk HO.out.drew
  refine pure_ (i := 0) (N := some 45) (v := ?_) (a' := ?_) #[true, false, false, false, false, false, false, false, false, false, false, false, false, false, false] rfl rfl (any_of HT_.out (by kernel_rfl)) (fun _ _ _ h => h) (Or.inl ⟨by rfl, ?_⟩) ?_ ?_
  rotate_left
  · intro w'
    go_simp
    with_reducible rfl
  rotate_left
  · simp only [Act.put, List.setIfInBounds_toArray, List.set_cons_zero, List.set_cons_succ, i64_w, i32_w]
    rfl
  refine pure_ (i := 1) (N := some 46) (v := ?_) (a' := ?_) #[true, true, false, false, false, false, false, false, false, false, false, false, false, false, false] rfl rfl (any_of HT_.out (by kernel_rfl)) (fun _ _ _ h => h) (Or.inl ⟨by rfl, ?_⟩) ?_ ?_
  rotate_left
  · intro w'
    go_simp
    with_reducible rfl
  rotate_left
  · simp only [Act.put, List.setIfInBounds_toArray, List.set_cons_zero, List.set_cons_succ, i64_w, i32_w]
    rfl
  refine pure_ (i := 2) (N := some 47) (v := ?_) (a' := ?_) #[true, true, true, false, false, false, false, false, false, false, false, false, false, false, false] rfl rfl (any_of HT_.out (by kernel_rfl)) (fun _ _ _ h => h) (Or.inl ⟨by rfl, ?_⟩) ?_ ?_
  rotate_left
  · intro w'
    go_simp
    with_reducible rfl
  rotate_left
  · simp only [Act.put, List.setIfInBounds_toArray, List.set_cons_zero, List.set_cons_succ, i64_w, i32_w]
    rfl
  refine pure_ (i := 3) (N := some 48) (v := ?_) (a' := ?_) #[true, true, true, true, false, false, false, false, false, false, false, false, false, false, false] rfl rfl (any_of HT_.out (by kernel_rfl)) (fun _ _ _ h => h) (Or.inl ⟨by rfl, ?_⟩) ?_ ?_
  rotate_left
  · intro w'
    go_simp
    with_reducible rfl
  rotate_left
  · simp only [Act.put, List.setIfInBounds_toArray, List.set_cons_zero, List.set_cons_succ, i64_w, i32_w]
    rfl
  refine take_ (i := 4) (N := some 49) (v := ?_) (a' := ?_) #[true, true, true, true, true, false, false, false, false, false, false, false, false, false, false] rfl rfl (take_ofW HT_.out HW_.out (by kernel_rfl)) (fun _ _ _ h => h) (Or.inl ⟨by rfl, ?_⟩) hHeld ?_ ?_
  rotate_left
  · rintro w' ⟨s0, s1, s2, s3, s4, s5⟩
    go_simp
    with_reducible rfl
  rotate_left
  · simp only [Act.put, List.setIfInBounds_toArray, List.set_cons_zero, List.set_cons_succ, i64_w, i32_w]
    rfl
  refine take_ (i := 5) (N := some 50) (v := ?_) (a' := ?_) #[true, true, true, true, true, true, false, false, false, false, false, false, false, false, false] rfl rfl (take_ofW HT_.out HW_.out (by kernel_rfl)) (fun _ _ _ h => h) (Or.inl ⟨by rfl, ?_⟩) hHeld ?_ ?_
  rotate_left
  · rintro w' ⟨s0, s1, s2, s3, s4, s5⟩
    go_simp
    with_reducible rfl
  rotate_left
  · simp only [Act.put, List.setIfInBounds_toArray, List.set_cons_zero, List.set_cons_succ, i64_w, i32_w]
    rfl
  refine pure_ (i := 6) (N := some 51) (v := ?_) (a' := ?_) #[true, true, true, true, true, true, true, false, false, false, false, false, false, false, false] rfl rfl (any_of HT_.out (by kernel_rfl)) (fun _ _ _ h => h) (Or.inl ⟨by rfl, ?_⟩) ?_ ?_
  rotate_left
  · intro w'
    go_simp
    with_reducible rfl
  rotate_left
  · simp only [Act.put, List.setIfInBounds_toArray, List.set_cons_zero, List.set_cons_succ, i64_w, i32_w]
    rfl
  refine pure_ (i := 7) (N := some 52) (v := ?_) (a' := ?_) #[true, true, true, true, true, true, true, true, false, false, false, false, false, false, false] rfl rfl (any_of HT_.out (by kernel_rfl)) (fun _ _ _ h => h) (Or.inl ⟨by rfl, ?_⟩) ?_ ?_
  rotate_left
  · intro w'
    go_simp
    with_reducible rfl
  rotate_left
  · simp only [Act.put, List.setIfInBounds_toArray, List.set_cons_zero, List.set_cons_succ, i64_w, i32_w]
    rfl
  refine pure_ (i := 8) (N := some 53) (v := ?_) (a' := ?_) #[true, true, true, true, true, true, true, true, true, false, false, false, false, false, false] rfl rfl (any_of HT_.out (by kernel_rfl)) (fun _ _ _ h => h) (Or.inl ⟨by rfl, ?_⟩) ?_ ?_
  rotate_left
  · intro w'
    go_simp
    with_reducible rfl
  rotate_left
  · simp only [Act.put, List.setIfInBounds_toArray, List.set_cons_zero, List.set_cons_succ, i64_w, i32_w]
    rfl
  refine take_ (i := 9) (N := some 54) (v := ?_) (a' := ?_) #[true, true, true, true, true, true, true, true, true, true, false, false, false, false, false] rfl rfl (take_ofW HT_.out HW_.out (by kernel_rfl)) (fun _ _ _ h => h) (Or.inl ⟨by rfl, ?_⟩) hHeld ?_ ?_
  rotate_left
  · rintro w' ⟨s0, s1, s2, s3, s4, s5⟩
    go_simp
    with_reducible rfl
  rotate_left
  · simp only [Act.put, List.setIfInBounds_toArray, List.set_cons_zero, List.set_cons_succ, i64_w, i32_w]
    rfl
  refine take_ (i := 11) (N := some 56) (v := ?_) (a' := ?_) #[true, true, true, true, true, true, true, true, true, true, false, true, false, false, false] rfl rfl (take_ofW HT_.out HW_.out (by kernel_rfl)) (fun _ _ _ h => h) (Or.inl ⟨by rfl, ?_⟩) hHeld ?_ ?_
  rotate_left
  · rintro w' ⟨s0, s1, s2, s3, s4, s5⟩
    go_simp
    with_reducible rfl
  rotate_left
  · simp only [Act.put, List.setIfInBounds_toArray, List.set_cons_zero, List.set_cons_succ, i64_w, i32_w]
    rfl
  refine one_ (i := 10) (N := some 55) #[true, true, true, true, true, true, true, true, true, true, true, true, false, false, false] rfl rfl (one_of HT_.out (by kernel_rfl)) (by decide) (fun K hK => ?_)
  refine goes_ Try.func39 (by kernel_rfl) rfl #[.agg #[.int .i64 m, .int .i64 n]] (by rfl) rfl rfl (by (try simp only [List.map_toArray, List.map_cons, List.map_nil]); first | done | rfl) ?_
  with_reducible refine (fraction_Valid.calls k m n v _ h3.out).mono ?_
  rintro e w460 ⟨rfl, hb⟩
  refine ⟨_, rfl, ?_⟩
  replace HO := Aside0.mk (HO.out.step hb)
  clear hb
  refine hK.out _ _ ⟨HO.out.cell 0 rfl 0 rfl, HO.out.cell 0 rfl 1 rfl, HO.out.cell 1 rfl 0 rfl, HO.out.cell 1 rfl 1 rfl, HO.out.cell 2 rfl 0 rfl, HO.out.cell 2 rfl 1 rfl⟩ (fun hHeld => ?_)
  clear hK K
  refine norm_ (a' := ?_) ?_ ?_
  rotate_left
  · show Act.put _ (some 55) _ = _
    simp only [Act.put, List.setIfInBounds_toArray, List.set_cons_zero, List.set_cons_succ, i64_w, i32_w]
    rfl
  refine one_ (i := 12) (N := some 57) #[true, true, true, true, true, true, true, true, true, true, true, true, true, false, false] rfl rfl (one_of HT_.out (by kernel_rfl)) (by decide) (fun K hK => ?_)
  refine goes_ Try.func16 (by kernel_rfl) rfl #[.agg #[.int .i64 m, .int .i64 n]] (by rfl) rfl rfl (by (try simp only [List.map_toArray, List.map_cons, List.map_nil]); first | done | rfl) ?_
  with_reducible refine (timeboundref31_Valid.calls k m n v _ h4.out).mono ?_
  rintro e w462 ⟨rfl, hb⟩
  refine ⟨_, rfl, ?_⟩
  replace HO := Aside0.mk (HO.out.step hb)
  clear hb
  refine hK.out _ _ ⟨HO.out.cell 0 rfl 0 rfl, HO.out.cell 0 rfl 1 rfl, HO.out.cell 1 rfl 0 rfl, HO.out.cell 1 rfl 1 rfl, HO.out.cell 2 rfl 0 rfl, HO.out.cell 2 rfl 1 rfl⟩ (fun hHeld => ?_)
  clear hK K
  refine norm_ (a' := ?_) ?_ ?_
  rotate_left
  · show Act.put _ (some 57) _ = _
    simp only [Act.put, List.setIfInBounds_toArray, List.set_cons_zero, List.set_cons_succ, i64_w, i32_w]
    rfl
  refine pure_ (i := 13) (N := some 58) (v := ?_) (a' := ?_) #[true, true, true, true, true, true, true, true, true, true, true, true, true, true, false] rfl rfl (any_of HT_.out (by kernel_rfl)) (fun _ _ _ h => h) (Or.inl ⟨by rfl, ?_⟩) ?_ ?_
  rotate_left
  · intro w'
    go_simp
    with_reducible rfl
  rotate_left
  · simp only [Act.put, List.setIfInBounds_toArray, List.set_cons_zero, List.set_cons_succ, i64_w, i32_w]
    rfl
  refine pure_ (i := 14) (N := some 59) (v := ?_) (a' := ?_) #[true, true, true, true, true, true, true, true, true, true, true, true, true, true, true] rfl rfl (any_of HT_.out (by kernel_rfl)) (fun _ _ _ h => h) (Or.inl ⟨by rfl, ?_⟩) ?_ ?_
  rotate_left
  · intro w'
    go_simp
    with_reducible rfl
  rotate_left
  · simp only [Act.put, List.setIfInBounds_toArray, List.set_cons_zero, List.set_cons_succ, i64_w, i32_w]
    rfl
  refine done_ (done_of HT_.out (by kernel_rfl)) ?_
  go_upto_region 16 with (first
    | (go_at_call 40; (with_reducible refine (timeboundlaw31_large.calls k a b p1 p2 _ h5.out).mono ?_); rintro e w41 ⟨rfl, hbl⟩; replace HO : Aside0 (Own w w41 [(gb, 24, [.int .i64 m1, .int .i64 m2]), (ga, 24, [.int .i64 m1, .int .i64 m2]), (gi, 24, [.int .i64 m, .int .i64 n])]) := Aside0.mk (HO.out.step hbl); clear hbl; skip)
    | (go_at_call 40; (with_reducible refine (timeboundlaw31_large.calls k c d q1 q2 _ h6.out).mono ?_); rintro e w42 ⟨rfl, hbl⟩; replace HO : Aside0 (Own w w42 [(gb, 24, [.int .i64 m1, .int .i64 m2]), (ga, 24, [.int .i64 m1, .int .i64 m2]), (gi, 24, [.int .i64 m, .int .i64 n])]) := Aside0.mk (HO.out.step hbl); clear hbl; skip)
    | ((with_reducible refine gate_dst (N := 15) rfl ?_); refine box_event ?hg (N := 15) ?hd (cs := #[.int .i64 0, .int .i64 0]) (t := 24) ?hr ?_; (case hd => rfl); (case hg => rfl); (case hr => first | (go_simp; done) | (go_simp; rfl)); intro gp hg w43 hb hbl; replace HO : Aside0 (Own w w43 [(gp, 24, [.int .i64 0, .int .i64 0]), (gb, 24, [.int .i64 m1, .int .i64 m2]), (ga, 24, [.int .i64 m1, .int .i64 m2]), (gi, 24, [.int .i64 m, .int .i64 n])]) := Aside0.mk (HO.out.new hg hb hbl); clear hg hb hbl; have x_gp_0 := HO.out.cell 0 rfl 0 rfl; have f_gp_0 := HO.out.frozen 0 rfl 0; have x_gp_1 := HO.out.cell 0 rfl 1 rfl; have f_gp_1 := HO.out.frozen 0 rfl 1)
    | ((with_reducible refine gate_dst (N := 16) rfl ?_); refine box_event ?hg (N := 16) ?hd (cs := #[.int .i64 0, .int .i64 0]) (t := 24) ?hr ?_; (case hd => rfl); (case hg => rfl); (case hr => first | (go_simp; done) | (go_simp; rfl)); intro gq hg w44 hb hbl; replace HO : Aside0 (Own w w44 [(gq, 24, [.int .i64 0, .int .i64 0]), (gp, 24, [.int .i64 0, .int .i64 0]), (gb, 24, [.int .i64 m1, .int .i64 m2]), (ga, 24, [.int .i64 m1, .int .i64 m2]), (gi, 24, [.int .i64 m, .int .i64 n])]) := Aside0.mk (HO.out.new hg hb hbl); clear hg hb hbl; (try clear x_gp_0 f_gp_0); (try clear x_gp_1 f_gp_1); have x_gq_0 := HO.out.cell 0 rfl 0 rfl; have f_gq_0 := HO.out.frozen 0 rfl 0; have x_gq_1 := HO.out.cell 0 rfl 1 rfl; have f_gq_1 := HO.out.frozen 0 rfl 1; have x_gp_0 := HO.out.cell 1 rfl 0 rfl; have f_gp_0 := HO.out.frozen 1 rfl 0; have x_gp_1 := HO.out.cell 1 rfl 1 rfl; have f_gp_1 := HO.out.frozen 1 rfl 1; have n_gq_gp := HO.out.nei 0 1 rfl rfl (by decide))
    | (go_at_call 31; (with_reducible refine (fraction_Add.calls k p1 p2 q1 q2 x1 x2 x3 _ h7.out).mono ?_); rintro e w45 ⟨rfl, hbl⟩; replace HO : Aside0 (Own w w45 [(gq, 24, [.int .i64 q1, .int .i64 q2]), (gp, 24, [.int .i64 p1, .int .i64 p2]), (gb, 24, [.int .i64 m1, .int .i64 m2]), (ga, 24, [.int .i64 m1, .int .i64 m2]), (gi, 24, [.int .i64 m, .int .i64 n])]) := Aside0.mk (((((HO.out.set 1 rfl 0 (.int .i64 p1)).set 1 rfl 1 (.int .i64 p2)).set 0 rfl 0 (.int .i64 q1)).set 0 rfl 1 (.int .i64 q2)).step hbl); clear hbl; (try clear x_gq_0 f_gq_0); (try clear x_gq_1 f_gq_1); (try clear x_gp_0 f_gp_0); (try clear x_gp_1 f_gp_1); have x_gq_0 := HO.out.cell 0 rfl 0 rfl; have f_gq_0 := HO.out.frozen 0 rfl 0; have x_gq_1 := HO.out.cell 0 rfl 1 rfl; have f_gq_1 := HO.out.frozen 0 rfl 1; have x_gp_0 := HO.out.cell 1 rfl 0 rfl; have f_gp_0 := HO.out.frozen 1 rfl 0; have x_gp_1 := HO.out.cell 1 rfl 1 rfl; have f_gp_1 := HO.out.frozen 1 rfl 1)
    | ((with_reducible refine gate_dst (N := 17) rfl ?_); refine box_event ?hg (N := 17) ?hd (cs := #[.int .i64 0, .int .i64 0]) (t := 24) ?hr ?_; (case hd => rfl); (case hg => rfl); (case hr => first | (go_simp; done) | (go_simp; rfl)); intro g17 hg w46 hb hbl; replace HO : Aside0 (Own w w46 [(g17, 24, [.int .i64 0, .int .i64 0]), (gq, 24, [.int .i64 q1, .int .i64 q2]), (gp, 24, [.int .i64 p1, .int .i64 p2]), (gb, 24, [.int .i64 m1, .int .i64 m2]), (ga, 24, [.int .i64 m1, .int .i64 m2]), (gi, 24, [.int .i64 m, .int .i64 n])]) := Aside0.mk (HO.out.new hg hb hbl); clear hg hb hbl; (try clear x_gq_0 f_gq_0); (try clear x_gq_1 f_gq_1); (try clear x_gp_0 f_gp_0); (try clear x_gp_1 f_gp_1); have x_g17_0 := HO.out.cell 0 rfl 0 rfl; have f_g17_0 := HO.out.frozen 0 rfl 0; have x_g17_1 := HO.out.cell 0 rfl 1 rfl; have f_g17_1 := HO.out.frozen 0 rfl 1; have x_gq_0 := HO.out.cell 1 rfl 0 rfl; have f_gq_0 := HO.out.frozen 1 rfl 0; have x_gq_1 := HO.out.cell 1 rfl 1 rfl; have f_gq_1 := HO.out.frozen 1 rfl 1; have x_gp_0 := HO.out.cell 2 rfl 0 rfl; have f_gp_0 := HO.out.frozen 2 rfl 0; have x_gp_1 := HO.out.cell 2 rfl 1 rfl; have f_gp_1 := HO.out.frozen 2 rfl 1; have n_g17_gq := HO.out.nei 0 1 rfl rfl (by decide); have n_g17_gp := HO.out.nei 0 2 rfl rfl (by decide))
    | (go_at_call 23; (with_reducible refine (timeboundref31_Add.calls k p1 p2 q1 q2 x1 x2 x3 _ h8.out).mono ?_); rintro e w47 ⟨rfl, hbl⟩; replace HO : Aside0 (Own w w47 [(g17, 24, [.int .i64 x1, .int .i64 x2]), (gq, 24, [.int .i64 q1, .int .i64 q2]), (gp, 24, [.int .i64 p1, .int .i64 p2]), (gb, 24, [.int .i64 m1, .int .i64 m2]), (ga, 24, [.int .i64 m1, .int .i64 m2]), (gi, 24, [.int .i64 m, .int .i64 n])]) := Aside0.mk (((HO.out.set 0 rfl 0 (.int .i64 x1)).set 0 rfl 1 (.int .i64 x2)).step hbl); clear hbl; (try clear x_gq_0 f_gq_0); (try clear x_gq_1 f_gq_1); (try clear x_gp_0 f_gp_0); (try clear x_gp_1 f_gp_1); have x_gq_0 := HO.out.cell 1 rfl 0 rfl; have f_gq_0 := HO.out.frozen 1 rfl 0; have x_gq_1 := HO.out.cell 1 rfl 1 rfl; have f_gq_1 := HO.out.frozen 1 rfl 1; have x_gp_0 := HO.out.cell 2 rfl 0 rfl; have f_gp_0 := HO.out.frozen 2 rfl 0; have x_gp_1 := HO.out.cell 2 rfl 1 rfl; have f_gp_1 := HO.out.frozen 2 rfl 1)
    | ((with_reducible refine gate_dst (N := 19) rfl ?_); refine box_event ?hg (N := 19) ?hd (cs := #[.int .i64 0, .int .i64 0]) (t := 24) ?hr ?_; (case hd => rfl); (case hg => rfl); (case hr => first | (go_simp; done) | (go_simp; rfl)); intro g19 hg w48 hb hbl; replace HO : Aside0 (Own w w48 [(g19, 24, [.int .i64 0, .int .i64 0]), (g17, 24, [.int .i64 x1, .int .i64 x2]), (gq, 24, [.int .i64 q1, .int .i64 q2]), (gp, 24, [.int .i64 p1, .int .i64 p2]), (gb, 24, [.int .i64 m1, .int .i64 m2]), (ga, 24, [.int .i64 m1, .int .i64 m2]), (gi, 24, [.int .i64 m, .int .i64 n])]) := Aside0.mk (HO.out.new hg hb hbl); clear hg hb hbl; (try clear x_gq_0 f_gq_0); (try clear x_gq_1 f_gq_1); (try clear x_gp_0 f_gp_0); (try clear x_gp_1 f_gp_1); have x_g19_0 := HO.out.cell 0 rfl 0 rfl; have f_g19_0 := HO.out.frozen 0 rfl 0; have x_g19_1 := HO.out.cell 0 rfl 1 rfl; have f_g19_1 := HO.out.frozen 0 rfl 1; have x_gq_0 := HO.out.cell 2 rfl 0 rfl; have f_gq_0 := HO.out.frozen 2 rfl 0; have x_gq_1 := HO.out.cell 2 rfl 1 rfl; have f_gq_1 := HO.out.frozen 2 rfl 1; have x_gp_0 := HO.out.cell 3 rfl 0 rfl; have f_gp_0 := HO.out.frozen 3 rfl 0; have x_gp_1 := HO.out.cell 3 rfl 1 rfl; have f_gp_1 := HO.out.frozen 3 rfl 1; have n_g19_gq := HO.out.nei 0 2 rfl rfl (by decide); have n_g19_gp := HO.out.nei 0 3 rfl rfl (by decide))
    | (go_at_call 38; (with_reducible refine (fraction_Sub.calls k p1 p2 q1 q2 y1 y2 y3 _ h9.out).mono ?_); rintro e w49 ⟨rfl, hbl⟩; replace HO : Aside0 (Own w w49 [(g19, 24, [.int .i64 x1, .int .i64 x2]), (g17, 24, [.int .i64 x1, .int .i64 x2]), (gq, 24, [.int .i64 q1, .int .i64 q2]), (gp, 24, [.int .i64 p1, .int .i64 p2]), (gb, 24, [.int .i64 m1, .int .i64 m2]), (ga, 24, [.int .i64 m1, .int .i64 m2]), (gi, 24, [.int .i64 m, .int .i64 n])]) := Aside0.mk (((HO.out.set 0 rfl 0 (.int .i64 x1)).set 0 rfl 1 (.int .i64 x2)).step hbl); clear hbl; (try clear x_gq_0 f_gq_0); (try clear x_gq_1 f_gq_1); (try clear x_gp_0 f_gp_0); (try clear x_gp_1 f_gp_1); have x_gq_0 := HO.out.cell 2 rfl 0 rfl; have f_gq_0 := HO.out.frozen 2 rfl 0; have x_gq_1 := HO.out.cell 2 rfl 1 rfl; have f_gq_1 := HO.out.frozen 2 rfl 1; have x_gp_0 := HO.out.cell 3 rfl 0 rfl; have f_gp_0 := HO.out.frozen 3 rfl 0; have x_gp_1 := HO.out.cell 3 rfl 1 rfl; have f_gp_1 := HO.out.frozen 3 rfl 1)
    | ((with_reducible refine gate_dst (N := 21) rfl ?_); refine box_event ?hg (N := 21) ?hd (cs := #[.int .i64 0, .int .i64 0]) (t := 24) ?hr ?_; (case hd => rfl); (case hg => rfl); (case hr => first | (go_simp; done) | (go_simp; rfl)); intro g21 hg w50 hb hbl; replace HO : Aside0 (Own w w50 [(g21, 24, [.int .i64 0, .int .i64 0]), (g19, 24, [.int .i64 x1, .int .i64 x2]), (g17, 24, [.int .i64 x1, .int .i64 x2]), (gq, 24, [.int .i64 q1, .int .i64 q2]), (gp, 24, [.int .i64 p1, .int .i64 p2]), (gb, 24, [.int .i64 m1, .int .i64 m2]), (ga, 24, [.int .i64 m1, .int .i64 m2]), (gi, 24, [.int .i64 m, .int .i64 n])]) := Aside0.mk (HO.out.new hg hb hbl); clear hg hb hbl; (try clear x_gq_0 f_gq_0); (try clear x_gq_1 f_gq_1); (try clear x_gp_0 f_gp_0); (try clear x_gp_1 f_gp_1); have x_g21_0 := HO.out.cell 0 rfl 0 rfl; have f_g21_0 := HO.out.frozen 0 rfl 0; have x_g21_1 := HO.out.cell 0 rfl 1 rfl; have f_g21_1 := HO.out.frozen 0 rfl 1; have x_gq_0 := HO.out.cell 3 rfl 0 rfl; have f_gq_0 := HO.out.frozen 3 rfl 0; have x_gq_1 := HO.out.cell 3 rfl 1 rfl; have f_gq_1 := HO.out.frozen 3 rfl 1; have x_gp_0 := HO.out.cell 4 rfl 0 rfl; have f_gp_0 := HO.out.frozen 4 rfl 0; have x_gp_1 := HO.out.cell 4 rfl 1 rfl; have f_gp_1 := HO.out.frozen 4 rfl 1; have n_g21_gq := HO.out.nei 0 3 rfl rfl (by decide); have n_g21_gp := HO.out.nei 0 4 rfl rfl (by decide))
    | (go_at_call 41; (with_reducible refine (timeboundref31_Sub.calls k p1 p2 q1 q2 y1 y2 y3 _ h10.out).mono ?_); rintro e w51 ⟨rfl, hbl⟩; replace HO : Aside0 (Own w w51 [(g21, 24, [.int .i64 y1, .int .i64 y2]), (g19, 24, [.int .i64 x1, .int .i64 x2]), (g17, 24, [.int .i64 x1, .int .i64 x2]), (gq, 24, [.int .i64 q1, .int .i64 q2]), (gp, 24, [.int .i64 p1, .int .i64 p2]), (gb, 24, [.int .i64 m1, .int .i64 m2]), (ga, 24, [.int .i64 m1, .int .i64 m2]), (gi, 24, [.int .i64 m, .int .i64 n])]) := Aside0.mk (((HO.out.set 0 rfl 0 (.int .i64 y1)).set 0 rfl 1 (.int .i64 y2)).step hbl); clear hbl; (try clear x_gq_0 f_gq_0); (try clear x_gq_1 f_gq_1); (try clear x_gp_0 f_gp_0); (try clear x_gp_1 f_gp_1); have x_gq_0 := HO.out.cell 3 rfl 0 rfl; have f_gq_0 := HO.out.frozen 3 rfl 0; have x_gq_1 := HO.out.cell 3 rfl 1 rfl; have f_gq_1 := HO.out.frozen 3 rfl 1; have x_gp_0 := HO.out.cell 4 rfl 0 rfl; have f_gp_0 := HO.out.frozen 4 rfl 0; have x_gp_1 := HO.out.cell 4 rfl 1 rfl; have f_gp_1 := HO.out.frozen 4 rfl 1)
    | ((with_reducible refine gate_dst (N := 23) rfl ?_); refine box_event ?hg (N := 23) ?hd (cs := #[.int .i64 0, .int .i64 0]) (t := 24) ?hr ?_; (case hd => rfl); (case hg => rfl); (case hr => first | (go_simp; done) | (go_simp; rfl)); intro g23 hg w52 hb hbl; replace HO : Aside0 (Own w w52 [(g23, 24, [.int .i64 0, .int .i64 0]), (g21, 24, [.int .i64 y1, .int .i64 y2]), (g19, 24, [.int .i64 x1, .int .i64 x2]), (g17, 24, [.int .i64 x1, .int .i64 x2]), (gq, 24, [.int .i64 q1, .int .i64 q2]), (gp, 24, [.int .i64 p1, .int .i64 p2]), (gb, 24, [.int .i64 m1, .int .i64 m2]), (ga, 24, [.int .i64 m1, .int .i64 m2]), (gi, 24, [.int .i64 m, .int .i64 n])]) := Aside0.mk (HO.out.new hg hb hbl); clear hg hb hbl; (try clear x_gq_0 f_gq_0); (try clear x_gq_1 f_gq_1); (try clear x_gp_0 f_gp_0); (try clear x_gp_1 f_gp_1); have x_g23_0 := HO.out.cell 0 rfl 0 rfl; have f_g23_0 := HO.out.frozen 0 rfl 0; have x_g23_1 := HO.out.cell 0 rfl 1 rfl; have f_g23_1 := HO.out.frozen 0 rfl 1; have x_gq_0 := HO.out.cell 4 rfl 0 rfl; have f_gq_0 := HO.out.frozen 4 rfl 0; have x_gq_1 := HO.out.cell 4 rfl 1 rfl; have f_gq_1 := HO.out.frozen 4 rfl 1; have x_gp_0 := HO.out.cell 5 rfl 0 rfl; have f_gp_0 := HO.out.frozen 5 rfl 0; have x_gp_1 := HO.out.cell 5 rfl 1 rfl; have f_gp_1 := HO.out.frozen 5 rfl 1; have n_g23_gq := HO.out.nei 0 4 rfl rfl (by decide); have n_g23_gp := HO.out.nei 0 5 rfl rfl (by decide))
    | (go_at_call 35; (with_reducible refine (fraction_Mul.calls k p1 p2 q1 q2 z1 z2 z3 _ h11.out).mono ?_); rintro e w53 ⟨rfl, hbl⟩; replace HO : Aside0 (Own w w53 [(g23, 24, [.int .i64 y1, .int .i64 y2]), (g21, 24, [.int .i64 y1, .int .i64 y2]), (g19, 24, [.int .i64 x1, .int .i64 x2]), (g17, 24, [.int .i64 x1, .int .i64 x2]), (gq, 24, [.int .i64 q1, .int .i64 q2]), (gp, 24, [.int .i64 p1, .int .i64 p2]), (gb, 24, [.int .i64 m1, .int .i64 m2]), (ga, 24, [.int .i64 m1, .int .i64 m2]), (gi, 24, [.int .i64 m, .int .i64 n])]) := Aside0.mk (((HO.out.set 0 rfl 0 (.int .i64 y1)).set 0 rfl 1 (.int .i64 y2)).step hbl); clear hbl; (try clear x_gq_0 f_gq_0); (try clear x_gq_1 f_gq_1); (try clear x_gp_0 f_gp_0); (try clear x_gp_1 f_gp_1); have x_gq_0 := HO.out.cell 4 rfl 0 rfl; have f_gq_0 := HO.out.frozen 4 rfl 0; have x_gq_1 := HO.out.cell 4 rfl 1 rfl; have f_gq_1 := HO.out.frozen 4 rfl 1; have x_gp_0 := HO.out.cell 5 rfl 0 rfl; have f_gp_0 := HO.out.frozen 5 rfl 0; have x_gp_1 := HO.out.cell 5 rfl 1 rfl; have f_gp_1 := HO.out.frozen 5 rfl 1)
    | ((with_reducible refine gate_dst (N := 25) rfl ?_); refine box_event ?hg (N := 25) ?hd (cs := #[.int .i64 0, .int .i64 0]) (t := 24) ?hr ?_; (case hd => rfl); (case hg => rfl); (case hr => first | (go_simp; done) | (go_simp; rfl)); intro g25 hg w54 hb hbl; replace HO : Aside0 (Own w w54 [(g25, 24, [.int .i64 0, .int .i64 0]), (g23, 24, [.int .i64 y1, .int .i64 y2]), (g21, 24, [.int .i64 y1, .int .i64 y2]), (g19, 24, [.int .i64 x1, .int .i64 x2]), (g17, 24, [.int .i64 x1, .int .i64 x2]), (gq, 24, [.int .i64 q1, .int .i64 q2]), (gp, 24, [.int .i64 p1, .int .i64 p2]), (gb, 24, [.int .i64 m1, .int .i64 m2]), (ga, 24, [.int .i64 m1, .int .i64 m2]), (gi, 24, [.int .i64 m, .int .i64 n])]) := Aside0.mk (HO.out.new hg hb hbl); clear hg hb hbl; (try clear x_gq_0 f_gq_0); (try clear x_gq_1 f_gq_1); (try clear x_gp_0 f_gp_0); (try clear x_gp_1 f_gp_1); have x_g25_0 := HO.out.cell 0 rfl 0 rfl; have f_g25_0 := HO.out.frozen 0 rfl 0; have x_g25_1 := HO.out.cell 0 rfl 1 rfl; have f_g25_1 := HO.out.frozen 0 rfl 1; have x_gq_0 := HO.out.cell 5 rfl 0 rfl; have f_gq_0 := HO.out.frozen 5 rfl 0; have x_gq_1 := HO.out.cell 5 rfl 1 rfl; have f_gq_1 := HO.out.frozen 5 rfl 1; have x_gp_0 := HO.out.cell 6 rfl 0 rfl; have f_gp_0 := HO.out.frozen 6 rfl 0; have x_gp_1 := HO.out.cell 6 rfl 1 rfl; have f_gp_1 := HO.out.frozen 6 rfl 1; have n_g25_gq := HO.out.nei 0 5 rfl rfl (by decide); have n_g25_gp := HO.out.nei 0 6 rfl rfl (by decide))
    | (go_at_call 42; (with_reducible refine (timeboundref31_Mul.calls k p1 p2 q1 q2 z1 z2 z3 _ h12.out).mono ?_); rintro e w55 ⟨rfl, hbl⟩; replace HO : Aside0 (Own w w55 [(g25, 24, [.int .i64 z1, .int .i64 z2]), (g23, 24, [.int .i64 y1, .int .i64 y2]), (g21, 24, [.int .i64 y1, .int .i64 y2]), (g19, 24, [.int .i64 x1, .int .i64 x2]), (g17, 24, [.int .i64 x1, .int .i64 x2]), (gq, 24, [.int .i64 q1, .int .i64 q2]), (gp, 24, [.int .i64 p1, .int .i64 p2]), (gb, 24, [.int .i64 m1, .int .i64 m2]), (ga, 24, [.int .i64 m1, .int .i64 m2]), (gi, 24, [.int .i64 m, .int .i64 n])]) := Aside0.mk (((HO.out.set 0 rfl 0 (.int .i64 z1)).set 0 rfl 1 (.int .i64 z2)).step hbl); clear hbl; (try clear x_gq_0 f_gq_0); (try clear x_gq_1 f_gq_1); (try clear x_gp_0 f_gp_0); (try clear x_gp_1 f_gp_1); have x_gq_0 := HO.out.cell 5 rfl 0 rfl; have f_gq_0 := HO.out.frozen 5 rfl 0; have x_gq_1 := HO.out.cell 5 rfl 1 rfl; have f_gq_1 := HO.out.frozen 5 rfl 1; have x_gp_0 := HO.out.cell 6 rfl 0 rfl; have f_gp_0 := HO.out.frozen 6 rfl 0; have x_gp_1 := HO.out.cell 6 rfl 1 rfl; have f_gp_1 := HO.out.frozen 6 rfl 1)
    | ((with_reducible refine gate_dst (N := 27) rfl ?_); refine box_event ?hg (N := 27) ?hd (cs := #[.int .i64 0, .int .i64 0]) (t := 24) ?hr ?_; (case hd => rfl); (case hg => rfl); (case hr => first | (go_simp; done) | (go_simp; rfl)); intro g27 hg w56 hb hbl; replace HO : Aside0 (Own w w56 [(g27, 24, [.int .i64 0, .int .i64 0]), (g25, 24, [.int .i64 z1, .int .i64 z2]), (g23, 24, [.int .i64 y1, .int .i64 y2]), (g21, 24, [.int .i64 y1, .int .i64 y2]), (g19, 24, [.int .i64 x1, .int .i64 x2]), (g17, 24, [.int .i64 x1, .int .i64 x2]), (gq, 24, [.int .i64 q1, .int .i64 q2]), (gp, 24, [.int .i64 p1, .int .i64 p2]), (gb, 24, [.int .i64 m1, .int .i64 m2]), (ga, 24, [.int .i64 m1, .int .i64 m2]), (gi, 24, [.int .i64 m, .int .i64 n])]) := Aside0.mk (HO.out.new hg hb hbl); clear hg hb hbl; (try clear x_gq_0 f_gq_0); (try clear x_gq_1 f_gq_1); (try clear x_gp_0 f_gp_0); (try clear x_gp_1 f_gp_1); have x_g27_0 := HO.out.cell 0 rfl 0 rfl; have f_g27_0 := HO.out.frozen 0 rfl 0; have x_g27_1 := HO.out.cell 0 rfl 1 rfl; have f_g27_1 := HO.out.frozen 0 rfl 1; have x_gq_0 := HO.out.cell 6 rfl 0 rfl; have f_gq_0 := HO.out.frozen 6 rfl 0; have x_gq_1 := HO.out.cell 6 rfl 1 rfl; have f_gq_1 := HO.out.frozen 6 rfl 1; have x_gp_0 := HO.out.cell 7 rfl 0 rfl; have f_gp_0 := HO.out.frozen 7 rfl 0; have x_gp_1 := HO.out.cell 7 rfl 1 rfl; have f_gp_1 := HO.out.frozen 7 rfl 1; have n_g27_gq := HO.out.nei 0 6 rfl rfl (by decide); have n_g27_gp := HO.out.nei 0 7 rfl rfl (by decide))
    | (go_at_call 37; (with_reducible refine (fraction_Div.calls k p1 p2 q1 q2 t1 t2 t3 _ h13.out).mono ?_); rintro e w57 ⟨rfl, hbl⟩; replace HO : Aside0 (Own w w57 [(g27, 24, [.int .i64 z1, .int .i64 z2]), (g25, 24, [.int .i64 z1, .int .i64 z2]), (g23, 24, [.int .i64 y1, .int .i64 y2]), (g21, 24, [.int .i64 y1, .int .i64 y2]), (g19, 24, [.int .i64 x1, .int .i64 x2]), (g17, 24, [.int .i64 x1, .int .i64 x2]), (gq, 24, [.int .i64 q1, .int .i64 q2]), (gp, 24, [.int .i64 p1, .int .i64 p2]), (gb, 24, [.int .i64 m1, .int .i64 m2]), (ga, 24, [.int .i64 m1, .int .i64 m2]), (gi, 24, [.int .i64 m, .int .i64 n])]) := Aside0.mk (((HO.out.set 0 rfl 0 (.int .i64 z1)).set 0 rfl 1 (.int .i64 z2)).step hbl); clear hbl; (try clear x_gq_0 f_gq_0); (try clear x_gq_1 f_gq_1); (try clear x_gp_0 f_gp_0); (try clear x_gp_1 f_gp_1); have x_gq_0 := HO.out.cell 6 rfl 0 rfl; have f_gq_0 := HO.out.frozen 6 rfl 0; have x_gq_1 := HO.out.cell 6 rfl 1 rfl; have f_gq_1 := HO.out.frozen 6 rfl 1; have x_gp_0 := HO.out.cell 7 rfl 0 rfl; have f_gp_0 := HO.out.frozen 7 rfl 0; have x_gp_1 := HO.out.cell 7 rfl 1 rfl; have f_gp_1 := HO.out.frozen 7 rfl 1)
    | ((with_reducible refine gate_dst (N := 29) rfl ?_); refine box_event ?hg (N := 29) ?hd (cs := #[.int .i64 0, .int .i64 0]) (t := 24) ?hr ?_; (case hd => rfl); (case hg => rfl); (case hr => first | (go_simp; done) | (go_simp; rfl)); intro g29 hg w58 hb hbl; replace HO : Aside0 (Own w w58 [(g29, 24, [.int .i64 0, .int .i64 0]), (g27, 24, [.int .i64 z1, .int .i64 z2]), (g25, 24, [.int .i64 z1, .int .i64 z2]), (g23, 24, [.int .i64 y1, .int .i64 y2]), (g21, 24, [.int .i64 y1, .int .i64 y2]), (g19, 24, [.int .i64 x1, .int .i64 x2]), (g17, 24, [.int .i64 x1, .int .i64 x2]), (gq, 24, [.int .i64 q1, .int .i64 q2]), (gp, 24, [.int .i64 p1, .int .i64 p2]), (gb, 24, [.int .i64 m1, .int .i64 m2]), (ga, 24, [.int .i64 m1, .int .i64 m2]), (gi, 24, [.int .i64 m, .int .i64 n])]) := Aside0.mk (HO.out.new hg hb hbl); clear hg hb hbl; (try clear x_gq_0 f_gq_0); (try clear x_gq_1 f_gq_1); (try clear x_gp_0 f_gp_0); (try clear x_gp_1 f_gp_1); have x_g29_0 := HO.out.cell 0 rfl 0 rfl; have f_g29_0 := HO.out.frozen 0 rfl 0; have x_g29_1 := HO.out.cell 0 rfl 1 rfl; have f_g29_1 := HO.out.frozen 0 rfl 1; have x_gq_0 := HO.out.cell 7 rfl 0 rfl; have f_gq_0 := HO.out.frozen 7 rfl 0; have x_gq_1 := HO.out.cell 7 rfl 1 rfl; have f_gq_1 := HO.out.frozen 7 rfl 1; have x_gp_0 := HO.out.cell 8 rfl 0 rfl; have f_gp_0 := HO.out.frozen 8 rfl 0; have x_gp_1 := HO.out.cell 8 rfl 1 rfl; have f_gp_1 := HO.out.frozen 8 rfl 1; have n_g29_gq := HO.out.nei 0 7 rfl rfl (by decide); have n_g29_gp := HO.out.nei 0 8 rfl rfl (by decide))
    | (go_at_call 43; (with_reducible refine (timeboundref31_Div.calls k p1 p2 q1 q2 t1 t2 t3 _ h14.out).mono ?_); rintro e w59 ⟨rfl, hbl⟩; replace HO : Aside0 (Own w w59 [(g29, 24, [.int .i64 t1, .int .i64 t2]), (g27, 24, [.int .i64 z1, .int .i64 z2]), (g25, 24, [.int .i64 z1, .int .i64 z2]), (g23, 24, [.int .i64 y1, .int .i64 y2]), (g21, 24, [.int .i64 y1, .int .i64 y2]), (g19, 24, [.int .i64 x1, .int .i64 x2]), (g17, 24, [.int .i64 x1, .int .i64 x2]), (gq, 24, [.int .i64 q1, .int .i64 q2]), (gp, 24, [.int .i64 p1, .int .i64 p2]), (gb, 24, [.int .i64 m1, .int .i64 m2]), (ga, 24, [.int .i64 m1, .int .i64 m2]), (gi, 24, [.int .i64 m, .int .i64 n])]) := Aside0.mk (((HO.out.set 0 rfl 0 (.int .i64 t1)).set 0 rfl 1 (.int .i64 t2)).step hbl); clear hbl; (try clear x_gq_0 f_gq_0); (try clear x_gq_1 f_gq_1); (try clear x_gp_0 f_gp_0); (try clear x_gp_1 f_gp_1); have x_gq_0 := HO.out.cell 7 rfl 0 rfl; have f_gq_0 := HO.out.frozen 7 rfl 0; have x_gq_1 := HO.out.cell 7 rfl 1 rfl; have f_gq_1 := HO.out.frozen 7 rfl 1; have x_gp_0 := HO.out.cell 8 rfl 0 rfl; have f_gp_0 := HO.out.frozen 8 rfl 0; have x_gp_1 := HO.out.cell 8 rfl 1 rfl; have f_gp_1 := HO.out.frozen 8 rfl 1)
    | ((with_reducible refine gate_dst (N := 31) rfl ?_); refine box_event ?hg (N := 31) ?hd (cs := #[.int .i64 0, .int .i64 0]) (t := 24) ?hr ?_; (case hd => rfl); (case hg => rfl); (case hr => first | (go_simp; done) | (go_simp; rfl)); intro g31 hg w60 hb hbl; replace HO : Aside0 (Own w w60 [(g31, 24, [.int .i64 0, .int .i64 0]), (g29, 24, [.int .i64 t1, .int .i64 t2]), (g27, 24, [.int .i64 z1, .int .i64 z2]), (g25, 24, [.int .i64 z1, .int .i64 z2]), (g23, 24, [.int .i64 y1, .int .i64 y2]), (g21, 24, [.int .i64 y1, .int .i64 y2]), (g19, 24, [.int .i64 x1, .int .i64 x2]), (g17, 24, [.int .i64 x1, .int .i64 x2]), (gq, 24, [.int .i64 q1, .int .i64 q2]), (gp, 24, [.int .i64 p1, .int .i64 p2]), (gb, 24, [.int .i64 m1, .int .i64 m2]), (ga, 24, [.int .i64 m1, .int .i64 m2]), (gi, 24, [.int .i64 m, .int .i64 n])]) := Aside0.mk (HO.out.new hg hb hbl); clear hg hb hbl; (try clear x_g29_0 f_g29_0); (try clear x_g29_1 f_g29_1); (try clear x_g27_0 f_g27_0); (try clear x_g27_1 f_g27_1); (try clear x_g25_0 f_g25_0); (try clear x_g25_1 f_g25_1); (try clear x_g23_0 f_g23_0); (try clear x_g23_1 f_g23_1); (try clear x_g21_0 f_g21_0); (try clear x_g21_1 f_g21_1); (try clear x_g19_0 f_g19_0); (try clear x_g19_1 f_g19_1); (try clear x_g17_0 f_g17_0); (try clear x_g17_1 f_g17_1); (try clear x_gq_0 f_gq_0); (try clear x_gq_1 f_gq_1); (try clear x_gp_0 f_gp_0); (try clear x_gp_1 f_gp_1); have x_g31_0 := HO.out.cell 0 rfl 0 rfl; have f_g31_0 := HO.out.frozen 0 rfl 0; have x_g31_1 := HO.out.cell 0 rfl 1 rfl; have f_g31_1 := HO.out.frozen 0 rfl 1; have x_g29_0 := HO.out.cell 1 rfl 0 rfl; have f_g29_0 := HO.out.frozen 1 rfl 0; have x_g29_1 := HO.out.cell 1 rfl 1 rfl; have f_g29_1 := HO.out.frozen 1 rfl 1; have x_g27_0 := HO.out.cell 2 rfl 0 rfl; have f_g27_0 := HO.out.frozen 2 rfl 0; have x_g27_1 := HO.out.cell 2 rfl 1 rfl; have f_g27_1 := HO.out.frozen 2 rfl 1; have x_g25_0 := HO.out.cell 3 rfl 0 rfl; have f_g25_0 := HO.out.frozen 3 rfl 0; have x_g25_1 := HO.out.cell 3 rfl 1 rfl; have f_g25_1 := HO.out.frozen 3 rfl 1; have x_g23_0 := HO.out.cell 4 rfl 0 rfl; have f_g23_0 := HO.out.frozen 4 rfl 0; have x_g23_1 := HO.out.cell 4 rfl 1 rfl; have f_g23_1 := HO.out.frozen 4 rfl 1; have x_g21_0 := HO.out.cell 5 rfl 0 rfl; have f_g21_0 := HO.out.frozen 5 rfl 0; have x_g21_1 := HO.out.cell 5 rfl 1 rfl; have f_g21_1 := HO.out.frozen 5 rfl 1; have x_g19_0 := HO.out.cell 6 rfl 0 rfl; have f_g19_0 := HO.out.frozen 6 rfl 0; have x_g19_1 := HO.out.cell 6 rfl 1 rfl; have f_g19_1 := HO.out.frozen 6 rfl 1; have x_g17_0 := HO.out.cell 7 rfl 0 rfl; have f_g17_0 := HO.out.frozen 7 rfl 0; have x_g17_1 := HO.out.cell 7 rfl 1 rfl; have f_g17_1 := HO.out.frozen 7 rfl 1; have x_gq_0 := HO.out.cell 8 rfl 0 rfl; have f_gq_0 := HO.out.frozen 8 rfl 0; have x_gq_1 := HO.out.cell 8 rfl 1 rfl; have f_gq_1 := HO.out.frozen 8 rfl 1; have x_gp_0 := HO.out.cell 9 rfl 0 rfl; have f_gp_0 := HO.out.frozen 9 rfl 0; have x_gp_1 := HO.out.cell 9 rfl 1 rfl; have f_gp_1 := HO.out.frozen 9 rfl 1; have n_g31_g29 := HO.out.nei 0 1 rfl rfl (by decide); have n_g31_g27 := HO.out.nei 0 2 rfl rfl (by decide); have n_g31_g25 := HO.out.nei 0 3 rfl rfl (by decide); have n_g31_g23 := HO.out.nei 0 4 rfl rfl (by decide); have n_g31_g21 := HO.out.nei 0 5 rfl rfl (by decide); have n_g31_g19 := HO.out.nei 0 6 rfl rfl (by decide); have n_g31_g17 := HO.out.nei 0 7 rfl rfl (by decide); have n_g31_gq := HO.out.nei 0 8 rfl rfl (by decide); have n_g31_gp := HO.out.nei 0 9 rfl rfl (by decide)))
  (try simp only [Act.put, List.setIfInBounds_toArray, List.set_cons_succ, List.set_cons_zero])
  replace HO := Aside0.mk ((HO.out.set 0 rfl 0 (.int .i64 t1)).set 0 rfl 1 (.int .i64 t2))
  refine start_ (n := 25) (S := fun w' => w'.cell? ⟨gq, 0, none⟩ = some (.int .i64 q1) ∧ w'.cell? ⟨gq, 1, none⟩ = some (.int .i64 q2) ∧ w'.cell? ⟨gp, 0, none⟩ = some (.int .i64 p1) ∧ w'.cell? ⟨gp, 1, none⟩ = some (.int .i64 p2)) (ds := []) #[false, false, false, false, false, false, false, false, false, false, false, false, false, false, false, false, false, false, false, false, false, false, false, false, false] (by kernel_rfl) rfl rfl ⟨HO.out.cell 8 rfl 0 rfl, HO.out.cell 8 rfl 1 rfl, HO.out.cell 9 rfl 0 rfl, HO.out.cell 9 rfl 1 rfl⟩ (fun hHeld => ?_); refine with_tabW timeboundlaw31_FractionDoes.tab16 timeboundlaw31_FractionDoes.bits16 (fun HT_ HW_ => ?_)
  replace HO := Aside0.mk HO.out.drew
  refine take_ (i := 0) (N := some 152) (v := ?_) (a' := ?_) #[true, false, false, false, false, false, false, false, false, false, false, false, false, false, false, false, false, false, false, false, false, false, false, false, false] rfl rfl (take_ofW HT_.out HW_.out (by kernel_rfl)) (fun _ _ _ h => h) (Or.inl ⟨by rfl, ?_⟩) hHeld ?_ ?_
  rotate_left
  · rintro w' ⟨s0, s1, s2, s3⟩
    go_simp
    with_reducible rfl
  rotate_left
  · simp only [Act.put, List.setIfInBounds_toArray, List.set_cons_zero, List.set_cons_succ, i64_w, i32_w]
    rfl
  refine take_ (i := 1) (N := some 153) (v := ?_) (a' := ?_) #[true, true, false, false, false, false, false, false, false, false, false, false, false, false, false, false, false, false, false, false, false, false, false, false, false] rfl rfl (take_ofW HT_.out HW_.out (by kernel_rfl)) (fun _ _ _ h => h) (Or.inl ⟨by rfl, ?_⟩) hHeld ?_ ?_
  rotate_left
  · rintro w' ⟨s0, s1, s2, s3⟩
    go_simp
    with_reducible rfl
  rotate_left
  · simp only [Act.put, List.setIfInBounds_toArray, List.set_cons_zero, List.set_cons_succ, i64_w, i32_w]
    rfl
  refine take_ (i := 3) (N := some 155) (v := ?_) (a' := ?_) #[true, true, false, true, false, false, false, false, false, false, false, false, false, false, false, false, false, false, false, false, false, false, false, false, false] rfl rfl (take_ofW HT_.out HW_.out (by kernel_rfl)) (fun _ _ _ h => h) (Or.inl ⟨by rfl, ?_⟩) hHeld ?_ ?_
  rotate_left
  · rintro w' ⟨s0, s1, s2, s3⟩
    go_simp
    with_reducible rfl
  rotate_left
  · simp only [Act.put, List.setIfInBounds_toArray, List.set_cons_zero, List.set_cons_succ, i64_w, i32_w]
    rfl
  refine take_ (i := 4) (N := some 156) (v := ?_) (a' := ?_) #[true, true, false, true, true, false, false, false, false, false, false, false, false, false, false, false, false, false, false, false, false, false, false, false, false] rfl rfl (take_ofW HT_.out HW_.out (by kernel_rfl)) (fun _ _ _ h => h) (Or.inl ⟨by rfl, ?_⟩) hHeld ?_ ?_
  rotate_left
  · rintro w' ⟨s0, s1, s2, s3⟩
    go_simp
    with_reducible rfl
  rotate_left
  · simp only [Act.put, List.setIfInBounds_toArray, List.set_cons_zero, List.set_cons_succ, i64_w, i32_w]
    rfl
  refine one_ (i := 2) (N := some 154) #[true, true, true, true, true, false, false, false, false, false, false, false, false, false, false, false, false, false, false, false, false, false, false, false, false] rfl rfl (one_of HT_.out (by kernel_rfl)) (by decide) (fun K hK => ?_)
  refine goes_ Try.func32 (by kernel_rfl) rfl #[.agg #[.int .i64 p1, .int .i64 p2], .agg #[.int .i64 q1, .int .i64 q2]] (by rfl) rfl rfl (by (try simp only [List.map_toArray, List.map_cons, List.map_nil]); first | done | rfl) ?_
  with_reducible refine (fraction_Cmp.calls k p1 p2 q1 q2 s _ h15.out).mono ?_
  rintro e w1102 ⟨rfl, hb⟩
  refine ⟨_, rfl, ?_⟩
  replace HO := Aside0.mk (HO.out.step hb)
  clear hb
  refine hK.out _ _ ⟨HO.out.cell 8 rfl 0 rfl, HO.out.cell 8 rfl 1 rfl, HO.out.cell 9 rfl 0 rfl, HO.out.cell 9 rfl 1 rfl⟩ (fun hHeld => ?_)
  clear hK K
  refine norm_ (a' := ?_) ?_ ?_
  rotate_left
  · show Act.put _ (some 154) _ = _
    simp only [Act.put, List.setIfInBounds_toArray, List.set_cons_zero, List.set_cons_succ, i64_w, i32_w]
    rfl
  refine one_ (i := 5) (N := some 157) #[true, true, true, true, true, true, false, false, false, false, false, false, false, false, false, false, false, false, false, false, false, false, false, false, false] rfl rfl (one_of HT_.out (by kernel_rfl)) (by decide) (fun K hK => ?_)
  refine goes_ Try.func25 (by kernel_rfl) rfl #[.agg #[.int .i64 p1, .int .i64 p2], .agg #[.int .i64 q1, .int .i64 q2]] (by rfl) rfl rfl (by (try simp only [List.map_toArray, List.map_cons, List.map_nil]); first | done | rfl) ?_
  with_reducible refine (timeboundref31_Cmp.calls k p1 p2 q1 q2 s _ h16.out).mono ?_
  rintro e w1105 ⟨rfl, hb⟩
  refine ⟨_, rfl, ?_⟩
  replace HO := Aside0.mk (HO.out.step hb)
  clear hb
  refine hK.out _ _ ⟨HO.out.cell 8 rfl 0 rfl, HO.out.cell 8 rfl 1 rfl, HO.out.cell 9 rfl 0 rfl, HO.out.cell 9 rfl 1 rfl⟩ (fun hHeld => ?_)
  clear hK K
  refine norm_ (a' := ?_) ?_ ?_
  rotate_left
  · show Act.put _ (some 157) _ = _
    simp only [Act.put, List.setIfInBounds_toArray, List.set_cons_zero, List.set_cons_succ, i64_w, i32_w]
    rfl
  refine pure_ (i := 6) (N := some 158) (v := ?_) (a' := ?_) #[true, true, true, true, true, true, true, false, false, false, false, false, false, false, false, false, false, false, false, false, false, false, false, false, false] rfl rfl (any_of HT_.out (by kernel_rfl)) (fun _ _ _ h => h) (Or.inl ⟨by rfl, ?_⟩) ?_ ?_
  rotate_left
  · intro w'
    go_simp
    with_reducible rfl
  rotate_left
  · simp only [Act.put, List.setIfInBounds_toArray, List.set_cons_zero, List.set_cons_succ, i64_w, i32_w]
    rfl
  refine pure_ (i := 7) (N := some 159) (v := ?_) (a' := ?_) #[true, true, true, true, true, true, true, true, false, false, false, false, false, false, false, false, false, false, false, false, false, false, false, false, false] rfl rfl (any_of HT_.out (by kernel_rfl)) (fun _ _ _ h => h) (Or.inl ⟨by rfl, ?_⟩) ?_ ?_
  rotate_left
  · intro w'
    go_simp
    with_reducible rfl
  rotate_left
  · simp only [Act.put, List.setIfInBounds_toArray, List.set_cons_zero, List.set_cons_succ, i64_w, i32_w]
    rfl
  refine take_ (i := 8) (N := some 160) (v := ?_) (a' := ?_) #[true, true, true, true, true, true, true, true, true, false, false, false, false, false, false, false, false, false, false, false, false, false, false, false, false] rfl rfl (take_ofW HT_.out HW_.out (by kernel_rfl)) (fun _ _ _ h => h) (Or.inl ⟨by rfl, ?_⟩) hHeld ?_ ?_
  rotate_left
  · rintro w' ⟨s0, s1, s2, s3⟩
    go_simp
    with_reducible rfl
  rotate_left
  · simp only [Act.put, List.setIfInBounds_toArray, List.set_cons_zero, List.set_cons_succ, i64_w, i32_w]
    rfl
  refine take_ (i := 10) (N := some 162) (v := ?_) (a' := ?_) #[true, true, true, true, true, true, true, true, true, false, true, false, false, false, false, false, false, false, false, false, false, false, false, false, false] rfl rfl (take_ofW HT_.out HW_.out (by kernel_rfl)) (fun _ _ _ h => h) (Or.inl ⟨by rfl, ?_⟩) hHeld ?_ ?_
  rotate_left
  · rintro w' ⟨s0, s1, s2, s3⟩
    go_simp
    with_reducible rfl
  rotate_left
  · simp only [Act.put, List.setIfInBounds_toArray, List.set_cons_zero, List.set_cons_succ, i64_w, i32_w]
    rfl
  refine one_ (i := 9) (N := some 161) #[true, true, true, true, true, true, true, true, true, true, true, false, false, false, false, false, false, false, false, false, false, false, false, false, false] rfl rfl (one_of HT_.out (by kernel_rfl)) (by decide) (fun K hK => ?_)
  refine goes_ Try.func33 (by kernel_rfl) rfl #[.agg #[.int .i64 p1, .int .i64 p2]] (by rfl) rfl rfl (by (try simp only [List.map_toArray, List.map_cons, List.map_nil]); first | done | rfl) ?_
  with_reducible refine (fraction_Floor.calls p1 p2 u1 _ h17.out).mono ?_
  rintro e w1109 ⟨rfl, hb⟩
  refine ⟨_, rfl, ?_⟩
  replace HO := Aside0.mk (HO.out.step hb)
  clear hb
  refine hK.out _ _ ⟨HO.out.cell 8 rfl 0 rfl, HO.out.cell 8 rfl 1 rfl, HO.out.cell 9 rfl 0 rfl, HO.out.cell 9 rfl 1 rfl⟩ (fun hHeld => ?_)
  clear hK K
  refine norm_ (a' := ?_) ?_ ?_
  rotate_left
  · show Act.put _ (some 161) _ = _
    simp only [Act.put, List.setIfInBounds_toArray, List.set_cons_zero, List.set_cons_succ, i64_w, i32_w]
    rfl
  refine one_ (i := 11) (N := some 163) #[true, true, true, true, true, true, true, true, true, true, true, true, false, false, false, false, false, false, false, false, false, false, false, false, false] rfl rfl (one_of HT_.out (by kernel_rfl)) (by decide) (fun K hK => ?_)
  refine goes_ Try.func44 (by kernel_rfl) rfl #[.agg #[.int .i64 p1, .int .i64 p2]] (by rfl) rfl rfl (by (try simp only [List.map_toArray, List.map_cons, List.map_nil]); first | done | rfl) ?_
  with_reducible refine (timeboundref31_Floor.calls p1 p2 u1 _ h18.out).mono ?_
  rintro e w1111 ⟨rfl, hb⟩
  refine ⟨_, rfl, ?_⟩
  replace HO := Aside0.mk (HO.out.step hb)
  clear hb
  refine hK.out _ _ ⟨HO.out.cell 8 rfl 0 rfl, HO.out.cell 8 rfl 1 rfl, HO.out.cell 9 rfl 0 rfl, HO.out.cell 9 rfl 1 rfl⟩ (fun hHeld => ?_)
  clear hK K
  refine norm_ (a' := ?_) ?_ ?_
  rotate_left
  · show Act.put _ (some 163) _ = _
    simp only [Act.put, List.setIfInBounds_toArray, List.set_cons_zero, List.set_cons_succ, i64_w, i32_w]
    rfl
  refine pure_ (i := 12) (N := some 164) (v := ?_) (a' := ?_) #[true, true, true, true, true, true, true, true, true, true, true, true, true, false, false, false, false, false, false, false, false, false, false, false, false] rfl rfl (any_of HT_.out (by kernel_rfl)) (fun _ _ _ h => h) (Or.inl ⟨by rfl, ?_⟩) ?_ ?_
  rotate_left
  · intro w'
    go_simp
    with_reducible rfl
  rotate_left
  · simp only [Act.put, List.setIfInBounds_toArray, List.set_cons_zero, List.set_cons_succ, i64_w, i32_w]
    rfl
  refine pure_ (i := 13) (N := some 165) (v := ?_) (a' := ?_) #[true, true, true, true, true, true, true, true, true, true, true, true, true, true, false, false, false, false, false, false, false, false, false, false, false] rfl rfl (any_of HT_.out (by kernel_rfl)) (fun _ _ _ h => h) (Or.inl ⟨by rfl, ?_⟩) ?_ ?_
  rotate_left
  · intro w'
    go_simp
    with_reducible rfl
  rotate_left
  · simp only [Act.put, List.setIfInBounds_toArray, List.set_cons_zero, List.set_cons_succ, i64_w, i32_w]
    rfl
  refine pure_ (i := 14) (N := some 166) (v := ?_) (a' := ?_) #[true, true, true, true, true, true, true, true, true, true, true, true, true, true, true, false, false, false, false, false, false, false, false, false, false] rfl rfl (any_of HT_.out (by kernel_rfl)) (fun _ _ _ h => h) (Or.inl ⟨by rfl, ?_⟩) ?_ ?_
  rotate_left
  · intro w'
    go_simp
    with_reducible rfl
  rotate_left
  · simp only [Act.put, List.setIfInBounds_toArray, List.set_cons_zero, List.set_cons_succ, i64_w, i32_w]
    rfl
  refine take_ (i := 15) (N := some 167) (v := ?_) (a' := ?_) #[true, true, true, true, true, true, true, true, true, true, true, true, true, true, true, true, false, false, false, false, false, false, false, false, false] rfl rfl (take_ofW HT_.out HW_.out (by kernel_rfl)) (fun _ _ _ h => h) (Or.inl ⟨by rfl, ?_⟩) hHeld ?_ ?_
  rotate_left
  · rintro w' ⟨s0, s1, s2, s3⟩
    go_simp
    with_reducible rfl
  rotate_left
  · simp only [Act.put, List.setIfInBounds_toArray, List.set_cons_zero, List.set_cons_succ, i64_w, i32_w]
    rfl
  refine take_ (i := 17) (N := some 169) (v := ?_) (a' := ?_) #[true, true, true, true, true, true, true, true, true, true, true, true, true, true, true, true, false, true, false, false, false, false, false, false, false] rfl rfl (take_ofW HT_.out HW_.out (by kernel_rfl)) (fun _ _ _ h => h) (Or.inl ⟨by rfl, ?_⟩) hHeld ?_ ?_
  rotate_left
  · rintro w' ⟨s0, s1, s2, s3⟩
    go_simp
    with_reducible rfl
  rotate_left
  · simp only [Act.put, List.setIfInBounds_toArray, List.set_cons_zero, List.set_cons_succ, i64_w, i32_w]
    rfl
  refine one_ (i := 16) (N := some 168) #[true, true, true, true, true, true, true, true, true, true, true, true, true, true, true, true, true, true, false, false, false, false, false, false, false] rfl rfl (one_of HT_.out (by kernel_rfl)) (by decide) (fun K hK => ?_)
  refine goes_ Try.func34 (by kernel_rfl) rfl #[.agg #[.int .i64 p1, .int .i64 p2]] (by rfl) rfl rfl (by (try simp only [List.map_toArray, List.map_cons, List.map_nil]); first | done | rfl) ?_
  with_reducible refine (fraction_Ceil.calls p1 p2 u2 _ h19.out).mono ?_
  rintro e w1116 ⟨rfl, hb⟩
  refine ⟨_, rfl, ?_⟩
  replace HO := Aside0.mk (HO.out.step hb)
  clear hb
  refine hK.out _ _ ⟨HO.out.cell 8 rfl 0 rfl, HO.out.cell 8 rfl 1 rfl, HO.out.cell 9 rfl 0 rfl, HO.out.cell 9 rfl 1 rfl⟩ (fun hHeld => ?_)
  clear hK K
  refine norm_ (a' := ?_) ?_ ?_
  rotate_left
  · show Act.put _ (some 168) _ = _
    simp only [Act.put, List.setIfInBounds_toArray, List.set_cons_zero, List.set_cons_succ, i64_w, i32_w]
    rfl
  refine one_ (i := 18) (N := some 170) #[true, true, true, true, true, true, true, true, true, true, true, true, true, true, true, true, true, true, true, false, false, false, false, false, false] rfl rfl (one_of HT_.out (by kernel_rfl)) (by decide) (fun K hK => ?_)
  refine goes_ Try.func45 (by kernel_rfl) rfl #[.agg #[.int .i64 p1, .int .i64 p2]] (by rfl) rfl rfl (by (try simp only [List.map_toArray, List.map_cons, List.map_nil]); first | done | rfl) ?_
  with_reducible refine (timeboundref31_Ceil.calls p1 p2 u2 _ h20.out).mono ?_
  rintro e w1118 ⟨rfl, hb⟩
  refine ⟨_, rfl, ?_⟩
  replace HO := Aside0.mk (HO.out.step hb)
  clear hb
  refine hK.out _ _ ⟨HO.out.cell 8 rfl 0 rfl, HO.out.cell 8 rfl 1 rfl, HO.out.cell 9 rfl 0 rfl, HO.out.cell 9 rfl 1 rfl⟩ (fun hHeld => ?_)
  clear hK K
  refine norm_ (a' := ?_) ?_ ?_
  rotate_left
  · show Act.put _ (some 170) _ = _
    simp only [Act.put, List.setIfInBounds_toArray, List.set_cons_zero, List.set_cons_succ, i64_w, i32_w]
    rfl
  refine pure_ (i := 19) (N := some 171) (v := ?_) (a' := ?_) #[true, true, true, true, true, true, true, true, true, true, true, true, true, true, true, true, true, true, true, true, false, false, false, false, false] rfl rfl (any_of HT_.out (by kernel_rfl)) (fun _ _ _ h => h) (Or.inl ⟨by rfl, ?_⟩) ?_ ?_
  rotate_left
  · intro w'
    go_simp
    with_reducible rfl
  rotate_left
  · simp only [Act.put, List.setIfInBounds_toArray, List.set_cons_zero, List.set_cons_succ, i64_w, i32_w]
    rfl
  refine pure_ (i := 20) (N := some 172) (v := ?_) (a' := ?_) #[true, true, true, true, true, true, true, true, true, true, true, true, true, true, true, true, true, true, true, true, true, false, false, false, false] rfl rfl (any_of HT_.out (by kernel_rfl)) (fun _ _ _ h => h) (Or.inl ⟨by rfl, ?_⟩) ?_ ?_
  rotate_left
  · intro w'
    go_simp
    with_reducible rfl
  rotate_left
  · simp only [Act.put, List.setIfInBounds_toArray, List.set_cons_zero, List.set_cons_succ, i64_w, i32_w]
    rfl
  refine pure_ (i := 21) (N := some 173) (v := ?_) (a' := ?_) #[true, true, true, true, true, true, true, true, true, true, true, true, true, true, true, true, true, true, true, true, true, true, false, false, false] rfl rfl (any_of HT_.out (by kernel_rfl)) (fun _ _ _ h => h) (Or.inl ⟨by rfl, ?_⟩) ?_ ?_
  rotate_left
  · intro w'
    go_simp
    with_reducible rfl
  rotate_left
  · simp only [Act.put, List.setIfInBounds_toArray, List.set_cons_zero, List.set_cons_succ, i64_w, i32_w]
    rfl
  refine one_ (i := 22) (N := some 174) #[true, true, true, true, true, true, true, true, true, true, true, true, true, true, true, true, true, true, true, true, true, true, true, false, false] rfl rfl (one_of HT_.out (by kernel_rfl)) (by decide) (fun K hK => ?_)
  refine goes_ Try.func17 (by kernel_rfl) rfl #[] (by rfl) rfl rfl (by (try simp only [List.map_toArray, List.map_cons, List.map_nil]); first | done | rfl) ?_
  with_reducible refine (timeboundlaw31_awake.calls k true _ h21.out).mono ?_
  rintro e w1122 ⟨rfl, hb⟩
  refine ⟨_, rfl, ?_⟩
  replace HO := Aside0.mk (HO.out.step hb)
  clear hb
  refine hK.out _ _ ⟨HO.out.cell 8 rfl 0 rfl, HO.out.cell 8 rfl 1 rfl, HO.out.cell 9 rfl 0 rfl, HO.out.cell 9 rfl 1 rfl⟩ (fun hHeld => ?_)
  clear hK K
  refine norm_ (a' := ?_) ?_ ?_
  rotate_left
  · show Act.put _ (some 174) _ = _
    simp only [Act.put, List.setIfInBounds_toArray, List.set_cons_zero, List.set_cons_succ, i64_w, i32_w]
    rfl
  refine pure_ (i := 23) (N := some 175) (v := ?_) (a' := ?_) #[true, true, true, true, true, true, true, true, true, true, true, true, true, true, true, true, true, true, true, true, true, true, true, true, false] rfl rfl (any_of HT_.out (by kernel_rfl)) (fun _ _ _ h => h) (Or.inl ⟨by rfl, ?_⟩) ?_ ?_
  rotate_left
  · intro w'
    go_simp
    with_reducible rfl
  rotate_left
  · simp only [Act.put, List.setIfInBounds_toArray, List.set_cons_zero, List.set_cons_succ, i64_w, i32_w]
    rfl
  refine pure_ (i := 24) (N := some 10) (v := ?_) (a' := ?_) #[true, true, true, true, true, true, true, true, true, true, true, true, true, true, true, true, true, true, true, true, true, true, true, true, true] rfl rfl (any_of HT_.out (by kernel_rfl)) (fun _ _ _ h => h) (Or.inl ⟨by rfl, ?_⟩) ?_ ?_
  rotate_left
  · intro w'
    go_simp
    with_reducible rfl
  rotate_left
  · simp only [Act.put, List.setIfInBounds_toArray, List.set_cons_zero, List.set_cons_succ, i64_w, i32_w]
    rfl
  refine done_ (done_of HT_.out (by kernel_rfl)) ?_
  try go_wp2
  go_ret
  exact ⟨rfl, HO.out.below⟩
end Go.Proofs.Ytjoddcfcolhimaa.QFr
