/- Behind accesses to as many different lines of a set as it has ways, its contents are these lines, whatever they were: for up to 400 numbers that make a cache and two valid contents, and up to 50 further accesses. -/
import Derived.Test.YtfdiagegpahcoaaFacts
namespace Go.Proofs.Ytfdiagegpahcoaa.QCd
set_option linter.unusedVariables false
set_option linter.unusedSimpArgs false
open Go.RowKit Go.Proofs.Ytfdiagegpahcoaa.QCa Go.Proofs.Ytfdiagegpahcoaa.QCb Go.Proofs.YtfdiagegpahcoaaW.PrintWords Go.Proofs.YtfdiagegpahcoaaW.PrintLast Go.Proofs.YtfdiagegpahcoaaW.PrintMore Mat
/-- What holds behind n accesses: a common begin of n lines. -/
def Inv (c0 c1 : Int) (n : Nat) (x y : List (List Int)) : Prop := GoodM c0 c1 x ∧ GoodM c0 c1 y ∧ ∃ q s1 s2 : List Int, x.getD 0 [] = q ++ s1 ∧ y.getD 0 [] = q ++ s2 ∧ q.length = n ∧ ∀ v ∈ q, ∃ u b : Int, 0 ≤ u ∧ u < n ∧ 0 ≤ b ∧ b ≤ 1 ∧ v = c0 * (u + b * 40)
def Inv2 (c0 c1 : Int) (x y : List (List Int)) : Prop := GoodM c0 c1 x ∧ GoodM c0 c1 y ∧ x.getD 0 [] = y.getD 0 [] ∧ ∀ v ∈ x.getD 0 [], 0 ≤ v
theorem at_zero {c0 c2 e : Int} (h0 : 0 < c0) (h2 : 0 < c2) (he : 0 ≤ e) : c2 * c0 * e / c2 = c0 * e ∧ (c2 * c0 * e / c2 % c0).toNat = 0 := by
  have e1 : c2 * c0 * e / c2 = c0 * e := by rw [Int.mul_assoc]; exact Int.mul_ediv_cancel_left _ (by omega)
  refine ⟨e1, ?_⟩
  rw [e1, Int.mul_emod_right]; rfl
theorem addr_range {c0 c2 e : Int} (h0 : 0 < c0 ∧ c0 ≤ 4) (h2 : 0 < c2 ∧ c2 ≤ 4) (he : 0 ≤ e ∧ e ≤ 100) : 0 ≤ c2 * c0 * e ∧ c2 * c0 * e ≤ 1600 ∧ 1 ≤ c2 * c0 ∧ c2 * c0 ≤ 16 := by
  have a1 : 1 * 1 ≤ c2 * c0 := Int.mul_le_mul (by omega) (by omega) (by omega) (by omega)
  have a2 : c2 * c0 ≤ 4 * 4 := Int.mul_le_mul h2.2 h0.2 (by omega) (by omega)
  have a3 : c2 * c0 * e ≤ 16 * 100 := Int.mul_le_mul (by omega) he.2 he.1 (by omega)
  have a4 : 0 ≤ c2 * c0 * e := Int.mul_nonneg (by omega) he.1
  omega
theorem step_row0 {c0 c1 c2 e : Int} {x : List (List Int)} (hx : GoodM c0 c1 x) (h0 : 0 < c0) (h2 : 0 < c2) (he : 0 ≤ e) : (stepL c0 c2 x (c2 * c0 * e)).getD 0 [] = frontL (c0 * e) (x.getD 0 []) := by
  obtain ⟨e1, e2⟩ := at_zero h0 h2 he
  have hl : 0 < x.length := by have := hx.1; omega
  unfold stepL
  rw [e2, e1]
  simp [List.getD_eq_getElem?_getD, hl]
theorem Inv.step {c0 c1 c2 t : Int} {n : Nat} {x y : List (List Int)} (h : Inv c0 c1 n x y) (hc : confOk c0 c1 c2) (h0 : 0 < c0 ∧ c0 ≤ 4) (h2 : 0 < c2 ∧ c2 ≤ 4) (hn : (n : Int) < c1) (ht : 0 ≤ t ∧ t ≤ 1) : Inv c0 c1 (n + 1) (stepL c0 c2 x (c2 * c0 * (n + t * 40))) (stepL c0 c2 y (c2 * c0 * (n + t * 40))) := by
  obtain ⟨hx, hy, q, s1, s2, e1, e2, hq, hv⟩ := h
  have hc1 := hc.2.1
  have hr := addr_range h0 h2 (e := n + t * 40) ⟨by omega, by omega⟩
  have hxl : 0 < x.length := by have := hx.1; omega
  have hyl : 0 < y.length := by have := hy.1; omega
  have l1 : (x.getD 0 []).length = c1.toNat := by rw [getD_at hxl]; exact (hx.2 0 hxl).length
  have l2 : (y.getD 0 []).length = c1.toNat := by rw [getD_at hyl]; exact (hy.2 0 hyl).length
  rw [e1, List.length_append] at l1
  rw [e2, List.length_append] at l2
  have hnew : c0 * (n + t * 40) ∉ q := fun hm => by
    obtain ⟨u, b, hu0, hu1, hb0, hb1, e⟩ := hv _ hm
    have := Int.eq_of_mul_eq_mul_left (show c0 ≠ 0 by omega) e
    omega
  obtain ⟨t1, f1, g1⟩ := front_new hnew (s := s1) (by omega)
  obtain ⟨t2, f2, g2⟩ := front_new hnew (s := s2) (by omega)
  refine ⟨hx.step hc (by omega) hr.1 (by omega), hy.step hc (by omega) hr.1 (by omega), c0 * (n + t * 40) :: q, t1, t2, ?_, ?_, by simp [hq], fun v hv' => ?_⟩
  · rw [step_row0 hx h0.1 h2.1 (by omega), e1, f1]
  · rw [step_row0 hy h0.1 h2.1 (by omega), e2, f2]
  · rcases List.mem_cons.1 hv' with rfl | hv'
    · exact ⟨n, t, by omega, by omega, ht.1, ht.2, rfl⟩
    · obtain ⟨u, b, hu0, hu1, hb0, hb1, e⟩ := hv v hv'
      exact ⟨u, b, hu0, by omega, hb0, hb1, e⟩
theorem Inv.done {c0 c1 c2 : Int} {n : Nat} {x y : List (List Int)} (h : Inv c0 c1 n x y) (hc : confOk c0 c1 c2) (h0 : 0 < c0) (hn : (n : Int) = c1) : Inv2 c0 c1 x y := by
  obtain ⟨hx, hy, q, s1, s2, e1, e2, hq, hv⟩ := h
  have hc1 := hc.2.1
  have hxl : 0 < x.length := by have := hx.1; omega
  have hyl : 0 < y.length := by have := hy.1; omega
  have l1 : (x.getD 0 []).length = c1.toNat := by rw [getD_at hxl]; exact (hx.2 0 hxl).length
  have l2 : (y.getD 0 []).length = c1.toNat := by rw [getD_at hyl]; exact (hy.2 0 hyl).length
  rw [e1, List.length_append] at l1
  rw [e2, List.length_append] at l2
  obtain rfl := List.eq_nil_of_length_eq_zero (show s1.length = 0 by omega)
  obtain rfl := List.eq_nil_of_length_eq_zero (show s2.length = 0 by omega)
  refine ⟨hx, hy, by rw [e1, e2], fun v hv' => ?_⟩
  rw [e1, List.append_nil] at hv'
  obtain ⟨u, b, hu0, hu1, hb0, hb1, rfl⟩ := hv v hv'
  exact Int.mul_nonneg (by omega) (by omega)
theorem Inv2.step {c0 c1 c2 e : Int} {x y : List (List Int)} (h : Inv2 c0 c1 x y) (hc : confOk c0 c1 c2) (h0 : 0 < c0 ∧ c0 ≤ 4) (h2 : 0 < c2 ∧ c2 ≤ 4) (he : 0 ≤ e ∧ e ≤ 100) : Inv2 c0 c1 (stepL c0 c2 x (c2 * c0 * e)) (stepL c0 c2 y (c2 * c0 * e)) := by
  obtain ⟨hx, hy, e1, hv⟩ := h
  have hr := addr_range h0 h2 he
  refine ⟨hx.step hc (by omega) hr.1 (by omega), hy.step hc (by omega) hr.1 (by omega), by rw [step_row0 hx h0.1 h2.1 he.1, step_row0 hy h0.1 h2.1 he.1, e1], fun v hv' => ?_⟩
  rw [step_row0 hx h0.1 h2.1 he.1, frontL] at hv'
  rcases List.mem_cons.1 hv' with rfl | hv'
  · exact Int.mul_nonneg (by omega) he.1
  · split at hv'
    · exact hv v (List.mem_of_mem_erase hv')
    · exact hv v ((List.dropLast_sublist _).mem hv')
theorem row0 {w0 W : World} {D : Option (Nat × List Int × Int)} {L : List Blk} {M : List Mx} (h : OwnD w0 W D L M) (i : Nat) {A : Option Addr} {c : Nat} {l : List (List Int)} (hi : M[i]? = some (.mat A c l)) (hl : 0 < l.length) : ∃ ad Ax cx, A = some ad ∧ W.cell? ad = some (.slice Ax (l.getD 0 []).length cx) ∧ ∀ (j : Nat) (v : Int), (l.getD 0 [])[j]? = some v → ∃ ax, Ax = some ax ∧ W.cell? (ax.add j) = some (.int .i64 v) := by
  obtain ⟨ad, Ax, cx, rfl, h1, h2, h3⟩ := QCa.at_L1 (h.C i hi) 0 (by omega) (by omega)
  rw [show ad.add (0 : Int).toNat = ad from by cases ad; rfl, show QCa.rd_L1 l 0 = l.getD 0 [] from rfl] at h1
  refine ⟨ad, Ax, cx, rfl, h1, fun j v hj => ?_⟩
  have hjl := (List.getElem?_eq_some_iff.1 hj).1
  obtain ⟨ax, rfl, hx⟩ := Kd.at_int h3 j (by omega) (by rw [show QCa.rd_L1 l 0 = l.getD 0 [] from rfl]; omega)
  rw [Int.toNat_natCast, show QCa.rd_L1 l 0 = l.getD 0 [] from rfl, rd_nat hjl] at hx
  refine ⟨ax, rfl, hx.trans ?_⟩
  rw [List.getElem?_eq_getElem hjl] at hj
  rw [Option.some.inj hj]
theorem touch_any {c0 c1 c2 a : Int} {x : List (List Int)} (hc : confOk c0 c1 c2) (hg : GoodM c0 c1 x) (hz : c0 ≠ 0) (h0 : 0 ≤ a) (h1 : a ≤ 1048576) : ∃ b, cache_Touch.f c0 c1 c2 x a = some (stepL c0 c2 x a, b, 0) := ⟨_, touch_ok hc hg hz h0 h1⟩
set_option maxHeartbeats 2000000 in
set_option maxRecDepth 100000 in
theorem CacheForgets_off (A0 : Option Addr) (k0 : Nat) (l0 : List Int) (A1 : Option Addr) (k1 : Nat) (l1 : List Int) (w : World) (hr0 : Kd.C (Kd.int .i64) w A0 l0.length l0) (hk0 : l0.length ≤ k0) (hr1 : Kd.C (Kd.int .u8) w A1 l1.length l1) (hk1 : l1.length ≤ k1) (hw1 : ∀ x ∈ l1, 0 ≤ x ∧ x ≤ 255) (h : ¬ (l0.length ≤ 400 ∧ l1.length ≤ 50)) : Calls Try.prog 5 #[.slice A0 l0.length k0, .slice A1 l1.length k1] w fun e w' => e = .returned (.bool true) ∧ Below w.heap.size w w' := by
  have haw := awake_ev (Nat.le_refl 10)
  have hla := hr1.2.1
  replace hr0 := Aside0.mk hr0
  clear hr1
  replace haw := Aside0.mk haw
  have HO := Aside0.mk (Below.refl w.heap.size w)
  by_cases h0 : l0.length ≤ 400
  · have hf : Aside0 (timeboundmake_Few.f l0 = some true) := ⟨by unfold timeboundmake_Few.f; rw [decide_eq_true (by omega)]⟩
    have h1 : (50 : Int) < l1.length := by omega
    clear h h0 hw1
    go_enter Try.func5, Try.ntmps5
    go_wp2_with (first
      | (go_at_call 9; refine (timeboundmake_Few.calls _ _ _ true _ hr0.out hk0 hf.out).mono ?_; rintro e w' ⟨rfl, ⟨nd, rfl⟩⟩; replace HO := Aside0.mk (pw_below_drewN HO.out nd))
      | (go_at_call 10; refine (timeboundlaw22_awake.calls 10 true _ haw.out).mono ?_; rintro e w9 ⟨rfl, hbl⟩; replace HO := Aside0.mk (below_step HO.out hbl)))
    go_ret
    exact ⟨rfl, HO.out⟩
  · have hf : Aside0 (timeboundmake_Few.f l0 = some false) := ⟨by unfold timeboundmake_Few.f; rw [decide_eq_false (by omega)]⟩
    clear h h0 hw1
    go_enter Try.func5, Try.ntmps5
    go_wp2_with (first
      | (go_at_call 9; refine (timeboundmake_Few.calls _ _ _ false _ hr0.out hk0 hf.out).mono ?_; rintro e w' ⟨rfl, ⟨nd, rfl⟩⟩; replace HO := Aside0.mk (pw_below_drewN HO.out nd))
      | (go_at_call 10; refine (timeboundlaw22_awake.calls 10 true _ haw.out).mono ?_; rintro e w9 ⟨rfl, hbl⟩; replace HO := Aside0.mk (below_step HO.out hbl)))
    go_ret
    exact ⟨rfl, HO.out⟩
set_option maxHeartbeats 4000000 in
set_option maxRecDepth 100000 in
theorem CacheForgets_zero (A0 : Option Addr) (k0 : Nat) (l0 : List Int) (A1 : Option Addr) (k1 : Nat) (l1 : List Int) (w : World) (hr0 : Kd.C (Kd.int .i64) w A0 l0.length l0) (hk0 : l0.length ≤ k0) (hr1 : Kd.C (Kd.int .u8) w A1 l1.length l1) (hk1 : l1.length ≤ k1) (hw1 : ∀ x ∈ l1, 0 ≤ x ∧ x ≤ 255) (h0 : l0.length ≤ 400) (h1 : l1.length ≤ 50) (c0 c1 c2 q : Int) (hC : timeboundmake_Cache.f l0 0 = some (c0, c1, c2, q)) (hz : c0 = 0) : Calls Try.prog 5 #[.slice A0 l0.length k0, .slice A1 l1.length k1] w fun e w' => e = .returned (.bool true) ∧ Below w.heap.size w w' := by
  have hf : Aside0 (timeboundmake_Few.f l0 = some true) := ⟨by unfold timeboundmake_Few.f; rw [decide_eq_true (by omega)]⟩
  have haw := Aside0.mk (awake_ev (Nat.le_refl 10))
  have h50 : ¬ (50 : Int) < l1.length := by omega
  replace hr0 := Aside0.mk hr0
  replace hr1 := Aside0.mk hr1
  replace hw1 := Aside0.mk hw1
  replace hC := Aside0.mk hC
  have hcb : (c0 == 0) = true := by simpa using hz
  replace hz := Aside0.mk hz
  have HO := Aside0.mk (OwnD.start w)
  go_enter Try.func5, Try.ntmps5
  go_wp2_with (first
    | (go_at_call 9; refine (timeboundmake_Few.calls _ _ _ true _ hr0.out hk0 hf.out).mono ?_; rintro e w' ⟨rfl, ⟨nd, rfl⟩⟩; replace HO := Aside0.mk (HO.out.drewN nd))
    | (go_at_call 11; (with_reducible refine (timeboundmake_New.calls _ _ l0 l0 0 w _ HO.out.below hr0.out hk0 rfl).mono ?_); rintro e w1 ⟨g, rfl, hI2, hB2, hb2⟩; replace HO : Aside0 (OwnD w w1 (some (g, l0, 0)) [] []) := Aside0.mk (HO.out.withDeck hI2 hb2); clear hI2 hB2 hb2)
    | (go_at_call 12; (with_reducible refine (timeboundmake_Cache.calls _ _ _ _ _ _ _ _ _ HO.out.isDeck HO.out.below hC.out).mono ?_); rintro e w2 ⟨rfl, hI2, hB2, hK2⟩; replace HO : Aside0 (OwnD w w2 (some (g, l0, q)) [] []) := Aside0.mk (HO.out.next hI2 hB2 hK2); clear hI2 hB2 hK2; )
    | ((with_reducible refine gate_dst (N := 6) rfl ?_); refine box_event ?hg (N := 6) ?hd (cs := #[.int .i64 0, .int .i64 0, .int .i64 0]) (t := 29) ?hr ?_; (case hd => rfl); (case hg => rfl); (case hr => first | (go_simp; done) | (go_simp; rfl)); intro gc hg w3 hb hbl; replace HO : Aside0 (OwnD w w3 (some (g, l0, q)) [(gc, 29, [.int .i64 0, .int .i64 0, .int .i64 0])] []) := Aside0.mk (HO.out.new hg hb hbl); clear hg hb hbl; have x_gc_0 := HO.out.cell 0 rfl 0 rfl; have x_gc_1 := HO.out.cell 0 rfl 1 rfl; have x_gc_2 := HO.out.cell 0 rfl 2 rfl; have f_gc_0 := HO.out.frozen 0 rfl 0; have f_gc_1 := HO.out.frozen 0 rfl 1; have f_gc_2 := HO.out.frozen 0 rfl 2)
    | ((with_reducible refine gate_store (t := 29) (p := 6) rfl ?_); refine store_event (t := 29) (p := 6) (v := .tmp 26) (w1 := ((w3.setCell ⟨gc, 0, none⟩ (.int .i64 c0)).setCell ⟨gc, 1, none⟩ (.int .i64 c1)).setCell ⟨gc, 2, none⟩ (.int .i64 c2)) ?hg ?ho ?hn ?hr ?_; (case ho => rfl); (case hg => rfl); (case hn => rfl); (case hr => first | (go_simp; done) | (go_simp; rfl)); intro w4 hw; replace HO : Aside0 (OwnD w w4 (some (g, l0, q)) [(gc, 29, [.int .i64 c0, .int .i64 c1, .int .i64 c2])] []) := Aside0.mk (by rw [hw]; exact (((HO.out.set 0 rfl 0 (.int .i64 c0)).set 0 rfl 1 (.int .i64 c1)).set 0 rfl 2 (.int .i64 c2))); clear hw; (try clear x_gc_0); (try clear f_gc_0); (try clear x_gc_1); (try clear f_gc_1); (try clear x_gc_2); (try clear f_gc_2); have x_gc_0 := HO.out.cell 0 rfl 0 rfl; have x_gc_1 := HO.out.cell 0 rfl 1 rfl; have x_gc_2 := HO.out.cell 0 rfl 2 rfl)
    | (go_at_call 10; refine (timeboundlaw22_awake.calls 10 true _ haw.out).mono ?_; rintro e wz ⟨rfl, hbl⟩; replace HO := Aside0.mk (HO.out.step hbl); clear hbl))
  go_ret
  exact ⟨rfl, HO.out.below⟩
set_option maxHeartbeats 8000000 in
set_option maxRecDepth 100000 in
theorem CacheForgets_on (A0 : Option Addr) (k0 : Nat) (l0 : List Int) (A1 : Option Addr) (k1 : Nat) (l1 : List Int) (w : World) (hr0 : Kd.C (Kd.int .i64) w A0 l0.length l0) (hk0 : l0.length ≤ k0) (hr1 : Kd.C (Kd.int .u8) w A1 l1.length l1) (hk1 : l1.length ≤ k1) (hw1 : ∀ x ∈ l1, 0 ≤ x ∧ x ≤ 255) (h0 : l0.length ≤ 400) (h1 : l1.length ≤ 50) (c0 c1 c2 q : Int) (hC : timeboundmake_Cache.f l0 0 = some (c0, c1, c2, q)) (hc : confOk c0 c1 c2) (hc0 : 0 < c0 ∧ c0 ≤ 4) (hc1 : 1 ≤ c1 ∧ c1 ≤ 3) (hc2 : 0 < c2 ∧ c2 ≤ 4) (q2 q3 : Int) (x y : List (List Int)) (hL1 : QCb.timeboundmake_Lines.f l0 q c0 c1 c2 = some (x, q2)) (hL2 : QCb.timeboundmake_Lines.f l0 q2 c0 c1 c2 = some (y, q3)) (hq3 : 0 ≤ q3 ∧ q3 ≤ l0.length) (hI : Inv c0 c1 0 x y) : Calls Try.prog 5 #[.slice A0 l0.length k0, .slice A1 l1.length k1] w fun e w' => e = .returned (.bool true) ∧ Below w.heap.size w w' := by
  have hf : Aside0 (timeboundmake_Few.f l0 = some true) := ⟨by unfold timeboundmake_Few.f; rw [decide_eq_true (by omega)]⟩
  have haw := Aside0.mk (awake_ev (Nat.le_refl 10))
  have h50 : ¬ (50 : Int) < l1.length := by omega
  replace hr0 := Aside0.mk hr0
  replace hr1 := Aside0.mk hr1
  replace hw1 := Aside0.mk hw1
  replace hC := Aside0.mk hC
  have hcb : (c0 == 0) = false := beq_eq_false_iff_ne.2 (by omega)
  replace hL1 := Aside0.mk hL1
  replace hL2 := Aside0.mk hL2
  replace hI := Aside0.mk hI
  replace hc := Aside0.mk hc
  replace hq3 := Aside0.mk hq3
  obtain ⟨hc0a, hc0b⟩ := hc0
  obtain ⟨hc1a, hc1b⟩ := hc1
  obtain ⟨hc2a, hc2b⟩ := hc2
  have HO := Aside0.mk (OwnD.start w)
  go_enter Try.func5, Try.ntmps5
  go_wp2_with (first
    | (go_at_call 9; refine (timeboundmake_Few.calls _ _ _ true _ hr0.out hk0 hf.out).mono ?_; rintro e w' ⟨rfl, ⟨nd, rfl⟩⟩; replace HO := Aside0.mk (HO.out.drewN nd))
    | (go_at_call 11; (with_reducible refine (timeboundmake_New.calls _ _ l0 l0 0 w _ HO.out.below hr0.out hk0 rfl).mono ?_); rintro e w1 ⟨g, rfl, hI2, hB2, hb2⟩; replace HO : Aside0 (OwnD w w1 (some (g, l0, 0)) [] []) := Aside0.mk (HO.out.withDeck hI2 hb2); clear hI2 hB2 hb2)
    | (go_at_call 12; (with_reducible refine (timeboundmake_Cache.calls _ _ _ _ _ _ _ _ _ HO.out.isDeck HO.out.below hC.out).mono ?_); rintro e w2 ⟨rfl, hI2, hB2, hK2⟩; replace HO : Aside0 (OwnD w w2 (some (g, l0, q)) [] []) := Aside0.mk (HO.out.next hI2 hB2 hK2); clear hI2 hB2 hK2; )
    | ((with_reducible refine gate_dst (N := 6) rfl ?_); refine box_event ?hg (N := 6) ?hd (cs := #[.int .i64 0, .int .i64 0, .int .i64 0]) (t := 29) ?hr ?_; (case hd => rfl); (case hg => rfl); (case hr => first | (go_simp; done) | (go_simp; rfl)); intro gc hg w3 hb hbl; replace HO : Aside0 (OwnD w w3 (some (g, l0, q)) [(gc, 29, [.int .i64 0, .int .i64 0, .int .i64 0])] []) := Aside0.mk (HO.out.new hg hb hbl); clear hg hb hbl; have x_gc_0 := HO.out.cell 0 rfl 0 rfl; have x_gc_1 := HO.out.cell 0 rfl 1 rfl; have x_gc_2 := HO.out.cell 0 rfl 2 rfl; have f_gc_0 := HO.out.frozen 0 rfl 0; have f_gc_1 := HO.out.frozen 0 rfl 1; have f_gc_2 := HO.out.frozen 0 rfl 2)
    | ((with_reducible refine gate_store (t := 29) (p := 6) rfl ?_); refine store_event (t := 29) (p := 6) (v := .tmp 26) (w1 := ((w3.setCell ⟨gc, 0, none⟩ (.int .i64 c0)).setCell ⟨gc, 1, none⟩ (.int .i64 c1)).setCell ⟨gc, 2, none⟩ (.int .i64 c2)) ?hg ?ho ?hn ?hr ?_; (case ho => rfl); (case hg => rfl); (case hn => rfl); (case hr => first | (go_simp; done) | (go_simp; rfl)); intro w4 hw; replace HO : Aside0 (OwnD w w4 (some (g, l0, q)) [(gc, 29, [.int .i64 c0, .int .i64 c1, .int .i64 c2])] []) := Aside0.mk (by rw [hw]; exact (((HO.out.set 0 rfl 0 (.int .i64 c0)).set 0 rfl 1 (.int .i64 c1)).set 0 rfl 2 (.int .i64 c2))); clear hw; (try clear x_gc_0); (try clear f_gc_0); (try clear x_gc_1); (try clear f_gc_1); (try clear x_gc_2); (try clear f_gc_2); have x_gc_0 := HO.out.cell 0 rfl 0 rfl; have x_gc_1 := HO.out.cell 0 rfl 1 rfl; have x_gc_2 := HO.out.cell 0 rfl 2 rfl))
  go_upto_region 7 with (fail)
  (try simp only [Act.put, List.setIfInBounds_toArray, List.set_cons_succ, List.set_cons_zero])
  go_cut [7, 8] (fun v7 v8 wc => ∃ (gx gy : Nat) (A : Option Addr) (cA : Nat) (B : Option Addr) (cB : Nat), v7 = .pointer (some ⟨gx, 0, none⟩) ∧ v8 = .pointer (some ⟨gy, 0, none⟩) ∧ Aside0 (OwnD w wc (some (g, l0, q3)) [(gx, 33, [.slice A x.length cA]), (gy, 33, [.slice B y.length cB]), (gc, 29, [.int .i64 c0, .int .i64 c1, .int .i64 c2])] [.mat A cA x, .mat B cB y]))
  case first =>
    go_region_held3 (fun w' => w'.cell? ⟨gc, 0, none⟩ = some (.int .i64 c0) ∧ w'.cell? ⟨gc, 1, none⟩ = some (.int .i64 c1) ∧ w'.cell? ⟨gc, 2, none⟩ = some (.int .i64 c2)) (go_keep) (first
    | (go_at_call 13; have H2 := HO.out.drew; (with_reducible refine (QCb.timeboundmake_Lines.calls g l0 q c0 c1 c2 x q2 w _ H2.isDeck H2.below hL1.out).mono ?_); rintro e v0 ⟨v, rfl, hS, hI2, hB2, hK2⟩; obtain ⟨A, cA, rfl, HO2⟩ := H2.madeNext hS hI2 hB2 hK2; replace HO := Aside0.mk HO2; clear hS hI2 hB2 hK2 HO2 H2; have x_gc_0 : World.cell? _ ⟨gc, 0, none⟩ = _ := HO.out.cell 0 rfl 0 rfl; have x_gc_1 : World.cell? _ ⟨gc, 1, none⟩ = _ := HO.out.cell 0 rfl 1 rfl; have x_gc_2 : World.cell? _ ⟨gc, 2, none⟩ = _ := HO.out.cell 0 rfl 2 rfl; have t_gc : gc < _ := HO.out.lt 0 rfl; have ngc_gc := World.new_ne _ _ x_gc_0; dsimp only at ngc_gc)
    | (go_at_call 13; have H2 := (HO.out.allocN (w4.heap.size) rfl [.slice none 0 0] 33).drew; (with_reducible refine (QCb.timeboundmake_Lines.calls g l0 q c0 c1 c2 x q2 w _ H2.isDeck H2.below hL1.out).mono ?_); rintro e v0 ⟨v, rfl, hS, hI2, hB2, hK2⟩; obtain ⟨A, cA, rfl, HO2⟩ := H2.madeNext hS hI2 hB2 hK2; replace HO := Aside0.mk HO2; clear hS hI2 hB2 hK2 HO2 H2; have x_gc_0 : World.cell? _ ⟨gc, 0, none⟩ = _ := HO.out.cell 1 rfl 0 rfl; have x_gc_1 : World.cell? _ ⟨gc, 1, none⟩ = _ := HO.out.cell 1 rfl 1 rfl; have x_gc_2 : World.cell? _ ⟨gc, 2, none⟩ = _ := HO.out.cell 1 rfl 2 rfl; have t_gc : gc < _ := HO.out.lt 1 rfl; have ngc_gc := World.new_ne _ _ x_gc_0; dsimp only at ngc_gc; have xb0 := HO.out.cell 0 rfl 0 rfl; have fb0 := HO.out.frozen 0 rfl 0; have lb0 := HO.out.lt 0 rfl; have nb0_gc := HO.out.ne 0 1 rfl rfl (by decide))
    | (go_at_call 13; have H2 := ((HO.out.allocN (w4.heap.size) rfl [.slice none 0 0] 33).allocN (w4.heap.size + 1) (size_alloc _ _) [.slice none 0 0] 33).drew; (with_reducible refine (QCb.timeboundmake_Lines.calls g l0 q c0 c1 c2 x q2 w _ H2.isDeck H2.below hL1.out).mono ?_); rintro e v0 ⟨v, rfl, hS, hI2, hB2, hK2⟩; obtain ⟨A, cA, rfl, HO2⟩ := H2.madeNext hS hI2 hB2 hK2; replace HO := Aside0.mk HO2; clear hS hI2 hB2 hK2 HO2 H2; have x_gc_0 : World.cell? _ ⟨gc, 0, none⟩ = _ := HO.out.cell 2 rfl 0 rfl; have x_gc_1 : World.cell? _ ⟨gc, 1, none⟩ = _ := HO.out.cell 2 rfl 1 rfl; have x_gc_2 : World.cell? _ ⟨gc, 2, none⟩ = _ := HO.out.cell 2 rfl 2 rfl; have t_gc : gc < _ := HO.out.lt 2 rfl; have ngc_gc := World.new_ne _ _ x_gc_0; dsimp only at ngc_gc; have xb0 := HO.out.cell 0 rfl 0 rfl; have fb0 := HO.out.frozen 0 rfl 0; have lb0 := HO.out.lt 0 rfl; have nb0_gc := HO.out.ne 0 2 rfl rfl (by decide); have nbb0_1 := HO.out.ne 0 1 rfl rfl (by decide); have xb1 := HO.out.cell 1 rfl 0 rfl; have fb1 := HO.out.frozen 1 rfl 0; have lb1 := HO.out.lt 1 rfl; have nb1_gc := HO.out.ne 1 2 rfl rfl (by decide); have nbb1_0 := HO.out.ne 1 0 rfl rfl (by decide))
    | (go_at_call 13; have H2 := HO.out; (with_reducible refine (QCb.timeboundmake_Lines.calls g l0 q2 c0 c1 c2 y q3 w _ H2.isDeck H2.below hL2.out).mono ?_); rintro e v1 ⟨v, rfl, hS, hI2, hB2, hK2⟩; obtain ⟨B, cB, rfl, HO2⟩ := H2.madeNext hS hI2 hB2 hK2; replace HO := Aside0.mk HO2; clear hS hI2 hB2 hK2 HO2 H2; (first | (have x_gc_0 : World.cell? _ ⟨gc, 0, none⟩ = _ := HO.out.cell 0 rfl 0 rfl; have x_gc_1 : World.cell? _ ⟨gc, 1, none⟩ = _ := HO.out.cell 0 rfl 1 rfl; have x_gc_2 : World.cell? _ ⟨gc, 2, none⟩ = _ := HO.out.cell 0 rfl 2 rfl; have t_gc : gc < _ := HO.out.lt 0 rfl; have ngc_gc := World.new_ne _ _ x_gc_0; dsimp only at ngc_gc) | (have x_gc_0 : World.cell? _ ⟨gc, 0, none⟩ = _ := HO.out.cell 1 rfl 0 rfl; have x_gc_1 : World.cell? _ ⟨gc, 1, none⟩ = _ := HO.out.cell 1 rfl 1 rfl; have x_gc_2 : World.cell? _ ⟨gc, 2, none⟩ = _ := HO.out.cell 1 rfl 2 rfl; have t_gc : gc < _ := HO.out.lt 1 rfl; have ngc_gc := World.new_ne _ _ x_gc_0; dsimp only at ngc_gc; have xb0 := HO.out.cell 0 rfl 0 rfl; have fb0 := HO.out.frozen 0 rfl 0; have lb0 := HO.out.lt 0 rfl; have nb0_gc := HO.out.ne 0 1 rfl rfl (by decide)) | (have x_gc_0 : World.cell? _ ⟨gc, 0, none⟩ = _ := HO.out.cell 2 rfl 0 rfl; have x_gc_1 : World.cell? _ ⟨gc, 1, none⟩ = _ := HO.out.cell 2 rfl 1 rfl; have x_gc_2 : World.cell? _ ⟨gc, 2, none⟩ = _ := HO.out.cell 2 rfl 2 rfl; have t_gc : gc < _ := HO.out.lt 2 rfl; have ngc_gc := World.new_ne _ _ x_gc_0; dsimp only at ngc_gc; have xb0 := HO.out.cell 0 rfl 0 rfl; have fb0 := HO.out.frozen 0 rfl 0; have lb0 := HO.out.lt 0 rfl; have nb0_gc := HO.out.ne 0 2 rfl rfl (by decide); have nbb0_1 := HO.out.ne 0 1 rfl rfl (by decide); have xb1 := HO.out.cell 1 rfl 0 rfl; have fb1 := HO.out.frozen 1 rfl 0; have lb1 := HO.out.lt 1 rfl; have nb1_gc := HO.out.ne 1 2 rfl rfl (by decide); have nbb1_0 := HO.out.ne 1 0 rfl rfl (by decide))))
    | (go_at_call 13; have H2 := (HO.out.allocN (v0.heap.size) rfl [.slice none 0 0] 33); (with_reducible refine (QCb.timeboundmake_Lines.calls g l0 q2 c0 c1 c2 y q3 w _ H2.isDeck H2.below hL2.out).mono ?_); rintro e v1 ⟨v, rfl, hS, hI2, hB2, hK2⟩; obtain ⟨B, cB, rfl, HO2⟩ := H2.madeNext hS hI2 hB2 hK2; replace HO := Aside0.mk HO2; clear hS hI2 hB2 hK2 HO2 H2; (first | (have x_gc_0 : World.cell? _ ⟨gc, 0, none⟩ = _ := HO.out.cell 1 rfl 0 rfl; have x_gc_1 : World.cell? _ ⟨gc, 1, none⟩ = _ := HO.out.cell 1 rfl 1 rfl; have x_gc_2 : World.cell? _ ⟨gc, 2, none⟩ = _ := HO.out.cell 1 rfl 2 rfl; have t_gc : gc < _ := HO.out.lt 1 rfl; have ngc_gc := World.new_ne _ _ x_gc_0; dsimp only at ngc_gc; have xb0 := HO.out.cell 0 rfl 0 rfl; have fb0 := HO.out.frozen 0 rfl 0; have lb0 := HO.out.lt 0 rfl; have nb0_gc := HO.out.ne 0 1 rfl rfl (by decide)) | (have x_gc_0 : World.cell? _ ⟨gc, 0, none⟩ = _ := HO.out.cell 2 rfl 0 rfl; have x_gc_1 : World.cell? _ ⟨gc, 1, none⟩ = _ := HO.out.cell 2 rfl 1 rfl; have x_gc_2 : World.cell? _ ⟨gc, 2, none⟩ = _ := HO.out.cell 2 rfl 2 rfl; have t_gc : gc < _ := HO.out.lt 2 rfl; have ngc_gc := World.new_ne _ _ x_gc_0; dsimp only at ngc_gc; have xb0 := HO.out.cell 0 rfl 0 rfl; have fb0 := HO.out.frozen 0 rfl 0; have lb0 := HO.out.lt 0 rfl; have nb0_gc := HO.out.ne 0 2 rfl rfl (by decide); have nbb0_1 := HO.out.ne 0 1 rfl rfl (by decide); have xb1 := HO.out.cell 1 rfl 0 rfl; have fb1 := HO.out.frozen 1 rfl 0; have lb1 := HO.out.lt 1 rfl; have nb1_gc := HO.out.ne 1 2 rfl rfl (by decide); have nbb1_0 := HO.out.ne 1 0 rfl rfl (by decide))))
    | (go_at_call 13; have H2 := ((HO.out.allocN (v0.heap.size) rfl [.slice none 0 0] 33).allocN (v0.heap.size + 1) (size_alloc _ _) [.slice none 0 0] 33); (with_reducible refine (QCb.timeboundmake_Lines.calls g l0 q2 c0 c1 c2 y q3 w _ H2.isDeck H2.below hL2.out).mono ?_); rintro e v1 ⟨v, rfl, hS, hI2, hB2, hK2⟩; obtain ⟨B, cB, rfl, HO2⟩ := H2.madeNext hS hI2 hB2 hK2; replace HO := Aside0.mk HO2; clear hS hI2 hB2 hK2 HO2 H2; have x_gc_0 : World.cell? _ ⟨gc, 0, none⟩ = _ := HO.out.cell 2 rfl 0 rfl; have x_gc_1 : World.cell? _ ⟨gc, 1, none⟩ = _ := HO.out.cell 2 rfl 1 rfl; have x_gc_2 : World.cell? _ ⟨gc, 2, none⟩ = _ := HO.out.cell 2 rfl 2 rfl; have t_gc : gc < _ := HO.out.lt 2 rfl; have ngc_gc := World.new_ne _ _ x_gc_0; dsimp only at ngc_gc; have xb0 := HO.out.cell 0 rfl 0 rfl; have fb0 := HO.out.frozen 0 rfl 0; have lb0 := HO.out.lt 0 rfl; have nb0_gc := HO.out.ne 0 2 rfl rfl (by decide); have nbb0_1 := HO.out.ne 0 1 rfl rfl (by decide); have xb1 := HO.out.cell 1 rfl 0 rfl; have fb1 := HO.out.frozen 1 rfl 0; have lb1 := HO.out.lt 1 rfl; have nb1_gc := HO.out.ne 1 2 rfl rfl (by decide); have nbb1_0 := HO.out.ne 1 0 rfl rfl (by decide)))
    all_goals
      go_wp2
      go_meet
      case rel => first | exact ⟨_, _, A, cA, B, cB, rfl, rfl, ⟨(((HO.out.allocN _ rfl [.slice A x.length cA] 33).allocN _ (size_alloc _ _) [.slice B y.length cB] 33).swap).less (by simp)⟩⟩ | exact ⟨_, _, A, cA, B, cB, rfl, rfl, ⟨((HO.out.allocN _ rfl [.slice B y.length cB] 33).allocN _ (size_alloc _ _) [.slice A x.length cA] 33).less (by simp)⟩⟩ | exact ⟨_, _, A, cA, B, cB, rfl, rfl, ⟨(((HO.out.set 0 rfl 0 (.slice A x.length cA)).allocN _ (by simp) [.slice B y.length cB] 33).swap).less (by simp)⟩⟩ | exact ⟨_, _, A, cA, B, cB, rfl, rfl, ⟨((HO.out.set 0 rfl 0 (.slice B y.length cB)).allocN _ (by simp) [.slice A x.length cA] 33).less (by simp)⟩⟩ | exact ⟨_, _, A, cA, B, cB, rfl, rfl, ⟨((HO.out.set 0 rfl 0 (.slice A x.length cA)).set 1 rfl 0 (.slice B y.length cB)).less (by simp)⟩⟩ | exact ⟨_, _, A, cA, B, cB, rfl, rfl, ⟨(((HO.out.set 1 rfl 0 (.slice A x.length cA)).set 0 rfl 0 (.slice B y.length cB)).swap).less (by simp)⟩⟩
  case rest =>
    obtain ⟨gx, gy, A, cA, B, cB, rfl, rfl, HO⟩ := hcut
    go_wp2
    go_loopg [9] c1.toNat (fun kq v9 w' => ∃ (n : Nat) (p : Int) (x' y' : List (List Int)) (A : Option Addr) (cA : Nat) (B : Option Addr) (cB : Nat), v9 = .int .i64 n ∧ Aside0 ((n : Int) ≤ c1 ∧ kq = c1.toNat - n ∧ (0 ≤ p ∧ p ≤ l0.length) ∧ Inv c0 c1 n x' y') ∧ Aside0 (OwnD w w' (some (g, l0, p)) [(gx, 33, [.slice A x'.length cA]), (gy, 33, [.slice B y'.length cB]), (gc, 29, [.int .i64 c0, .int .i64 c1, .int .i64 c2])] [.mat A cA x', .mat B cB y']))
    case atStart => exact ⟨0, q3, x, y, A, cA, B, cB, rfl, ⟨by omega, rfl, hq3.out, hI.out⟩, HO⟩
    case round =>
      clear HO hI
      obtain ⟨n, p, x', y', A, cA, B, cB, rfl, HX, HO⟩ := hrel
      have x_gx_0 := HO.out.cell 0 rfl 0 rfl
      have x_gy_0 := HO.out.cell 1 rfl 0 rfl
      have x_gc_0 := HO.out.cell 2 rfl 0 rfl
      have x_gc_1 := HO.out.cell 2 rfl 1 rfl
      have x_gc_2 := HO.out.cell 2 rfl 2 rfl
      have f_gx_0 := HO.out.frozen 0 rfl 0
      have f_gy_0 := HO.out.frozen 1 rfl 0
      by_cases hn : (n : Int) < c1
      · obtain ⟨t, p2, hN, ht0, ht1, hp0, hp1⟩ := next_some l0 HX.out.2.2.1.1 HX.out.2.2.1.2 (by omega) (n := 2) (by decide) (by decide)
        have hr := addr_range (c0 := c0) (c2 := c2) (e := n + t * 40) ⟨hc0a, hc0b⟩ ⟨hc2a, hc2b⟩ ⟨by omega, by omega⟩
        have hI2 := Aside0.mk (HX.out.2.2.2.step hc.out (t := t) ⟨hc0a, hc0b⟩ ⟨hc2a, hc2b⟩ hn ⟨ht0, by omega⟩)
        obtain ⟨b1, hT1⟩ := touch_any hc.out HX.out.2.2.2.1 (by omega) hr.1 (by omega)
        obtain ⟨b2, hT2⟩ := touch_any hc.out HX.out.2.2.2.2.1 (by omega) hr.1 (by omega)
        have hpr0 := hr.2.2.1
        have hpr1 := hr.2.2.2
        have hnw : IntKind.i64.wrap ((n : Int) + 1) = ((n + 1 : Nat) : Int) := by rw [i64_w]; unfold wrap64; omega
        have hra := hr.1
        have hrb := hr.2.1
        clear hr
        generalize hx2 : stepL c0 c2 x' (c2 * c0 * (n + t * 40)) = x2 at hI2 hT1
        generalize hy2 : stepL c0 c2 y' (c2 * c0 * (n + t * 40)) = y2 at hI2 hT2
        clear hx2 hy2
        obtain ⟨pr, hpr⟩ : ∃ pr, c2 * c0 = pr := ⟨_, rfl⟩
        have hw2 : wrap64 (c2 * c0) = pr := (w64 (by omega) (by omega)).trans hpr
        have hww2 : IntKind.i64.wrap (c2 * c0) = pr := by rw [i64_w]; exact hw2
        rw [hpr] at hpr0 hpr1 hT1 hT2 hra hrb
        clear hpr
        obtain ⟨a, ha⟩ : ∃ a, pr * (n + t * 40) = a := ⟨_, rfl⟩
        have hw3 : wrap64 (pr * (n + t * 40)) = a := (w64 (by omega) (by omega)).trans ha
        have hww3 : IntKind.i64.wrap (pr * (n + t * 40)) = a := by rw [i64_w]; exact hw3
        have hww4 : IntKind.i64.wrap (t * 40) = t * 40 := by rw [i64_w, w64 (by omega) (by omega)]
        have hww5 : IntKind.i64.wrap ((n : Int) + t * 40) = n + t * 40 := by rw [i64_w, w64 (by omega) (by omega)]
        rw [ha] at hT1 hT2
        clear ha hra hrb
        replace hT1 := Aside0.mk hT1
        replace hT2 := Aside0.mk hT2
        replace hN := Aside0.mk hN
        go_wp2
        go_region_held3 (fun w' => w'.cell? ⟨gc, 0, none⟩ = some (.int .i64 c0) ∧ w'.cell? ⟨gc, 1, none⟩ = some (.int .i64 c1) ∧ w'.cell? ⟨gc, 2, none⟩ = some (.int .i64 c2)) (go_keep) (first | (go_at_call 15; (with_reducible refine (timeboundmake_Deck_Next.calls _ _ _ _ _ _ _ _ HO.out.drew.isDeck HO.out.drew.below hN.out).mono ?_); rintro e wq ⟨rfl, hI3, hB3, hK3⟩; replace HO := Aside0.mk (HO.out.drew.next hI3 hB3 hK3); clear hI3 hB3 hK3; (try clear x_gx_0 x_gy_0 x_gc_0 x_gc_1 x_gc_2 f_gx_0 f_gy_0); have x_gx_0 := HO.out.cell 0 rfl 0 rfl; have x_gy_0 := HO.out.cell 1 rfl 0 rfl; have x_gc_0 := HO.out.cell 2 rfl 0 rfl; have x_gc_1 := HO.out.cell 2 rfl 1 rfl; have x_gc_2 := HO.out.cell 2 rfl 2 rfl; have f_gx_0 := HO.out.frozen 0 rfl 0; have f_gy_0 := HO.out.frozen 1 rfl 0))
        rename_i hHeld
        clear hHeld
        go_wp2_with (first
          | (go_at_call 16; (with_reducible refine (cache_Touch.calls c0 c1 c2 A cA x' a x2 b1 0 _ (HO.out.C 0 rfl) (HO.out.cap 0 rfl) hT1.out).mono ?_); rintro e w51 ⟨v, rfl, hS, hbl⟩; obtain ⟨A2, cA2, rfl, HO2⟩ := HO.out.made hS hbl; replace HO : Aside0 (OwnD w w51 (some (g, l0, p2)) [(gx, 33, [.slice A x'.length cA]), (gy, 33, [.slice B y'.length cB]), (gc, 29, [.int .i64 c0, .int .i64 c1, .int .i64 c2])] [.mat A2 cA2 x2, .mat A cA x', .mat B cB y']) := Aside0.mk HO2; clear hbl hS HO2; (try clear x_gx_0); (try clear f_gx_0); (try clear x_gy_0); (try clear f_gy_0); (try clear x_gc_0); (try clear f_gc_0); (try clear x_gc_1); (try clear f_gc_1); (try clear x_gc_2); (try clear f_gc_2); have x_gx_0 := HO.out.cell 0 rfl 0 rfl; have f_gx_0 := HO.out.frozen 0 rfl 0; have x_gy_0 := HO.out.cell 1 rfl 0 rfl; have f_gy_0 := HO.out.frozen 1 rfl 0; have x_gc_0 := HO.out.cell 2 rfl 0 rfl; have x_gc_1 := HO.out.cell 2 rfl 1 rfl; have x_gc_2 := HO.out.cell 2 rfl 2 rfl)
          | ((with_reducible refine gate_store (t := 33) (p := 7) rfl ?_); refine store_event (t := 33) (p := 7) (v := .tmp 59) (w1 := w51.setCell ⟨gx, 0, none⟩ (.slice A2 x2.length cA2)) ?hg ?ho ?hn ?hr ?_; (case ho => rfl); (case hg => rfl); (case hn => rfl); (case hr => first | (go_simp; done) | (go_simp; rfl)); intro w52 hw; replace HO : Aside0 (OwnD w w52 (some (g, l0, p2)) [(gx, 33, [.slice A2 x2.length cA2]), (gy, 33, [.slice B y'.length cB]), (gc, 29, [.int .i64 c0, .int .i64 c1, .int .i64 c2])] [.mat A2 cA2 x2, .mat A cA x', .mat B cB y']) := Aside0.mk (by rw [hw]; exact (HO.out.set 0 rfl 0 (.slice A2 x2.length cA2))); clear hw; (try clear x_gx_0); (try clear f_gx_0); (try clear x_gy_0); (try clear f_gy_0); (try clear x_gc_0); (try clear f_gc_0); (try clear x_gc_1); (try clear f_gc_1); (try clear x_gc_2); (try clear f_gc_2); have x_gx_0 := HO.out.cell 0 rfl 0 rfl; have f_gx_0 := HO.out.frozen 0 rfl 0; have x_gy_0 := HO.out.cell 1 rfl 0 rfl; have f_gy_0 := HO.out.frozen 1 rfl 0; have x_gc_0 := HO.out.cell 2 rfl 0 rfl; have x_gc_1 := HO.out.cell 2 rfl 1 rfl; have x_gc_2 := HO.out.cell 2 rfl 2 rfl)
          | (go_at_call 16; (with_reducible refine (cache_Touch.calls c0 c1 c2 B cB y' a y2 b2 0 _ (HO.out.C 2 rfl) (HO.out.cap 2 rfl) hT2.out).mono ?_); rintro e w53 ⟨v, rfl, hS, hbl⟩; obtain ⟨B2, cB2, rfl, HO2⟩ := HO.out.made hS hbl; replace HO : Aside0 (OwnD w w53 (some (g, l0, p2)) [(gx, 33, [.slice A2 x2.length cA2]), (gy, 33, [.slice B y'.length cB]), (gc, 29, [.int .i64 c0, .int .i64 c1, .int .i64 c2])] [.mat B2 cB2 y2, .mat A2 cA2 x2, .mat A cA x', .mat B cB y']) := Aside0.mk HO2; clear hbl hS HO2; (try clear x_gx_0); (try clear f_gx_0); (try clear x_gy_0); (try clear f_gy_0); (try clear x_gc_0); (try clear f_gc_0); (try clear x_gc_1); (try clear f_gc_1); (try clear x_gc_2); (try clear f_gc_2); have x_gx_0 := HO.out.cell 0 rfl 0 rfl; have f_gx_0 := HO.out.frozen 0 rfl 0; have x_gy_0 := HO.out.cell 1 rfl 0 rfl; have f_gy_0 := HO.out.frozen 1 rfl 0; have x_gc_0 := HO.out.cell 2 rfl 0 rfl; have x_gc_1 := HO.out.cell 2 rfl 1 rfl; have x_gc_2 := HO.out.cell 2 rfl 2 rfl)
          | ((with_reducible refine gate_store (t := 33) (p := 8) rfl ?_); refine store_event (t := 33) (p := 8) (v := .tmp 67) (w1 := w53.setCell ⟨gy, 0, none⟩ (.slice B2 y2.length cB2)) ?hg ?ho ?hn ?hr ?_; (case ho => rfl); (case hg => rfl); (case hn => rfl); (case hr => first | (go_simp; done) | (go_simp; rfl)); intro w54 hw; replace HO : Aside0 (OwnD w w54 (some (g, l0, p2)) [(gx, 33, [.slice A2 x2.length cA2]), (gy, 33, [.slice B2 y2.length cB2]), (gc, 29, [.int .i64 c0, .int .i64 c1, .int .i64 c2])] [.mat B2 cB2 y2, .mat A2 cA2 x2, .mat A cA x', .mat B cB y']) := Aside0.mk (by rw [hw]; exact (HO.out.set 1 rfl 0 (.slice B2 y2.length cB2))); clear hw; (try clear x_gx_0); (try clear f_gx_0); (try clear x_gy_0); (try clear f_gy_0); (try clear x_gc_0); (try clear f_gc_0); (try clear x_gc_1); (try clear f_gc_1); (try clear x_gc_2); (try clear f_gc_2); have x_gx_0 := HO.out.cell 0 rfl 0 rfl; have f_gx_0 := HO.out.frozen 0 rfl 0; have x_gy_0 := HO.out.cell 1 rfl 0 rfl; have f_gy_0 := HO.out.frozen 1 rfl 0; have x_gc_0 := HO.out.cell 2 rfl 0 rfl; have x_gc_1 := HO.out.cell 2 rfl 1 rfl; have x_gc_2 := HO.out.cell 2 rfl 2 rfl))
        go_roundg (c1.toNat - (n + 1))
        case measure => have := HX.out.2.1; omega
        case rel => exact ⟨n + 1, p2, x2, y2, A2, cA2, B2, cB2, by simp [hnw], ⟨by omega, by omega, ⟨hp0, hp1⟩, hI2.out⟩, ⟨HO.out.less (by simp)⟩⟩
      · have hI2 := HX.out.2.2.2.done hc.out hc0a (by have := HX.out.1; omega)
        replace hI2 := Aside0.mk hI2
        clear HX
        go_wp2
        clear x_gx_0 x_gy_0 x_gc_0 x_gc_1 x_gc_2 f_gx_0 f_gy_0
        go_loopg [11] (l1.length + 1) (fun kq v11 w' => ∃ (i : Nat) (x' y' : List (List Int)) (A : Option Addr) (cA : Nat) (B : Option Addr) (cB : Nat), v11 = .int .i64 i ∧ Aside0 (i ≤ l1.length ∧ kq = l1.length + 1 - i ∧ Inv2 c0 c1 x' y') ∧ Aside0 (OwnD w w' (some (g, l0, p)) [(gx, 33, [.slice A x'.length cA]), (gy, 33, [.slice B y'.length cB]), (gc, 29, [.int .i64 c0, .int .i64 c1, .int .i64 c2])] [.mat A cA x', .mat B cB y']))
        case atStart => exact ⟨0, x', y', A, cA, B, cB, rfl, ⟨Nat.zero_le _, rfl, hI2.out⟩, HO⟩
        case round =>
          clear HO hI2
          obtain ⟨i, x', y', A, cA, B, cB, rfl, HX, HO⟩ := hrel
          have x_gx_0 := HO.out.cell 0 rfl 0 rfl
          have x_gy_0 := HO.out.cell 1 rfl 0 rfl
          have x_gc_0 := HO.out.cell 2 rfl 0 rfl
          have x_gc_1 := HO.out.cell 2 rfl 1 rfl
          have x_gc_2 := HO.out.cell 2 rfl 2 rfl
          have f_gx_0 := HO.out.frozen 0 rfl 0
          have f_gy_0 := HO.out.frozen 1 rfl 0
          by_cases hi : i < l1.length
          · have hi0 : (0 : Int) ≤ i := by omega
            have hi1 : (i : Int) < l1.length := by omega
            obtain ⟨ad, rfl, hxa⟩ := Kd.at_int hr1.out i hi0 hi1
            rw [rd_nat hi, Int.toNat_natCast] at hxa
            have hv := hw1.out _ (List.getElem_mem hi)
            generalize l1[i] = v at hxa hv
            have hv0 := hv.1
            have hv1 := hv.2
            clear hv
            have hxa2 := pw_cell_below HO.out.below hxa
            have hxw : IntKind.i64.wrap ((i : Int) + 1) = ((i + 1 : Nat) : Int) := by rw [i64_w]; unfold wrap64; omega
            have he0 : 0 ≤ v % 9 := by omega
            have he1 : v % 9 ≤ 8 := by omega
            have hr := addr_range (c0 := c0) (c2 := c2) (e := v % 9) ⟨hc0a, hc0b⟩ ⟨hc2a, hc2b⟩ ⟨by omega, by omega⟩
            have hI2 := Aside0.mk (HX.out.2.2.step hc.out (e := v % 9) ⟨hc0a, hc0b⟩ ⟨hc2a, hc2b⟩ ⟨by omega, by omega⟩)
            obtain ⟨b1, hT1⟩ := touch_any hc.out HX.out.2.2.1 (by omega) hr.1 (by omega)
            obtain ⟨b2, hT2⟩ := touch_any hc.out HX.out.2.2.2.1 (by omega) hr.1 (by omega)
            have hpr0 := hr.2.2.1
            have hpr1 := hr.2.2.2
            have hra := hr.1
            have hrb := hr.2.1
            clear hr
            generalize hx2 : stepL c0 c2 x' (c2 * c0 * (v % 9)) = x2 at hI2 hT1
            generalize hy2 : stepL c0 c2 y' (c2 * c0 * (v % 9)) = y2 at hI2 hT2
            clear hx2 hy2
            obtain ⟨pr, hpr⟩ : ∃ pr, c2 * c0 = pr := ⟨_, rfl⟩
            have hw2 : wrap64 (c2 * c0) = pr := (w64 (by omega) (by omega)).trans hpr
            have hww2 : IntKind.i64.wrap (c2 * c0) = pr := by rw [i64_w]; exact hw2
            rw [hpr] at hpr0 hpr1 hT1 hT2 hra hrb
            clear hpr
            obtain ⟨a, ha⟩ : ∃ a, pr * (v % 9) = a := ⟨_, rfl⟩
            have hw3 : wrap64 (pr * (v % 9)) = a := (w64 (by omega) (by omega)).trans ha
            have hww3 : IntKind.i64.wrap (pr * (v % 9)) = a := by rw [i64_w]; exact hw3
            have hww4 : IntKind.i64.wrap v = v := by rw [i64_w, w64 (by omega) (by omega)]
            have hww5 : v.tmod 9 = v % 9 := Int.tmod_eq_emod_of_nonneg hv0
            rw [ha] at hT1 hT2
            clear ha hra hrb
            replace hT1 := Aside0.mk hT1
            replace hT2 := Aside0.mk hT2
            go_wp2
            go_quiet (fail)
            rename_i nq
            replace HO : Aside0 (OwnD w (World.drewN _ nq) _ _ _) := Aside0.mk (HO.out.drewN nq)
            go_wp2_with (first
              | (go_at_call 16; (with_reducible refine (cache_Touch.calls c0 c1 c2 A cA x' a x2 b1 0 _ (HO.out.C 0 rfl) (HO.out.cap 0 rfl) hT1.out).mono ?_); rintro e w51 ⟨v, rfl, hS, hbl⟩; obtain ⟨A2, cA2, rfl, HO2⟩ := HO.out.made hS hbl; replace HO : Aside0 (OwnD w w51 (some (g, l0, p)) [(gx, 33, [.slice A x'.length cA]), (gy, 33, [.slice B y'.length cB]), (gc, 29, [.int .i64 c0, .int .i64 c1, .int .i64 c2])] [.mat A2 cA2 x2, .mat A cA x', .mat B cB y']) := Aside0.mk HO2; clear hbl hS HO2; (try clear x_gx_0); (try clear f_gx_0); (try clear x_gy_0); (try clear f_gy_0); (try clear x_gc_0); (try clear f_gc_0); (try clear x_gc_1); (try clear f_gc_1); (try clear x_gc_2); (try clear f_gc_2); have x_gx_0 := HO.out.cell 0 rfl 0 rfl; have f_gx_0 := HO.out.frozen 0 rfl 0; have x_gy_0 := HO.out.cell 1 rfl 0 rfl; have f_gy_0 := HO.out.frozen 1 rfl 0; have x_gc_0 := HO.out.cell 2 rfl 0 rfl; have x_gc_1 := HO.out.cell 2 rfl 1 rfl; have x_gc_2 := HO.out.cell 2 rfl 2 rfl)
              | ((with_reducible refine gate_store (t := 33) (p := 7) rfl ?_); refine store_event (t := 33) (p := 7) (v := .tmp 93) (w1 := w51.setCell ⟨gx, 0, none⟩ (.slice A2 x2.length cA2)) ?hg ?ho ?hn ?hr ?_; (case ho => rfl); (case hg => rfl); (case hn => rfl); (case hr => first | (go_simp; done) | (go_simp; rfl)); intro w52 hw; replace HO : Aside0 (OwnD w w52 (some (g, l0, p)) [(gx, 33, [.slice A2 x2.length cA2]), (gy, 33, [.slice B y'.length cB]), (gc, 29, [.int .i64 c0, .int .i64 c1, .int .i64 c2])] [.mat A2 cA2 x2, .mat A cA x', .mat B cB y']) := Aside0.mk (by rw [hw]; exact (HO.out.set 0 rfl 0 (.slice A2 x2.length cA2))); clear hw; (try clear x_gx_0); (try clear f_gx_0); (try clear x_gy_0); (try clear f_gy_0); (try clear x_gc_0); (try clear f_gc_0); (try clear x_gc_1); (try clear f_gc_1); (try clear x_gc_2); (try clear f_gc_2); have x_gx_0 := HO.out.cell 0 rfl 0 rfl; have f_gx_0 := HO.out.frozen 0 rfl 0; have x_gy_0 := HO.out.cell 1 rfl 0 rfl; have f_gy_0 := HO.out.frozen 1 rfl 0; have x_gc_0 := HO.out.cell 2 rfl 0 rfl; have x_gc_1 := HO.out.cell 2 rfl 1 rfl; have x_gc_2 := HO.out.cell 2 rfl 2 rfl)
              | (go_at_call 16; (with_reducible refine (cache_Touch.calls c0 c1 c2 B cB y' a y2 b2 0 _ (HO.out.C 2 rfl) (HO.out.cap 2 rfl) hT2.out).mono ?_); rintro e w53 ⟨v, rfl, hS, hbl⟩; obtain ⟨B2, cB2, rfl, HO2⟩ := HO.out.made hS hbl; replace HO : Aside0 (OwnD w w53 (some (g, l0, p)) [(gx, 33, [.slice A2 x2.length cA2]), (gy, 33, [.slice B y'.length cB]), (gc, 29, [.int .i64 c0, .int .i64 c1, .int .i64 c2])] [.mat B2 cB2 y2, .mat A2 cA2 x2, .mat A cA x', .mat B cB y']) := Aside0.mk HO2; clear hbl hS HO2; (try clear x_gx_0); (try clear f_gx_0); (try clear x_gy_0); (try clear f_gy_0); (try clear x_gc_0); (try clear f_gc_0); (try clear x_gc_1); (try clear f_gc_1); (try clear x_gc_2); (try clear f_gc_2); have x_gx_0 := HO.out.cell 0 rfl 0 rfl; have f_gx_0 := HO.out.frozen 0 rfl 0; have x_gy_0 := HO.out.cell 1 rfl 0 rfl; have f_gy_0 := HO.out.frozen 1 rfl 0; have x_gc_0 := HO.out.cell 2 rfl 0 rfl; have x_gc_1 := HO.out.cell 2 rfl 1 rfl; have x_gc_2 := HO.out.cell 2 rfl 2 rfl)
              | ((with_reducible refine gate_store (t := 33) (p := 8) rfl ?_); refine store_event (t := 33) (p := 8) (v := .tmp 101) (w1 := w53.setCell ⟨gy, 0, none⟩ (.slice B2 y2.length cB2)) ?hg ?ho ?hn ?hr ?_; (case ho => rfl); (case hg => rfl); (case hn => rfl); (case hr => first | (go_simp; done) | (go_simp; rfl)); intro w54 hw; replace HO : Aside0 (OwnD w w54 (some (g, l0, p)) [(gx, 33, [.slice A2 x2.length cA2]), (gy, 33, [.slice B2 y2.length cB2]), (gc, 29, [.int .i64 c0, .int .i64 c1, .int .i64 c2])] [.mat B2 cB2 y2, .mat A2 cA2 x2, .mat A cA x', .mat B cB y']) := Aside0.mk (by rw [hw]; exact (HO.out.set 1 rfl 0 (.slice B2 y2.length cB2))); clear hw; (try clear x_gx_0); (try clear f_gx_0); (try clear x_gy_0); (try clear f_gy_0); (try clear x_gc_0); (try clear f_gc_0); (try clear x_gc_1); (try clear f_gc_1); (try clear x_gc_2); (try clear f_gc_2); have x_gx_0 := HO.out.cell 0 rfl 0 rfl; have f_gx_0 := HO.out.frozen 0 rfl 0; have x_gy_0 := HO.out.cell 1 rfl 0 rfl; have f_gy_0 := HO.out.frozen 1 rfl 0; have x_gc_0 := HO.out.cell 2 rfl 0 rfl; have x_gc_1 := HO.out.cell 2 rfl 1 rfl; have x_gc_2 := HO.out.cell 2 rfl 2 rfl))
            go_roundg (l1.length - i)
            case measure => have := HX.out.2.1; omega
            case rel => exact ⟨i + 1, x2, y2, A2, cA2, B2, cB2, by simp [hxw], ⟨by omega, by omega, hI2.out⟩, ⟨HO.out.less (by simp)⟩⟩
          · have hi1 : ¬ (i : Int) < l1.length := by omega
            obtain ⟨hx, hy, heq, hnn⟩ := HX.out.2.2
            have hxl : 0 < x'.length := by have := hx.1; omega
            have hyl : 0 < y'.length := by have := hy.1; omega
            have hrl : (((x'.getD 0 []).length : Nat) : Int) = c1 := by rw [getD_at hxl]; have := (hx.2 0 hxl).length; omega
            have hb1 : ((x'.length : Int) != c0) = false := by rw [hx.1]; simp
            have hb2 : ((y'.length : Int) != c0) = false := by rw [hy.1]; simp
            have hb3 : (((x'.getD 0 []).length : Int) != c1) = false := by rw [hrl]; simp
            clear HX hx hy
            replace heq := Aside0.mk heq
            replace hnn := Aside0.mk hnn
            replace hrl := Aside0.mk hrl
            obtain ⟨adx, Ax, cx, hA, hcx, _⟩ := row0 HO.out 0 rfl hxl
            obtain ⟨ady, Ay, cy, hB, hcy, _⟩ := row0 HO.out 1 rfl hyl
            rw [← heq.out] at hcy
            generalize hrr : x'.getD 0 [] = r at hcx hcy hb3 hrl hnn heq
            replace hrr := Aside0.mk hrr
            rw [hA] at x_gx_0
            rw [hB] at x_gy_0
            replace hA := Aside0.mk hA
            replace hB := Aside0.mk hB
            have hrp : 0 < r.length := by have := hrl.out; omega
            go_wp2
            go_quiet (fail)
            rename_i nq
            replace HO : Aside0 (OwnD w (World.drewN _ nq) _ _ _) := Aside0.mk (HO.out.drewN nq)
            clear x_gx_0 x_gy_0 x_gc_0 x_gc_1 x_gc_2 f_gx_0 f_gy_0 hcx hcy
            go_wp2
            replace hxl := Aside0.mk hxl
            replace hyl := Aside0.mk hyl
            clear hb1 hb2 hb3
            go_loopg [13] c1.toNat (fun kq v13 w' => ∃ (j : Nat), v13 = .int .i64 j ∧ Aside0 ((j : Int) ≤ c1 ∧ kq = c1.toNat - j) ∧ Aside0 (OwnD w w' (some (g, l0, p)) [(gx, 33, [.slice A x'.length cA]), (gy, 33, [.slice B y'.length cB]), (gc, 29, [.int .i64 c0, .int .i64 c1, .int .i64 c2])] [.mat A cA x', .mat B cB y']))
            case atStart => exact ⟨0, rfl, ⟨by omega, rfl⟩, HO⟩
            case round =>
              clear HO
              obtain ⟨j, rfl, HX, HO⟩ := hrel
              have x_gx_0 := HO.out.cell 0 rfl 0 rfl
              have x_gy_0 := HO.out.cell 1 rfl 0 rfl
              have x_gc_0 := HO.out.cell 2 rfl 0 rfl
              have x_gc_1 := HO.out.cell 2 rfl 1 rfl
              have x_gc_2 := HO.out.cell 2 rfl 2 rfl
              by_cases hj : (j : Int) < c1
              · have hjl : j < r.length := by have := hrl.out; omega
                have hj0 : (0 : Int) ≤ j := by omega
                have hj1 : (j : Int) < r.length := by omega
                obtain ⟨adx, Ax, cx, hA, hcx, hvx⟩ := row0 HO.out 0 rfl hxl.out
                obtain ⟨ady, Ay, cy, hB, hcy, hvy⟩ := row0 HO.out 1 rfl hyl.out
                rw [← heq.out] at hcy hvy
                rw [hrr.out] at hcx hvx
                have hv := hnn.out _ (List.getElem_mem hjl)
                obtain ⟨ax, rfl, hcx2⟩ := hvx j _ (List.getElem?_eq_getElem hjl)
                obtain ⟨ay, rfl, hcy2⟩ := hvy j _ (List.getElem?_eq_getElem hjl)
                clear hvx hvy
                generalize r[j] = v at hcx2 hcy2 hv
                rw [hA] at x_gx_0
                rw [hB] at x_gy_0
                replace hA := Aside0.mk hA
                replace hB := Aside0.mk hB
                have hv2 : ¬ v < 0 := by omega
                have hxl2 := hxl.out
                have hyl2 := hyl.out
                have hjw : IntKind.i64.wrap ((j : Int) + 1) = ((j + 1 : Nat) : Int) := by rw [i64_w]; unfold wrap64; omega
                go_wp2
                go_quiet (fail)
                go_wp2
                go_roundg (c1.toNat - (j + 1))
                case measure => have := HX.out.2; omega
                case rel => exact ⟨j + 1, by simp [hjw], ⟨by omega, rfl⟩, ⟨HO.out.drewN _⟩⟩
              · go_wp2_with (go_at_call 10; refine (timeboundlaw22_awake.calls 10 true _ haw.out).mono ?_; rintro e wz ⟨rfl, hbl⟩; replace HO := Aside0.mk (HO.out.step hbl); clear hbl)
                go_ret
                exact ⟨rfl, HO.out.below⟩
theorem CacheForgets_all (A0 : Option Addr) (k0 : Nat) (l0 : List Int) (A1 : Option Addr) (k1 : Nat) (l1 : List Int) (w : World) (hr0 : Kd.C (Kd.int .i64) w A0 l0.length l0) (hk0 : l0.length ≤ k0) (hr1 : Kd.C (Kd.int .u8) w A1 l1.length l1) (hk1 : l1.length ≤ k1) (hw1 : ∀ x ∈ l1, 0 ≤ x ∧ x ≤ 255) : Calls Try.prog 5 #[.slice A0 l0.length k0, .slice A1 l1.length k1] w fun e w' => e = .returned (.bool true) ∧ Below w.heap.size w w' := by
  by_cases h : l0.length ≤ 400 ∧ l1.length ≤ 50
  case neg => exact CacheForgets_off A0 k0 l0 A1 k1 l1 w hr0 hk0 hr1 hk1 hw1 h
  obtain ⟨h0, h1⟩ := h
  obtain ⟨c0, c1, c2, q, hC, hc0, hc1, hc2, hq0, hq1⟩ := cache_some (L := l0) (p := 0) (by omega) (by omega) (by omega)
  have hc : confOk c0 c1 c2 := ⟨by omega, by omega, by omega⟩
  by_cases hz : c0 = 0
  · exact CacheForgets_zero A0 k0 l0 A1 k1 l1 w hr0 hk0 hr1 hk1 hw1 h0 h1 c0 c1 c2 q hC hz
  obtain ⟨x, q2, hL1, hx, hq20, hq21⟩ := lines_ok hc (show l0.length ≤ 1000000 by omega) hq0 hq1
  obtain ⟨y, q3, hL2, hy, hq30, hq31⟩ := lines_ok hc (show l0.length ≤ 1000000 by omega) hq20 hq21
  exact CacheForgets_on A0 k0 l0 A1 k1 l1 w hr0 hk0 hr1 hk1 hw1 h0 h1 c0 c1 c2 q hC hc ⟨by omega, hc0.2⟩ hc1 ⟨by omega, hc2.2⟩ q2 q3 x y hL1 hL2 ⟨hq30, hq31⟩ ⟨hx, hy, [], _, _, rfl, rfl, rfl, by simp⟩
theorem CacheForgets_walk (a0 : Option Addr) (len0 cap0 : Nat) (z0 : List Int) (a1 : Option Addr) (len1 cap1 : Nat) (z1 : List Int) (w : World) (w0 : (a0 = none ∧ len0 = 0 ∧ cap0 = 0 ∧ z0 = []) ∨ ∃ x, a0 = some x ∧ len0 ≤ cap0 ∧ cap0 ≤ maxLen ∧ z0.length = cap0 ∧ (∀ i, i < z0.length → w.cell? (x.add i) = some (.int .i64 (z0.getD i 0))) ∧ ∀ n ∈ z0, (Lit.int .i64 n).wf = true) (y0 : len0 * 8 ≤ 140737488351232) (w1 : (a1 = none ∧ len1 = 0 ∧ cap1 = 0 ∧ z1 = []) ∨ ∃ x, a1 = some x ∧ len1 ≤ cap1 ∧ cap1 ≤ maxLen ∧ z1.length = cap1 ∧ (∀ i, i < z1.length → w.cell? (x.add i) = some (.int .u8 (z1.getD i 0))) ∧ ∀ n ∈ z1, (Lit.int .u8 n).wf = true) (y1 : len1 * 1 ≤ 140737488351232) :
    Calls Try.prog 5 #[.slice a0 len0 cap0, .slice a1 len1 cap1] w fun e w' => e = .returned (.bool true) ∧ Below w.heap.size w w' := by
  obtain ⟨l0, rfl, hr0, hm0, hw0, hc0⟩ := ReadsInt.ofRowC w0
  obtain ⟨l1, rfl, hr1, hm1, hw1, hc1⟩ := ReadsInt.ofRowC w1
  exact CacheForgets_all _ _ l0 _ _ l1 w (Kd.C_of_reads (d := (0 : Int)) (h1 := fun _ => rfl) hr0) hc0 (Kd.C_of_reads (d := (0 : Int)) (h1 := fun _ => rfl) hr1) hc1 (fun x hx => byte_ok (hw1 x hx))
end Go.Proofs.Ytfdiagegpahcoaa.QCd
