/- From any two valid contents the numbers of misses of the same accesses differ by at most Ways for each set, and a line that was just used is a hit: for up to 400 numbers that make a cache and two valid contents, and up to 100 accesses. -/
import Derived.Test.YtfdiagegpahcoaaFacts
namespace Go.Proofs.Ytfdiagegpahcoaa.QCd
set_option linter.unusedVariables false
set_option linter.unusedSimpArgs false
open Go.RowKit Go.Proofs.Ytfdiagegpahcoaa.QCa Go.Proofs.Ytfdiagegpahcoaa.QCb Go.Proofs.YtfdiagegpahcoaaW.PrintWords Go.Proofs.YtfdiagegpahcoaaW.PrintLast Go.Proofs.YtfdiagegpahcoaaW.PrintMore Mat
set_option maxHeartbeats 2000000 in
set_option maxRecDepth 100000 in
theorem CacheDiffers_off (A0 : Option Addr) (k0 : Nat) (l0 : List Int) (A1 : Option Addr) (k1 : Nat) (l1 : List Int) (w : World) (hr0 : Kd.C (Kd.int .i64) w A0 l0.length l0) (hk0 : l0.length ≤ k0) (hr1 : Kd.C (Kd.int .u8) w A1 l1.length l1) (hk1 : l1.length ≤ k1) (hw1 : ∀ x ∈ l1, 0 ≤ x ∧ x ≤ 255) (h : ¬ (l0.length ≤ 400 ∧ l1.length ≤ 100)) : Calls Try.prog 4 #[.slice A0 l0.length k0, .slice A1 l1.length k1] w fun e w' => e = .returned (.bool true) ∧ Below w.heap.size w w' := by
  have haw := awake_ev (Nat.le_refl 10)
  have hla := hr1.2.1
  replace hr0 := Aside0.mk hr0
  clear hr1
  replace haw := Aside0.mk haw
  have HO := Aside0.mk (Below.refl w.heap.size w)
  by_cases h0 : l0.length ≤ 400
  · have hf : Aside0 (timeboundmake_Few.f l0 = some true) := ⟨by unfold timeboundmake_Few.f; rw [decide_eq_true (by omega)]⟩
    have h1 : (100 : Int) < l1.length := by omega
    clear h h0 hw1
    go_enter Try.func4, Try.ntmps4
    go_wp2_with (first
      | (go_at_call 9; refine (timeboundmake_Few.calls _ _ _ true _ hr0.out hk0 hf.out).mono ?_; rintro e w' ⟨rfl, ⟨nd, rfl⟩⟩; replace HO := Aside0.mk (pw_below_drewN HO.out nd))
      | (go_at_call 10; refine (timeboundlaw22_awake.calls 10 true _ haw.out).mono ?_; rintro e w9 ⟨rfl, hbl⟩; replace HO := Aside0.mk (below_step HO.out hbl)))
    go_ret
    exact ⟨rfl, HO.out⟩
  · have hf : Aside0 (timeboundmake_Few.f l0 = some false) := ⟨by unfold timeboundmake_Few.f; rw [decide_eq_false (by omega)]⟩
    clear h h0 hw1
    go_enter Try.func4, Try.ntmps4
    go_wp2_with (first
      | (go_at_call 9; refine (timeboundmake_Few.calls _ _ _ false _ hr0.out hk0 hf.out).mono ?_; rintro e w' ⟨rfl, ⟨nd, rfl⟩⟩; replace HO := Aside0.mk (pw_below_drewN HO.out nd))
      | (go_at_call 10; refine (timeboundlaw22_awake.calls 10 true _ haw.out).mono ?_; rintro e w9 ⟨rfl, hbl⟩; replace HO := Aside0.mk (below_step HO.out hbl)))
    go_ret
    exact ⟨rfl, HO.out⟩
set_option maxHeartbeats 4000000 in
set_option maxRecDepth 100000 in
theorem CacheDiffers_on (A0 : Option Addr) (k0 : Nat) (l0 : List Int) (A1 : Option Addr) (k1 : Nat) (l1 : List Int) (w : World) (hr0 : Kd.C (Kd.int .i64) w A0 l0.length l0) (hk0 : l0.length ≤ k0) (hr1 : Kd.C (Kd.int .u8) w A1 l1.length l1) (hk1 : l1.length ≤ k1) (hw1 : ∀ x ∈ l1, 0 ≤ x ∧ x ≤ 255) (h0 : l0.length ≤ 400) (h1 : l1.length ≤ 100) (c0 c1 c2 q q2 q3 q4 t : Int) (x y : List (List Int)) (hC : timeboundmake_Cache.f l0 0 = some (c0, c1, c2, q)) (hL1 : QCb.timeboundmake_Lines.f l0 q c0 c1 c2 = some (x, q2)) (hL2 : QCb.timeboundmake_Lines.f l0 q2 c0 c1 c2 = some (y, q3)) (hN : timeboundmake_Deck_Next.f l0 q3 2 = some (t, q4)) (most : Int) (a : List Int) (n m : Int) (hc0 : 0 ≤ c0 ∧ c0 ≤ 4) (hc1 : 1 ≤ c1 ∧ c1 ≤ 3) (hmo : (if t = 1 then (12 : Int) else 120) = most) (ha : a = l1.map (fun v => v % most)) (hM1 : cache_Misses.f c0 c1 c2 x a = some (n, 0)) (hM2 : cache_Misses.f c0 c1 c2 y a = some (m, 0)) (hn : 0 ≤ n ∧ n ≤ a.length) (hm : 0 ≤ m ∧ m ≤ a.length) (hnm : n - m ≤ c0 * c1) (hmn : m - n ≤ c0 * c1) (hz : c0 = 0 → n = a.length) (hT : c0 ≠ 0 → ∀ a0 tl, a = a0 :: tl → ∃ z b, cache_Touch.f c0 c1 c2 x a0 = some (z, b, 0) ∧ cache_Touch.f c0 c1 c2 z a0 = some (z, true, 0) ∧ cache_Valid.f 4000 c0 c1 c2 z = some true ∧ timeboundref22_Same.f 4000 z z = some true) : Calls Try.prog 4 #[.slice A0 l0.length k0, .slice A1 l1.length k1] w fun e w' => e = .returned (.bool true) ∧ Below w.heap.size w w' := by
  have hal : a.length ≤ 100 := by rw [ha, List.length_map]; exact h1
  have haw := Aside0.mk (awake_ev (Nat.le_refl 10))
  replace hmo := Aside0.mk hmo
  replace ha := Aside0.mk ha
  replace hM1 := Aside0.mk hM1
  replace hM2 := Aside0.mk hM2
  replace hn := Aside0.mk hn
  replace hm := Aside0.mk hm
  replace hnm := Aside0.mk hnm
  replace hmn := Aside0.mk hmn
  replace hz := Aside0.mk hz
  replace hT := Aside0.mk hT
  replace hc0 := Aside0.mk hc0
  replace hc1 := Aside0.mk hc1
  replace hal := Aside0.mk hal
  have hf : Aside0 (timeboundmake_Few.f l0 = some true) := ⟨by unfold timeboundmake_Few.f; rw [decide_eq_true (by omega)]⟩
  have h100 : ¬ (100 : Int) < l1.length := by omega
  replace hr0 := Aside0.mk hr0
  replace hr1 := Aside0.mk hr1
  replace hw1 := Aside0.mk hw1
  replace hC := Aside0.mk hC
  replace hL1 := Aside0.mk hL1
  replace hL2 := Aside0.mk hL2
  replace hN := Aside0.mk hN
  have HO := Aside0.mk (OwnD.start w)
  go_enter Try.func4, Try.ntmps4
  go_wp2_with (first
    | (go_at_call 9; refine (timeboundmake_Few.calls _ _ _ true _ hr0.out hk0 hf.out).mono ?_; rintro e w' ⟨rfl, ⟨nd, rfl⟩⟩; replace HO := Aside0.mk (HO.out.drewN nd))
    | (go_at_call 11; (with_reducible refine (timeboundmake_New.calls _ _ l0 l0 0 w _ HO.out.below hr0.out hk0 rfl).mono ?_); rintro e w1 ⟨g, rfl, hI2, hB2, hb2⟩; replace HO : Aside0 (OwnD w w1 (some (g, l0, 0)) [] []) := Aside0.mk (HO.out.withDeck hI2 hb2); clear hI2 hB2 hb2)
    | (go_at_call 12; (with_reducible refine (timeboundmake_Cache.calls _ _ _ _ _ _ _ _ _ HO.out.isDeck HO.out.below hC.out).mono ?_); rintro e w2 ⟨rfl, hI2, hB2, hK2⟩; replace HO : Aside0 (OwnD w w2 (some (g, l0, q)) [] []) := Aside0.mk (HO.out.next hI2 hB2 hK2); clear hI2 hB2 hK2; )
    | ((with_reducible refine gate_dst (N := 6) rfl ?_); refine box_event ?hg (N := 6) ?hd (cs := #[.int .i64 0, .int .i64 0, .int .i64 0]) (t := 29) ?hr ?_; (case hd => rfl); (case hg => rfl); (case hr => first | (go_simp; done) | (go_simp; rfl)); intro gc hg w3 hb hbl; replace HO : Aside0 (OwnD w w3 (some (g, l0, q)) [(gc, 29, [.int .i64 0, .int .i64 0, .int .i64 0])] []) := Aside0.mk (HO.out.new hg hb hbl); clear hg hb hbl; have x_gc_0 := HO.out.cell 0 rfl 0 rfl; have x_gc_1 := HO.out.cell 0 rfl 1 rfl; have x_gc_2 := HO.out.cell 0 rfl 2 rfl; have f_gc_0 := HO.out.frozen 0 rfl 0; have f_gc_1 := HO.out.frozen 0 rfl 1; have f_gc_2 := HO.out.frozen 0 rfl 2)
    | ((with_reducible refine gate_store (t := 29) (p := 6) rfl ?_); refine store_event (t := 29) (p := 6) (v := .tmp 34) (w1 := ((w3.setCell ⟨gc, 0, none⟩ (.int .i64 c0)).setCell ⟨gc, 1, none⟩ (.int .i64 c1)).setCell ⟨gc, 2, none⟩ (.int .i64 c2)) ?hg ?ho ?hn ?hr ?_; (case ho => rfl); (case hg => rfl); (case hn => rfl); (case hr => first | (go_simp; done) | (go_simp; rfl)); intro w4 hw; replace HO : Aside0 (OwnD w w4 (some (g, l0, q)) [(gc, 29, [.int .i64 c0, .int .i64 c1, .int .i64 c2])] []) := Aside0.mk (by rw [hw]; exact (((HO.out.set 0 rfl 0 (.int .i64 c0)).set 0 rfl 1 (.int .i64 c1)).set 0 rfl 2 (.int .i64 c2))); clear hw; (try clear x_gc_0); (try clear f_gc_0); (try clear x_gc_1); (try clear f_gc_1); (try clear x_gc_2); (try clear f_gc_2); have x_gc_0 := HO.out.cell 0 rfl 0 rfl; have x_gc_1 := HO.out.cell 0 rfl 1 rfl; have x_gc_2 := HO.out.cell 0 rfl 2 rfl))
  go_upto_region 5 with (fail)
  (try simp only [Act.put, List.setIfInBounds_toArray, List.set_cons_succ, List.set_cons_zero])
  go_cut [7, 8] (fun v7 v8 wc => ∃ (gx gy : Nat) (A : Option Addr) (cA : Nat) (B : Option Addr) (cB : Nat), v7 = .pointer (some ⟨gx, 0, none⟩) ∧ v8 = .pointer (some ⟨gy, 0, none⟩) ∧ Aside0 (OwnD w wc (some (g, l0, q3)) [(gx, 33, [.slice A x.length cA]), (gy, 33, [.slice B y.length cB]), (gc, 29, [.int .i64 c0, .int .i64 c1, .int .i64 c2])] [.mat A cA x, .mat B cB y]))
  case first =>
    go_region_held3 (fun w' => w'.cell? ⟨gc, 0, none⟩ = some (.int .i64 c0) ∧ w'.cell? ⟨gc, 1, none⟩ = some (.int .i64 c1) ∧ w'.cell? ⟨gc, 2, none⟩ = some (.int .i64 c2)) (go_keep) (first
    | (go_at_call 13; have H2 := HO.out.drew; (with_reducible refine (QCb.timeboundmake_Lines.calls g l0 q c0 c1 c2 x q2 w _ H2.isDeck H2.below hL1.out).mono ?_); rintro e v0 ⟨v, rfl, hS, hI2, hB2, hK2⟩; obtain ⟨A, cA, rfl, HO2⟩ := H2.madeNext hS hI2 hB2 hK2; replace HO := Aside0.mk HO2; clear hS hI2 hB2 hK2 HO2 H2; have x_gc_0 : World.cell? _ ⟨gc, 0, none⟩ = _ := HO.out.cell 0 rfl 0 rfl; have x_gc_1 : World.cell? _ ⟨gc, 1, none⟩ = _ := HO.out.cell 0 rfl 1 rfl; have x_gc_2 : World.cell? _ ⟨gc, 2, none⟩ = _ := HO.out.cell 0 rfl 2 rfl; have t_gc : gc < _ := HO.out.lt 0 rfl; have ngc_gc := World.new_ne _ _ x_gc_0; dsimp only at ngc_gc)
    | (go_at_call 13; have H2 := (HO.out.allocN (w4.heap.size) rfl [.slice none 0 0] 33).drew; (with_reducible refine (QCb.timeboundmake_Lines.calls g l0 q c0 c1 c2 x q2 w _ H2.isDeck H2.below hL1.out).mono ?_); rintro e v0 ⟨v, rfl, hS, hI2, hB2, hK2⟩; obtain ⟨A, cA, rfl, HO2⟩ := H2.madeNext hS hI2 hB2 hK2; replace HO := Aside0.mk HO2; clear hS hI2 hB2 hK2 HO2 H2; have x_gc_0 : World.cell? _ ⟨gc, 0, none⟩ = _ := HO.out.cell 1 rfl 0 rfl; have x_gc_1 : World.cell? _ ⟨gc, 1, none⟩ = _ := HO.out.cell 1 rfl 1 rfl; have x_gc_2 : World.cell? _ ⟨gc, 2, none⟩ = _ := HO.out.cell 1 rfl 2 rfl; have t_gc : gc < _ := HO.out.lt 1 rfl; have ngc_gc := World.new_ne _ _ x_gc_0; dsimp only at ngc_gc; have xb0 := HO.out.cell 0 rfl 0 rfl; have fb0 := HO.out.frozen 0 rfl 0; have lb0 := HO.out.lt 0 rfl; have nb0_gc := HO.out.ne 0 1 rfl rfl (by decide))
    | (go_at_call 13; have H2 := ((HO.out.allocN (w4.heap.size) rfl [.slice none 0 0] 33).allocN (w4.heap.size + 1) (size_alloc _ _) [.slice none 0 0] 33).drew; (with_reducible refine (QCb.timeboundmake_Lines.calls g l0 q c0 c1 c2 x q2 w _ H2.isDeck H2.below hL1.out).mono ?_); rintro e v0 ⟨v, rfl, hS, hI2, hB2, hK2⟩; obtain ⟨A, cA, rfl, HO2⟩ := H2.madeNext hS hI2 hB2 hK2; replace HO := Aside0.mk HO2; clear hS hI2 hB2 hK2 HO2 H2; have x_gc_0 : World.cell? _ ⟨gc, 0, none⟩ = _ := HO.out.cell 2 rfl 0 rfl; have x_gc_1 : World.cell? _ ⟨gc, 1, none⟩ = _ := HO.out.cell 2 rfl 1 rfl; have x_gc_2 : World.cell? _ ⟨gc, 2, none⟩ = _ := HO.out.cell 2 rfl 2 rfl; have t_gc : gc < _ := HO.out.lt 2 rfl; have ngc_gc := World.new_ne _ _ x_gc_0; dsimp only at ngc_gc; have xb0 := HO.out.cell 0 rfl 0 rfl; have fb0 := HO.out.frozen 0 rfl 0; have lb0 := HO.out.lt 0 rfl; have nb0_gc := HO.out.ne 0 2 rfl rfl (by decide); have nbb0_1 := HO.out.ne 0 1 rfl rfl (by decide); have xb1 := HO.out.cell 1 rfl 0 rfl; have fb1 := HO.out.frozen 1 rfl 0; have lb1 := HO.out.lt 1 rfl; have nb1_gc := HO.out.ne 1 2 rfl rfl (by decide); have nbb1_0 := HO.out.ne 1 0 rfl rfl (by decide))
    | (go_at_call 13; have H2 := HO.out; (with_reducible refine (QCb.timeboundmake_Lines.calls g l0 q2 c0 c1 c2 y q3 w _ H2.isDeck H2.below hL2.out).mono ?_); rintro e v1 ⟨v, rfl, hS, hI2, hB2, hK2⟩; obtain ⟨B, cB, rfl, HO2⟩ := H2.madeNext hS hI2 hB2 hK2; replace HO := Aside0.mk HO2; clear hS hI2 hB2 hK2 HO2 H2; (first | (have x_gc_0 : World.cell? _ ⟨gc, 0, none⟩ = _ := HO.out.cell 0 rfl 0 rfl; have x_gc_1 : World.cell? _ ⟨gc, 1, none⟩ = _ := HO.out.cell 0 rfl 1 rfl; have x_gc_2 : World.cell? _ ⟨gc, 2, none⟩ = _ := HO.out.cell 0 rfl 2 rfl; have t_gc : gc < _ := HO.out.lt 0 rfl; have ngc_gc := World.new_ne _ _ x_gc_0; dsimp only at ngc_gc) | (have x_gc_0 : World.cell? _ ⟨gc, 0, none⟩ = _ := HO.out.cell 1 rfl 0 rfl; have x_gc_1 : World.cell? _ ⟨gc, 1, none⟩ = _ := HO.out.cell 1 rfl 1 rfl; have x_gc_2 : World.cell? _ ⟨gc, 2, none⟩ = _ := HO.out.cell 1 rfl 2 rfl; have t_gc : gc < _ := HO.out.lt 1 rfl; have ngc_gc := World.new_ne _ _ x_gc_0; dsimp only at ngc_gc; have xb0 := HO.out.cell 0 rfl 0 rfl; have fb0 := HO.out.frozen 0 rfl 0; have lb0 := HO.out.lt 0 rfl; have nb0_gc := HO.out.ne 0 1 rfl rfl (by decide)) | (have x_gc_0 : World.cell? _ ⟨gc, 0, none⟩ = _ := HO.out.cell 2 rfl 0 rfl; have x_gc_1 : World.cell? _ ⟨gc, 1, none⟩ = _ := HO.out.cell 2 rfl 1 rfl; have x_gc_2 : World.cell? _ ⟨gc, 2, none⟩ = _ := HO.out.cell 2 rfl 2 rfl; have t_gc : gc < _ := HO.out.lt 2 rfl; have ngc_gc := World.new_ne _ _ x_gc_0; dsimp only at ngc_gc; have xb0 := HO.out.cell 0 rfl 0 rfl; have fb0 := HO.out.frozen 0 rfl 0; have lb0 := HO.out.lt 0 rfl; have nb0_gc := HO.out.ne 0 2 rfl rfl (by decide); have nbb0_1 := HO.out.ne 0 1 rfl rfl (by decide); have xb1 := HO.out.cell 1 rfl 0 rfl; have fb1 := HO.out.frozen 1 rfl 0; have lb1 := HO.out.lt 1 rfl; have nb1_gc := HO.out.ne 1 2 rfl rfl (by decide); have nbb1_0 := HO.out.ne 1 0 rfl rfl (by decide))))
    | (go_at_call 13; have H2 := (HO.out.allocN (v0.heap.size) rfl [.slice none 0 0] 33); (with_reducible refine (QCb.timeboundmake_Lines.calls g l0 q2 c0 c1 c2 y q3 w _ H2.isDeck H2.below hL2.out).mono ?_); rintro e v1 ⟨v, rfl, hS, hI2, hB2, hK2⟩; obtain ⟨B, cB, rfl, HO2⟩ := H2.madeNext hS hI2 hB2 hK2; replace HO := Aside0.mk HO2; clear hS hI2 hB2 hK2 HO2 H2; (first | (have x_gc_0 : World.cell? _ ⟨gc, 0, none⟩ = _ := HO.out.cell 1 rfl 0 rfl; have x_gc_1 : World.cell? _ ⟨gc, 1, none⟩ = _ := HO.out.cell 1 rfl 1 rfl; have x_gc_2 : World.cell? _ ⟨gc, 2, none⟩ = _ := HO.out.cell 1 rfl 2 rfl; have t_gc : gc < _ := HO.out.lt 1 rfl; have ngc_gc := World.new_ne _ _ x_gc_0; dsimp only at ngc_gc; have xb0 := HO.out.cell 0 rfl 0 rfl; have fb0 := HO.out.frozen 0 rfl 0; have lb0 := HO.out.lt 0 rfl; have nb0_gc := HO.out.ne 0 1 rfl rfl (by decide)) | (have x_gc_0 : World.cell? _ ⟨gc, 0, none⟩ = _ := HO.out.cell 2 rfl 0 rfl; have x_gc_1 : World.cell? _ ⟨gc, 1, none⟩ = _ := HO.out.cell 2 rfl 1 rfl; have x_gc_2 : World.cell? _ ⟨gc, 2, none⟩ = _ := HO.out.cell 2 rfl 2 rfl; have t_gc : gc < _ := HO.out.lt 2 rfl; have ngc_gc := World.new_ne _ _ x_gc_0; dsimp only at ngc_gc; have xb0 := HO.out.cell 0 rfl 0 rfl; have fb0 := HO.out.frozen 0 rfl 0; have lb0 := HO.out.lt 0 rfl; have nb0_gc := HO.out.ne 0 2 rfl rfl (by decide); have nbb0_1 := HO.out.ne 0 1 rfl rfl (by decide); have xb1 := HO.out.cell 1 rfl 0 rfl; have fb1 := HO.out.frozen 1 rfl 0; have lb1 := HO.out.lt 1 rfl; have nb1_gc := HO.out.ne 1 2 rfl rfl (by decide); have nbb1_0 := HO.out.ne 1 0 rfl rfl (by decide))))
    | (go_at_call 13; have H2 := ((HO.out.allocN (v0.heap.size) rfl [.slice none 0 0] 33).allocN (v0.heap.size + 1) (size_alloc _ _) [.slice none 0 0] 33); (with_reducible refine (QCb.timeboundmake_Lines.calls g l0 q2 c0 c1 c2 y q3 w _ H2.isDeck H2.below hL2.out).mono ?_); rintro e v1 ⟨v, rfl, hS, hI2, hB2, hK2⟩; obtain ⟨B, cB, rfl, HO2⟩ := H2.madeNext hS hI2 hB2 hK2; replace HO := Aside0.mk HO2; clear hS hI2 hB2 hK2 HO2 H2; have x_gc_0 : World.cell? _ ⟨gc, 0, none⟩ = _ := HO.out.cell 2 rfl 0 rfl; have x_gc_1 : World.cell? _ ⟨gc, 1, none⟩ = _ := HO.out.cell 2 rfl 1 rfl; have x_gc_2 : World.cell? _ ⟨gc, 2, none⟩ = _ := HO.out.cell 2 rfl 2 rfl; have t_gc : gc < _ := HO.out.lt 2 rfl; have ngc_gc := World.new_ne _ _ x_gc_0; dsimp only at ngc_gc; have xb0 := HO.out.cell 0 rfl 0 rfl; have fb0 := HO.out.frozen 0 rfl 0; have lb0 := HO.out.lt 0 rfl; have nb0_gc := HO.out.ne 0 2 rfl rfl (by decide); have nbb0_1 := HO.out.ne 0 1 rfl rfl (by decide); have xb1 := HO.out.cell 1 rfl 0 rfl; have fb1 := HO.out.frozen 1 rfl 0; have lb1 := HO.out.lt 1 rfl; have nb1_gc := HO.out.ne 1 2 rfl rfl (by decide); have nbb1_0 := HO.out.ne 1 0 rfl rfl (by decide)))
    all_goals
      go_wp2
      go_meet
      case rel => first | exact ⟨_, _, A, cA, B, cB, rfl, rfl, ⟨(((HO.out.allocN _ rfl [.slice A x.length cA] 33).allocN _ (size_alloc _ _) [.slice B y.length cB] 33).swap).less (by simp)⟩⟩ | exact ⟨_, _, A, cA, B, cB, rfl, rfl, ⟨((HO.out.allocN _ rfl [.slice B y.length cB] 33).allocN _ (size_alloc _ _) [.slice A x.length cA] 33).less (by simp)⟩⟩ | exact ⟨_, _, A, cA, B, cB, rfl, rfl, ⟨(((HO.out.set 0 rfl 0 (.slice A x.length cA)).allocN _ (by simp) [.slice B y.length cB] 33).swap).less (by simp)⟩⟩ | exact ⟨_, _, A, cA, B, cB, rfl, rfl, ⟨((HO.out.set 0 rfl 0 (.slice B y.length cB)).allocN _ (by simp) [.slice A x.length cA] 33).less (by simp)⟩⟩ | exact ⟨_, _, A, cA, B, cB, rfl, rfl, ⟨((HO.out.set 0 rfl 0 (.slice A x.length cA)).set 1 rfl 0 (.slice B y.length cB)).less (by simp)⟩⟩ | exact ⟨_, _, A, cA, B, cB, rfl, rfl, ⟨(((HO.out.set 1 rfl 0 (.slice A x.length cA)).set 0 rfl 0 (.slice B y.length cB)).swap).less (by simp)⟩⟩
  case rest =>
    obtain ⟨gx, gy, A, cA, B, cB, rfl, rfl, HO⟩ := hcut
    go_upto_if 43 with (go_at_call 15; refine (timeboundmake_Deck_Next.calls _ _ _ _ _ _ _ _ HO.out.isDeck HO.out.below hN.out).mono ?_; rintro e wn ⟨rfl, hI2, hB2, hK2⟩; replace HO := Aside0.mk (HO.out.next hI2 hB2 hK2); clear hI2 hB2 hK2)
    (try simp only [Act.put, List.setIfInBounds_toArray, List.set_cons_succ, List.set_cons_zero])
    go_cut [9] (fun v9 wc => v9 = .int .i64 (if t = 1 then 12 else 120) ∧ Aside0 (OwnD w wc (some (g, l0, q4)) [(gx, 33, [.slice A x.length cA]), (gy, 33, [.slice B y.length cB]), (gc, 29, [.int .i64 c0, .int .i64 c1, .int .i64 c2])] [.mat A cA x, .mat B cB y]))
    case first =>
      by_cases ht : t = 1
      · have ht2 : (t == 1) = true := by simpa using ht
        replace ht := Aside0.mk ht
        go_wp2
        go_meet
        case rel => exact ⟨by rw [if_pos ht.out], HO⟩
      · have ht2 : (t == 1) = false := by simpa using ht
        replace ht := Aside0.mk ht
        go_wp2
        go_meet
        case rel => exact ⟨by rw [if_neg ht.out], HO⟩
    case rest =>
      clear HO
      obtain ⟨rfl, HO⟩ := hcut
      have hm0 : 12 ≤ (if t = 1 then (12 : Int) else 120) ∧ (if t = 1 then (12 : Int) else 120) ≤ 120 := by split <;> omega
      rw [hmo.out] at hm0 ⊢
      obtain ⟨hm1, hm2⟩ := hm0
      have hm3 : (most == 0) = false := by simp; omega
      have hm4 : ¬ most = 0 := by omega
      go_wp2
      (try simp only [Act.put, List.setIfInBounds_toArray, List.set_cons_succ, List.set_cons_zero])
      have HA := Aside0.mk (OwnA.start HO.out (by simp))
      go_loopg [10, 11] (l1.length + 1) (fun kq v10 v11 w' => ∃ (i : Nat), v11 = .int .i64 i ∧ Aside0 (i ≤ l1.length ∧ kq = l1.length + 1 - i) ∧ Aside0 (OwnA w w' (some (g, l0, q4)) [(gx, 33, [.slice A x.length cA]), (gy, 33, [.slice B y.length cB]), (gc, 29, [.int .i64 c0, .int .i64 c1, .int .i64 c2])] [.mat A cA x, .mat B cB y] v10 ((l1.take i).map (fun v => v % most))))
      case atStart => exact ⟨0, rfl, ⟨Nat.zero_le _, rfl⟩, HA⟩
      case round =>
        clear HO HA
        obtain ⟨i, rfl, HX, HA⟩ := hrel
        by_cases hi : i < l1.length
        · have hi0 : (0 : Int) ≤ i := by omega
          have hi1 : (i : Int) < l1.length := by omega
          obtain ⟨ad, rfl, hxa⟩ := Kd.at_int hr1.out i hi0 hi1
          rw [rd_nat hi, Int.toNat_natCast] at hxa
          have hv := hw1.out _ (List.getElem_mem hi)
          have htk := Aside0.mk (show (l1.take (i + 1)).map (fun v => v % most) = (l1.take i).map (fun v => v % most) ++ [l1[i] % most] by rw [List.take_succ_eq_append_getElem hi, List.map_append]; rfl)
          generalize l1[i] = v at hxa hv htk
          have hv0 := hv.1
          have hv1 := hv.2
          clear hv
          have hxa2 := pw_cell_below HA.out.own.below hxa
          have hxw : IntKind.i64.wrap ((i : Int) + 1) = ((i + 1 : Nat) : Int) := by rw [i64_w]; unfold wrap64; omega
          have hll : Aside0 ((((l1.take i).map (fun v => v % most)).length + 1) * 8 ≤ 140737488355328) := ⟨by rw [List.length_map, List.length_take]; omega⟩
          have hsz : w.heap.size ≤ wr.heap.size := HA.out.own.below.size
          replace hsz := Aside0.mk hsz
          go_wp2_with ((with_reducible refine gate_builtin (b := .append) (xs := #[.tmp 50, .tmp 58]) rfl ?_); at_builtin; refine Kd.R_append (Kd.int .i64) (w0 := w) w.heap.size rfl (.tmp 50) (.tmp 58) 22 3 (.int .i64 0) 8 rfl Try.underlying22 QCb.info3 rfl (by decide) (by omega) u10 ((l1.take i).map (fun v => v % most)) (v % most) [.int .i64 (v % most)] (fun _ => True) (fun _ => False) rfl rfl ?aP (fun _ hk => hk.elim) ?aF ?aO ?aB ?aS ?aL ?_; (case aP => exact rfl); (case aB => exact HA.out.own.below); (case aF => exact (fun _ _ => trivial)); (case aO => exact HA.out.row); (case aS => exact hsz.out); (case aL => exact hll.out); intro v1 wa ho hb hg hat; rw [← htk.out] at ho; replace HA := Aside0.mk (HA.out.append ho hb hg hat); clear ho hb hg hat)
          go_roundg (l1.length - i)
          case measure => have := HX.out; omega
          case rel => exact ⟨i + 1, by simp [hxw], ⟨by omega, by omega⟩, HA⟩
        · have hi1 : ¬ (i : Int) < l1.length := by omega
          obtain rfl : i = l1.length := by have := HX.out.1; omega
          obtain ⟨Aa, ca, rfl, HO⟩ := HA.out.done
          rw [List.take_length, ← ha.out] at HO ⊢
          replace HO := Aside0.mk HO
          clear HA HX
          have hn0 := hn.out.1
          have hn1 := hn.out.2
          have hm0 := hm.out.1
          have hm1' := hm.out.2
          have hal' := hal.out
          have hp0 : 0 ≤ c0 * c1 := Int.mul_nonneg hc0.out.1 (by have := hc1.out.1; omega)
          have hp1 : c0 * c1 ≤ 12 := by
            have h := Int.mul_le_mul hc0.out.2 hc1.out.2 (by have := hc1.out.1; omega) (by omega)
            omega
          have hg1 : ¬ c0 * c1 < n - m := by have := hnm.out; omega
          have hg2 : ¬ c0 * c1 < m - n := by have := hmn.out; omega
          have hwc : wrap64 (c0 * c1) = c0 * c1 := w64 (by omega) (by omega)
          obtain ⟨cc, hcc⟩ : ∃ cc, c0 * c1 = cc := ⟨_, rfl⟩
          rw [hcc] at hp0 hp1 hg1 hg2
          replace hwc : wrap64 (c0 * c1) = cc := hwc.trans hcc
          clear hcc
          by_cases hzz : c0 = 0
          · have hn2 : ((n : Int) != (a.length : Int)) = false := by have := hz.out hzz; simp; omega
            have hn3 : ¬ (n : Int) ≠ (a.length : Int) := by have := hz.out hzz; omega
            have hc9 : (c0 == 0) = true := by simpa using hzz
            replace hzz := Aside0.mk hzz
            have x_gc_0 := HO.out.cell 2 rfl 0 rfl; have x_gc_1 := HO.out.cell 2 rfl 1 rfl; have x_gc_2 := HO.out.cell 2 rfl 2 rfl; have x_gx_0 := HO.out.cell 0 rfl 0 rfl; have x_gy_0 := HO.out.cell 1 rfl 0 rfl
            go_wp2_with (first | (go_at_call 14; (with_reducible refine (cache_Misses.calls c0 c1 c2 A cA x Aa ca a n 0 _ (HO.out.C 1 rfl) (HO.out.cap 1 rfl) (HO.out.R 0 rfl).2 (HO.out.R 0 rfl).1 hM1.out).mono ?_); rintro e w1 ⟨rfl, hbl⟩; replace HO : Aside0 (OwnD w w1 (some (g, l0, q4)) [(gx, 33, [.slice A x.length cA]), (gy, 33, [.slice B y.length cB]), (gc, 29, [.int .i64 c0, .int .i64 c1, .int .i64 c2])] [.row Aa ca a, .mat A cA x, .mat B cB y]) := Aside0.mk (HO.out.step hbl); clear hbl; (try clear x_gx_0); (try clear f_gx_0); (try clear x_gy_0); (try clear f_gy_0); (try clear x_gc_0); (try clear f_gc_0); (try clear x_gc_1); (try clear f_gc_1); (try clear x_gc_2); (try clear f_gc_2); have x_gx_0 := HO.out.cell 0 rfl 0 rfl; have x_gy_0 := HO.out.cell 1 rfl 0 rfl; have x_gc_0 := HO.out.cell 2 rfl 0 rfl; have x_gc_1 := HO.out.cell 2 rfl 1 rfl; have x_gc_2 := HO.out.cell 2 rfl 2 rfl) | (go_at_call 14; (with_reducible refine (cache_Misses.calls c0 c1 c2 B cB y Aa ca a m 0 _ (HO.out.C 2 rfl) (HO.out.cap 2 rfl) (HO.out.R 0 rfl).2 (HO.out.R 0 rfl).1 hM2.out).mono ?_); rintro e w2 ⟨rfl, hbl⟩; replace HO : Aside0 (OwnD w w2 (some (g, l0, q4)) [(gx, 33, [.slice A x.length cA]), (gy, 33, [.slice B y.length cB]), (gc, 29, [.int .i64 c0, .int .i64 c1, .int .i64 c2])] [.row Aa ca a, .mat A cA x, .mat B cB y]) := Aside0.mk (HO.out.step hbl); clear hbl; (try clear x_gx_0); (try clear f_gx_0); (try clear x_gy_0); (try clear f_gy_0); (try clear x_gc_0); (try clear f_gc_0); (try clear x_gc_1); (try clear f_gc_1); (try clear x_gc_2); (try clear f_gc_2); have x_gx_0 := HO.out.cell 0 rfl 0 rfl; have x_gy_0 := HO.out.cell 1 rfl 0 rfl; have x_gc_0 := HO.out.cell 2 rfl 0 rfl; have x_gc_1 := HO.out.cell 2 rfl 1 rfl; have x_gc_2 := HO.out.cell 2 rfl 2 rfl) | (go_at_call 10; refine (timeboundlaw22_awake.calls 10 true _ haw.out).mono ?_; rintro e wz ⟨rfl, hbl⟩; replace HO := Aside0.mk (HO.out.step hbl); clear hbl))
            all_goals
              go_ret
              exact ⟨rfl, HO.out.below⟩
          · have hc9 : (c0 == 0) = false := by simpa using hzz
            by_cases hlz : a.length = 0
            · have hl0 : ((a.length : Int) == 0) = true := by simp [hlz]
              replace hlz := Aside0.mk hlz
              have x_gc_0 := HO.out.cell 2 rfl 0 rfl; have x_gc_1 := HO.out.cell 2 rfl 1 rfl; have x_gc_2 := HO.out.cell 2 rfl 2 rfl; have x_gx_0 := HO.out.cell 0 rfl 0 rfl; have x_gy_0 := HO.out.cell 1 rfl 0 rfl
              go_wp2_with (first | (go_at_call 14; (with_reducible refine (cache_Misses.calls c0 c1 c2 A cA x Aa ca a n 0 _ (HO.out.C 1 rfl) (HO.out.cap 1 rfl) (HO.out.R 0 rfl).2 (HO.out.R 0 rfl).1 hM1.out).mono ?_); rintro e w1 ⟨rfl, hbl⟩; replace HO : Aside0 (OwnD w w1 (some (g, l0, q4)) [(gx, 33, [.slice A x.length cA]), (gy, 33, [.slice B y.length cB]), (gc, 29, [.int .i64 c0, .int .i64 c1, .int .i64 c2])] [.row Aa ca a, .mat A cA x, .mat B cB y]) := Aside0.mk (HO.out.step hbl); clear hbl; (try clear x_gx_0); (try clear f_gx_0); (try clear x_gy_0); (try clear f_gy_0); (try clear x_gc_0); (try clear f_gc_0); (try clear x_gc_1); (try clear f_gc_1); (try clear x_gc_2); (try clear f_gc_2); have x_gx_0 := HO.out.cell 0 rfl 0 rfl; have x_gy_0 := HO.out.cell 1 rfl 0 rfl; have x_gc_0 := HO.out.cell 2 rfl 0 rfl; have x_gc_1 := HO.out.cell 2 rfl 1 rfl; have x_gc_2 := HO.out.cell 2 rfl 2 rfl) | (go_at_call 14; (with_reducible refine (cache_Misses.calls c0 c1 c2 B cB y Aa ca a m 0 _ (HO.out.C 2 rfl) (HO.out.cap 2 rfl) (HO.out.R 0 rfl).2 (HO.out.R 0 rfl).1 hM2.out).mono ?_); rintro e w2 ⟨rfl, hbl⟩; replace HO : Aside0 (OwnD w w2 (some (g, l0, q4)) [(gx, 33, [.slice A x.length cA]), (gy, 33, [.slice B y.length cB]), (gc, 29, [.int .i64 c0, .int .i64 c1, .int .i64 c2])] [.row Aa ca a, .mat A cA x, .mat B cB y]) := Aside0.mk (HO.out.step hbl); clear hbl; (try clear x_gx_0); (try clear f_gx_0); (try clear x_gy_0); (try clear f_gy_0); (try clear x_gc_0); (try clear f_gc_0); (try clear x_gc_1); (try clear f_gc_1); (try clear x_gc_2); (try clear f_gc_2); have x_gx_0 := HO.out.cell 0 rfl 0 rfl; have x_gy_0 := HO.out.cell 1 rfl 0 rfl; have x_gc_0 := HO.out.cell 2 rfl 0 rfl; have x_gc_1 := HO.out.cell 2 rfl 1 rfl; have x_gc_2 := HO.out.cell 2 rfl 2 rfl) | (go_at_call 10; refine (timeboundlaw22_awake.calls 10 true _ haw.out).mono ?_; rintro e wz ⟨rfl, hbl⟩; replace HO := Aside0.mk (HO.out.step hbl); clear hbl))
              all_goals
                go_ret
                exact ⟨rfl, HO.out.below⟩
            · obtain ⟨a0, tl, hac⟩ : ∃ a0 tl, a = a0 :: tl := by
                cases a with
                | nil => exact absurd rfl hlz
                | cons a0 tl => exact ⟨a0, tl, rfl⟩
              obtain ⟨z, b, hT1, hT2, hVz, hSz⟩ := hT.out hzz a0 tl hac
              have ha0 : Aside0 (a[0]? = some a0) := ⟨by rw [hac]; rfl⟩
              clear hac
              replace hT1 := Aside0.mk hT1
              replace hT2 := Aside0.mk hT2
              replace hVz := Aside0.mk hVz
              replace hSz := Aside0.mk hSz
              replace hzz := Aside0.mk hzz
              obtain ⟨ad, rfl⟩ := HO.out.rsome 0 rfl (by omega)
              have hl0 : ((a.length : Int) == 0) = false := beq_eq_false_iff_ne.2 (by omega)
              have hl2 : (0 : Int) < a.length := by omega
              have hl3 : 0 < a.length := by omega
              replace hlz := Aside0.mk hlz
              have x_gc_0 := HO.out.cell 2 rfl 0 rfl; have x_gc_1 := HO.out.cell 2 rfl 1 rfl; have x_gc_2 := HO.out.cell 2 rfl 2 rfl; have x_gx_0 := HO.out.cell 0 rfl 0 rfl; have x_gy_0 := HO.out.cell 1 rfl 0 rfl
              go_wp2_with (first | (go_at_call 14; (with_reducible refine (cache_Misses.calls c0 c1 c2 A cA x (some ad) ca a n 0 _ (HO.out.C 1 rfl) (HO.out.cap 1 rfl) (HO.out.R 0 rfl).2 (HO.out.R 0 rfl).1 hM1.out).mono ?_); rintro e w1 ⟨rfl, hbl⟩; replace HO : Aside0 (OwnD w w1 (some (g, l0, q4)) [(gx, 33, [.slice A x.length cA]), (gy, 33, [.slice B y.length cB]), (gc, 29, [.int .i64 c0, .int .i64 c1, .int .i64 c2])] [.row (some ad) ca a, .mat A cA x, .mat B cB y]) := Aside0.mk (HO.out.step hbl); clear hbl; (try clear x_gx_0); (try clear f_gx_0); (try clear x_gy_0); (try clear f_gy_0); (try clear x_gc_0); (try clear f_gc_0); (try clear x_gc_1); (try clear f_gc_1); (try clear x_gc_2); (try clear f_gc_2); have x_gx_0 := HO.out.cell 0 rfl 0 rfl; have x_gy_0 := HO.out.cell 1 rfl 0 rfl; have x_gc_0 := HO.out.cell 2 rfl 0 rfl; have x_gc_1 := HO.out.cell 2 rfl 1 rfl; have x_gc_2 := HO.out.cell 2 rfl 2 rfl) | (go_at_call 14; (with_reducible refine (cache_Misses.calls c0 c1 c2 B cB y (some ad) ca a m 0 _ (HO.out.C 2 rfl) (HO.out.cap 2 rfl) (HO.out.R 0 rfl).2 (HO.out.R 0 rfl).1 hM2.out).mono ?_); rintro e w2 ⟨rfl, hbl⟩; replace HO : Aside0 (OwnD w w2 (some (g, l0, q4)) [(gx, 33, [.slice A x.length cA]), (gy, 33, [.slice B y.length cB]), (gc, 29, [.int .i64 c0, .int .i64 c1, .int .i64 c2])] [.row (some ad) ca a, .mat A cA x, .mat B cB y]) := Aside0.mk (HO.out.step hbl); clear hbl; (try clear x_gx_0); (try clear f_gx_0); (try clear x_gy_0); (try clear f_gy_0); (try clear x_gc_0); (try clear f_gc_0); (try clear x_gc_1); (try clear f_gc_1); (try clear x_gc_2); (try clear f_gc_2); have x_gx_0 := HO.out.cell 0 rfl 0 rfl; have x_gy_0 := HO.out.cell 1 rfl 0 rfl; have x_gc_0 := HO.out.cell 2 rfl 0 rfl; have x_gc_1 := HO.out.cell 2 rfl 1 rfl; have x_gc_2 := HO.out.cell 2 rfl 2 rfl))
              have x_a : World.cell? _ ad = _ := HO.out.rcell0 0 rfl ha0.out
              have n_a := World.new_ne _ _ x_a
              go_cut [16, 17, 18] (fun v16 v17 v18 wc => ∃ (gz : Nat) (Az : Option Addr) (cz : Nat), v16 = .pointer (some ⟨gz, 0, none⟩) ∧ v17 = .bool b ∧ v18 = .int .i64 0 ∧ Aside0 (OwnD w wc (some (g, l0, q4)) [(gz, 33, [.slice Az z.length cz]), (gx, 33, [.slice A x.length cA]), (gy, 33, [.slice B y.length cB]), (gc, 29, [.int .i64 c0, .int .i64 c1, .int .i64 c2])] [.mat Az cz z, .row (some ad) ca a, .mat A cA x, .mat B cB y]))
              case first =>
                go_region_held3 (fun w' => w'.cell? ⟨gx, 0, none⟩ = some (.slice A x.length cA) ∧ w'.cell? ⟨gy, 0, none⟩ = some (.slice B y.length cB) ∧ w'.cell? ⟨gc, 0, none⟩ = some (.int .i64 c0) ∧ w'.cell? ⟨gc, 1, none⟩ = some (.int .i64 c1) ∧ w'.cell? ⟨gc, 2, none⟩ = some (.int .i64 c2) ∧ w'.cell? ad = some (.int .i64 a0)) (go_keep) (first
    | (go_at_call 16; have H2 := HO.out.drew; (with_reducible refine (cache_Touch.calls c0 c1 c2 A cA x a0 z b 0 _ (H2.C 1 rfl) (H2.cap 1 rfl) hT1.out).mono ?_); rintro e v0 ⟨v, rfl, hS, hb2⟩; obtain ⟨Az, cz, rfl, HO2⟩ := H2.made hS hb2; replace HO := Aside0.mk HO2; clear hS hb2 HO2 H2; have x_gx_0 : World.cell? _ ⟨gx, 0, none⟩ = _ := HO.out.cell 0 rfl 0 rfl; have t_gx : gx < _ := HO.out.lt 0 rfl; have ngc_gx := World.new_ne _ _ x_gx_0; dsimp only at ngc_gx; have x_gy_0 : World.cell? _ ⟨gy, 0, none⟩ = _ := HO.out.cell 1 rfl 0 rfl; have t_gy : gy < _ := HO.out.lt 1 rfl; have ngc_gy := World.new_ne _ _ x_gy_0; dsimp only at ngc_gy; have x_gc_0 : World.cell? _ ⟨gc, 0, none⟩ = _ := HO.out.cell 2 rfl 0 rfl; have x_gc_1 : World.cell? _ ⟨gc, 1, none⟩ = _ := HO.out.cell 2 rfl 1 rfl; have x_gc_2 : World.cell? _ ⟨gc, 2, none⟩ = _ := HO.out.cell 2 rfl 2 rfl; have t_gc : gc < _ := HO.out.lt 2 rfl; have ngc_gc := World.new_ne _ _ x_gc_0; dsimp only at ngc_gc; have x_a : World.cell? _ ad = _ := HO.out.rcell0 1 rfl ha0.out; have n_a := World.new_ne _ _ x_a)
    | (go_at_call 16; have H2 := (HO.out.allocN (w2.heap.size) rfl [.slice none 0 0] 33).drew; (with_reducible refine (cache_Touch.calls c0 c1 c2 A cA x a0 z b 0 _ (H2.C 1 rfl) (H2.cap 1 rfl) hT1.out).mono ?_); rintro e v0 ⟨v, rfl, hS, hb2⟩; obtain ⟨Az, cz, rfl, HO2⟩ := H2.made hS hb2; replace HO := Aside0.mk HO2; clear hS hb2 HO2 H2; have x_gx_0 : World.cell? _ ⟨gx, 0, none⟩ = _ := HO.out.cell 1 rfl 0 rfl; have t_gx : gx < _ := HO.out.lt 1 rfl; have ngc_gx := World.new_ne _ _ x_gx_0; dsimp only at ngc_gx; have x_gy_0 : World.cell? _ ⟨gy, 0, none⟩ = _ := HO.out.cell 2 rfl 0 rfl; have t_gy : gy < _ := HO.out.lt 2 rfl; have ngc_gy := World.new_ne _ _ x_gy_0; dsimp only at ngc_gy; have x_gc_0 : World.cell? _ ⟨gc, 0, none⟩ = _ := HO.out.cell 3 rfl 0 rfl; have x_gc_1 : World.cell? _ ⟨gc, 1, none⟩ = _ := HO.out.cell 3 rfl 1 rfl; have x_gc_2 : World.cell? _ ⟨gc, 2, none⟩ = _ := HO.out.cell 3 rfl 2 rfl; have t_gc : gc < _ := HO.out.lt 3 rfl; have ngc_gc := World.new_ne _ _ x_gc_0; dsimp only at ngc_gc; have xb0 := HO.out.cell 0 rfl 0 rfl; have fb0 := HO.out.frozen 0 rfl 0; have lb0 := HO.out.lt 0 rfl; have nb0_gx := HO.out.ne 0 1 rfl rfl (by decide); have nb0_gy := HO.out.ne 0 2 rfl rfl (by decide); have nb0_gc := HO.out.ne 0 3 rfl rfl (by decide); have x_a : World.cell? _ ad = _ := HO.out.rcell0 1 rfl ha0.out; have n_a := World.new_ne _ _ x_a))
                all_goals
                  go_wp2
                  go_meet
                  case rel => first | exact ⟨_, Az, cz, rfl, rfl, rfl, ⟨HO.out.allocN _ rfl [.slice Az z.length cz] 33⟩⟩ | exact ⟨_, Az, cz, rfl, rfl, rfl, ⟨HO.out.set 0 rfl 0 (.slice Az z.length cz)⟩⟩
              case rest =>
                clear HO x_a n_a
                obtain ⟨gz, Az, cz, rfl, rfl, rfl, HO⟩ := hcut
                go_upto_region 21 with (fail)
                (try simp only [Act.put, List.setIfInBounds_toArray, List.set_cons_succ, List.set_cons_zero])
                have x_gz_0 : World.cell? _ ⟨gz, 0, none⟩ = _ := HO.out.cell 0 rfl 0 rfl
                have t_gz : gz < _ := HO.out.lt 0 rfl
                have ngc_gz := World.new_ne _ _ x_gz_0
                dsimp only at ngc_gz
                have x_gx_0 : World.cell? _ ⟨gx, 0, none⟩ = _ := HO.out.cell 1 rfl 0 rfl
                have t_gx : gx < _ := HO.out.lt 1 rfl
                have ngc_gx := World.new_ne _ _ x_gx_0
                dsimp only at ngc_gx
                have x_gy_0 : World.cell? _ ⟨gy, 0, none⟩ = _ := HO.out.cell 2 rfl 0 rfl
                have t_gy : gy < _ := HO.out.lt 2 rfl
                have ngc_gy := World.new_ne _ _ x_gy_0
                dsimp only at ngc_gy
                have x_gc_0 : World.cell? _ ⟨gc, 0, none⟩ = _ := HO.out.cell 3 rfl 0 rfl
                have x_gc_1 : World.cell? _ ⟨gc, 1, none⟩ = _ := HO.out.cell 3 rfl 1 rfl
                have x_gc_2 : World.cell? _ ⟨gc, 2, none⟩ = _ := HO.out.cell 3 rfl 2 rfl
                have t_gc : gc < _ := HO.out.lt 3 rfl
                have ngc_gc := World.new_ne _ _ x_gc_0
                dsimp only at ngc_gc
                have x_a : World.cell? _ ad = _ := HO.out.rcell0 1 rfl ha0.out
                have n_a := World.new_ne _ _ x_a
                go_cut [19, 20, 21] (fun v19 v20 v21 wc => ∃ (gv : Nat) (Av : Option Addr) (cv : Nat), v19 = .pointer (some ⟨gv, 0, none⟩) ∧ v20 = .bool true ∧ v21 = .int .i64 0 ∧ Aside0 (OwnD w wc (some (g, l0, q4)) [(gv, 33, [.slice Av z.length cv]), (gz, 33, [.slice Az z.length cz]), (gx, 33, [.slice A x.length cA]), (gy, 33, [.slice B y.length cB]), (gc, 29, [.int .i64 c0, .int .i64 c1, .int .i64 c2])] [.mat Av cv z, .mat Az cz z, .row (some ad) ca a, .mat A cA x, .mat B cB y]))
                case first =>
                  go_region_held3 (fun w' => w'.cell? ⟨gz, 0, none⟩ = some (.slice Az z.length cz) ∧ w'.cell? ⟨gx, 0, none⟩ = some (.slice A x.length cA) ∧ w'.cell? ⟨gy, 0, none⟩ = some (.slice B y.length cB) ∧ w'.cell? ⟨gc, 0, none⟩ = some (.int .i64 c0) ∧ w'.cell? ⟨gc, 1, none⟩ = some (.int .i64 c1) ∧ w'.cell? ⟨gc, 2, none⟩ = some (.int .i64 c2) ∧ w'.cell? ad = some (.int .i64 a0)) (go_keep) (first
    | (go_at_call 16; have H2 := HO.out.drew; (with_reducible refine (cache_Touch.calls c0 c1 c2 Az cz z a0 z true 0 _ (H2.C 0 rfl) (H2.cap 0 rfl) hT2.out).mono ?_); rintro e v0 ⟨v, rfl, hS, hb2⟩; obtain ⟨Av, cv, rfl, HO2⟩ := H2.made hS hb2; replace HO := Aside0.mk HO2; clear hS hb2 HO2 H2; have x_gz_0 : World.cell? _ ⟨gz, 0, none⟩ = _ := HO.out.cell 0 rfl 0 rfl; have t_gz : gz < _ := HO.out.lt 0 rfl; have ngc_gz := World.new_ne _ _ x_gz_0; dsimp only at ngc_gz; have x_gx_0 : World.cell? _ ⟨gx, 0, none⟩ = _ := HO.out.cell 1 rfl 0 rfl; have t_gx : gx < _ := HO.out.lt 1 rfl; have ngc_gx := World.new_ne _ _ x_gx_0; dsimp only at ngc_gx; have x_gy_0 : World.cell? _ ⟨gy, 0, none⟩ = _ := HO.out.cell 2 rfl 0 rfl; have t_gy : gy < _ := HO.out.lt 2 rfl; have ngc_gy := World.new_ne _ _ x_gy_0; dsimp only at ngc_gy; have x_gc_0 : World.cell? _ ⟨gc, 0, none⟩ = _ := HO.out.cell 3 rfl 0 rfl; have x_gc_1 : World.cell? _ ⟨gc, 1, none⟩ = _ := HO.out.cell 3 rfl 1 rfl; have x_gc_2 : World.cell? _ ⟨gc, 2, none⟩ = _ := HO.out.cell 3 rfl 2 rfl; have t_gc : gc < _ := HO.out.lt 3 rfl; have ngc_gc := World.new_ne _ _ x_gc_0; dsimp only at ngc_gc; have x_a : World.cell? _ ad = _ := HO.out.rcell0 2 rfl ha0.out; have n_a := World.new_ne _ _ x_a)
    | (go_at_call 16; have H2 := (HO.out.allocN (wc.heap.size) rfl [.slice none 0 0] 33).drew; (with_reducible refine (cache_Touch.calls c0 c1 c2 Az cz z a0 z true 0 _ (H2.C 0 rfl) (H2.cap 0 rfl) hT2.out).mono ?_); rintro e v0 ⟨v, rfl, hS, hb2⟩; obtain ⟨Av, cv, rfl, HO2⟩ := H2.made hS hb2; replace HO := Aside0.mk HO2; clear hS hb2 HO2 H2; have x_gz_0 : World.cell? _ ⟨gz, 0, none⟩ = _ := HO.out.cell 1 rfl 0 rfl; have t_gz : gz < _ := HO.out.lt 1 rfl; have ngc_gz := World.new_ne _ _ x_gz_0; dsimp only at ngc_gz; have x_gx_0 : World.cell? _ ⟨gx, 0, none⟩ = _ := HO.out.cell 2 rfl 0 rfl; have t_gx : gx < _ := HO.out.lt 2 rfl; have ngc_gx := World.new_ne _ _ x_gx_0; dsimp only at ngc_gx; have x_gy_0 : World.cell? _ ⟨gy, 0, none⟩ = _ := HO.out.cell 3 rfl 0 rfl; have t_gy : gy < _ := HO.out.lt 3 rfl; have ngc_gy := World.new_ne _ _ x_gy_0; dsimp only at ngc_gy; have x_gc_0 : World.cell? _ ⟨gc, 0, none⟩ = _ := HO.out.cell 4 rfl 0 rfl; have x_gc_1 : World.cell? _ ⟨gc, 1, none⟩ = _ := HO.out.cell 4 rfl 1 rfl; have x_gc_2 : World.cell? _ ⟨gc, 2, none⟩ = _ := HO.out.cell 4 rfl 2 rfl; have t_gc : gc < _ := HO.out.lt 4 rfl; have ngc_gc := World.new_ne _ _ x_gc_0; dsimp only at ngc_gc; have xb0 := HO.out.cell 0 rfl 0 rfl; have fb0 := HO.out.frozen 0 rfl 0; have lb0 := HO.out.lt 0 rfl; have nb0_gz := HO.out.ne 0 1 rfl rfl (by decide); have nb0_gx := HO.out.ne 0 2 rfl rfl (by decide); have nb0_gy := HO.out.ne 0 3 rfl rfl (by decide); have nb0_gc := HO.out.ne 0 4 rfl rfl (by decide); have x_a : World.cell? _ ad = _ := HO.out.rcell0 2 rfl ha0.out; have n_a := World.new_ne _ _ x_a))
                  all_goals
                    go_wp2
                    go_meet
                    case rel => first | exact ⟨_, Av, cv, rfl, rfl, rfl, ⟨HO.out.allocN _ rfl [.slice Av z.length cv] 33⟩⟩ | exact ⟨_, Av, cv, rfl, rfl, rfl, ⟨HO.out.set 0 rfl 0 (.slice Av z.length cv)⟩⟩
                case rest =>
                  clear HO x_a n_a
                  clear x_gz_0 x_gx_0 x_gy_0 x_gc_0 x_gc_1 x_gc_2 t_gz ngc_gz t_gx ngc_gx t_gy ngc_gy t_gc ngc_gc
                  obtain ⟨gv, Av, cv, rfl, rfl, rfl, HO⟩ := hcut
                  have y_gc_0 := HO.out.cell 4 rfl 0 rfl; have y_gc_1 := HO.out.cell 4 rfl 1 rfl; have y_gc_2 := HO.out.cell 4 rfl 2 rfl; have y_gz_0 := HO.out.cell 1 rfl 0 rfl; have y_gv_0 := HO.out.cell 0 rfl 0 rfl
                  go_wp2_with (first
                    | (go_at_call 17; (with_reducible refine (timeboundref22_Same.calls 4000 Az cz z Av cv z true _ (HO.out.C 1 rfl) (HO.out.cap 1 rfl) (HO.out.C 0 rfl) (HO.out.cap 0 rfl) hSz.out).mono ?_); rintro e wy ⟨rfl, hbl⟩; replace HO := Aside0.mk (HO.out.step hbl); clear hbl; clear y_gc_0 y_gc_1 y_gc_2 y_gz_0 y_gv_0; have y_gc_0 := HO.out.cell 4 rfl 0 rfl; have y_gc_1 := HO.out.cell 4 rfl 1 rfl; have y_gc_2 := HO.out.cell 4 rfl 2 rfl; have y_gz_0 := HO.out.cell 1 rfl 0 rfl; have y_gv_0 := HO.out.cell 0 rfl 0 rfl)
                    | (go_at_call 18; (with_reducible refine (cache_Valid.calls 4000 _ _ _ Av cv z true _ (HO.out.C 0 rfl) (HO.out.cap 0 rfl) hVz.out).mono ?_); rintro e wy ⟨rfl, hbl⟩; replace HO := Aside0.mk (HO.out.step hbl); clear hbl)
                    | (go_at_call 10; refine (timeboundlaw22_awake.calls 10 true _ haw.out).mono ?_; rintro e wz ⟨rfl, hbl⟩; replace HO := Aside0.mk (HO.out.step hbl); clear hbl))
                  go_ret
                  exact ⟨rfl, HO.out.below⟩
theorem miss_near {c0 c1 c2 : Int} {x y : List (List Int)} (hc : confOk c0 c1 c2) (hx : GoodM c0 c1 x) (hy : GoodM c0 c1 y) {a : List Int} (ha : ∀ v ∈ a, 0 ≤ v ∧ v ≤ 1048576) : (missRun c0 c2 x a 0).1 - (missRun c0 c2 y a 0).1 ≤ c0 * c1 := by
  by_cases hz : c0 = 0
  · subst hz
    rw [missRun_none a x 0 ha, missRun_none a y 0 ha]
    simp
  · rw [missRun_eq hc hz a x 0 ha hx.1, missRun_eq hc hz a y 0 ha hy.1]
    have h0 := hc.1
    have h1 := hc.2.1
    have := sumN_le (n := c0.toNat) (f := fun i => rowRun (x.getD i []) (ofSet c0 c2 i a)) (g := fun i => rowRun (y.getD i []) (ofSet c0 c2 i a)) (d := c1) (fun i hi => by
      have hxl : i < x.length := by have := hx.1; omega
      have hyl : i < y.length := by have := hy.1; omega
      have e1 := (hx.2 i hxl).length
      have e2 := (hy.2 i hyl).length
      have := rowRun_near (ofSet c0 c2 i a) [] x[i] y[i] (by omega)
      simp only [List.nil_append] at this
      rw [getD_at hxl, getD_at hyl]
      omega)
    rw [show ((c0.toNat : Nat) : Int) = c0 by omega] at this
    simp only
    omega
theorem miss_ok {c0 c1 c2 : Int} {x : List (List Int)} (hc : confOk c0 c1 c2) (hx : GoodM c0 c1 x) {a : List Int} (ha : ∀ v ∈ a, 0 ≤ v ∧ v ≤ 1048576) : ∃ n, cache_Misses.f c0 c1 c2 x a = some (n, 0) ∧ n = (missRun c0 c2 x a 0).1 ∧ (0 ≤ n ∧ n ≤ a.length) ∧ (c0 = 0 → n = a.length) := by
  have hle := missRun_le (c0 := c0) (c2 := c2) a x 0 (by omega)
  refine ⟨(missRun c0 c2 x a 0).1, ?_, rfl, by omega, fun hz => ?_⟩
  · rw [misses_ok hc hx]
    by_cases hz : c0 = 0
    · subst hz; rw [missRun_none a x 0 ha]
    · rw [missRun_eq hc hz a x 0 ha hx.1]
  · subst hz; rw [missRun_none a x 0 ha]; simp
theorem CacheDiffers_all (A0 : Option Addr) (k0 : Nat) (l0 : List Int) (A1 : Option Addr) (k1 : Nat) (l1 : List Int) (w : World) (hr0 : Kd.C (Kd.int .i64) w A0 l0.length l0) (hk0 : l0.length ≤ k0) (hr1 : Kd.C (Kd.int .u8) w A1 l1.length l1) (hk1 : l1.length ≤ k1) (hw1 : ∀ x ∈ l1, 0 ≤ x ∧ x ≤ 255) : Calls Try.prog 4 #[.slice A0 l0.length k0, .slice A1 l1.length k1] w fun e w' => e = .returned (.bool true) ∧ Below w.heap.size w w' := by
  by_cases h : l0.length ≤ 400 ∧ l1.length ≤ 100
  case neg => exact CacheDiffers_off A0 k0 l0 A1 k1 l1 w hr0 hk0 hr1 hk1 hw1 h
  obtain ⟨h0, h1⟩ := h
  obtain ⟨c0, c1, c2, q, hC, hc0, hc1, hc2, hq0, hq1⟩ := cache_some (L := l0) (p := 0) (by omega) (by omega) (by omega)
  have hc : confOk c0 c1 c2 := ⟨by omega, by omega, by omega⟩
  obtain ⟨x, q2, hL1, hx, hq20, hq21⟩ := lines_ok hc (show l0.length ≤ 1000000 by omega) hq0 hq1
  obtain ⟨y, q3, hL2, hy, hq30, hq31⟩ := lines_ok hc (show l0.length ≤ 1000000 by omega) hq20 hq21
  obtain ⟨t, q4, hN, ht0, ht1, _, _⟩ := next_some l0 hq30 hq31 (by omega) (n := 2) (by decide) (by decide)
  obtain ⟨most, hmo⟩ : ∃ most, (if t = 1 then (12 : Int) else 120) = most := ⟨_, rfl⟩
  have hmb : 12 ≤ most ∧ most ≤ 120 := by rw [← hmo]; split <;> omega
  obtain ⟨a, haa⟩ : ∃ a, a = l1.map (fun v => v % most) := ⟨_, rfl⟩
  have ha : ∀ v ∈ a, 0 ≤ v ∧ v ≤ 1048576 := fun v hv => by
    rw [haa] at hv
    obtain ⟨b, hb, rfl⟩ := List.mem_map.1 hv
    have := Int.emod_nonneg b (show most ≠ 0 by omega)
    have := Int.emod_lt_of_pos b (show 0 < most by omega)
    omega
  obtain ⟨n, hM1, hn, hnb, hnz⟩ := miss_ok hc hx ha
  obtain ⟨m, hM2, hm, hmb2, hmz⟩ := miss_ok hc hy ha
  refine CacheDiffers_on A0 k0 l0 A1 k1 l1 w hr0 hk0 hr1 hk1 hw1 h0 h1 c0 c1 c2 q q2 q3 q4 t x y hC hL1 hL2 hN most a n m ⟨hc0.1, hc0.2⟩ ⟨hc1.1, hc1.2⟩ hmo haa hM1 hM2 hnb hmb2 (by rw [hn, hm]; exact miss_near hc hx hy ha) (by rw [hn, hm]; exact miss_near hc hy hx ha) hnz (fun hz a0 tl hat => ?_)
  have ha0 := ha a0 (by rw [hat]; exact List.mem_cons_self)
  have hg := hx.step hc hz ha0.1 ha0.2
  have h2 := step_twice hc hx hz ha0.1 ha0.2
  refine ⟨_, _, touch_ok hc hx hz ha0.1 ha0.2, ?_, valid_ok hc hg, same_refl (GoodM.few hg hc).1 (GoodM.few hg hc).2 (by omega)⟩
  rw [touch_ok hc (show GoodM c0 c1 (stepL c0 c2 x a0) from hg) hz ha0.1 ha0.2, h2.1, decide_eq_true h2.2]
theorem CacheDiffers_walk (a0 : Option Addr) (len0 cap0 : Nat) (z0 : List Int) (a1 : Option Addr) (len1 cap1 : Nat) (z1 : List Int) (w : World) (w0 : (a0 = none ∧ len0 = 0 ∧ cap0 = 0 ∧ z0 = []) ∨ ∃ x, a0 = some x ∧ len0 ≤ cap0 ∧ cap0 ≤ maxLen ∧ z0.length = cap0 ∧ (∀ i, i < z0.length → w.cell? (x.add i) = some (.int .i64 (z0.getD i 0))) ∧ ∀ n ∈ z0, (Lit.int .i64 n).wf = true) (y0 : len0 * 8 ≤ 140737488351232) (w1 : (a1 = none ∧ len1 = 0 ∧ cap1 = 0 ∧ z1 = []) ∨ ∃ x, a1 = some x ∧ len1 ≤ cap1 ∧ cap1 ≤ maxLen ∧ z1.length = cap1 ∧ (∀ i, i < z1.length → w.cell? (x.add i) = some (.int .u8 (z1.getD i 0))) ∧ ∀ n ∈ z1, (Lit.int .u8 n).wf = true) (y1 : len1 * 1 ≤ 140737488351232) :
    Calls Try.prog 4 #[.slice a0 len0 cap0, .slice a1 len1 cap1] w fun e w' => e = .returned (.bool true) ∧ Below w.heap.size w w' := by
  obtain ⟨l0, rfl, hr0, hm0, hw0, hc0⟩ := ReadsInt.ofRowC w0
  obtain ⟨l1, rfl, hr1, hm1, hw1, hc1⟩ := ReadsInt.ofRowC w1
  exact CacheDiffers_all _ _ l0 _ _ l1 w (Kd.C_of_reads (d := (0 : Int)) (h1 := fun _ => rfl) hr0) hc0 (Kd.C_of_reads (d := (0 : Int)) (h1 := fun _ => rfl) hr1) hc1 (fun x hx => byte_ok (hw1 x hx))
end Go.Proofs.Ytfdiagegpahcoaa.QCd
