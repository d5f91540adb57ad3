/- Addresses of one line do not differ, and an access changes the contents of its own set alone: for up to 400 numbers that make a cache and valid contents, and addresses below 256. -/
import Derived.Test.YtfdiagegpahcoaaFacts
namespace Go.Proofs.Ytfdiagegpahcoaa.QCd
set_option linter.unusedVariables false
set_option linter.unusedSimpArgs false
open Go.RowKit Go.Proofs.Ytfdiagegpahcoaa.QCa Go.Proofs.Ytfdiagegpahcoaa.QCb Go.Proofs.YtfdiagegpahcoaaW.PrintWords Go.Proofs.YtfdiagegpahcoaaW.PrintLast Go.Proofs.YtfdiagegpahcoaaW.PrintMore Mat
abbrev wdOf {w0 W : World} {D : Option (Nat × List Int × Int)} {L : List Blk} {M : List Mx} (_h : OwnD w0 W D L M) : World := W
/-- Row s of a matrix. -/
theorem rowAt {w0 W : World} {D : Option (Nat × List Int × Int)} {L : List Blk} {M : List Mx} (h : OwnD w0 W D L M) (i : Nat) {A : Option Addr} {c : Nat} {l : List (List Int)} (hi : M[i]? = some (.mat A c l)) {s : Nat} (hl : s < l.length) : ∃ ad Ax cx, A = some ad ∧ W.cell? (ad.add s) = some (.slice Ax (l.getD s []).length cx) ∧ ∀ (j : Nat) (v : Int), (l.getD s [])[j]? = some v → ∃ ax, Ax = some ax ∧ W.cell? (ax.add j) = some (.int .i64 v) := by
  have hg : QCa.rd_L1 l (s : Int) = l.getD s [] := by simp [QCa.rd_L1]
  obtain ⟨ad, Ax, cx, rfl, h1, h2, h3⟩ := QCa.at_L1 (h.C i hi) s (by omega) (by omega)
  rw [Int.toNat_natCast, hg] at h1
  rw [hg] at h3
  refine ⟨ad, Ax, cx, rfl, h1, fun j v hj => ?_⟩
  have hjl := (List.getElem?_eq_some_iff.1 hj).1
  obtain ⟨ax, rfl, hx⟩ := Kd.at_int h3 j (by omega) (by omega)
  rw [Int.toNat_natCast, rd_nat hjl] at hx
  refine ⟨ax, rfl, hx.trans ?_⟩
  rw [List.getElem?_eq_getElem hjl] at hj
  rw [Option.some.inj hj]
/-- What an access at line n leaves. -/
structure After (c0 c1 n : Int) (m : Nat) (x z : List (List Int)) : Prop where
  good : GoodM c0 c1 z
  mlt : (m : Int) < c0
  far : ∀ s : Nat, (s : Int) < c0 → s ≠ m → z.getD s [] = x.getD s []
  near : (z.getD m [])[0]? = some n
theorem after_of {c0 c1 c2 a : Int} {x : List (List Int)} (hc : confOk c0 c1 c2) (hx : GoodM c0 c1 x) (hz : c0 ≠ 0) (h0 : 0 ≤ a) (h1 : a ≤ 1048576) : After c0 c1 (a / c2) (a / c2 % c0).toNat x (stepL c0 c2 x a) := by
  obtain ⟨e1, e2, e3, e4, e5⟩ := place hc hx.1 hz h0 h1
  refine ⟨hx.step hc hz h0 h1, by have := hx.1; omega, fun s _ hs => ?_, ?_⟩
  · simp [stepL, List.getD_eq_getElem?_getD, List.getElem?_set_ne (Ne.symm hs)]
  · have g1 : (stepL c0 c2 x a).getD (a / c2 % c0).toNat [] = frontL (a / c2) (x.getD (a / c2 % c0).toNat []) := by simp [stepL, List.getD_eq_getElem?_getD, e4]
    rw [g1, frontL]; rfl
theorem same_line {n c2 d : Int} (h2 : 0 < c2) (hd : 0 ≤ d ∧ d < c2) : (n * c2 + d) / c2 = n := by
  rw [Int.add_comm, Int.add_mul_ediv_right _ _ (by omega), Int.ediv_eq_zero_of_lt hd.1 hd.2]; omega
set_option maxHeartbeats 2000000 in
set_option maxRecDepth 100000 in
theorem CacheWithin_off (A0 : Option Addr) (k0 : Nat) (l0 : List Int) (a1 a2 : Int) (w : World) (hr0 : Kd.C (Kd.int .i64) w A0 l0.length l0) (hk0 : l0.length ≤ k0) (ha1 : 0 ≤ a1 ∧ a1 ≤ 255) (ha2 : 0 ≤ a2 ∧ a2 ≤ 255) (h : ¬ l0.length ≤ 400) : Calls Try.prog 7 #[.slice A0 l0.length k0, .int .u8 a1, .int .u8 a2] w fun e w' => e = .returned (.bool true) ∧ Below w.heap.size w w' := by
  have haw := Aside0.mk (awake_ev (Nat.le_refl 10))
  replace hr0 := Aside0.mk hr0
  have HO := Aside0.mk (Below.refl w.heap.size w)
  have hf : Aside0 (timeboundmake_Few.f l0 = some false) := ⟨by unfold timeboundmake_Few.f; rw [decide_eq_false (by omega)]⟩
  clear h
  go_enter Try.func7, Try.ntmps7
  go_wp2_with (first
    | (go_at_call 9; refine (timeboundmake_Few.calls _ _ _ false _ hr0.out hk0 hf.out).mono ?_; rintro e w' ⟨rfl, ⟨nd, rfl⟩⟩; replace HO := Aside0.mk (pw_below_drewN HO.out nd))
    | (go_at_call 10; refine (timeboundlaw22_awake.calls 10 true _ haw.out).mono ?_; rintro e w9 ⟨rfl, hbl⟩; replace HO := Aside0.mk (below_step HO.out hbl)))
  go_ret
  exact ⟨rfl, HO.out⟩
set_option maxHeartbeats 8000000 in
set_option maxRecDepth 100000 in
theorem CacheWithin_on (A0 : Option Addr) (k0 : Nat) (l0 : List Int) (a1 a2 : Int) (w : World) (hr0 : Kd.C (Kd.int .i64) w A0 l0.length l0) (hk0 : l0.length ≤ k0) (ha1 : 0 ≤ a1 ∧ a1 ≤ 255) (ha2 : 0 ≤ a2 ∧ a2 ≤ 255) (h0 : l0.length ≤ 400) (c0 c1 c2 q q2 : Int) (x z : List (List Int)) (n p1 p2 : Int) (b : Bool) (hcb : 0 ≤ c0 ∧ c0 ≤ 4 ∧ 1 ≤ c1 ∧ c1 ≤ 3 ∧ 1 ≤ c2 ∧ c2 ≤ 4) (hC : timeboundmake_Cache.f l0 0 = some (c0, c1, c2, q)) (hL : QCb.timeboundmake_Lines.f l0 q c0 c1 c2 = some (x, q2)) (hn : 0 ≤ n ∧ n ≤ 255) (hLn : cache_Line.f c0 c1 c2 a1 = some n) (hp1 : n * c2 = p1) (hp2 : p1 + a2 % c2 = p2) (hpb : 0 ≤ p1 ∧ p1 ≤ 1020) (hT1 : cache_Touch.f c0 c1 c2 x p1 = some (z, b, 0)) (hT2 : cache_Touch.f c0 c1 c2 x p2 = some (z, b, 0)) (hx : GoodM c0 c1 x) (hz : GoodM c0 c1 z) (hS : timeboundref22_Same.f 4000 z z = some true) (m : Nat) (hA : c0 ≠ 0 → After c0 c1 n m x z ∧ cache_Set.f c0 c1 c2 n = some (m : Int)) : Calls Try.prog 7 #[.slice A0 l0.length k0, .int .u8 a1, .int .u8 a2] w fun e w' => e = .returned (.bool true) ∧ Below w.heap.size w w' := by
  have hf : Aside0 (timeboundmake_Few.f l0 = some true) := ⟨by unfold timeboundmake_Few.f; rw [decide_eq_true (by omega)]⟩
  have haw := Aside0.mk (awake_ev (Nat.le_refl 10))
  have hla := hr0.2.1
  obtain ⟨b1, b2, b3, b4, b5, b6⟩ := hcb
  have hc2 : (c2 == 0) = false := beq_eq_false_iff_ne.2 (by omega)
  have hd0 := Int.emod_nonneg a2 (show c2 ≠ 0 by omega)
  have hd1 := Int.emod_lt_of_pos a2 (show 0 < c2 by omega)
  have ht1 : a2.tmod c2 = a2 % c2 := Int.tmod_eq_emod_of_nonneg ha2.1
  have hw1 : wrap64 (n * c2) = p1 := by rw [hp1]; exact w64 (by omega) (by omega)
  have hww1 : IntKind.i64.wrap (n * c2) = p1 := by rw [i64_w]; exact hw1
  have hw2 : wrap64 (p1 + a2 % c2) = p2 := by rw [hp2]; exact w64 (by omega) (by omega)
  have hww2 : IntKind.i64.wrap (p1 + a2 % c2) = p2 := by rw [i64_w]; exact hw2
  have hww3 : IntKind.i64.wrap a2 = a2 := by rw [i64_w, w64 (by omega) (by omega)]
  have hww4 : IntKind.i64.wrap a1 = a1 := by rw [i64_w, w64 (by omega) (by omega)]
  have hc2n : ¬ c2 = 0 := by omega
  have hww5 : IntKind.i64.wrap (a2 % c2) = a2 % c2 := by rw [i64_w, w64 (by omega) (by omega)]
  have hww6 : wrap64 (a2 % c2) = a2 % c2 := w64 (by omega) (by omega)
  have hlz : ((z.length : Int) != c0) = false := by rw [hz.1]; simp
  clear hp1 hp2
  replace hr0 := Aside0.mk hr0
  replace hC := Aside0.mk hC
  replace hL := Aside0.mk hL
  replace hLn := Aside0.mk hLn
  replace hT1 := Aside0.mk hT1
  replace hT2 := Aside0.mk hT2
  replace hx := Aside0.mk hx
  replace hz := Aside0.mk hz
  replace hS := Aside0.mk hS
  replace hA := Aside0.mk hA
  obtain ⟨p0a, p0b⟩ := ha1
  obtain ⟨p0c, p0d⟩ := ha2
  obtain ⟨p0e, p0f⟩ := hn
  obtain ⟨p0g, p0h⟩ := hpb
  have HO := Aside0.mk (OwnD.start w)
  go_enter Try.func7, Try.ntmps7
  go_wp2_with (first
    | (go_at_call 9; refine (timeboundmake_Few.calls _ _ _ true _ hr0.out hk0 hf.out).mono ?_; rintro e w' ⟨rfl, ⟨nd, rfl⟩⟩; replace HO := Aside0.mk (HO.out.drewN nd))
    | (go_at_call 11; (with_reducible refine (timeboundmake_New.calls _ _ l0 l0 0 w _ HO.out.below hr0.out hk0 rfl).mono ?_); rintro e w1 ⟨g, rfl, hI2, hB2, hb2⟩; replace HO : Aside0 (OwnD w w1 (some (g, l0, 0)) [] []) := Aside0.mk (HO.out.withDeck hI2 hb2); clear hI2 hB2 hb2)
    | (go_at_call 12; (with_reducible refine (timeboundmake_Cache.calls _ _ _ _ _ _ _ _ _ HO.out.isDeck HO.out.below hC.out).mono ?_); rintro e w2 ⟨rfl, hI2, hB2, hK2⟩; replace HO : Aside0 (OwnD w w2 (some (g, l0, q)) [] []) := Aside0.mk (HO.out.next hI2 hB2 hK2); clear hI2 hB2 hK2; )
    | ((with_reducible refine gate_dst (N := 8) rfl ?_); refine box_event ?hg (N := 8) ?hd (cs := #[.int .i64 0, .int .i64 0, .int .i64 0]) (t := 29) ?hr ?_; (case hd => rfl); (case hg => rfl); (case hr => first | (go_simp; done) | (go_simp; rfl)); intro gc hg w3 hb hbl; replace HO : Aside0 (OwnD w w3 (some (g, l0, q)) [(gc, 29, [.int .i64 0, .int .i64 0, .int .i64 0])] []) := Aside0.mk (HO.out.new hg hb hbl); clear hg hb hbl; have x_gc_0 := HO.out.cell 0 rfl 0 rfl; have f_gc_0 := HO.out.frozen 0 rfl 0; have x_gc_1 := HO.out.cell 0 rfl 1 rfl; have f_gc_1 := HO.out.frozen 0 rfl 1; have x_gc_2 := HO.out.cell 0 rfl 2 rfl; have f_gc_2 := HO.out.frozen 0 rfl 2; have f_gc_0 := HO.out.frozen 0 rfl 0; have f_gc_1 := HO.out.frozen 0 rfl 1; have f_gc_2 := HO.out.frozen 0 rfl 2)
    | ((with_reducible refine gate_store (t := 29) (p := 8) rfl ?_); refine store_event (t := 29) (p := 8) (v := .tmp 26) (w1 := ((w3.setCell ⟨gc, 0, none⟩ (.int .i64 c0)).setCell ⟨gc, 1, none⟩ (.int .i64 c1)).setCell ⟨gc, 2, none⟩ (.int .i64 c2)) ?hg ?ho ?hn ?hr ?_; (case ho => rfl); (case hg => rfl); (case hn => rfl); (case hr => first | (go_simp; done) | (go_simp; rfl)); intro w4 hw; replace HO : Aside0 (OwnD w w4 (some (g, l0, q)) [(gc, 29, [.int .i64 c0, .int .i64 c1, .int .i64 c2])] []) := Aside0.mk (by rw [hw]; exact (((HO.out.set 0 rfl 0 (.int .i64 c0)).set 0 rfl 1 (.int .i64 c1)).set 0 rfl 2 (.int .i64 c2))); clear hw; (try clear x_gc_0); (try clear f_gc_0); (try clear x_gc_1); (try clear f_gc_1); (try clear x_gc_2); (try clear f_gc_2); have x_gc_0 := HO.out.cell 0 rfl 0 rfl; have f_gc_0 := HO.out.frozen 0 rfl 0; have x_gc_1 := HO.out.cell 0 rfl 1 rfl; have f_gc_1 := HO.out.frozen 0 rfl 1; have x_gc_2 := HO.out.cell 0 rfl 2 rfl; have f_gc_2 := HO.out.frozen 0 rfl 2)
    | (go_at_call 13; (with_reducible refine (QCb.timeboundmake_Lines.calls g l0 q c0 c1 c2 x q2 w _ HO.out.isDeck HO.out.below hL.out).mono ?_); rintro e w5 ⟨v, rfl, hS, hI2, hB2, hK2⟩; obtain ⟨A, cA, rfl, HO2⟩ := HO.out.madeNext hS hI2 hB2 hK2; replace HO : Aside0 (OwnD w w5 (some (g, l0, q2)) [(gc, 29, [.int .i64 c0, .int .i64 c1, .int .i64 c2])] [.mat A cA x]) := Aside0.mk HO2; clear hS hI2 hB2 hK2 HO2; (try clear x_gc_0); (try clear f_gc_0); (try clear x_gc_1); (try clear f_gc_1); (try clear x_gc_2); (try clear f_gc_2); have x_gc_0 := HO.out.cell 0 rfl 0 rfl; have f_gc_0 := HO.out.frozen 0 rfl 0; have x_gc_1 := HO.out.cell 0 rfl 1 rfl; have f_gc_1 := HO.out.frozen 0 rfl 1; have x_gc_2 := HO.out.cell 0 rfl 2 rfl; have f_gc_2 := HO.out.frozen 0 rfl 2)
    | ((with_reducible refine gate_dst (N := 9) rfl ?_); refine box_event ?hg (N := 9) ?hd (cs := #[.slice none 0 0]) (t := 33) ?hr ?_; (case hd => rfl); (case hg => rfl); (case hr => first | (go_simp; done) | (go_simp; rfl)); intro gx hg w6 hb hbl; replace HO : Aside0 (OwnD w w6 (some (g, l0, q2)) [(gx, 33, [.slice none 0 0]), (gc, 29, [.int .i64 c0, .int .i64 c1, .int .i64 c2])] [.mat A cA x]) := Aside0.mk (HO.out.new hg hb hbl); clear hg hb hbl; (try clear x_gc_0); (try clear f_gc_0); (try clear x_gc_1); (try clear f_gc_1); (try clear x_gc_2); (try clear f_gc_2); have x_gx_0 := HO.out.cell 0 rfl 0 rfl; have f_gx_0 := HO.out.frozen 0 rfl 0; have x_gc_0 := HO.out.cell 1 rfl 0 rfl; have f_gc_0 := HO.out.frozen 1 rfl 0; have x_gc_1 := HO.out.cell 1 rfl 1 rfl; have f_gc_1 := HO.out.frozen 1 rfl 1; have x_gc_2 := HO.out.cell 1 rfl 2 rfl; have f_gc_2 := HO.out.frozen 1 rfl 2; have f_gx_0 := HO.out.frozen 0 rfl 0)
    | ((with_reducible refine gate_store (t := 33) (p := 9) rfl ?_); refine store_event (t := 33) (p := 9) (v := .tmp 29) (w1 := w6.setCell ⟨gx, 0, none⟩ (.slice A x.length cA)) ?hg ?ho ?hn ?hr ?_; (case ho => rfl); (case hg => rfl); (case hn => rfl); (case hr => first | (go_simp; done) | (go_simp; rfl)); intro w7 hw; replace HO : Aside0 (OwnD w w7 (some (g, l0, q2)) [(gx, 33, [.slice A x.length cA]), (gc, 29, [.int .i64 c0, .int .i64 c1, .int .i64 c2])] [.mat A cA x]) := Aside0.mk (by rw [hw]; exact (HO.out.set 0 rfl 0 (.slice A x.length cA))); clear hw; (try clear x_gx_0); (try clear f_gx_0); (try clear x_gc_0); (try clear f_gc_0); (try clear x_gc_1); (try clear f_gc_1); (try clear x_gc_2); (try clear f_gc_2); have x_gx_0 := HO.out.cell 0 rfl 0 rfl; have f_gx_0 := HO.out.frozen 0 rfl 0; have x_gc_0 := HO.out.cell 1 rfl 0 rfl; have f_gc_0 := HO.out.frozen 1 rfl 0; have x_gc_1 := HO.out.cell 1 rfl 1 rfl; have f_gc_1 := HO.out.frozen 1 rfl 1; have x_gc_2 := HO.out.cell 1 rfl 2 rfl; have f_gc_2 := HO.out.frozen 1 rfl 2)
    | (go_at_call 20; (with_reducible refine (cache_Line.calls c0 c1 c2 a1 n _ hLn.out).mono ?_); rintro e w8 ⟨rfl, hbl⟩; replace HO : Aside0 (OwnD w w8 (some (g, l0, q2)) [(gx, 33, [.slice A x.length cA]), (gc, 29, [.int .i64 c0, .int .i64 c1, .int .i64 c2])] [.mat A cA x]) := Aside0.mk (HO.out.step hbl); clear hbl; (try clear x_gx_0); (try clear f_gx_0); (try clear x_gc_0); (try clear f_gc_0); (try clear x_gc_1); (try clear f_gc_1); (try clear x_gc_2); (try clear f_gc_2); have x_gx_0 := HO.out.cell 0 rfl 0 rfl; have f_gx_0 := HO.out.frozen 0 rfl 0; have x_gc_0 := HO.out.cell 1 rfl 0 rfl; have f_gc_0 := HO.out.frozen 1 rfl 0; have x_gc_1 := HO.out.cell 1 rfl 1 rfl; have f_gc_1 := HO.out.frozen 1 rfl 1; have x_gc_2 := HO.out.cell 1 rfl 2 rfl; have f_gc_2 := HO.out.frozen 1 rfl 2)
    | (go_at_call 16; (with_reducible refine (cache_Touch.calls c0 c1 c2 A cA x p1 z b 0 _ (HO.out.C 0 rfl) (HO.out.cap 0 rfl) hT1.out).mono ?_); rintro e w9 ⟨v, rfl, hS, hbl⟩; obtain ⟨U, cU, rfl, HO2⟩ := HO.out.made hS hbl; replace HO : Aside0 (OwnD w w9 (some (g, l0, q2)) [(gx, 33, [.slice A x.length cA]), (gc, 29, [.int .i64 c0, .int .i64 c1, .int .i64 c2])] [.mat U cU z, .mat A cA x]) := Aside0.mk HO2; clear hbl hS HO2; (try clear x_gx_0); (try clear f_gx_0); (try clear x_gc_0); (try clear f_gc_0); (try clear x_gc_1); (try clear f_gc_1); (try clear x_gc_2); (try clear f_gc_2); have x_gx_0 := HO.out.cell 0 rfl 0 rfl; have f_gx_0 := HO.out.frozen 0 rfl 0; have x_gc_0 := HO.out.cell 1 rfl 0 rfl; have f_gc_0 := HO.out.frozen 1 rfl 0; have x_gc_1 := HO.out.cell 1 rfl 1 rfl; have f_gc_1 := HO.out.frozen 1 rfl 1; have x_gc_2 := HO.out.cell 1 rfl 2 rfl; have f_gc_2 := HO.out.frozen 1 rfl 2)
    | ((with_reducible refine gate_dst (N := 11) rfl ?_); refine box_event ?hg (N := 11) ?hd (cs := #[.slice none 0 0]) (t := 33) ?hr ?_; (case hd => rfl); (case hg => rfl); (case hr => first | (go_simp; done) | (go_simp; rfl)); intro ga hg w10 hb hbl; replace HO : Aside0 (OwnD w w10 (some (g, l0, q2)) [(ga, 33, [.slice none 0 0]), (gx, 33, [.slice A x.length cA]), (gc, 29, [.int .i64 c0, .int .i64 c1, .int .i64 c2])] [.mat U cU z, .mat A cA x]) := Aside0.mk (HO.out.new hg hb hbl); clear hg hb hbl; (try clear x_gx_0); (try clear f_gx_0); (try clear x_gc_0); (try clear f_gc_0); (try clear x_gc_1); (try clear f_gc_1); (try clear x_gc_2); (try clear f_gc_2); have x_ga_0 := HO.out.cell 0 rfl 0 rfl; have f_ga_0 := HO.out.frozen 0 rfl 0; have x_gx_0 := HO.out.cell 1 rfl 0 rfl; have f_gx_0 := HO.out.frozen 1 rfl 0; have x_gc_0 := HO.out.cell 2 rfl 0 rfl; have f_gc_0 := HO.out.frozen 2 rfl 0; have x_gc_1 := HO.out.cell 2 rfl 1 rfl; have f_gc_1 := HO.out.frozen 2 rfl 1; have x_gc_2 := HO.out.cell 2 rfl 2 rfl; have f_gc_2 := HO.out.frozen 2 rfl 2; have f_ga_0 := HO.out.frozen 0 rfl 0)
    | ((with_reducible refine gate_store (t := 33) (p := 11) rfl ?_); refine store_event (t := 33) (p := 11) (v := .tmp 42) (w1 := w10.setCell ⟨ga, 0, none⟩ (.slice U z.length cU)) ?hg ?ho ?hn ?hr ?_; (case ho => rfl); (case hg => rfl); (case hn => rfl); (case hr => first | (go_simp; done) | (go_simp; rfl)); intro w11 hw; replace HO : Aside0 (OwnD w w11 (some (g, l0, q2)) [(ga, 33, [.slice U z.length cU]), (gx, 33, [.slice A x.length cA]), (gc, 29, [.int .i64 c0, .int .i64 c1, .int .i64 c2])] [.mat U cU z, .mat A cA x]) := Aside0.mk (by rw [hw]; exact (HO.out.set 0 rfl 0 (.slice U z.length cU))); clear hw; (try clear x_ga_0); (try clear f_ga_0); (try clear x_gx_0); (try clear f_gx_0); (try clear x_gc_0); (try clear f_gc_0); (try clear x_gc_1); (try clear f_gc_1); (try clear x_gc_2); (try clear f_gc_2); have x_ga_0 := HO.out.cell 0 rfl 0 rfl; have f_ga_0 := HO.out.frozen 0 rfl 0; have x_gx_0 := HO.out.cell 1 rfl 0 rfl; have f_gx_0 := HO.out.frozen 1 rfl 0; have x_gc_0 := HO.out.cell 2 rfl 0 rfl; have f_gc_0 := HO.out.frozen 2 rfl 0; have x_gc_1 := HO.out.cell 2 rfl 1 rfl; have f_gc_1 := HO.out.frozen 2 rfl 1; have x_gc_2 := HO.out.cell 2 rfl 2 rfl; have f_gc_2 := HO.out.frozen 2 rfl 2))
  go_upto_region 8 with (fail)
  (try simp only [Act.put, List.setIfInBounds_toArray, List.set_cons_succ, List.set_cons_zero])
  have t_ga : ga < _ := HO.out.lt 0 rfl
  have ngc_ga := World.new_ne _ _ x_ga_0
  dsimp only at ngc_ga
  have t_gx : gx < _ := HO.out.lt 1 rfl
  have ngc_gx := World.new_ne _ _ x_gx_0
  dsimp only at ngc_gx
  have t_gc : gc < _ := HO.out.lt 2 rfl
  have ngc_gc := World.new_ne _ _ x_gc_0
  dsimp only at ngc_gc
  go_cut [14, 15, 16] (fun v14 v15 v16 wc => ∃ (gb : Nat) (B : Option Addr) (cB : Nat), v14 = .pointer (some ⟨gb, 0, none⟩) ∧ v15 = .bool b ∧ v16 = .int .i64 0 ∧ Aside0 (OwnD w wc (some (g, l0, q2)) [(gb, 33, [.slice B z.length cB]), (ga, 33, [.slice U z.length cU]), (gx, 33, [.slice A x.length cA]), (gc, 29, [.int .i64 c0, .int .i64 c1, .int .i64 c2])] [.mat B cB z, .mat U cU z, .mat A cA x]))
  case first =>
    go_region_held3 (fun w' => w'.cell? ⟨ga, 0, none⟩ = some (.slice U z.length cU) ∧ w'.cell? ⟨gx, 0, none⟩ = some (.slice A x.length cA) ∧ w'.cell? ⟨gc, 0, none⟩ = some (.int .i64 c0) ∧ w'.cell? ⟨gc, 1, none⟩ = some (.int .i64 c1) ∧ w'.cell? ⟨gc, 2, none⟩ = some (.int .i64 c2)) (go_keep) (first
    | (go_at_call 16; have H2 := HO.out.drew; (with_reducible refine (cache_Touch.calls c0 c1 c2 A cA x p2 z b 0 _ (H2.C 1 rfl) (H2.cap 1 rfl) hT2.out).mono ?_); rintro e v0 ⟨v, rfl, hS, hb2⟩; obtain ⟨B, cB, rfl, HO2⟩ := H2.made hS hb2; replace HO := Aside0.mk HO2; clear hS hb2 HO2 H2; have x_ga_0 : World.cell? _ ⟨ga, 0, none⟩ = _ := HO.out.cell 0 rfl 0 rfl; have t_ga : ga < _ := HO.out.lt 0 rfl; have ngc_ga := World.new_ne _ _ x_ga_0; dsimp only at ngc_ga; have x_gx_0 : World.cell? _ ⟨gx, 0, none⟩ = _ := HO.out.cell 1 rfl 0 rfl; have t_gx : gx < _ := HO.out.lt 1 rfl; have ngc_gx := World.new_ne _ _ x_gx_0; dsimp only at ngc_gx; have x_gc_0 : World.cell? _ ⟨gc, 0, none⟩ = _ := HO.out.cell 2 rfl 0 rfl; have x_gc_1 : World.cell? _ ⟨gc, 1, none⟩ = _ := HO.out.cell 2 rfl 1 rfl; have x_gc_2 : World.cell? _ ⟨gc, 2, none⟩ = _ := HO.out.cell 2 rfl 2 rfl; have t_gc : gc < _ := HO.out.lt 2 rfl; have ngc_gc := World.new_ne _ _ x_gc_0; dsimp only at ngc_gc)
    | (go_at_call 16; have H2 := (HO.out.allocN (w11.heap.size) rfl [.slice none 0 0] 33).drew; (with_reducible refine (cache_Touch.calls c0 c1 c2 A cA x p2 z b 0 _ (H2.C 1 rfl) (H2.cap 1 rfl) hT2.out).mono ?_); rintro e v0 ⟨v, rfl, hS, hb2⟩; obtain ⟨B, cB, rfl, HO2⟩ := H2.made hS hb2; replace HO := Aside0.mk HO2; clear hS hb2 HO2 H2; have x_ga_0 : World.cell? _ ⟨ga, 0, none⟩ = _ := HO.out.cell 1 rfl 0 rfl; have t_ga : ga < _ := HO.out.lt 1 rfl; have ngc_ga := World.new_ne _ _ x_ga_0; dsimp only at ngc_ga; have x_gx_0 : World.cell? _ ⟨gx, 0, none⟩ = _ := HO.out.cell 2 rfl 0 rfl; have t_gx : gx < _ := HO.out.lt 2 rfl; have ngc_gx := World.new_ne _ _ x_gx_0; dsimp only at ngc_gx; have x_gc_0 : World.cell? _ ⟨gc, 0, none⟩ = _ := HO.out.cell 3 rfl 0 rfl; have x_gc_1 : World.cell? _ ⟨gc, 1, none⟩ = _ := HO.out.cell 3 rfl 1 rfl; have x_gc_2 : World.cell? _ ⟨gc, 2, none⟩ = _ := HO.out.cell 3 rfl 2 rfl; have t_gc : gc < _ := HO.out.lt 3 rfl; have ngc_gc := World.new_ne _ _ x_gc_0; dsimp only at ngc_gc; have xb0 := HO.out.cell 0 rfl 0 rfl; have fb0 := HO.out.frozen 0 rfl 0; have lb0 := HO.out.lt 0 rfl; have nb0_ga := HO.out.ne 0 1 rfl rfl (by decide); have nb0_gx := HO.out.ne 0 2 rfl rfl (by decide); have nb0_gc := HO.out.ne 0 3 rfl rfl (by decide)))
    all_goals
      go_wp2
      go_meet
      case rel => first | exact ⟨_, B, cB, rfl, rfl, rfl, ⟨HO.out.allocN _ rfl [.slice B z.length cB] 33⟩⟩ | exact ⟨_, B, cB, rfl, rfl, rfl, ⟨HO.out.set 0 rfl 0 (.slice B z.length cB)⟩⟩
  case rest =>
    clear HO x_ga_0 x_gx_0 x_gc_0 x_gc_1 x_gc_2 t_ga ngc_ga t_gx ngc_gx t_gc ngc_gc
    (try clear f_gc_0 f_gc_1 f_gc_2)
    (try clear f_gx_0)
    (try clear f_ga_0)
    obtain ⟨gb, B, cB, rfl, rfl, rfl, HO⟩ := hcut
    have x_gb_0 := HO.out.cell 0 rfl 0 rfl
    have x_ga_0 := HO.out.cell 1 rfl 0 rfl
    have x_gx_0 := HO.out.cell 2 rfl 0 rfl
    have x_gc_0 := HO.out.cell 3 rfl 0 rfl
    have x_gc_1 := HO.out.cell 3 rfl 1 rfl
    have x_gc_2 := HO.out.cell 3 rfl 2 rfl
    go_wp2_with (first
      | (go_at_call 17; (with_reducible refine (timeboundref22_Same.calls 4000 U cU z B cB z true _ (HO.out.C 1 rfl) (HO.out.cap 1 rfl) (HO.out.C 0 rfl) (HO.out.cap 0 rfl) hS.out).mono ?_); rintro e wy ⟨rfl, hbl⟩; replace HO := Aside0.mk (HO.out.step hbl); clear hbl x_gb_0 x_ga_0 x_gx_0 x_gc_0 x_gc_1 x_gc_2; have x_gb_0 := HO.out.cell 0 rfl 0 rfl; have x_ga_0 := HO.out.cell 1 rfl 0 rfl; have x_gx_0 := HO.out.cell 2 rfl 0 rfl; have x_gc_0 := HO.out.cell 3 rfl 0 rfl; have x_gc_1 := HO.out.cell 3 rfl 1 rfl; have x_gc_2 := HO.out.cell 3 rfl 2 rfl))
    go_loopg [17] c0.toNat (fun kq v17 w' => ∃ (s : Nat), v17 = .int .i64 s ∧ Aside0 ((s : Int) ≤ c0 ∧ kq = c0.toNat - s) ∧ Aside0 (OwnD w w' (some (g, l0, q2)) [(gb, 33, [.slice B z.length cB]), (ga, 33, [.slice U z.length cU]), (gx, 33, [.slice A x.length cA]), (gc, 29, [.int .i64 c0, .int .i64 c1, .int .i64 c2])] [.mat B cB z, .mat U cU z, .mat A cA x]))
    case atStart => exact ⟨0, rfl, ⟨by omega, rfl⟩, HO⟩
    case round =>
      clear HO x_gb_0 x_ga_0 x_gx_0 x_gc_0 x_gc_1 x_gc_2
      obtain ⟨s, rfl, HX, HO⟩ := hrel
      have x_gb_0 := HO.out.cell 0 rfl 0 rfl
      have x_ga_0 := HO.out.cell 1 rfl 0 rfl
      have x_gx_0 := HO.out.cell 2 rfl 0 rfl
      have x_gc_0 := HO.out.cell 3 rfl 0 rfl
      have x_gc_1 := HO.out.cell 3 rfl 1 rfl
      have x_gc_2 := HO.out.cell 3 rfl 2 rfl
      by_cases hs : (s : Int) < c0
      · have hsw : IntKind.i64.wrap ((s : Int) + 1) = ((s + 1 : Nat) : Int) := by rw [i64_w]; unfold wrap64; omega
        have hs0 : (0 : Int) ≤ s := by omega
        obtain ⟨hAf, hSet⟩ := hA.out (by omega)
        replace hSet := Aside0.mk hSet
        have hsz : Aside0 (s < z.length) := ⟨by have := hz.out.1; omega⟩
        have hsx : Aside0 (s < x.length) := ⟨by have := hx.out.1; omega⟩
        obtain ⟨rz, hrz⟩ : ∃ r, z.getD s [] = r := ⟨_, rfl⟩
        obtain ⟨rx, hrx⟩ : ∃ r, x.getD s [] = r := ⟨_, rfl⟩
        have hlz2 : Aside0 ((rz.length : Int) = c1) := ⟨by rw [← hrz, getD_at hsz.out]; have := (hz.out.2 s hsz.out).length; omega⟩
        have hlx2 : Aside0 ((rx.length : Int) = c1) := ⟨by rw [← hrx, getD_at hsx.out]; have := (hx.out.2 s hsx.out).length; omega⟩
        by_cases hsm : s = m
        · have hnear : Aside0 (rz[0]? = some n) := ⟨by rw [← hrz, hsm]; exact hAf.near⟩
          have hb9 : ((s : Int) != (m : Int)) = false := by simp [hsm]
          have hb8 : ((s : Int) == (m : Int)) = true := by simp [hsm]
          have hb7 : ((rz.length : Int) != c1) = false := by rw [hlz2.out]; simp
          replace hrz := Aside0.mk hrz
          replace hrx := Aside0.mk hrx
          replace hsm := Aside0.mk hsm
          clear hAf
          go_wp2
          clear x_gb_0 x_ga_0 x_gx_0 x_gc_0 x_gc_1 x_gc_2
          go_loopg [18] c1.toNat (fun kq v18 w' => ∃ (j : Nat), v18 = .int .i64 j ∧ Aside0 ((j : Int) ≤ c1 ∧ kq = c1.toNat - j) ∧ Aside0 (OwnD w w' (some (g, l0, q2)) [(gb, 33, [.slice B z.length cB]), (ga, 33, [.slice U z.length cU]), (gx, 33, [.slice A x.length cA]), (gc, 29, [.int .i64 c0, .int .i64 c1, .int .i64 c2])] [.mat B cB z, .mat U cU z, .mat A cA x]))
          case atStart => exact ⟨0, rfl, ⟨by omega, rfl⟩, HO⟩
          case round =>
            clear HO
            obtain ⟨j, rfl, HX2, HO⟩ := hrel
            have x_gb_0 := HO.out.cell 0 rfl 0 rfl
            have x_ga_0 := HO.out.cell 1 rfl 0 rfl
            have x_gx_0 := HO.out.cell 2 rfl 0 rfl
            have x_gc_0 := HO.out.cell 3 rfl 0 rfl
            have x_gc_1 := HO.out.cell 3 rfl 1 rfl
            have x_gc_2 := HO.out.cell 3 rfl 2 rfl
            obtain ⟨adz, Az, cz, hU, hcz, hvz⟩ := rowAt HO.out 1 rfl hsz.out
            obtain ⟨adx, Ax, cx, hXa, hcx, hvx⟩ := rowAt HO.out 2 rfl hsx.out
            rw [hrz.out] at hcz hvz
            rw [hrx.out] at hcx hvx
            rw [hU] at x_ga_0
            rw [hXa] at x_gx_0
            replace hU := Aside0.mk hU
            replace hXa := Aside0.mk hXa
            have hjn := HX2.out.1
            have hzn := hsz.out
            have hsz1 : (s : Int) < z.length := by omega
            have hsx1 : (s : Int) < x.length := by have := hsx.out; omega
            have hlr := hlz2.out
            by_cases hj : (j : Int) < c1
            · have hj1 : (j : Int) < rz.length := by omega
              have hj2 : (j : Int) < rx.length := by have := hlx2.out; omega
              have hj0 : (0 : Int) ≤ j := by omega
              have hjz : j < rz.length := by omega
              have hjx : j < rx.length := by omega
              have hjw : IntKind.i64.wrap ((j : Int) + 1) = ((j + 1 : Nat) : Int) := by rw [i64_w]; unfold wrap64; omega
              obtain ⟨az, rfl, hcz2⟩ := hvz j _ (List.getElem?_eq_getElem hjz)
              obtain ⟨ax, rfl, hcx2⟩ := hvx j _ (List.getElem?_eq_getElem hjx)
              clear hvz hvx
              go_wp2
              refine start_ (n := 24) (S := fun w' => w'.cell? ⟨gc, 0, none⟩ = some (.int .i64 c0) ∧ w'.cell? ⟨gc, 1, none⟩ = some (.int .i64 c1) ∧ w'.cell? ⟨gc, 2, none⟩ = some (.int .i64 c2)) (ds := []) #[false, false, false, false, false, false, false, false, false, false, false, false, false, false, false, false, false, false, false, false, false, false, false, false] (by kernel_rfl) rfl rfl ⟨x_gc_0, x_gc_1, x_gc_2⟩ (fun hHeld => ?_)
              refine pure_ (i := 0) (N := some 109) (v := ?_) (a' := ?_) #[true, false, false, false, false, false, false, false, false, false, false, false, false, false, false, false, false, false, false, false, false, false, false, false] rfl rfl (by kernel_rfl) (fun _ _ _ h => h) (Or.inl ⟨by rfl, ?_⟩) ?_ ?_
              rotate_left
              · intro w'
                go_simp
                with_reducible rfl
              rotate_left
              · simp only [Act.put, List.setIfInBounds_toArray, List.set_cons_zero, List.set_cons_succ, i64_w, i32_w]
                rfl
              refine take_ (i := 1) (N := some 110) (v := ?_) (a' := ?_) #[true, true, false, false, false, false, false, false, false, false, false, false, false, false, false, false, false, false, false, false, false, false, false, false] rfl rfl (by kernel_rfl) (fun _ _ _ h => h) (Or.inl ⟨by rfl, ?_⟩) hHeld ?_ ?_
              rotate_left
              · rintro w' ⟨s0, s1, s2⟩
                go_simp
                with_reducible rfl
              rotate_left
              · simp only [Act.put, List.setIfInBounds_toArray, List.set_cons_zero, List.set_cons_succ, i64_w, i32_w]
                rfl
              refine pure_ (i := 2) (N := some 111) (v := ?_) (a' := ?_) #[true, true, true, false, false, false, false, false, false, false, false, false, false, false, false, false, false, false, false, false, false, false, false, false] rfl rfl (by kernel_rfl) (fun _ _ _ h => h) (Or.inl ⟨by rfl, ?_⟩) ?_ ?_
              rotate_left
              · intro w'
                go_simp
                with_reducible rfl
              rotate_left
              · simp only [Act.put, List.setIfInBounds_toArray, List.set_cons_zero, List.set_cons_succ, i64_w, i32_w]
                rfl
              refine one_ (i := 3) (N := some 112) #[true, true, true, true, false, false, false, false, false, false, false, false, false, false, false, false, false, false, false, false, false, false, false, false] rfl rfl (by kernel_rfl) (by decide) (fun K hK => ?_)
              refine goes_ Try.func21 (by kernel_rfl) rfl #[.agg #[.int .i64 c0, .int .i64 c1, .int .i64 c2], .int .i64 n] (by rfl) rfl rfl (by (try simp only [List.map_toArray, List.map_cons, List.map_nil]); first | done | rfl) ?_
              with_reducible refine (cache_Set.calls c0 c1 c2 n (m : Int) _ hSet.out).mono ?_
              rintro e w9 ⟨rfl, hbl⟩
              replace HO := Aside0.mk (HO.out.drew.step hbl)
              refine ⟨_, rfl, ?_⟩
              refine hK.out _ _ ⟨HO.out.cell 3 rfl 0 rfl, HO.out.cell 3 rfl 1 rfl, HO.out.cell 3 rfl 2 rfl⟩ (fun hHeld => ?_)
              clear hK K
              refine norm_ (a' := ?_) ?_ ?_
              rotate_left
              · show Act.put _ (some 112) _ = _
                simp only [Act.put, List.setIfInBounds_toArray, List.set_cons_zero, List.set_cons_succ, i64_w, i32_w]
                rfl
              refine pure_ (i := 4) (N := some 113) (v := ?_) (a' := ?_) #[true, true, true, true, true, false, false, false, false, false, false, false, false, false, false, false, false, false, false, false, false, false, false, false] rfl rfl (by kernel_rfl) (fun _ _ _ h => h) (Or.inl ⟨by rfl, ?_⟩) ?_ ?_
              rotate_left
              · intro w'
                go_simp
                with_reducible rfl
              rotate_left
              · simp only [Act.put, List.setIfInBounds_toArray, List.set_cons_zero, List.set_cons_succ, i64_w, i32_w]
                rfl
              refine pure_ (i := 5) (N := some 114) (v := ?_) (a' := ?_) #[true, true, true, true, true, true, false, false, false, false, false, false, false, false, false, false, false, false, false, false, false, false, false, false] rfl rfl (by kernel_rfl) (fun _ _ _ h => h) (Or.inl ⟨by rfl, ?_⟩) ?_ ?_
              rotate_left
              · intro w'
                go_simp
                with_reducible rfl
              rotate_left
              · simp only [Act.put, List.setIfInBounds_toArray, List.set_cons_zero, List.set_cons_succ, i64_w, i32_w]
                rfl
              refine pure_ (i := 6) (N := some 115) (v := undef) (a' := ?_) #[true, true, true, true, true, true, true, false, false, false, false, false, false, false, false, false, false, false, false, false, false, false, false, false] rfl rfl (by kernel_rfl) (fun _ _ _ h => h) (Or.inr ⟨by rfl, rfl⟩) ?_ ?_
              rotate_left
              · simp only [Act.put, List.setIfInBounds_toArray, List.set_cons_zero, List.set_cons_succ, i64_w, i32_w]
                rfl
              refine pure_ (i := 7) (N := some 116) (v := undef) (a' := ?_) #[true, true, true, true, true, true, true, true, false, false, false, false, false, false, false, false, false, false, false, false, false, false, false, false] rfl rfl (by kernel_rfl) (fun _ _ _ h => h) (Or.inr ⟨by rfl, rfl⟩) ?_ ?_
              rotate_left
              · simp only [Act.put, List.setIfInBounds_toArray, List.set_cons_zero, List.set_cons_succ, i64_w, i32_w]
                rfl
              refine pure_ (i := 8) (N := some 117) (v := undef) (a' := ?_) #[true, true, true, true, true, true, true, true, true, false, false, false, false, false, false, false, false, false, false, false, false, false, false, false] rfl rfl (by kernel_rfl) (fun _ _ _ h => h) (Or.inr ⟨by rfl, rfl⟩) ?_ ?_
              rotate_left
              · simp only [Act.put, List.setIfInBounds_toArray, List.set_cons_zero, List.set_cons_succ, i64_w, i32_w]
                rfl
              refine pure_ (i := 9) (N := some 118) (v := undef) (a' := ?_) #[true, true, true, true, true, true, true, true, true, true, false, false, false, false, false, false, false, false, false, false, false, false, false, false] rfl rfl (by kernel_rfl) (fun _ _ _ h => h) (Or.inr ⟨by rfl, rfl⟩) ?_ ?_
              rotate_left
              · simp only [Act.put, List.setIfInBounds_toArray, List.set_cons_zero, List.set_cons_succ, i64_w, i32_w]
                rfl
              refine pure_ (i := 10) (N := some 119) (v := undef) (a' := ?_) #[true, true, true, true, true, true, true, true, true, true, true, false, false, false, false, false, false, false, false, false, false, false, false, false] rfl rfl (by kernel_rfl) (fun _ _ _ h => h) (Or.inr ⟨by rfl, rfl⟩) ?_ ?_
              rotate_left
              · simp only [Act.put, List.setIfInBounds_toArray, List.set_cons_zero, List.set_cons_succ, i64_w, i32_w]
                rfl
              refine pure_ (i := 11) (N := some 120) (v := undef) (a' := ?_) #[true, true, true, true, true, true, true, true, true, true, true, true, false, false, false, false, false, false, false, false, false, false, false, false] rfl rfl (by kernel_rfl) (fun _ _ _ h => h) (Or.inr ⟨by rfl, rfl⟩) ?_ ?_
              rotate_left
              · simp only [Act.put, List.setIfInBounds_toArray, List.set_cons_zero, List.set_cons_succ, i64_w, i32_w]
                rfl
              refine pure_ (i := 12) (N := some 121) (v := undef) (a' := ?_) #[true, true, true, true, true, true, true, true, true, true, true, true, true, false, false, false, false, false, false, false, false, false, false, false] rfl rfl (by kernel_rfl) (fun _ _ _ h => h) (Or.inr ⟨by rfl, rfl⟩) ?_ ?_
              rotate_left
              · simp only [Act.put, List.setIfInBounds_toArray, List.set_cons_zero, List.set_cons_succ, i64_w, i32_w]
                rfl
              refine pure_ (i := 13) (N := some 122) (v := undef) (a' := ?_) #[true, true, true, true, true, true, true, true, true, true, true, true, true, true, false, false, false, false, false, false, false, false, false, false] rfl rfl (by kernel_rfl) (fun _ _ _ h => h) (Or.inr ⟨by rfl, rfl⟩) ?_ ?_
              rotate_left
              · simp only [Act.put, List.setIfInBounds_toArray, List.set_cons_zero, List.set_cons_succ, i64_w, i32_w]
                rfl
              refine pure_ (i := 14) (N := some 123) (v := undef) (a' := ?_) #[true, true, true, true, true, true, true, true, true, true, true, true, true, true, true, false, false, false, false, false, false, false, false, false] rfl rfl (by kernel_rfl) (fun _ _ _ h => h) (Or.inr ⟨by rfl, rfl⟩) ?_ ?_
              rotate_left
              · simp only [Act.put, List.setIfInBounds_toArray, List.set_cons_zero, List.set_cons_succ, i64_w, i32_w]
                rfl
              refine pure_ (i := 15) (N := some 124) (v := undef) (a' := ?_) #[true, true, true, true, true, true, true, true, true, true, true, true, true, true, true, true, false, false, false, false, false, false, false, false] rfl rfl (by kernel_rfl) (fun _ _ _ h => h) (Or.inr ⟨by rfl, rfl⟩) ?_ ?_
              rotate_left
              · simp only [Act.put, List.setIfInBounds_toArray, List.set_cons_zero, List.set_cons_succ, i64_w, i32_w]
                rfl
              refine pure_ (i := 16) (N := some 125) (v := undef) (a' := ?_) #[true, true, true, true, true, true, true, true, true, true, true, true, true, true, true, true, true, false, false, false, false, false, false, false] rfl rfl (by kernel_rfl) (fun _ _ _ h => h) (Or.inr ⟨by rfl, rfl⟩) ?_ ?_
              rotate_left
              · simp only [Act.put, List.setIfInBounds_toArray, List.set_cons_zero, List.set_cons_succ, i64_w, i32_w]
                rfl
              refine pure_ (i := 17) (N := some 126) (v := undef) (a' := ?_) #[true, true, true, true, true, true, true, true, true, true, true, true, true, true, true, true, true, true, false, false, false, false, false, false] rfl rfl (by kernel_rfl) (fun _ _ _ h => h) (Or.inr ⟨by rfl, rfl⟩) ?_ ?_
              rotate_left
              · simp only [Act.put, List.setIfInBounds_toArray, List.set_cons_zero, List.set_cons_succ, i64_w, i32_w]
                rfl
              refine pure_ (i := 18) (N := some 127) (v := undef) (a' := ?_) #[true, true, true, true, true, true, true, true, true, true, true, true, true, true, true, true, true, true, true, false, false, false, false, false] rfl rfl (by kernel_rfl) (fun _ _ _ h => h) (Or.inr ⟨by rfl, rfl⟩) ?_ ?_
              rotate_left
              · simp only [Act.put, List.setIfInBounds_toArray, List.set_cons_zero, List.set_cons_succ, i64_w, i32_w]
                rfl
              refine pure_ (i := 19) (N := some 128) (v := undef) (a' := ?_) #[true, true, true, true, true, true, true, true, true, true, true, true, true, true, true, true, true, true, true, true, false, false, false, false] rfl rfl (by kernel_rfl) (fun _ _ _ h => h) (Or.inr ⟨by rfl, rfl⟩) ?_ ?_
              rotate_left
              · simp only [Act.put, List.setIfInBounds_toArray, List.set_cons_zero, List.set_cons_succ, i64_w, i32_w]
                rfl
              refine pure_ (i := 20) (N := some 129) (v := undef) (a' := ?_) #[true, true, true, true, true, true, true, true, true, true, true, true, true, true, true, true, true, true, true, true, true, false, false, false] rfl rfl (by kernel_rfl) (fun _ _ _ h => h) (Or.inr ⟨by rfl, rfl⟩) ?_ ?_
              rotate_left
              · simp only [Act.put, List.setIfInBounds_toArray, List.set_cons_zero, List.set_cons_succ, i64_w, i32_w]
                rfl
              refine pure_ (i := 21) (N := some 130) (v := undef) (a' := ?_) #[true, true, true, true, true, true, true, true, true, true, true, true, true, true, true, true, true, true, true, true, true, true, false, false] rfl rfl (by kernel_rfl) (fun _ _ _ h => h) (Or.inr ⟨by rfl, rfl⟩) ?_ ?_
              rotate_left
              · simp only [Act.put, List.setIfInBounds_toArray, List.set_cons_zero, List.set_cons_succ, i64_w, i32_w]
                rfl
              refine pure_ (i := 22) (N := some 131) (v := undef) (a' := ?_) #[true, true, true, true, true, true, true, true, true, true, true, true, true, true, true, true, true, true, true, true, true, true, true, false] rfl rfl (by kernel_rfl) (fun _ _ _ h => h) (Or.inr ⟨by rfl, rfl⟩) ?_ ?_
              rotate_left
              · simp only [Act.put, List.setIfInBounds_toArray, List.set_cons_zero, List.set_cons_succ, i64_w, i32_w]
                rfl
              refine pure_ (i := 23) (N := some 132) (v := ?_) (a' := ?_) #[true, true, true, true, true, true, true, true, true, true, true, true, true, true, true, true, true, true, true, true, true, true, true, true] rfl rfl (by kernel_rfl) (fun _ _ _ h => h) (Or.inl ⟨by rfl, ?_⟩) ?_ ?_
              rotate_left
              · intro w'
                go_simp
                with_reducible rfl
              rotate_left
              · simp only [Act.put, List.setIfInBounds_toArray, List.set_cons_zero, List.set_cons_succ, i64_w, i32_w]
                rfl
              refine done_ (by kernel_rfl) ?_
              go_wp2
              go_roundg (c1.toNat - (j + 1))
              case measure => have := HX2.out.2; omega
              case rel => exact ⟨j + 1, by simp [hjw], ⟨by omega, rfl⟩, HO⟩
            · have hj1 : ¬ (j : Int) < rz.length := by omega
              obtain ⟨az, rfl, hcz2⟩ := hvz 0 n hnear.out
              clear hvz hvx
              have hrp : 0 < rz.length := by omega
              have hrp2 : (0 : Int) < rz.length := by omega
              rw [show az.add 0 = az from by cases az; rfl] at hcz2
              clear hlr
              go_wp2
              go_region_held3 (fun w' => w'.cell? ⟨gc, 0, none⟩ = some (.int .i64 c0) ∧ w'.cell? ⟨gc, 1, none⟩ = some (.int .i64 c1) ∧ w'.cell? ⟨gc, 2, none⟩ = some (.int .i64 c2) ∧ w'.cell? ⟨ga, 0, none⟩ = some (.slice (some adz) z.length cU) ∧ w'.cell? ⟨gx, 0, none⟩ = some (.slice (some adx) x.length cA) ∧ w'.cell? (adz.add s) = some (.slice (some az) rz.length cz) ∧ w'.cell? az = some (.int .i64 n)) (go_keep) (first | (go_at_call 21; (with_reducible refine (cache_Set.calls c0 c1 c2 n (m : Int) _ hSet.out).mono ?_); rintro e w9 ⟨rfl, hbl⟩; replace HO := Aside0.mk (HO.out.drew.step hbl); have y_gb_0 := HO.out.cell 0 rfl 0 rfl; have y_ga_0 := HO.out.cell 1 rfl 0 rfl; have y_gx_0 := HO.out.cell 2 rfl 0 rfl; have y_gc_0 := HO.out.cell 3 rfl 0 rfl; have y_gc_1 := HO.out.cell 3 rfl 1 rfl; have y_gc_2 := HO.out.cell 3 rfl 2 rfl; rw [hU.out] at y_ga_0; rw [hXa.out] at y_gx_0; have y_hcz := pw_cell_below hbl hcz; have y_hcz2 := pw_cell_below hbl hcz2))
              go_wp2
              go_roundg (c0.toNat - (s + 1))
              case measure => have := HX.out.2; omega
              case rel => exact ⟨s + 1, by simp [hsw], ⟨by omega, rfl⟩, HO⟩
        · have hreq : Aside0 (rx = rz) := ⟨by rw [← hrz, ← hrx]; exact (hAf.far s hs hsm).symm⟩
          have hb9 : ((s : Int) != (m : Int)) = true := by simp; omega
          have hb8 : ((s : Int) == (m : Int)) = false := by simp; omega
          replace hrz := Aside0.mk hrz
          replace hrx := Aside0.mk hrx
          replace hsm := Aside0.mk hsm
          clear hAf
          go_wp2
          clear x_gb_0 x_ga_0 x_gx_0 x_gc_0 x_gc_1 x_gc_2
          go_loopg [18] c1.toNat (fun kq v18 w' => ∃ (j : Nat), v18 = .int .i64 j ∧ Aside0 ((j : Int) ≤ c1 ∧ kq = c1.toNat - j) ∧ Aside0 (OwnD w w' (some (g, l0, q2)) [(gb, 33, [.slice B z.length cB]), (ga, 33, [.slice U z.length cU]), (gx, 33, [.slice A x.length cA]), (gc, 29, [.int .i64 c0, .int .i64 c1, .int .i64 c2])] [.mat B cB z, .mat U cU z, .mat A cA x]))
          case atStart => exact ⟨0, rfl, ⟨by omega, rfl⟩, HO⟩
          case round =>
            clear HO
            obtain ⟨j, rfl, HX2, HO⟩ := hrel
            have x_gb_0 := HO.out.cell 0 rfl 0 rfl
            have x_ga_0 := HO.out.cell 1 rfl 0 rfl
            have x_gx_0 := HO.out.cell 2 rfl 0 rfl
            have x_gc_0 := HO.out.cell 3 rfl 0 rfl
            have x_gc_1 := HO.out.cell 3 rfl 1 rfl
            have x_gc_2 := HO.out.cell 3 rfl 2 rfl
            obtain ⟨adz, Az, cz, hU, hcz, hvz⟩ := rowAt HO.out 1 rfl hsz.out
            obtain ⟨adx, Ax, cx, hXa, hcx, hvx⟩ := rowAt HO.out 2 rfl hsx.out
            rw [hrz.out] at hcz hvz
            rw [hrx.out] at hcx hvx
            rw [hU] at x_ga_0
            rw [hXa] at x_gx_0
            replace hU := Aside0.mk hU
            replace hXa := Aside0.mk hXa
            have hjn := HX2.out.1
            have hzn := hsz.out
            have hsz1 : (s : Int) < z.length := by omega
            have hsx1 : (s : Int) < x.length := by have := hsx.out; omega
            have hlr := hlz2.out
            by_cases hj : (j : Int) < c1
            · have hj1 : (j : Int) < rz.length := by omega
              have hj2 : (j : Int) < rx.length := by have := hlx2.out; omega
              have hj0 : (0 : Int) ≤ j := by omega
              have hjz : j < rz.length := by omega
              have hjx : j < rx.length := by omega
              have hjw : IntKind.i64.wrap ((j : Int) + 1) = ((j + 1 : Nat) : Int) := by rw [i64_w]; unfold wrap64; omega
              obtain ⟨az, rfl, hcz2⟩ := hvz j _ (List.getElem?_eq_getElem hjz)
              obtain ⟨ax, rfl, hcx2⟩ := hvx j _ (List.getElem?_eq_getElem hjx)
              clear hvz hvx
              have hre := hreq.out.symm
              subst hre
              go_wp2
              go_region_held3 (fun w' => w'.cell? ⟨gc, 0, none⟩ = some (.int .i64 c0) ∧ w'.cell? ⟨gc, 1, none⟩ = some (.int .i64 c1) ∧ w'.cell? ⟨gc, 2, none⟩ = some (.int .i64 c2) ∧ w'.cell? ⟨ga, 0, none⟩ = some (.slice (some adz) z.length cU) ∧ w'.cell? ⟨gx, 0, none⟩ = some (.slice (some adx) x.length cA) ∧ w'.cell? (adz.add s) = some (.slice (some az) rz.length cz) ∧ w'.cell? (az.add j) = some (.int .i64 rz[j]) ∧ w'.cell? (adx.add s) = some (.slice (some ax) rz.length cx) ∧ w'.cell? (ax.add j) = some (.int .i64 rz[j])) (go_keep) (first | (go_at_call 21; (with_reducible refine (cache_Set.calls c0 c1 c2 n (m : Int) _ hSet.out).mono ?_); rintro e w9 ⟨rfl, hbl⟩; replace HO := Aside0.mk (HO.out.drew.step hbl); have y_gb_0 := HO.out.cell 0 rfl 0 rfl; have y_ga_0 := HO.out.cell 1 rfl 0 rfl; have y_gx_0 := HO.out.cell 2 rfl 0 rfl; have y_gc_0 := HO.out.cell 3 rfl 0 rfl; have y_gc_1 := HO.out.cell 3 rfl 1 rfl; have y_gc_2 := HO.out.cell 3 rfl 2 rfl; rw [hU.out] at y_ga_0; rw [hXa.out] at y_gx_0; have y_hcz := pw_cell_below hbl hcz; have y_hcx := pw_cell_below hbl hcx; have y_hcz2 := pw_cell_below hbl hcz2; have y_hcx2 := pw_cell_below hbl hcx2))
              go_wp2
              go_roundg (c1.toNat - (j + 1))
              case measure => have := HX2.out.2; omega
              case rel => exact ⟨j + 1, by simp [hjw], ⟨by omega, rfl⟩, HO⟩
            · have hj1 : ¬ (j : Int) < rz.length := by omega
              go_wp2
              refine start_ (n := 27) (S := fun w' => w'.cell? ⟨gc, 0, none⟩ = some (.int .i64 c0) ∧ w'.cell? ⟨gc, 1, none⟩ = some (.int .i64 c1) ∧ w'.cell? ⟨gc, 2, none⟩ = some (.int .i64 c2)) (ds := []) #[false, false, false, false, false, false, false, false, false, false, false, false, false, false, false, false, false, false, false, false, false, false, false, false, false, false, false] (by kernel_rfl) rfl rfl ⟨x_gc_0, x_gc_1, x_gc_2⟩ (fun hHeld => ?_)
              refine pure_ (i := 0) (N := some 133) (v := ?_) (a' := ?_) #[true, false, false, false, false, false, false, false, false, false, false, false, false, false, false, false, false, false, false, false, false, false, false, false, false, false, false] rfl rfl (by kernel_rfl) (fun _ _ _ h => h) (Or.inl ⟨by rfl, ?_⟩) ?_ ?_
              rotate_left
              · intro w'
                go_simp
                with_reducible rfl
              rotate_left
              · simp only [Act.put, List.setIfInBounds_toArray, List.set_cons_zero, List.set_cons_succ, i64_w, i32_w]
                rfl
              refine take_ (i := 1) (N := some 134) (v := ?_) (a' := ?_) #[true, true, false, false, false, false, false, false, false, false, false, false, false, false, false, false, false, false, false, false, false, false, false, false, false, false, false] rfl rfl (by kernel_rfl) (fun _ _ _ h => h) (Or.inl ⟨by rfl, ?_⟩) hHeld ?_ ?_
              rotate_left
              · rintro w' ⟨s0, s1, s2⟩
                go_simp
                with_reducible rfl
              rotate_left
              · simp only [Act.put, List.setIfInBounds_toArray, List.set_cons_zero, List.set_cons_succ, i64_w, i32_w]
                rfl
              refine pure_ (i := 2) (N := some 135) (v := ?_) (a' := ?_) #[true, true, true, false, false, false, false, false, false, false, false, false, false, false, false, false, false, false, false, false, false, false, false, false, false, false, false] rfl rfl (by kernel_rfl) (fun _ _ _ h => h) (Or.inl ⟨by rfl, ?_⟩) ?_ ?_
              rotate_left
              · intro w'
                go_simp
                with_reducible rfl
              rotate_left
              · simp only [Act.put, List.setIfInBounds_toArray, List.set_cons_zero, List.set_cons_succ, i64_w, i32_w]
                rfl
              refine one_ (i := 3) (N := some 136) #[true, true, true, true, false, false, false, false, false, false, false, false, false, false, false, false, false, false, false, false, false, false, false, false, false, false, false] rfl rfl (by kernel_rfl) (by decide) (fun K hK => ?_)
              refine goes_ Try.func21 (by kernel_rfl) rfl #[.agg #[.int .i64 c0, .int .i64 c1, .int .i64 c2], .int .i64 n] (by rfl) rfl rfl (by (try simp only [List.map_toArray, List.map_cons, List.map_nil]); first | done | rfl) ?_
              with_reducible refine (cache_Set.calls c0 c1 c2 n (m : Int) _ hSet.out).mono ?_
              rintro e w9 ⟨rfl, hbl⟩
              replace HO := Aside0.mk (HO.out.drew.step hbl)
              refine ⟨_, rfl, ?_⟩
              refine hK.out _ _ ⟨HO.out.cell 3 rfl 0 rfl, HO.out.cell 3 rfl 1 rfl, HO.out.cell 3 rfl 2 rfl⟩ (fun hHeld => ?_)
              clear hK K
              refine norm_ (a' := ?_) ?_ ?_
              rotate_left
              · show Act.put _ (some 136) _ = _
                simp only [Act.put, List.setIfInBounds_toArray, List.set_cons_zero, List.set_cons_succ, i64_w, i32_w]
                rfl
              refine pure_ (i := 4) (N := some 137) (v := ?_) (a' := ?_) #[true, true, true, true, true, false, false, false, false, false, false, false, false, false, false, false, false, false, false, false, false, false, false, false, false, false, false] rfl rfl (by kernel_rfl) (fun _ _ _ h => h) (Or.inl ⟨by rfl, ?_⟩) ?_ ?_
              rotate_left
              · intro w'
                go_simp
                with_reducible rfl
              rotate_left
              · simp only [Act.put, List.setIfInBounds_toArray, List.set_cons_zero, List.set_cons_succ, i64_w, i32_w]
                rfl
              refine pure_ (i := 5) (N := some 138) (v := ?_) (a' := ?_) #[true, true, true, true, true, true, false, false, false, false, false, false, false, false, false, false, false, false, false, false, false, false, false, false, false, false, false] rfl rfl (by kernel_rfl) (fun _ _ _ h => h) (Or.inl ⟨by rfl, ?_⟩) ?_ ?_
              rotate_left
              · intro w'
                go_simp
                with_reducible rfl
              rotate_left
              · simp only [Act.put, List.setIfInBounds_toArray, List.set_cons_zero, List.set_cons_succ, i64_w, i32_w]
                rfl
              refine pure_ (i := 6) (N := some 139) (v := undef) (a' := ?_) #[true, true, true, true, true, true, true, false, false, false, false, false, false, false, false, false, false, false, false, false, false, false, false, false, false, false, false] rfl rfl (by kernel_rfl) (fun _ _ _ h => h) (Or.inr ⟨by rfl, rfl⟩) ?_ ?_
              rotate_left
              · simp only [Act.put, List.setIfInBounds_toArray, List.set_cons_zero, List.set_cons_succ, i64_w, i32_w]
                rfl
              refine pure_ (i := 7) (N := some 140) (v := undef) (a' := ?_) #[true, true, true, true, true, true, true, true, false, false, false, false, false, false, false, false, false, false, false, false, false, false, false, false, false, false, false] rfl rfl (by kernel_rfl) (fun _ _ _ h => h) (Or.inr ⟨by rfl, rfl⟩) ?_ ?_
              rotate_left
              · simp only [Act.put, List.setIfInBounds_toArray, List.set_cons_zero, List.set_cons_succ, i64_w, i32_w]
                rfl
              refine pure_ (i := 8) (N := some 141) (v := undef) (a' := ?_) #[true, true, true, true, true, true, true, true, true, false, false, false, false, false, false, false, false, false, false, false, false, false, false, false, false, false, false] rfl rfl (by kernel_rfl) (fun _ _ _ h => h) (Or.inr ⟨by rfl, rfl⟩) ?_ ?_
              rotate_left
              · simp only [Act.put, List.setIfInBounds_toArray, List.set_cons_zero, List.set_cons_succ, i64_w, i32_w]
                rfl
              refine pure_ (i := 9) (N := some 142) (v := undef) (a' := ?_) #[true, true, true, true, true, true, true, true, true, true, false, false, false, false, false, false, false, false, false, false, false, false, false, false, false, false, false] rfl rfl (by kernel_rfl) (fun _ _ _ h => h) (Or.inr ⟨by rfl, rfl⟩) ?_ ?_
              rotate_left
              · simp only [Act.put, List.setIfInBounds_toArray, List.set_cons_zero, List.set_cons_succ, i64_w, i32_w]
                rfl
              refine pure_ (i := 10) (N := some 143) (v := undef) (a' := ?_) #[true, true, true, true, true, true, true, true, true, true, true, false, false, false, false, false, false, false, false, false, false, false, false, false, false, false, false] rfl rfl (by kernel_rfl) (fun _ _ _ h => h) (Or.inr ⟨by rfl, rfl⟩) ?_ ?_
              rotate_left
              · simp only [Act.put, List.setIfInBounds_toArray, List.set_cons_zero, List.set_cons_succ, i64_w, i32_w]
                rfl
              refine pure_ (i := 11) (N := some 144) (v := undef) (a' := ?_) #[true, true, true, true, true, true, true, true, true, true, true, true, false, false, false, false, false, false, false, false, false, false, false, false, false, false, false] rfl rfl (by kernel_rfl) (fun _ _ _ h => h) (Or.inr ⟨by rfl, rfl⟩) ?_ ?_
              rotate_left
              · simp only [Act.put, List.setIfInBounds_toArray, List.set_cons_zero, List.set_cons_succ, i64_w, i32_w]
                rfl
              refine pure_ (i := 12) (N := some 145) (v := undef) (a' := ?_) #[true, true, true, true, true, true, true, true, true, true, true, true, true, false, false, false, false, false, false, false, false, false, false, false, false, false, false] rfl rfl (by kernel_rfl) (fun _ _ _ h => h) (Or.inr ⟨by rfl, rfl⟩) ?_ ?_
              rotate_left
              · simp only [Act.put, List.setIfInBounds_toArray, List.set_cons_zero, List.set_cons_succ, i64_w, i32_w]
                rfl
              refine pure_ (i := 13) (N := some 146) (v := undef) (a' := ?_) #[true, true, true, true, true, true, true, true, true, true, true, true, true, true, false, false, false, false, false, false, false, false, false, false, false, false, false] rfl rfl (by kernel_rfl) (fun _ _ _ h => h) (Or.inr ⟨by rfl, rfl⟩) ?_ ?_
              rotate_left
              · simp only [Act.put, List.setIfInBounds_toArray, List.set_cons_zero, List.set_cons_succ, i64_w, i32_w]
                rfl
              refine pure_ (i := 14) (N := some 147) (v := undef) (a' := ?_) #[true, true, true, true, true, true, true, true, true, true, true, true, true, true, true, false, false, false, false, false, false, false, false, false, false, false, false] rfl rfl (by kernel_rfl) (fun _ _ _ h => h) (Or.inr ⟨by rfl, rfl⟩) ?_ ?_
              rotate_left
              · simp only [Act.put, List.setIfInBounds_toArray, List.set_cons_zero, List.set_cons_succ, i64_w, i32_w]
                rfl
              refine pure_ (i := 15) (N := some 148) (v := undef) (a' := ?_) #[true, true, true, true, true, true, true, true, true, true, true, true, true, true, true, true, false, false, false, false, false, false, false, false, false, false, false] rfl rfl (by kernel_rfl) (fun _ _ _ h => h) (Or.inr ⟨by rfl, rfl⟩) ?_ ?_
              rotate_left
              · simp only [Act.put, List.setIfInBounds_toArray, List.set_cons_zero, List.set_cons_succ, i64_w, i32_w]
                rfl
              refine pure_ (i := 16) (N := some 149) (v := undef) (a' := ?_) #[true, true, true, true, true, true, true, true, true, true, true, true, true, true, true, true, true, false, false, false, false, false, false, false, false, false, false] rfl rfl (by kernel_rfl) (fun _ _ _ h => h) (Or.inr ⟨by rfl, rfl⟩) ?_ ?_
              rotate_left
              · simp only [Act.put, List.setIfInBounds_toArray, List.set_cons_zero, List.set_cons_succ, i64_w, i32_w]
                rfl
              refine pure_ (i := 17) (N := some 150) (v := undef) (a' := ?_) #[true, true, true, true, true, true, true, true, true, true, true, true, true, true, true, true, true, true, false, false, false, false, false, false, false, false, false] rfl rfl (by kernel_rfl) (fun _ _ _ h => h) (Or.inr ⟨by rfl, rfl⟩) ?_ ?_
              rotate_left
              · simp only [Act.put, List.setIfInBounds_toArray, List.set_cons_zero, List.set_cons_succ, i64_w, i32_w]
                rfl
              refine pure_ (i := 18) (N := some 151) (v := undef) (a' := ?_) #[true, true, true, true, true, true, true, true, true, true, true, true, true, true, true, true, true, true, true, false, false, false, false, false, false, false, false] rfl rfl (by kernel_rfl) (fun _ _ _ h => h) (Or.inr ⟨by rfl, rfl⟩) ?_ ?_
              rotate_left
              · simp only [Act.put, List.setIfInBounds_toArray, List.set_cons_zero, List.set_cons_succ, i64_w, i32_w]
                rfl
              refine pure_ (i := 19) (N := some 152) (v := undef) (a' := ?_) #[true, true, true, true, true, true, true, true, true, true, true, true, true, true, true, true, true, true, true, true, false, false, false, false, false, false, false] rfl rfl (by kernel_rfl) (fun _ _ _ h => h) (Or.inr ⟨by rfl, rfl⟩) ?_ ?_
              rotate_left
              · simp only [Act.put, List.setIfInBounds_toArray, List.set_cons_zero, List.set_cons_succ, i64_w, i32_w]
                rfl
              refine pure_ (i := 20) (N := some 153) (v := undef) (a' := ?_) #[true, true, true, true, true, true, true, true, true, true, true, true, true, true, true, true, true, true, true, true, true, false, false, false, false, false, false] rfl rfl (by kernel_rfl) (fun _ _ _ h => h) (Or.inr ⟨by rfl, rfl⟩) ?_ ?_
              rotate_left
              · simp only [Act.put, List.setIfInBounds_toArray, List.set_cons_zero, List.set_cons_succ, i64_w, i32_w]
                rfl
              refine pure_ (i := 21) (N := some 154) (v := undef) (a' := ?_) #[true, true, true, true, true, true, true, true, true, true, true, true, true, true, true, true, true, true, true, true, true, true, false, false, false, false, false] rfl rfl (by kernel_rfl) (fun _ _ _ h => h) (Or.inr ⟨by rfl, rfl⟩) ?_ ?_
              rotate_left
              · simp only [Act.put, List.setIfInBounds_toArray, List.set_cons_zero, List.set_cons_succ, i64_w, i32_w]
                rfl
              refine pure_ (i := 22) (N := some 155) (v := undef) (a' := ?_) #[true, true, true, true, true, true, true, true, true, true, true, true, true, true, true, true, true, true, true, true, true, true, true, false, false, false, false] rfl rfl (by kernel_rfl) (fun _ _ _ h => h) (Or.inr ⟨by rfl, rfl⟩) ?_ ?_
              rotate_left
              · simp only [Act.put, List.setIfInBounds_toArray, List.set_cons_zero, List.set_cons_succ, i64_w, i32_w]
                rfl
              refine pure_ (i := 23) (N := some 156) (v := undef) (a' := ?_) #[true, true, true, true, true, true, true, true, true, true, true, true, true, true, true, true, true, true, true, true, true, true, true, true, false, false, false] rfl rfl (by kernel_rfl) (fun _ _ _ h => h) (Or.inr ⟨by rfl, rfl⟩) ?_ ?_
              rotate_left
              · simp only [Act.put, List.setIfInBounds_toArray, List.set_cons_zero, List.set_cons_succ, i64_w, i32_w]
                rfl
              refine pure_ (i := 24) (N := some 157) (v := undef) (a' := ?_) #[true, true, true, true, true, true, true, true, true, true, true, true, true, true, true, true, true, true, true, true, true, true, true, true, true, false, false] rfl rfl (by kernel_rfl) (fun _ _ _ h => h) (Or.inr ⟨by rfl, rfl⟩) ?_ ?_
              rotate_left
              · simp only [Act.put, List.setIfInBounds_toArray, List.set_cons_zero, List.set_cons_succ, i64_w, i32_w]
                rfl
              refine pure_ (i := 25) (N := some 158) (v := undef) (a' := ?_) #[true, true, true, true, true, true, true, true, true, true, true, true, true, true, true, true, true, true, true, true, true, true, true, true, true, true, false] rfl rfl (by kernel_rfl) (fun _ _ _ h => h) (Or.inr ⟨by rfl, rfl⟩) ?_ ?_
              rotate_left
              · simp only [Act.put, List.setIfInBounds_toArray, List.set_cons_zero, List.set_cons_succ, i64_w, i32_w]
                rfl
              refine pure_ (i := 26) (N := some 159) (v := ?_) (a' := ?_) #[true, true, true, true, true, true, true, true, true, true, true, true, true, true, true, true, true, true, true, true, true, true, true, true, true, true, true] rfl rfl (by kernel_rfl) (fun _ _ _ h => h) (Or.inl ⟨by rfl, ?_⟩) ?_ ?_
              rotate_left
              · intro w'
                go_simp
                with_reducible rfl
              rotate_left
              · simp only [Act.put, List.setIfInBounds_toArray, List.set_cons_zero, List.set_cons_succ, i64_w, i32_w]
                rfl
              refine done_ (by kernel_rfl) ?_
              go_wp2
              go_roundg (c0.toNat - (s + 1))
              case measure => have := HX.out.2; omega
              case rel => exact ⟨s + 1, by simp [hsw], ⟨by omega, rfl⟩, HO⟩
      · go_wp2_with (go_at_call 10; refine (timeboundlaw22_awake.calls 10 true _ haw.out).mono ?_; rintro e wz ⟨rfl, hbl⟩; replace HO := Aside0.mk (HO.out.step hbl); clear hbl)
        go_ret
        exact ⟨rfl, HO.out.below⟩
theorem CacheWithin_all (A0 : Option Addr) (k0 : Nat) (l0 : List Int) (a1 a2 : Int) (w : World) (hr0 : Kd.C (Kd.int .i64) w A0 l0.length l0) (hk0 : l0.length ≤ k0) (ha1 : 0 ≤ a1 ∧ a1 ≤ 255) (ha2 : 0 ≤ a2 ∧ a2 ≤ 255) : Calls Try.prog 7 #[.slice A0 l0.length k0, .int .u8 a1, .int .u8 a2] w fun e w' => e = .returned (.bool true) ∧ Below w.heap.size w w' := by
  by_cases h : l0.length ≤ 400
  case neg => exact CacheWithin_off A0 k0 l0 a1 a2 w hr0 hk0 ha1 ha2 h
  obtain ⟨c0, c1, c2, q, hC, hc0, hc1, hc2, hq0, hq1⟩ := cache_some (L := l0) (p := 0) (by omega) (by omega) (by omega)
  have hc : confOk c0 c1 c2 := ⟨by omega, by omega, by omega⟩
  obtain ⟨x, q2, hL, hx, hq20, hq21⟩ := lines_ok hc (show l0.length ≤ 1000000 by omega) hq0 hq1
  have hLn := Line_ok hc ha1.1 (by omega)
  have hn0 : 0 ≤ a1 / c2 := Int.ediv_nonneg ha1.1 (by omega)
  have hn1 : a1 / c2 ≤ a1 := Int.ediv_le_self c2 ha1.1
  have hp1 : 0 ≤ a1 / c2 * c2 := Int.mul_nonneg hn0 (by omega)
  have hp2 : a1 / c2 * c2 ≤ a1 := Int.ediv_mul_le a1 (by omega)
  have hd0 := Int.emod_nonneg a2 (show c2 ≠ 0 by omega)
  have hd1 := Int.emod_lt_of_pos a2 (show 0 < c2 by omega)
  have e1 : a1 / c2 * c2 / c2 = a1 / c2 := by have := same_line (n := a1 / c2) (c2 := c2) (d := 0) (by omega) ⟨by omega, by omega⟩; rwa [Int.add_zero] at this
  have e2 : (a1 / c2 * c2 + a2 % c2) / c2 = a1 / c2 := same_line (by omega) ⟨hd0, hd1⟩
  generalize a1 / c2 = n at hLn hn0 hn1 hp1 hp2 e1 e2
  by_cases hz : c0 = 0
  · have t1 : cache_Touch.f c0 c1 c2 x (n * c2) = some (x, false, 0) := by subst hz; exact touch_none hc hx hp1 (by omega)
    have t2 : cache_Touch.f c0 c1 c2 x (n * c2 + a2 % c2) = some (x, false, 0) := by subst hz; exact touch_none hc hx (by omega) (by omega)
    exact CacheWithin_on A0 k0 l0 a1 a2 w hr0 hk0 ha1 ha2 h c0 c1 c2 q q2 x x n _ _ false ⟨hc0.1, hc0.2, hc1.1, hc1.2, hc2.1, hc2.2⟩ hC hL ⟨hn0, by omega⟩ hLn rfl rfl ⟨hp1, by omega⟩ t1 t2 hx hx (same_refl (GoodM.few hx hc).1 (GoodM.few hx hc).2 (by omega)) 0 (fun hne => absurd hz hne)
  · have t1 := touch_ok hc hx hz hp1 (by omega)
    have t2 := touch_ok hc hx hz (a := n * c2 + a2 % c2) (by omega) (by omega)
    have hA := after_of hc hx hz hp1 (by omega)
    have hst : stepL c0 c2 x (n * c2 + a2 % c2) = stepL c0 c2 x (n * c2) := by unfold stepL; rw [e1, e2]
    rw [hst, e2, ← e1] at t2
    rw [e1] at hA t1 t2
    have hset := Set_ok hc hn0 hz
    have hm0 : 0 ≤ n % c0 := Int.emod_nonneg _ hz
    refine CacheWithin_on A0 k0 l0 a1 a2 w hr0 hk0 ha1 ha2 h c0 c1 c2 q q2 x _ n _ _ _ ⟨hc0.1, hc0.2, hc1.1, hc1.2, hc2.1, hc2.2⟩ hC hL ⟨hn0, by omega⟩ hLn rfl rfl ⟨hp1, by omega⟩ t1 t2 hx hA.good (same_refl (GoodM.few hA.good hc).1 (GoodM.few hA.good hc).2 (by omega)) (n % c0).toNat (fun _ => ⟨hA, ?_⟩)
    rw [hset, show (((n % c0).toNat : Nat) : Int) = n % c0 by omega]
theorem CacheWithin_walk (a0 : Option Addr) (len0 cap0 : Nat) (z0 : List Int) (a1 : Int) (a2 : Int) (w : World) (w0 : (a0 = none ∧ len0 = 0 ∧ cap0 = 0 ∧ z0 = []) ∨ ∃ x, a0 = some x ∧ len0 ≤ cap0 ∧ cap0 ≤ maxLen ∧ z0.length = cap0 ∧ (∀ i, i < z0.length → w.cell? (x.add i) = some (.int .i64 (z0.getD i 0))) ∧ ∀ n ∈ z0, (Lit.int .i64 n).wf = true) (y0 : len0 * 8 ≤ 140737488351232) (w1 : (Lit.int .u8 a1).wf = true) (w2 : (Lit.int .u8 a2).wf = true) :
    Calls Try.prog 7 #[.slice a0 len0 cap0, .int .u8 a1, .int .u8 a2] w fun e w' => e = .returned (.bool true) ∧ Below w.heap.size w w' := by
  obtain ⟨l0, rfl, hr0, hm0, hw0, hc0⟩ := ReadsInt.ofRowC w0
  exact CacheWithin_all _ _ l0 a1 a2 w (Kd.C_of_reads (d := (0 : Int)) (h1 := fun _ => rfl) hr0) hc0 (byte_ok w1) (byte_ok w2)
end Go.Proofs.Ytfdiagegpahcoaa.QCd
