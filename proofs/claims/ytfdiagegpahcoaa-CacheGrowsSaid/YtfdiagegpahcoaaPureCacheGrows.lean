/- A cache with more ways, and the same sets, misses no more often, from empty contents, and has all lines that the smaller one has: for caches of up to 4 sets and 3 ways, and up to 100 accesses. -/
import Derived.Test.YtfdiagegpahcoaaFacts
namespace Go.Proofs.Ytfdiagegpahcoaa.QCd
set_option linter.unusedVariables false
set_option linter.unusedSimpArgs false
open Go.RowKit Go.Proofs.Ytfdiagegpahcoaa.QCa Go.Proofs.Ytfdiagegpahcoaa.QCb Go.Proofs.YtfdiagegpahcoaaW.PrintWords Go.Proofs.YtfdiagegpahcoaaW.PrintLast Go.Proofs.YtfdiagegpahcoaaW.PrintMore Mat
abbrev wdOf {w0 W : World} {D : Option (Nat × List Int × Int)} {L : List Blk} {M : List Mx} (_h : OwnD w0 W D L M) : World := W
def InvG (c0 c1 : Int) (x y : List (List Int)) : Prop := GoodM c0 c1 x ∧ GoodM c0 (c1 + 1) y ∧ ∀ s : Nat, (s : Int) < c0 → x.getD s [] = (y.getD s []).take c1.toNat
theorem front_take {line : Int} {r : List Int} {z : Int} (hr : 0 < r.length) : frontL line r = (frontL line (r ++ [z])).take r.length ∧ (line ∈ r → line ∈ r ++ [z]) := by
  refine ⟨?_, fun h => List.mem_append_left _ h⟩
  by_cases h : line ∈ r
  · have hl := List.length_erase_of_mem h
    rw [frontL, if_pos h, frontL, if_pos (List.mem_append_left _ h), List.erase_append_left _ h]
    rw [show r.length = (r.erase line).length + 1 by omega, List.take_succ_cons, List.take_left' rfl]
  · have e : (if line ∈ r ++ [z] then (r ++ [z]).erase line else (r ++ [z]).dropLast) = r := by
      split
      · next hm =>
        have : line = z := by simpa [h] using hm
        subst this
        rw [List.erase_append_right _ h]; simp
      · simp
    rw [frontL, if_neg h, frontL, e]
    obtain ⟨n, hn⟩ : ∃ n, r.length = n + 1 := ⟨r.length - 1, by omega⟩
    rw [hn, List.take_succ_cons, List.dropLast_eq_take, hn]; rfl
theorem split_last {r' : List Int} {n : Nat} (h : r'.length = n + 1) : ∃ z, r' = r'.take n ++ [z] := by
  have h2 : (r'.drop n).length = 1 := by rw [List.length_drop]; omega
  obtain ⟨z, hz⟩ := List.length_eq_one_iff.1 h2
  exact ⟨z, by rw [← hz, List.take_append_drop]⟩
theorem InvG.step {c0 c1 c2 a : Int} {x y : List (List Int)} (h : InvG c0 c1 x y) (hc : confOk c0 c1 c2) (hc' : confOk c0 (c1 + 1) c2) (h0 : 0 < c0) (ha : 0 ≤ a ∧ a ≤ 1048576) : InvG c0 c1 (stepL c0 c2 x a) (stepL c0 c2 y a) ∧ ((a / c2) ∈ x.getD (a / c2 % c0).toNat [] → (a / c2) ∈ y.getD (a / c2 % c0).toNat []) := by
  obtain ⟨hx, hy, hs⟩ := h
  have hc1 := hc.2.1
  obtain ⟨e1, e2, e3, e4, e5⟩ := place hc hx.1 (by omega) ha.1 ha.2
  have e4' : (a / c2 % c0).toNat < y.length := by have := hx.1; have := hy.1; omega
  have hset := hs (a / c2 % c0).toNat (by have := hx.1; omega)
  have hly : (y.getD (a / c2 % c0).toNat []).length = c1.toNat + 1 := by rw [getD_at e4']; have := (hy.2 _ e4').length; omega
  obtain ⟨z, hz⟩ := split_last hly
  have hf := front_take (line := a / c2) (r := (y.getD (a / c2 % c0).toNat []).take c1.toNat) (z := z) (by rw [List.length_take]; omega)
  rw [← hz] at hf
  refine ⟨⟨hx.step hc (by omega) ha.1 ha.2, hy.step hc' (by omega) ha.1 ha.2, fun s hsl => ?_⟩, by rw [hset]; exact hf.2⟩
  by_cases he : (a / c2 % c0).toNat = s
  · subst he
    have g1 : (stepL c0 c2 x a).getD (a / c2 % c0).toNat [] = frontL (a / c2) (x.getD (a / c2 % c0).toNat []) := by simp [stepL, List.getD_eq_getElem?_getD, e4]
    have g2 : (stepL c0 c2 y a).getD (a / c2 % c0).toNat [] = frontL (a / c2) (y.getD (a / c2 % c0).toNat []) := by simp [stepL, List.getD_eq_getElem?_getD, e4']
    rw [g1, g2, hset, hf.1, List.length_take, Nat.min_eq_left (by omega)]
  · have g1 : (stepL c0 c2 x a).getD s [] = x.getD s [] := by simp [stepL, List.getD_eq_getElem?_getD, List.getElem?_set_ne he]
    have g2 : (stepL c0 c2 y a).getD s [] = y.getD s [] := by simp [stepL, List.getD_eq_getElem?_getD, List.getElem?_set_ne he]
    rw [g1, g2]; exact hs s hsl
theorem InvG.start {c0 c1 : Int} (h0 : 0 ≤ c0) (h1 : 0 ≤ c1) : InvG c0 c1 (emptyP c0 c1) (emptyP c0 (c1 + 1)) := by
  refine ⟨goodM_empty h0, goodM_empty h0, fun s hs => ?_⟩
  have e1 : (emptyP c0 c1).getD s [] = List.replicate c1.toNat (-1) := by rw [getD_at (by simp [emptyP]; omega)]; simp [emptyP]
  have e2 : (emptyP c0 (c1 + 1)).getD s [] = List.replicate (c1 + 1).toNat (-1) := by rw [getD_at (by simp [emptyP]; omega)]; simp [emptyP]
  rw [e1, e2, List.take_replicate]
  congr 1; omega
/-- Row s of a matrix. -/
theorem rowAt {w0 W : World} {D : Option (Nat × List Int × Int)} {L : List Blk} {M : List Mx} (h : OwnD w0 W D L M) (i : Nat) {A : Option Addr} {c : Nat} {l : List (List Int)} (hi : M[i]? = some (.mat A c l)) {s : Nat} (hl : s < l.length) : ∃ ad Ax cx, A = some ad ∧ W.cell? (ad.add s) = some (.slice Ax (l.getD s []).length cx) ∧ ∀ (j : Nat) (v : Int), (l.getD s [])[j]? = some v → ∃ ax, Ax = some ax ∧ W.cell? (ax.add j) = some (.int .i64 v) := by
  have hg : QCa.rd_L1 l (s : Int) = l.getD s [] := by simp [QCa.rd_L1]
  obtain ⟨ad, Ax, cx, rfl, h1, h2, h3⟩ := QCa.at_L1 (h.C i hi) s (by omega) (by omega)
  rw [Int.toNat_natCast, hg] at h1
  rw [hg] at h3
  refine ⟨ad, Ax, cx, rfl, h1, fun j v hj => ?_⟩
  have hjl := (List.getElem?_eq_some_iff.1 hj).1
  obtain ⟨ax, rfl, hx⟩ := Kd.at_int h3 j (by omega) (by omega)
  rw [Int.toNat_natCast, rd_nat hjl] at hx
  refine ⟨ax, rfl, hx.trans ?_⟩
  rw [List.getElem?_eq_getElem hjl] at hj
  rw [Option.some.inj hj]
set_option maxHeartbeats 2000000 in
set_option maxRecDepth 100000 in
theorem CacheGrows_off (a0 a1 a2 : Int) (A3 : Option Addr) (k3 : Nat) (l3 : List Int) (w : World) (ha0 : 0 ≤ a0 ∧ a0 ≤ 255) (ha1 : 0 ≤ a1 ∧ a1 ≤ 255) (ha2 : 0 ≤ a2 ∧ a2 ≤ 255) (hr3 : Kd.C (Kd.int .u8) w A3 l3.length l3) (hk3 : l3.length ≤ k3) (hw3 : ∀ x ∈ l3, 0 ≤ x ∧ x ≤ 255) (h : ¬ l3.length ≤ 100) : Calls Try.prog 6 #[.int .u8 a0, .int .u8 a1, .int .u8 a2, .slice A3 l3.length k3] w fun e w' => e = .returned (.bool true) ∧ Below w.heap.size w w' := by
  have haw := Aside0.mk (awake_ev (Nat.le_refl 10))
  have hla := hr3.2.1
  clear hr3
  have HO := Aside0.mk (Below.refl w.heap.size w)
  have h1 : (100 : Int) < l3.length := by omega
  clear h hw3 ha0 ha1 ha2
  go_enter Try.func6, Try.ntmps6
  go_wp2_with (go_at_call 10; refine (timeboundlaw22_awake.calls 10 true _ haw.out).mono ?_; rintro e w9 ⟨rfl, hbl⟩; replace HO := Aside0.mk (below_step HO.out hbl))
  go_ret
  exact ⟨rfl, HO.out⟩
set_option maxHeartbeats 8000000 in
set_option maxRecDepth 100000 in
theorem CacheGrows_on (a0 a1 a2 : Int) (A3 : Option Addr) (k3 : Nat) (l3 : List Int) (w : World) (ha0 : 0 ≤ a0 ∧ a0 ≤ 255) (ha1 : 0 ≤ a1 ∧ a1 ≤ 255) (ha2 : 0 ≤ a2 ∧ a2 ≤ 255) (hr3 : Kd.C (Kd.int .u8) w A3 l3.length l3) (hk3 : l3.length ≤ k3) (hw3 : ∀ x ∈ l3, 0 ≤ x ∧ x ≤ 255) (h1 : l3.length ≤ 100) (c0 c1 c2 : Int) (e0 : 1 + a0 % 4 = c0) (e1 : 1 + a1 % 3 = c1) (e2 : 1 + a2 % 4 = c2) : Calls Try.prog 6 #[.int .u8 a0, .int .u8 a1, .int .u8 a2, .slice A3 l3.length k3] w fun e w' => e = .returned (.bool true) ∧ Below w.heap.size w w' := by
  have hc : confOk c0 c1 c2 := ⟨by omega, by omega, by omega⟩
  have hc' : confOk c0 (c1 + 1) c2 := ⟨by omega, by omega, by omega⟩
  have haw := Aside0.mk (awake_ev (Nat.le_refl 10))
  have h100 : ¬ (100 : Int) < l3.length := by omega
  have hcb : 1 ≤ c0 ∧ c0 ≤ 4 ∧ 1 ≤ c1 ∧ c1 ≤ 3 ∧ 1 ≤ c2 ∧ c2 ≤ 4 := by omega
  obtain ⟨b1, b2, b3, b4, b5, b6⟩ := hcb
  have hE1 := Aside0.mk (empty_ev hc (Nat.le_refl 10))
  have hE2 := Aside0.mk (empty_ev hc' (Nat.le_refl 10))
  have hI := Aside0.mk (InvG.start (c0 := c0) (c1 := c1) (by omega) (by omega))
  generalize emptyP c0 c1 = x at hE1 hI
  generalize emptyP c0 (c1 + 1) = y at hE2 hI
  replace hc := Aside0.mk hc
  replace hc' := Aside0.mk hc'
  replace hr3 := Aside0.mk hr3
  replace hw3 := Aside0.mk hw3
  have HO := Aside0.mk (OwnD.start w)
  obtain ⟨p0, p1⟩ := ha0
  obtain ⟨p2, p3⟩ := ha1
  obtain ⟨p4, p5⟩ := ha2
  go_enter Try.func6, Try.ntmps6
  go_wp2_with (first
    | ((with_reducible refine gate_dst (N := 9) rfl ?_); refine box_event ?hg (N := 9) ?hd (cs := #[.int .i64 0, .int .i64 0, .int .i64 0]) (t := 29) ?hr ?_; (case hd => rfl); (case hg => rfl); (case hr => first | (go_simp; done) | (go_simp; rfl)); intro gc hg w1 hb hbl; replace HO : Aside0 (OwnD w w1 none [(gc, 29, [.int .i64 0, .int .i64 0, .int .i64 0])] []) := Aside0.mk (HO.out.new hg hb hbl); clear hg hb hbl; have x_gc_0 := HO.out.cell 0 rfl 0 rfl; have f_gc_0 := HO.out.frozen 0 rfl 0; have x_gc_1 := HO.out.cell 0 rfl 1 rfl; have f_gc_1 := HO.out.frozen 0 rfl 1; have x_gc_2 := HO.out.cell 0 rfl 2 rfl; have f_gc_2 := HO.out.frozen 0 rfl 2; have f_gc_0 := HO.out.frozen 0 rfl 0; have f_gc_1 := HO.out.frozen 0 rfl 1; have f_gc_2 := HO.out.frozen 0 rfl 2)
    | ((with_reducible refine gate_store (t := 29) (p := 9) rfl ?_); refine store_event (t := 29) (p := 9) (v := .tmp 38) (w1 := ((w1.setCell ⟨gc, 0, none⟩ (.int .i64 c0)).setCell ⟨gc, 1, none⟩ (.int .i64 c1)).setCell ⟨gc, 2, none⟩ (.int .i64 c2)) ?hg ?ho ?hn ?hr ?_; (case ho => rfl); (case hg => rfl); (case hn => rfl); (case hr => first | (go_simp; done) | (go_simp; rfl)); intro w2 hw; replace HO : Aside0 (OwnD w w2 none [(gc, 29, [.int .i64 c0, .int .i64 c1, .int .i64 c2])] []) := Aside0.mk (by rw [hw]; exact (((HO.out.set 0 rfl 0 (.int .i64 c0)).set 0 rfl 1 (.int .i64 c1)).set 0 rfl 2 (.int .i64 c2))); clear hw; (try clear x_gc_0); (try clear f_gc_0); (try clear x_gc_1); (try clear f_gc_1); (try clear x_gc_2); (try clear f_gc_2); have x_gc_0 := HO.out.cell 0 rfl 0 rfl; have f_gc_0 := HO.out.frozen 0 rfl 0; have x_gc_1 := HO.out.cell 0 rfl 1 rfl; have f_gc_1 := HO.out.frozen 0 rfl 1; have x_gc_2 := HO.out.cell 0 rfl 2 rfl; have f_gc_2 := HO.out.frozen 0 rfl 2)
    | ((with_reducible refine gate_dst (N := 10) rfl ?_); refine box_event ?hg (N := 10) ?hd (cs := #[.int .i64 0, .int .i64 0, .int .i64 0]) (t := 29) ?hr ?_; (case hd => rfl); (case hg => rfl); (case hr => first | (go_simp; done) | (go_simp; rfl)); intro gb hg w3 hb hbl; replace HO : Aside0 (OwnD w w3 none [(gb, 29, [.int .i64 0, .int .i64 0, .int .i64 0]), (gc, 29, [.int .i64 c0, .int .i64 c1, .int .i64 c2])] []) := Aside0.mk (HO.out.new hg hb hbl); clear hg hb hbl; (try clear x_gc_0); (try clear f_gc_0); (try clear x_gc_1); (try clear f_gc_1); (try clear x_gc_2); (try clear f_gc_2); have x_gb_0 := HO.out.cell 0 rfl 0 rfl; have f_gb_0 := HO.out.frozen 0 rfl 0; have x_gb_1 := HO.out.cell 0 rfl 1 rfl; have f_gb_1 := HO.out.frozen 0 rfl 1; have x_gb_2 := HO.out.cell 0 rfl 2 rfl; have f_gb_2 := HO.out.frozen 0 rfl 2; have x_gc_0 := HO.out.cell 1 rfl 0 rfl; have f_gc_0 := HO.out.frozen 1 rfl 0; have x_gc_1 := HO.out.cell 1 rfl 1 rfl; have f_gc_1 := HO.out.frozen 1 rfl 1; have x_gc_2 := HO.out.cell 1 rfl 2 rfl; have f_gc_2 := HO.out.frozen 1 rfl 2; have f_gb_0 := HO.out.frozen 0 rfl 0; have f_gb_1 := HO.out.frozen 0 rfl 1; have f_gb_2 := HO.out.frozen 0 rfl 2)
    | ((with_reducible refine gate_store (t := 29) (p := 10) rfl ?_); refine store_event (t := 29) (p := 10) (v := .tmp 39) (w1 := ((w3.setCell ⟨gb, 0, none⟩ (.int .i64 c0)).setCell ⟨gb, 1, none⟩ (.int .i64 c1)).setCell ⟨gb, 2, none⟩ (.int .i64 c2)) ?hg ?ho ?hn ?hr ?_; (case ho => rfl); (case hg => rfl); (case hn => rfl); (case hr => first | (go_simp; done) | (go_simp; rfl)); intro w4 hw; replace HO : Aside0 (OwnD w w4 none [(gb, 29, [.int .i64 c0, .int .i64 c1, .int .i64 c2]), (gc, 29, [.int .i64 c0, .int .i64 c1, .int .i64 c2])] []) := Aside0.mk (by rw [hw]; exact (((HO.out.set 0 rfl 0 (.int .i64 c0)).set 0 rfl 1 (.int .i64 c1)).set 0 rfl 2 (.int .i64 c2))); clear hw; (try clear x_gb_0); (try clear f_gb_0); (try clear x_gb_1); (try clear f_gb_1); (try clear x_gb_2); (try clear f_gb_2); (try clear x_gc_0); (try clear f_gc_0); (try clear x_gc_1); (try clear f_gc_1); (try clear x_gc_2); (try clear f_gc_2); have x_gb_0 := HO.out.cell 0 rfl 0 rfl; have f_gb_0 := HO.out.frozen 0 rfl 0; have x_gb_1 := HO.out.cell 0 rfl 1 rfl; have f_gb_1 := HO.out.frozen 0 rfl 1; have x_gb_2 := HO.out.cell 0 rfl 2 rfl; have f_gb_2 := HO.out.frozen 0 rfl 2; have x_gc_0 := HO.out.cell 1 rfl 0 rfl; have f_gc_0 := HO.out.frozen 1 rfl 0; have x_gc_1 := HO.out.cell 1 rfl 1 rfl; have f_gc_1 := HO.out.frozen 1 rfl 1; have x_gc_2 := HO.out.cell 1 rfl 2 rfl; have f_gc_2 := HO.out.frozen 1 rfl 2)
    | ((with_reducible refine gate_store (t := 3) (p := 43) rfl ?_); refine store_event (t := 3) (p := 43) (v := .tmp 42) (w1 := w4.setCell ⟨gb, 1, none⟩ (.int .i64 (c1 + 1))) ?hg ?ho ?hn ?hr ?_; (case ho => rfl); (case hg => rfl); (case hn => rfl); (case hr => first | (go_simp; done) | (go_simp; rfl)); intro w5 hw; replace HO : Aside0 (OwnD w w5 none [(gb, 29, [.int .i64 c0, .int .i64 (c1 + 1), .int .i64 c2]), (gc, 29, [.int .i64 c0, .int .i64 c1, .int .i64 c2])] []) := Aside0.mk (by rw [hw]; exact HO.out.set 0 rfl 1 (.int .i64 (c1 + 1))); clear hw; (try clear x_gb_0); (try clear f_gb_0); (try clear x_gb_1); (try clear f_gb_1); (try clear x_gb_2); (try clear f_gb_2); (try clear x_gc_0); (try clear f_gc_0); (try clear x_gc_1); (try clear f_gc_1); (try clear x_gc_2); (try clear f_gc_2); have x_gb_0 := HO.out.cell 0 rfl 0 rfl; have f_gb_0 := HO.out.frozen 0 rfl 0; have x_gb_1 := HO.out.cell 0 rfl 1 rfl; have f_gb_1 := HO.out.frozen 0 rfl 1; have x_gb_2 := HO.out.cell 0 rfl 2 rfl; have f_gb_2 := HO.out.frozen 0 rfl 2; have x_gc_0 := HO.out.cell 1 rfl 0 rfl; have f_gc_0 := HO.out.frozen 1 rfl 0; have x_gc_1 := HO.out.cell 1 rfl 1 rfl; have f_gc_1 := HO.out.frozen 1 rfl 1; have x_gc_2 := HO.out.cell 1 rfl 2 rfl; have f_gc_2 := HO.out.frozen 1 rfl 2))
  go_upto_region 6 with (fail)
  (try simp only [Act.put, List.setIfInBounds_toArray, List.set_cons_succ, List.set_cons_zero])
  go_cut [11, 12] (fun v11 v12 wc => ∃ (gx gy : Nat) (A : Option Addr) (cA : Nat) (B : Option Addr) (cB : Nat), v11 = .pointer (some ⟨gx, 0, none⟩) ∧ v12 = .pointer (some ⟨gy, 0, none⟩) ∧ Aside0 (OwnD w wc none [(gx, 33, [.slice A x.length cA]), (gy, 33, [.slice B y.length cB]), (gb, 29, [.int .i64 c0, .int .i64 (c1 + 1), .int .i64 c2]), (gc, 29, [.int .i64 c0, .int .i64 c1, .int .i64 c2])] [.mat A cA x, .mat B cB y]))
  case first =>
    go_region_held3 (fun w' => w'.cell? ⟨gb, 0, none⟩ = some (.int .i64 c0) ∧ w'.cell? ⟨gb, 1, none⟩ = some (.int .i64 (c1 + 1)) ∧ w'.cell? ⟨gb, 2, none⟩ = some (.int .i64 c2) ∧ w'.cell? ⟨gc, 0, none⟩ = some (.int .i64 c0) ∧ w'.cell? ⟨gc, 1, none⟩ = some (.int .i64 c1) ∧ w'.cell? ⟨gc, 2, none⟩ = some (.int .i64 c2)) (go_keep) (first
    | (go_at_call 19; have H2 := HO.out.drew; (with_reducible refine (cache_Empty.calls 10 c0 c1 c2 x (wdOf H2) hE1.out).mono ?_); rintro e v0 ⟨v, rfl, hS, hb2⟩; obtain ⟨A, cA, rfl, HO2⟩ := H2.made hS hb2; replace HO := Aside0.mk HO2; clear hS hb2 HO2 H2; have x_gb_0 : World.cell? _ ⟨gb, 0, none⟩ = _ := HO.out.cell 0 rfl 0 rfl; have x_gb_1 : World.cell? _ ⟨gb, 1, none⟩ = _ := HO.out.cell 0 rfl 1 rfl; have x_gb_2 : World.cell? _ ⟨gb, 2, none⟩ = _ := HO.out.cell 0 rfl 2 rfl; have t_gb : gb < _ := HO.out.lt 0 rfl; have ngc_gb := World.new_ne _ _ x_gb_0; dsimp only at ngc_gb; have x_gc_0 : World.cell? _ ⟨gc, 0, none⟩ = _ := HO.out.cell 1 rfl 0 rfl; have x_gc_1 : World.cell? _ ⟨gc, 1, none⟩ = _ := HO.out.cell 1 rfl 1 rfl; have x_gc_2 : World.cell? _ ⟨gc, 2, none⟩ = _ := HO.out.cell 1 rfl 2 rfl; have t_gc : gc < _ := HO.out.lt 1 rfl; have ngc_gc := World.new_ne _ _ x_gc_0; dsimp only at ngc_gc)
    | (go_at_call 19; have H2 := (HO.out.allocN (w5.heap.size) rfl [.slice none 0 0] 33).drew; (with_reducible refine (cache_Empty.calls 10 c0 c1 c2 x (wdOf H2) hE1.out).mono ?_); rintro e v0 ⟨v, rfl, hS, hb2⟩; obtain ⟨A, cA, rfl, HO2⟩ := H2.made hS hb2; replace HO := Aside0.mk HO2; clear hS hb2 HO2 H2; have x_gb_0 : World.cell? _ ⟨gb, 0, none⟩ = _ := HO.out.cell 1 rfl 0 rfl; have x_gb_1 : World.cell? _ ⟨gb, 1, none⟩ = _ := HO.out.cell 1 rfl 1 rfl; have x_gb_2 : World.cell? _ ⟨gb, 2, none⟩ = _ := HO.out.cell 1 rfl 2 rfl; have t_gb : gb < _ := HO.out.lt 1 rfl; have ngc_gb := World.new_ne _ _ x_gb_0; dsimp only at ngc_gb; have x_gc_0 : World.cell? _ ⟨gc, 0, none⟩ = _ := HO.out.cell 2 rfl 0 rfl; have x_gc_1 : World.cell? _ ⟨gc, 1, none⟩ = _ := HO.out.cell 2 rfl 1 rfl; have x_gc_2 : World.cell? _ ⟨gc, 2, none⟩ = _ := HO.out.cell 2 rfl 2 rfl; have t_gc : gc < _ := HO.out.lt 2 rfl; have ngc_gc := World.new_ne _ _ x_gc_0; dsimp only at ngc_gc; have xb0 := HO.out.cell 0 rfl 0 rfl; have fb0 := HO.out.frozen 0 rfl 0; have lb0 := HO.out.lt 0 rfl; have nb0_gb := HO.out.ne 0 1 rfl rfl (by decide); have nb0_gc := HO.out.ne 0 2 rfl rfl (by decide))
    | (go_at_call 19; have H2 := ((HO.out.allocN (w5.heap.size) rfl [.slice none 0 0] 33).allocN (w5.heap.size + 1) (size_alloc _ _) [.slice none 0 0] 33).drew; (with_reducible refine (cache_Empty.calls 10 c0 c1 c2 x (wdOf H2) hE1.out).mono ?_); rintro e v0 ⟨v, rfl, hS, hb2⟩; obtain ⟨A, cA, rfl, HO2⟩ := H2.made hS hb2; replace HO := Aside0.mk HO2; clear hS hb2 HO2 H2; have x_gb_0 : World.cell? _ ⟨gb, 0, none⟩ = _ := HO.out.cell 2 rfl 0 rfl; have x_gb_1 : World.cell? _ ⟨gb, 1, none⟩ = _ := HO.out.cell 2 rfl 1 rfl; have x_gb_2 : World.cell? _ ⟨gb, 2, none⟩ = _ := HO.out.cell 2 rfl 2 rfl; have t_gb : gb < _ := HO.out.lt 2 rfl; have ngc_gb := World.new_ne _ _ x_gb_0; dsimp only at ngc_gb; have x_gc_0 : World.cell? _ ⟨gc, 0, none⟩ = _ := HO.out.cell 3 rfl 0 rfl; have x_gc_1 : World.cell? _ ⟨gc, 1, none⟩ = _ := HO.out.cell 3 rfl 1 rfl; have x_gc_2 : World.cell? _ ⟨gc, 2, none⟩ = _ := HO.out.cell 3 rfl 2 rfl; have t_gc : gc < _ := HO.out.lt 3 rfl; have ngc_gc := World.new_ne _ _ x_gc_0; dsimp only at ngc_gc; have xb0 := HO.out.cell 0 rfl 0 rfl; have fb0 := HO.out.frozen 0 rfl 0; have lb0 := HO.out.lt 0 rfl; have nb0_gb := HO.out.ne 0 2 rfl rfl (by decide); have nb0_gc := HO.out.ne 0 3 rfl rfl (by decide); have nbb0_1 := HO.out.ne 0 1 rfl rfl (by decide); have xb1 := HO.out.cell 1 rfl 0 rfl; have fb1 := HO.out.frozen 1 rfl 0; have lb1 := HO.out.lt 1 rfl; have nb1_gb := HO.out.ne 1 2 rfl rfl (by decide); have nb1_gc := HO.out.ne 1 3 rfl rfl (by decide); have nbb1_0 := HO.out.ne 1 0 rfl rfl (by decide))
    | (go_at_call 19; have H2 := HO.out; (with_reducible refine (cache_Empty.calls 10 c0 (c1 + 1) c2 y (wdOf H2) hE2.out).mono ?_); rintro e v1 ⟨v, rfl, hS, hb2⟩; obtain ⟨B, cB, rfl, HO2⟩ := H2.made hS hb2; replace HO := Aside0.mk HO2; clear hS hb2 HO2 H2; (first | (have x_gb_0 : World.cell? _ ⟨gb, 0, none⟩ = _ := HO.out.cell 0 rfl 0 rfl; have x_gb_1 : World.cell? _ ⟨gb, 1, none⟩ = _ := HO.out.cell 0 rfl 1 rfl; have x_gb_2 : World.cell? _ ⟨gb, 2, none⟩ = _ := HO.out.cell 0 rfl 2 rfl; have t_gb : gb < _ := HO.out.lt 0 rfl; have ngc_gb := World.new_ne _ _ x_gb_0; dsimp only at ngc_gb; have x_gc_0 : World.cell? _ ⟨gc, 0, none⟩ = _ := HO.out.cell 1 rfl 0 rfl; have x_gc_1 : World.cell? _ ⟨gc, 1, none⟩ = _ := HO.out.cell 1 rfl 1 rfl; have x_gc_2 : World.cell? _ ⟨gc, 2, none⟩ = _ := HO.out.cell 1 rfl 2 rfl; have t_gc : gc < _ := HO.out.lt 1 rfl; have ngc_gc := World.new_ne _ _ x_gc_0; dsimp only at ngc_gc) | (have x_gb_0 : World.cell? _ ⟨gb, 0, none⟩ = _ := HO.out.cell 1 rfl 0 rfl; have x_gb_1 : World.cell? _ ⟨gb, 1, none⟩ = _ := HO.out.cell 1 rfl 1 rfl; have x_gb_2 : World.cell? _ ⟨gb, 2, none⟩ = _ := HO.out.cell 1 rfl 2 rfl; have t_gb : gb < _ := HO.out.lt 1 rfl; have ngc_gb := World.new_ne _ _ x_gb_0; dsimp only at ngc_gb; have x_gc_0 : World.cell? _ ⟨gc, 0, none⟩ = _ := HO.out.cell 2 rfl 0 rfl; have x_gc_1 : World.cell? _ ⟨gc, 1, none⟩ = _ := HO.out.cell 2 rfl 1 rfl; have x_gc_2 : World.cell? _ ⟨gc, 2, none⟩ = _ := HO.out.cell 2 rfl 2 rfl; have t_gc : gc < _ := HO.out.lt 2 rfl; have ngc_gc := World.new_ne _ _ x_gc_0; dsimp only at ngc_gc; have xb0 := HO.out.cell 0 rfl 0 rfl; have fb0 := HO.out.frozen 0 rfl 0; have lb0 := HO.out.lt 0 rfl; have nb0_gb := HO.out.ne 0 1 rfl rfl (by decide); have nb0_gc := HO.out.ne 0 2 rfl rfl (by decide)) | (have x_gb_0 : World.cell? _ ⟨gb, 0, none⟩ = _ := HO.out.cell 2 rfl 0 rfl; have x_gb_1 : World.cell? _ ⟨gb, 1, none⟩ = _ := HO.out.cell 2 rfl 1 rfl; have x_gb_2 : World.cell? _ ⟨gb, 2, none⟩ = _ := HO.out.cell 2 rfl 2 rfl; have t_gb : gb < _ := HO.out.lt 2 rfl; have ngc_gb := World.new_ne _ _ x_gb_0; dsimp only at ngc_gb; have x_gc_0 : World.cell? _ ⟨gc, 0, none⟩ = _ := HO.out.cell 3 rfl 0 rfl; have x_gc_1 : World.cell? _ ⟨gc, 1, none⟩ = _ := HO.out.cell 3 rfl 1 rfl; have x_gc_2 : World.cell? _ ⟨gc, 2, none⟩ = _ := HO.out.cell 3 rfl 2 rfl; have t_gc : gc < _ := HO.out.lt 3 rfl; have ngc_gc := World.new_ne _ _ x_gc_0; dsimp only at ngc_gc; have xb0 := HO.out.cell 0 rfl 0 rfl; have fb0 := HO.out.frozen 0 rfl 0; have lb0 := HO.out.lt 0 rfl; have nb0_gb := HO.out.ne 0 2 rfl rfl (by decide); have nb0_gc := HO.out.ne 0 3 rfl rfl (by decide); have nbb0_1 := HO.out.ne 0 1 rfl rfl (by decide); have xb1 := HO.out.cell 1 rfl 0 rfl; have fb1 := HO.out.frozen 1 rfl 0; have lb1 := HO.out.lt 1 rfl; have nb1_gb := HO.out.ne 1 2 rfl rfl (by decide); have nb1_gc := HO.out.ne 1 3 rfl rfl (by decide); have nbb1_0 := HO.out.ne 1 0 rfl rfl (by decide))))
    | (go_at_call 19; have H2 := (HO.out.allocN (v0.heap.size) rfl [.slice none 0 0] 33); (with_reducible refine (cache_Empty.calls 10 c0 (c1 + 1) c2 y (wdOf H2) hE2.out).mono ?_); rintro e v1 ⟨v, rfl, hS, hb2⟩; obtain ⟨B, cB, rfl, HO2⟩ := H2.made hS hb2; replace HO := Aside0.mk HO2; clear hS hb2 HO2 H2; (first | (have x_gb_0 : World.cell? _ ⟨gb, 0, none⟩ = _ := HO.out.cell 1 rfl 0 rfl; have x_gb_1 : World.cell? _ ⟨gb, 1, none⟩ = _ := HO.out.cell 1 rfl 1 rfl; have x_gb_2 : World.cell? _ ⟨gb, 2, none⟩ = _ := HO.out.cell 1 rfl 2 rfl; have t_gb : gb < _ := HO.out.lt 1 rfl; have ngc_gb := World.new_ne _ _ x_gb_0; dsimp only at ngc_gb; have x_gc_0 : World.cell? _ ⟨gc, 0, none⟩ = _ := HO.out.cell 2 rfl 0 rfl; have x_gc_1 : World.cell? _ ⟨gc, 1, none⟩ = _ := HO.out.cell 2 rfl 1 rfl; have x_gc_2 : World.cell? _ ⟨gc, 2, none⟩ = _ := HO.out.cell 2 rfl 2 rfl; have t_gc : gc < _ := HO.out.lt 2 rfl; have ngc_gc := World.new_ne _ _ x_gc_0; dsimp only at ngc_gc; have xb0 := HO.out.cell 0 rfl 0 rfl; have fb0 := HO.out.frozen 0 rfl 0; have lb0 := HO.out.lt 0 rfl; have nb0_gb := HO.out.ne 0 1 rfl rfl (by decide); have nb0_gc := HO.out.ne 0 2 rfl rfl (by decide)) | (have x_gb_0 : World.cell? _ ⟨gb, 0, none⟩ = _ := HO.out.cell 2 rfl 0 rfl; have x_gb_1 : World.cell? _ ⟨gb, 1, none⟩ = _ := HO.out.cell 2 rfl 1 rfl; have x_gb_2 : World.cell? _ ⟨gb, 2, none⟩ = _ := HO.out.cell 2 rfl 2 rfl; have t_gb : gb < _ := HO.out.lt 2 rfl; have ngc_gb := World.new_ne _ _ x_gb_0; dsimp only at ngc_gb; have x_gc_0 : World.cell? _ ⟨gc, 0, none⟩ = _ := HO.out.cell 3 rfl 0 rfl; have x_gc_1 : World.cell? _ ⟨gc, 1, none⟩ = _ := HO.out.cell 3 rfl 1 rfl; have x_gc_2 : World.cell? _ ⟨gc, 2, none⟩ = _ := HO.out.cell 3 rfl 2 rfl; have t_gc : gc < _ := HO.out.lt 3 rfl; have ngc_gc := World.new_ne _ _ x_gc_0; dsimp only at ngc_gc; have xb0 := HO.out.cell 0 rfl 0 rfl; have fb0 := HO.out.frozen 0 rfl 0; have lb0 := HO.out.lt 0 rfl; have nb0_gb := HO.out.ne 0 2 rfl rfl (by decide); have nb0_gc := HO.out.ne 0 3 rfl rfl (by decide); have nbb0_1 := HO.out.ne 0 1 rfl rfl (by decide); have xb1 := HO.out.cell 1 rfl 0 rfl; have fb1 := HO.out.frozen 1 rfl 0; have lb1 := HO.out.lt 1 rfl; have nb1_gb := HO.out.ne 1 2 rfl rfl (by decide); have nb1_gc := HO.out.ne 1 3 rfl rfl (by decide); have nbb1_0 := HO.out.ne 1 0 rfl rfl (by decide))))
    | (go_at_call 19; have H2 := ((HO.out.allocN (v0.heap.size) rfl [.slice none 0 0] 33).allocN (v0.heap.size + 1) (size_alloc _ _) [.slice none 0 0] 33); (with_reducible refine (cache_Empty.calls 10 c0 (c1 + 1) c2 y (wdOf H2) hE2.out).mono ?_); rintro e v1 ⟨v, rfl, hS, hb2⟩; obtain ⟨B, cB, rfl, HO2⟩ := H2.made hS hb2; replace HO := Aside0.mk HO2; clear hS hb2 HO2 H2; have x_gb_0 : World.cell? _ ⟨gb, 0, none⟩ = _ := HO.out.cell 2 rfl 0 rfl; have x_gb_1 : World.cell? _ ⟨gb, 1, none⟩ = _ := HO.out.cell 2 rfl 1 rfl; have x_gb_2 : World.cell? _ ⟨gb, 2, none⟩ = _ := HO.out.cell 2 rfl 2 rfl; have t_gb : gb < _ := HO.out.lt 2 rfl; have ngc_gb := World.new_ne _ _ x_gb_0; dsimp only at ngc_gb; have x_gc_0 : World.cell? _ ⟨gc, 0, none⟩ = _ := HO.out.cell 3 rfl 0 rfl; have x_gc_1 : World.cell? _ ⟨gc, 1, none⟩ = _ := HO.out.cell 3 rfl 1 rfl; have x_gc_2 : World.cell? _ ⟨gc, 2, none⟩ = _ := HO.out.cell 3 rfl 2 rfl; have t_gc : gc < _ := HO.out.lt 3 rfl; have ngc_gc := World.new_ne _ _ x_gc_0; dsimp only at ngc_gc; have xb0 := HO.out.cell 0 rfl 0 rfl; have fb0 := HO.out.frozen 0 rfl 0; have lb0 := HO.out.lt 0 rfl; have nb0_gb := HO.out.ne 0 2 rfl rfl (by decide); have nb0_gc := HO.out.ne 0 3 rfl rfl (by decide); have nbb0_1 := HO.out.ne 0 1 rfl rfl (by decide); have xb1 := HO.out.cell 1 rfl 0 rfl; have fb1 := HO.out.frozen 1 rfl 0; have lb1 := HO.out.lt 1 rfl; have nb1_gb := HO.out.ne 1 2 rfl rfl (by decide); have nb1_gc := HO.out.ne 1 3 rfl rfl (by decide); have nbb1_0 := HO.out.ne 1 0 rfl rfl (by decide)))
    all_goals
      go_wp2
      go_meet
      case rel => first | exact ⟨_, _, A, cA, B, cB, rfl, rfl, ⟨(((HO.out.allocN _ rfl [.slice A x.length cA] 33).allocN _ (size_alloc _ _) [.slice B y.length cB] 33).swap).less (by simp)⟩⟩ | exact ⟨_, _, A, cA, B, cB, rfl, rfl, ⟨((HO.out.allocN _ rfl [.slice B y.length cB] 33).allocN _ (size_alloc _ _) [.slice A x.length cA] 33).less (by simp)⟩⟩ | exact ⟨_, _, A, cA, B, cB, rfl, rfl, ⟨(((HO.out.set 0 rfl 0 (.slice A x.length cA)).allocN _ (by simp) [.slice B y.length cB] 33).swap).less (by simp)⟩⟩ | exact ⟨_, _, A, cA, B, cB, rfl, rfl, ⟨((HO.out.set 0 rfl 0 (.slice B y.length cB)).allocN _ (by simp) [.slice A x.length cA] 33).less (by simp)⟩⟩ | exact ⟨_, _, A, cA, B, cB, rfl, rfl, ⟨((HO.out.set 0 rfl 0 (.slice A x.length cA)).set 1 rfl 0 (.slice B y.length cB)).less (by simp)⟩⟩ | exact ⟨_, _, A, cA, B, cB, rfl, rfl, ⟨(((HO.out.set 1 rfl 0 (.slice A x.length cA)).set 0 rfl 0 (.slice B y.length cB)).swap).less (by simp)⟩⟩
  case rest =>
    clear x_gb_0 x_gb_1 x_gb_2 x_gc_0 x_gc_1 x_gc_2 f_gb_0 f_gb_1 f_gb_2 f_gc_0 f_gc_1 f_gc_2 HO
    obtain ⟨gx, gy, A, cA, B, cB, rfl, rfl, HO⟩ := hcut
    go_wp2
    go_loopg [13] (l3.length + 1) (fun kq v13 w' => ∃ (i : Nat) (x' y' : List (List Int)) (A : Option Addr) (cA : Nat) (B : Option Addr) (cB : Nat), v13 = .int .i64 i ∧ Aside0 (i ≤ l3.length ∧ kq = l3.length + 1 - i ∧ InvG c0 c1 x' y') ∧ Aside0 (OwnD w w' none [(gx, 33, [.slice A x'.length cA]), (gy, 33, [.slice B y'.length cB]), (gb, 29, [.int .i64 c0, .int .i64 (c1 + 1), .int .i64 c2]), (gc, 29, [.int .i64 c0, .int .i64 c1, .int .i64 c2])] [.mat A cA x', .mat B cB y']))
    case atStart => exact ⟨0, x, y, A, cA, B, cB, rfl, ⟨Nat.zero_le _, rfl, hI.out⟩, HO⟩
    case round =>
      clear HO hI
      obtain ⟨i, x', y', A, cA, B, cB, rfl, HX, HO⟩ := hrel
      have x_gx_0 := HO.out.cell 0 rfl 0 rfl
      have x_gy_0 := HO.out.cell 1 rfl 0 rfl
      have x_gb_0 := HO.out.cell 2 rfl 0 rfl
      have x_gb_1 := HO.out.cell 2 rfl 1 rfl
      have x_gb_2 := HO.out.cell 2 rfl 2 rfl
      have x_gc_0 := HO.out.cell 3 rfl 0 rfl
      have x_gc_1 := HO.out.cell 3 rfl 1 rfl
      have x_gc_2 := HO.out.cell 3 rfl 2 rfl
      by_cases hi : i < l3.length
      · have hi0 : (0 : Int) ≤ i := by omega
        have hi1 : (i : Int) < l3.length := by omega
        obtain ⟨ad, rfl, hxa⟩ := Kd.at_int hr3.out i hi0 hi1
        rw [rd_nat hi, Int.toNat_natCast] at hxa
        have hv := hw3.out _ (List.getElem_mem hi)
        generalize l3[i] = e at hxa hv
        have hv0 := hv.1
        have hv1 := hv.2
        clear hv
        replace hxa := Aside0.mk hxa
        have hxw : IntKind.i64.wrap ((i : Int) + 1) = ((i + 1 : Nat) : Int) := by rw [i64_w]; unfold wrap64; omega
        have hww4 : IntKind.i64.wrap e = e := by rw [i64_w, w64 (by omega) (by omega)]
        have hww5 : e.tmod 60 = e % 60 := Int.tmod_eq_emod_of_nonneg hv0
        have hst := HX.out.2.2.step hc.out hc'.out (a := e % 60) (by omega) ⟨by omega, by omega⟩
        have hT1 := touch_ok hc.out HX.out.2.2.1 (a := e % 60) (by omega) (by omega) (by omega)
        have hT2 := touch_ok hc'.out HX.out.2.2.2.1 (a := e % 60) (by omega) (by omega) (by omega)
        generalize stepL c0 c2 x' (e % 60) = u at hst hT1
        generalize stepL c0 c2 y' (e % 60) = v at hst hT2
        obtain ⟨q1, hq1⟩ : ∃ b, b = decide ((e % 60 / c2) ∈ x'.getD (e % 60 / c2 % c0).toNat []) := ⟨_, rfl⟩
        obtain ⟨q2, hq2⟩ : ∃ b, b = decide ((e % 60 / c2) ∈ y'.getD (e % 60 / c2 % c0).toNat []) := ⟨_, rfl⟩
        rw [← hq1] at hT1
        rw [← hq2] at hT2
        have hbb : Aside0 (q1 = true → q2 = true) := ⟨by rw [hq1, hq2, decide_eq_true_eq, decide_eq_true_eq]; exact hst.2⟩
        clear hq1 hq2
        have hI2 := Aside0.mk hst.1
        clear hst
        replace hT1 := Aside0.mk hT1
        replace hT2 := Aside0.mk hT2
        go_upto_region 10 with (fail)
        (try simp only [Act.put, List.setIfInBounds_toArray, List.set_cons_succ, List.set_cons_zero])
        have x_gx_0 : World.cell? _ ⟨gx, 0, none⟩ = _ := HO.out.cell 0 rfl 0 rfl
        have t_gx : gx < _ := HO.out.lt 0 rfl
        have ngc_gx := World.new_ne _ _ x_gx_0
        dsimp only at ngc_gx
        have x_gy_0 : World.cell? _ ⟨gy, 0, none⟩ = _ := HO.out.cell 1 rfl 0 rfl
        have t_gy : gy < _ := HO.out.lt 1 rfl
        have ngc_gy := World.new_ne _ _ x_gy_0
        dsimp only at ngc_gy
        have x_gb_0 : World.cell? _ ⟨gb, 0, none⟩ = _ := HO.out.cell 2 rfl 0 rfl
        have x_gb_1 : World.cell? _ ⟨gb, 1, none⟩ = _ := HO.out.cell 2 rfl 1 rfl
        have x_gb_2 : World.cell? _ ⟨gb, 2, none⟩ = _ := HO.out.cell 2 rfl 2 rfl
        have t_gb : gb < _ := HO.out.lt 2 rfl
        have ngc_gb := World.new_ne _ _ x_gb_0
        dsimp only at ngc_gb
        have x_gc_0 : World.cell? _ ⟨gc, 0, none⟩ = _ := HO.out.cell 3 rfl 0 rfl
        have x_gc_1 : World.cell? _ ⟨gc, 1, none⟩ = _ := HO.out.cell 3 rfl 1 rfl
        have x_gc_2 : World.cell? _ ⟨gc, 2, none⟩ = _ := HO.out.cell 3 rfl 2 rfl
        have t_gc : gc < _ := HO.out.lt 3 rfl
        have ngc_gc := World.new_ne _ _ x_gc_0
        dsimp only at ngc_gc
        have x_a : World.cell? _ (Addr.add ad i) = _ := pw_cell_below HO.out.below hxa.out
        have n_a := World.new_ne _ _ x_a
        go_cut [14, 15, 16] (fun v14 v15 v16 wc => ∃ (gu : Nat) (U : Option Addr) (cU : Nat), v14 = .pointer (some ⟨gu, 0, none⟩) ∧ v15 = .bool q1 ∧ v16 = .int .i64 0 ∧ Aside0 (OwnD w wc none [(gu, 33, [.slice U u.length cU]), (gx, 33, [.slice A x'.length cA]), (gy, 33, [.slice B y'.length cB]), (gb, 29, [.int .i64 c0, .int .i64 (c1 + 1), .int .i64 c2]), (gc, 29, [.int .i64 c0, .int .i64 c1, .int .i64 c2])] [.mat U cU u, .mat A cA x', .mat B cB y']))
        case first =>
          go_region_held3 (fun w' => w'.cell? ⟨gx, 0, none⟩ = some (.slice A x'.length cA) ∧ w'.cell? ⟨gy, 0, none⟩ = some (.slice B y'.length cB) ∧ w'.cell? ⟨gb, 0, none⟩ = some (.int .i64 c0) ∧ w'.cell? ⟨gb, 1, none⟩ = some (.int .i64 (c1 + 1)) ∧ w'.cell? ⟨gb, 2, none⟩ = some (.int .i64 c2) ∧ w'.cell? ⟨gc, 0, none⟩ = some (.int .i64 c0) ∧ w'.cell? ⟨gc, 1, none⟩ = some (.int .i64 c1) ∧ w'.cell? ⟨gc, 2, none⟩ = some (.int .i64 c2) ∧ w'.cell? (Addr.add ad i) = some (.int .u8 e)) (go_keep) (first
    | (go_at_call 16; have H2 := HO.out.drew; (with_reducible refine (cache_Touch.calls c0 c1 c2 A cA x' (e % 60) u q1 0 _ (H2.C 0 rfl) (H2.cap 0 rfl) hT1.out).mono ?_); rintro e v0 ⟨v, rfl, hS, hb2⟩; obtain ⟨U, cU, rfl, HO2⟩ := H2.made hS hb2; replace HO := Aside0.mk HO2; clear hS hb2 HO2 H2; have x_gx_0 : World.cell? _ ⟨gx, 0, none⟩ = _ := HO.out.cell 0 rfl 0 rfl; have t_gx : gx < _ := HO.out.lt 0 rfl; have ngc_gx := World.new_ne _ _ x_gx_0; dsimp only at ngc_gx; have x_gy_0 : World.cell? _ ⟨gy, 0, none⟩ = _ := HO.out.cell 1 rfl 0 rfl; have t_gy : gy < _ := HO.out.lt 1 rfl; have ngc_gy := World.new_ne _ _ x_gy_0; dsimp only at ngc_gy; have x_gb_0 : World.cell? _ ⟨gb, 0, none⟩ = _ := HO.out.cell 2 rfl 0 rfl; have x_gb_1 : World.cell? _ ⟨gb, 1, none⟩ = _ := HO.out.cell 2 rfl 1 rfl; have x_gb_2 : World.cell? _ ⟨gb, 2, none⟩ = _ := HO.out.cell 2 rfl 2 rfl; have t_gb : gb < _ := HO.out.lt 2 rfl; have ngc_gb := World.new_ne _ _ x_gb_0; dsimp only at ngc_gb; have x_gc_0 : World.cell? _ ⟨gc, 0, none⟩ = _ := HO.out.cell 3 rfl 0 rfl; have x_gc_1 : World.cell? _ ⟨gc, 1, none⟩ = _ := HO.out.cell 3 rfl 1 rfl; have x_gc_2 : World.cell? _ ⟨gc, 2, none⟩ = _ := HO.out.cell 3 rfl 2 rfl; have t_gc : gc < _ := HO.out.lt 3 rfl; have ngc_gc := World.new_ne _ _ x_gc_0; dsimp only at ngc_gc; have x_a : World.cell? _ (Addr.add ad i) = _ := pw_cell_below HO.out.below hxa.out; have n_a := World.new_ne _ _ x_a)
    | (go_at_call 16; have H2 := (HO.out.allocN (wr.heap.size) rfl [.slice none 0 0] 33).drew; (with_reducible refine (cache_Touch.calls c0 c1 c2 A cA x' (e % 60) u q1 0 _ (H2.C 0 rfl) (H2.cap 0 rfl) hT1.out).mono ?_); rintro e v0 ⟨v, rfl, hS, hb2⟩; obtain ⟨U, cU, rfl, HO2⟩ := H2.made hS hb2; replace HO := Aside0.mk HO2; clear hS hb2 HO2 H2; have x_gx_0 : World.cell? _ ⟨gx, 0, none⟩ = _ := HO.out.cell 1 rfl 0 rfl; have t_gx : gx < _ := HO.out.lt 1 rfl; have ngc_gx := World.new_ne _ _ x_gx_0; dsimp only at ngc_gx; have x_gy_0 : World.cell? _ ⟨gy, 0, none⟩ = _ := HO.out.cell 2 rfl 0 rfl; have t_gy : gy < _ := HO.out.lt 2 rfl; have ngc_gy := World.new_ne _ _ x_gy_0; dsimp only at ngc_gy; have x_gb_0 : World.cell? _ ⟨gb, 0, none⟩ = _ := HO.out.cell 3 rfl 0 rfl; have x_gb_1 : World.cell? _ ⟨gb, 1, none⟩ = _ := HO.out.cell 3 rfl 1 rfl; have x_gb_2 : World.cell? _ ⟨gb, 2, none⟩ = _ := HO.out.cell 3 rfl 2 rfl; have t_gb : gb < _ := HO.out.lt 3 rfl; have ngc_gb := World.new_ne _ _ x_gb_0; dsimp only at ngc_gb; have x_gc_0 : World.cell? _ ⟨gc, 0, none⟩ = _ := HO.out.cell 4 rfl 0 rfl; have x_gc_1 : World.cell? _ ⟨gc, 1, none⟩ = _ := HO.out.cell 4 rfl 1 rfl; have x_gc_2 : World.cell? _ ⟨gc, 2, none⟩ = _ := HO.out.cell 4 rfl 2 rfl; have t_gc : gc < _ := HO.out.lt 4 rfl; have ngc_gc := World.new_ne _ _ x_gc_0; dsimp only at ngc_gc; have xb0 := HO.out.cell 0 rfl 0 rfl; have fb0 := HO.out.frozen 0 rfl 0; have lb0 := HO.out.lt 0 rfl; have nb0_gx := HO.out.ne 0 1 rfl rfl (by decide); have nb0_gy := HO.out.ne 0 2 rfl rfl (by decide); have nb0_gb := HO.out.ne 0 3 rfl rfl (by decide); have nb0_gc := HO.out.ne 0 4 rfl rfl (by decide); have x_a : World.cell? _ (Addr.add ad i) = _ := pw_cell_below HO.out.below hxa.out; have n_a := World.new_ne _ _ x_a))
          all_goals
            go_wp2
            go_meet
            case rel => first | exact ⟨_, U, cU, rfl, rfl, rfl, ⟨HO.out.allocN _ rfl [.slice U u.length cU] 33⟩⟩ | exact ⟨_, U, cU, rfl, rfl, rfl, ⟨HO.out.set 0 rfl 0 (.slice U u.length cU)⟩⟩
        case rest =>
          clear x_a n_a HO
          obtain ⟨gu, U, cU, rfl, rfl, rfl, HO⟩ := hcut
          clear x_gx_0 x_gy_0 x_gb_0 x_gb_1 x_gb_2 x_gc_0 x_gc_1 x_gc_2 t_gx ngc_gx t_gy ngc_gy t_gb ngc_gb t_gc ngc_gc
          go_upto_region 11 with (fail)
          (try simp only [Act.put, List.setIfInBounds_toArray, List.set_cons_succ, List.set_cons_zero])
          have x_gu_0 : World.cell? _ ⟨gu, 0, none⟩ = _ := HO.out.cell 0 rfl 0 rfl
          have t_gu : gu < _ := HO.out.lt 0 rfl
          have ngc_gu := World.new_ne _ _ x_gu_0
          dsimp only at ngc_gu
          have x_gx_0 : World.cell? _ ⟨gx, 0, none⟩ = _ := HO.out.cell 1 rfl 0 rfl
          have t_gx : gx < _ := HO.out.lt 1 rfl
          have ngc_gx := World.new_ne _ _ x_gx_0
          dsimp only at ngc_gx
          have x_gy_0 : World.cell? _ ⟨gy, 0, none⟩ = _ := HO.out.cell 2 rfl 0 rfl
          have t_gy : gy < _ := HO.out.lt 2 rfl
          have ngc_gy := World.new_ne _ _ x_gy_0
          dsimp only at ngc_gy
          have x_gb_0 : World.cell? _ ⟨gb, 0, none⟩ = _ := HO.out.cell 3 rfl 0 rfl
          have x_gb_1 : World.cell? _ ⟨gb, 1, none⟩ = _ := HO.out.cell 3 rfl 1 rfl
          have x_gb_2 : World.cell? _ ⟨gb, 2, none⟩ = _ := HO.out.cell 3 rfl 2 rfl
          have t_gb : gb < _ := HO.out.lt 3 rfl
          have ngc_gb := World.new_ne _ _ x_gb_0
          dsimp only at ngc_gb
          have x_gc_0 : World.cell? _ ⟨gc, 0, none⟩ = _ := HO.out.cell 4 rfl 0 rfl
          have x_gc_1 : World.cell? _ ⟨gc, 1, none⟩ = _ := HO.out.cell 4 rfl 1 rfl
          have x_gc_2 : World.cell? _ ⟨gc, 2, none⟩ = _ := HO.out.cell 4 rfl 2 rfl
          have t_gc : gc < _ := HO.out.lt 4 rfl
          have ngc_gc := World.new_ne _ _ x_gc_0
          dsimp only at ngc_gc
          have x_a : World.cell? _ (Addr.add ad i) = _ := pw_cell_below HO.out.below hxa.out
          have n_a := World.new_ne _ _ x_a
          go_cut [17, 18, 19] (fun v17 v18 v19 wc => ∃ (gv : Nat) (V : Option Addr) (cV : Nat), v17 = .pointer (some ⟨gv, 0, none⟩) ∧ v18 = .bool q2 ∧ v19 = .int .i64 0 ∧ Aside0 (OwnD w wc none [(gv, 33, [.slice V v.length cV]), (gu, 33, [.slice U u.length cU]), (gx, 33, [.slice A x'.length cA]), (gy, 33, [.slice B y'.length cB]), (gb, 29, [.int .i64 c0, .int .i64 (c1 + 1), .int .i64 c2]), (gc, 29, [.int .i64 c0, .int .i64 c1, .int .i64 c2])] [.mat V cV v, .mat U cU u, .mat A cA x', .mat B cB y']))
          case first =>
            go_region_held3 (fun w' => w'.cell? ⟨gu, 0, none⟩ = some (.slice U u.length cU) ∧ w'.cell? ⟨gx, 0, none⟩ = some (.slice A x'.length cA) ∧ w'.cell? ⟨gy, 0, none⟩ = some (.slice B y'.length cB) ∧ w'.cell? ⟨gb, 0, none⟩ = some (.int .i64 c0) ∧ w'.cell? ⟨gb, 1, none⟩ = some (.int .i64 (c1 + 1)) ∧ w'.cell? ⟨gb, 2, none⟩ = some (.int .i64 c2) ∧ w'.cell? ⟨gc, 0, none⟩ = some (.int .i64 c0) ∧ w'.cell? ⟨gc, 1, none⟩ = some (.int .i64 c1) ∧ w'.cell? ⟨gc, 2, none⟩ = some (.int .i64 c2) ∧ w'.cell? (Addr.add ad i) = some (.int .u8 e)) (go_keep) (first
    | (go_at_call 16; have H2 := HO.out.drew; (with_reducible refine (cache_Touch.calls c0 (c1 + 1) c2 B cB y' (e % 60) v q2 0 _ (H2.C 2 rfl) (H2.cap 2 rfl) hT2.out).mono ?_); rintro e v0 ⟨v, rfl, hS, hb2⟩; obtain ⟨V, cV, rfl, HO2⟩ := H2.made hS hb2; replace HO := Aside0.mk HO2; clear hS hb2 HO2 H2; have x_gu_0 : World.cell? _ ⟨gu, 0, none⟩ = _ := HO.out.cell 0 rfl 0 rfl; have t_gu : gu < _ := HO.out.lt 0 rfl; have ngc_gu := World.new_ne _ _ x_gu_0; dsimp only at ngc_gu; have x_gx_0 : World.cell? _ ⟨gx, 0, none⟩ = _ := HO.out.cell 1 rfl 0 rfl; have t_gx : gx < _ := HO.out.lt 1 rfl; have ngc_gx := World.new_ne _ _ x_gx_0; dsimp only at ngc_gx; have x_gy_0 : World.cell? _ ⟨gy, 0, none⟩ = _ := HO.out.cell 2 rfl 0 rfl; have t_gy : gy < _ := HO.out.lt 2 rfl; have ngc_gy := World.new_ne _ _ x_gy_0; dsimp only at ngc_gy; have x_gb_0 : World.cell? _ ⟨gb, 0, none⟩ = _ := HO.out.cell 3 rfl 0 rfl; have x_gb_1 : World.cell? _ ⟨gb, 1, none⟩ = _ := HO.out.cell 3 rfl 1 rfl; have x_gb_2 : World.cell? _ ⟨gb, 2, none⟩ = _ := HO.out.cell 3 rfl 2 rfl; have t_gb : gb < _ := HO.out.lt 3 rfl; have ngc_gb := World.new_ne _ _ x_gb_0; dsimp only at ngc_gb; have x_gc_0 : World.cell? _ ⟨gc, 0, none⟩ = _ := HO.out.cell 4 rfl 0 rfl; have x_gc_1 : World.cell? _ ⟨gc, 1, none⟩ = _ := HO.out.cell 4 rfl 1 rfl; have x_gc_2 : World.cell? _ ⟨gc, 2, none⟩ = _ := HO.out.cell 4 rfl 2 rfl; have t_gc : gc < _ := HO.out.lt 4 rfl; have ngc_gc := World.new_ne _ _ x_gc_0; dsimp only at ngc_gc; have x_a : World.cell? _ (Addr.add ad i) = _ := pw_cell_below HO.out.below hxa.out; have n_a := World.new_ne _ _ x_a)
    | (go_at_call 16; have H2 := (HO.out.allocN (wc.heap.size) rfl [.slice none 0 0] 33).drew; (with_reducible refine (cache_Touch.calls c0 (c1 + 1) c2 B cB y' (e % 60) v q2 0 _ (H2.C 2 rfl) (H2.cap 2 rfl) hT2.out).mono ?_); rintro e v0 ⟨v, rfl, hS, hb2⟩; obtain ⟨V, cV, rfl, HO2⟩ := H2.made hS hb2; replace HO := Aside0.mk HO2; clear hS hb2 HO2 H2; have x_gu_0 : World.cell? _ ⟨gu, 0, none⟩ = _ := HO.out.cell 1 rfl 0 rfl; have t_gu : gu < _ := HO.out.lt 1 rfl; have ngc_gu := World.new_ne _ _ x_gu_0; dsimp only at ngc_gu; have x_gx_0 : World.cell? _ ⟨gx, 0, none⟩ = _ := HO.out.cell 2 rfl 0 rfl; have t_gx : gx < _ := HO.out.lt 2 rfl; have ngc_gx := World.new_ne _ _ x_gx_0; dsimp only at ngc_gx; have x_gy_0 : World.cell? _ ⟨gy, 0, none⟩ = _ := HO.out.cell 3 rfl 0 rfl; have t_gy : gy < _ := HO.out.lt 3 rfl; have ngc_gy := World.new_ne _ _ x_gy_0; dsimp only at ngc_gy; have x_gb_0 : World.cell? _ ⟨gb, 0, none⟩ = _ := HO.out.cell 4 rfl 0 rfl; have x_gb_1 : World.cell? _ ⟨gb, 1, none⟩ = _ := HO.out.cell 4 rfl 1 rfl; have x_gb_2 : World.cell? _ ⟨gb, 2, none⟩ = _ := HO.out.cell 4 rfl 2 rfl; have t_gb : gb < _ := HO.out.lt 4 rfl; have ngc_gb := World.new_ne _ _ x_gb_0; dsimp only at ngc_gb; have x_gc_0 : World.cell? _ ⟨gc, 0, none⟩ = _ := HO.out.cell 5 rfl 0 rfl; have x_gc_1 : World.cell? _ ⟨gc, 1, none⟩ = _ := HO.out.cell 5 rfl 1 rfl; have x_gc_2 : World.cell? _ ⟨gc, 2, none⟩ = _ := HO.out.cell 5 rfl 2 rfl; have t_gc : gc < _ := HO.out.lt 5 rfl; have ngc_gc := World.new_ne _ _ x_gc_0; dsimp only at ngc_gc; have xb0 := HO.out.cell 0 rfl 0 rfl; have fb0 := HO.out.frozen 0 rfl 0; have lb0 := HO.out.lt 0 rfl; have nb0_gu := HO.out.ne 0 1 rfl rfl (by decide); have nb0_gx := HO.out.ne 0 2 rfl rfl (by decide); have nb0_gy := HO.out.ne 0 3 rfl rfl (by decide); have nb0_gb := HO.out.ne 0 4 rfl rfl (by decide); have nb0_gc := HO.out.ne 0 5 rfl rfl (by decide); have x_a : World.cell? _ (Addr.add ad i) = _ := pw_cell_below HO.out.below hxa.out; have n_a := World.new_ne _ _ x_a))
            all_goals
              go_wp2
              go_meet
              case rel => first | exact ⟨_, V, cV, rfl, rfl, rfl, ⟨HO.out.allocN _ rfl [.slice V v.length cV] 33⟩⟩ | exact ⟨_, V, cV, rfl, rfl, rfl, ⟨HO.out.set 0 rfl 0 (.slice V v.length cV)⟩⟩
          case rest =>
            clear x_a n_a HO
            obtain ⟨gv, V, cV, rfl, rfl, rfl, HO⟩ := hcut
            clear x_gu_0 x_gx_0 x_gy_0 x_gb_0 x_gb_1 x_gb_2 x_gc_0 x_gc_1 x_gc_2 t_gu ngc_gu t_gx ngc_gx t_gy ngc_gy t_gb ngc_gb t_gc ngc_gc
            have x_gv_0 := HO.out.cell 0 rfl 0 rfl
            have x_gu_0 := HO.out.cell 1 rfl 0 rfl
            have x_gx_0 := HO.out.cell 2 rfl 0 rfl
            have x_gy_0 := HO.out.cell 3 rfl 0 rfl
            have x_gb_0 := HO.out.cell 4 rfl 0 rfl
            have x_gb_1 := HO.out.cell 4 rfl 1 rfl
            have x_gb_2 := HO.out.cell 4 rfl 2 rfl
            have x_gc_0 := HO.out.cell 5 rfl 0 rfl
            have x_gc_1 := HO.out.cell 5 rfl 1 rfl
            have x_gc_2 := HO.out.cell 5 rfl 2 rfl
            have hlu : ((u.length : Int) != c0) = false := by rw [hI2.out.1.1]; simp
            have hlv : ((v.length : Int) != c0) = false := by rw [hI2.out.2.1.1]; simp
            go_upto_region 12 with (fail)
            (try simp only [Act.put, List.setIfInBounds_toArray, List.set_cons_succ, List.set_cons_zero])
            go_cut [108] (fun v108 wc => v108 = .bool false ∧ Aside0 (OwnD w wc none [(gv, 33, [.slice V v.length cV]), (gu, 33, [.slice U u.length cU]), (gx, 33, [.slice A x'.length cA]), (gy, 33, [.slice B y'.length cB]), (gb, 29, [.int .i64 c0, .int .i64 (c1 + 1), .int .i64 c2]), (gc, 29, [.int .i64 c0, .int .i64 c1, .int .i64 c2])] [.mat V cV v, .mat U cU u, .mat A cA x', .mat B cB y']))
            case first =>
              cases q1
              · go_wp2
                go_meet
                case rel => exact ⟨rfl, HO⟩
              · obtain rfl : q2 = true := hbb.out rfl
                go_wp2
                go_meet
                case rel => exact ⟨rfl, HO⟩
            case rest =>
              clear HO x_gv_0 x_gu_0 x_gx_0 x_gy_0 x_gb_0 x_gb_1 x_gb_2 x_gc_0 x_gc_1 x_gc_2 hlu hlv
              obtain ⟨rfl, HO⟩ := hcut
              have x_gv_0 := HO.out.cell 0 rfl 0 rfl
              have x_gu_0 := HO.out.cell 1 rfl 0 rfl
              have x_gx_0 := HO.out.cell 2 rfl 0 rfl
              have x_gy_0 := HO.out.cell 3 rfl 0 rfl
              have x_gb_0 := HO.out.cell 4 rfl 0 rfl
              have x_gb_1 := HO.out.cell 4 rfl 1 rfl
              have x_gb_2 := HO.out.cell 4 rfl 2 rfl
              have x_gc_0 := HO.out.cell 5 rfl 0 rfl
              have x_gc_1 := HO.out.cell 5 rfl 1 rfl
              have x_gc_2 := HO.out.cell 5 rfl 2 rfl
              have f_gx_0 := HO.out.frozen 2 rfl 0
              have f_gy_0 := HO.out.frozen 3 rfl 0
              have n1 := HO.out.ne 2 0 rfl rfl (by decide)
              have n2 := HO.out.ne 2 1 rfl rfl (by decide)
              have n3 := HO.out.ne 3 0 rfl rfl (by decide)
              have n4 := HO.out.ne 3 1 rfl rfl (by decide)
              have n5 := HO.out.ne 2 3 rfl rfl (by decide)
              go_wp2
              go_region_held3 (fun w' => w'.cell? ⟨gu, 0, none⟩ = some (.slice U u.length cU) ∧ w'.cell? ⟨gv, 0, none⟩ = some (.slice V v.length cV)) (go_keep) (fail)
              rename_i hHeld
              clear hHeld x_gv_0 x_gu_0 x_gx_0 x_gy_0 x_gb_0 x_gb_1 x_gb_2 x_gc_0 x_gc_1 x_gc_2 f_gx_0 f_gy_0 n1 n2 n3 n4 n5
              have HO2 := Aside0.mk (((HO.out.drew.set 2 rfl 0 (.slice U u.length cU)).set 3 rfl 0 (.slice V v.length cV)).tail.tail.less (M' := [.mat U cU u, .mat V cV v]) (by simp))
              clear HO
              go_wp2
              go_loopg [20] c0.toNat (fun kq v20 w' => ∃ (s : Nat), v20 = .int .i64 s ∧ Aside0 ((s : Int) ≤ c0 ∧ kq = c0.toNat - s) ∧ Aside0 (OwnD w w' none [(gx, 33, [.slice U u.length cU]), (gy, 33, [.slice V v.length cV]), (gb, 29, [.int .i64 c0, .int .i64 (c1 + 1), .int .i64 c2]), (gc, 29, [.int .i64 c0, .int .i64 c1, .int .i64 c2])] [.mat U cU u, .mat V cV v]))
              case atStart => exact ⟨0, rfl, ⟨by omega, rfl⟩, HO2⟩
              case round =>
                clear HO2
                obtain ⟨s, rfl, HX2, HO⟩ := hrel
                have x_gx_0 := HO.out.cell 0 rfl 0 rfl
                have x_gy_0 := HO.out.cell 1 rfl 0 rfl
                have x_gb_0 := HO.out.cell 2 rfl 0 rfl
                have x_gb_1 := HO.out.cell 2 rfl 1 rfl
                have x_gb_2 := HO.out.cell 2 rfl 2 rfl
                have x_gc_0 := HO.out.cell 3 rfl 0 rfl
                have x_gc_1 := HO.out.cell 3 rfl 1 rfl
                have x_gc_2 := HO.out.cell 3 rfl 2 rfl
                by_cases hs : (s : Int) < c0
                · have hsu : s < u.length := by have := hI2.out.1.1; omega
                  have hsv : s < v.length := by have := hI2.out.2.1.1; omega
                  have hs0 : (0 : Int) ≤ s := by omega
                  have hs1 : (s : Int) < u.length := by omega
                  have hs2 : (s : Int) < v.length := by omega
                  have hlu : (((u.getD s []).length : Nat) : Int) = c1 := by rw [getD_at hsu]; have := (hI2.out.1.2 s hsu).length; omega
                  have hlv : (((v.getD s []).length : Nat) : Int) = c1 + 1 := by rw [getD_at hsv]; have := (hI2.out.2.1.2 s hsv).length; omega
                  have hrow := hI2.out.2.2 s hs
                  obtain ⟨adu, Au, cu, hU, hcu, _⟩ := rowAt HO.out 0 rfl hsu
                  obtain ⟨adv, Av, cv, hV, hcv, _⟩ := rowAt HO.out 1 rfl hsv
                  have hb3 : (((u.getD s []).length : Int) != c1) = false := by rw [hlu]; simp
                  have hb4 : (((v.getD s []).length : Int) != c1 + 1) = false := by rw [hlv]; simp
                  generalize hru : u.getD s [] = ru at hcu hb3 hlu hrow
                  generalize hrv : v.getD s [] = rv at hcv hb4 hlv hrow
                  replace hru := Aside0.mk hru
                  replace hrv := Aside0.mk hrv
                  replace hlu := Aside0.mk hlu
                  replace hlv := Aside0.mk hlv
                  replace hrow := Aside0.mk hrow
                  rw [hU] at x_gx_0
                  rw [hV] at x_gy_0
                  replace hU := Aside0.mk hU
                  replace hV := Aside0.mk hV
                  have hsw : IntKind.i64.wrap ((s : Int) + 1) = ((s + 1 : Nat) : Int) := by rw [i64_w]; unfold wrap64; omega
                  go_wp2
                  go_quiet (fail)
                  have HO3 := Aside0.mk (fun n => HO.out.drewN n)
                  clear HO hb3 hb4 hcu hcv x_gx_0 x_gy_0 x_gb_0 x_gb_1 x_gb_2 x_gc_0 x_gc_1 x_gc_2
                  go_wp2
                  replace hsu := Aside0.mk hsu
                  replace hsv := Aside0.mk hsv
                  go_loopg [21] c1.toNat (fun kq v21 w' => ∃ (j : Nat), v21 = .int .i64 j ∧ Aside0 ((j : Int) ≤ c1 ∧ kq = c1.toNat - j) ∧ Aside0 (OwnD w w' none [(gx, 33, [.slice U u.length cU]), (gy, 33, [.slice V v.length cV]), (gb, 29, [.int .i64 c0, .int .i64 (c1 + 1), .int .i64 c2]), (gc, 29, [.int .i64 c0, .int .i64 c1, .int .i64 c2])] [.mat U cU u, .mat V cV v]))
                  case atStart => exact ⟨0, rfl, ⟨by omega, rfl⟩, ⟨HO3.out _⟩⟩
                  case round =>
                    clear HO3
                    obtain ⟨j, rfl, HX3, HO⟩ := hrel
                    have x_gx_0 := HO.out.cell 0 rfl 0 rfl
                    have x_gy_0 := HO.out.cell 1 rfl 0 rfl
                    have x_gb_0 := HO.out.cell 2 rfl 0 rfl
                    have x_gb_1 := HO.out.cell 2 rfl 1 rfl
                    have x_gb_2 := HO.out.cell 2 rfl 2 rfl
                    have x_gc_0 := HO.out.cell 3 rfl 0 rfl
                    have x_gc_1 := HO.out.cell 3 rfl 1 rfl
                    have x_gc_2 := HO.out.cell 3 rfl 2 rfl
                    by_cases hj : (j : Int) < c1
                    · have hju : j < ru.length := by have := hlu.out; omega
                      have hjv : j < rv.length := by have := hlv.out; omega
                      obtain ⟨adu, Au, cu, hU, hcu, hvu⟩ := rowAt HO.out 0 rfl hsu.out
                      obtain ⟨adv, Av, cv, hV, hcv, hvv⟩ := rowAt HO.out 1 rfl hsv.out
                      rw [hru.out] at hcu hvu
                      rw [hrv.out] at hcv hvv
                      have hej : ru[j]? = rv[j]? := by rw [hrow.out, List.getElem?_take, if_pos (by omega)]
                      obtain ⟨au, rfl, hcu2⟩ := hvu j _ (List.getElem?_eq_getElem hju)
                      obtain ⟨av, rfl, hcv2⟩ := hvv j _ (hej.symm.trans (List.getElem?_eq_getElem hju))
                      clear hvu hvv hej
                      generalize ru[j] = e2 at hcu2 hcv2
                      rw [hU] at x_gx_0
                      rw [hV] at x_gy_0
                      replace hU := Aside0.mk hU
                      replace hV := Aside0.mk hV
                      have hj0 : (0 : Int) ≤ j := by omega
                      have hj1 : (j : Int) < ru.length := by omega
                      have hj2 : (j : Int) < rv.length := by omega
                      have hjw : IntKind.i64.wrap ((j : Int) + 1) = ((j + 1 : Nat) : Int) := by rw [i64_w]; unfold wrap64; omega
                      go_wp2
                      go_quiet (fail)
                      go_wp2
                      go_roundg (c1.toNat - (j + 1))
                      case measure => have := HX3.out.2; omega
                      case rel => exact ⟨j + 1, by simp [hjw], ⟨by omega, rfl⟩, ⟨HO.out.drewN _⟩⟩
                    · go_wp2
                      go_roundg (c0.toNat - (s + 1))
                      case measure => have := HX2.out.2; omega
                      case rel => exact ⟨s + 1, by simp [hsw], ⟨by omega, rfl⟩, HO⟩
                · go_wp2
                  go_roundg (l3.length - i)
                  case measure => have := HX.out.2.1; omega
                  case rel => exact ⟨i + 1, u, v, U, cU, V, cV, by simp [hxw], ⟨by omega, by omega, hI2.out⟩, HO⟩
      · go_wp2_with (go_at_call 10; refine (timeboundlaw22_awake.calls 10 true _ haw.out).mono ?_; rintro e wz ⟨rfl, hbl⟩; replace HO := Aside0.mk (HO.out.step hbl); clear hbl)
        go_ret
        exact ⟨rfl, HO.out.below⟩
theorem CacheGrows_all (a0 a1 a2 : Int) (A3 : Option Addr) (k3 : Nat) (l3 : List Int) (w : World) (ha0 : 0 ≤ a0 ∧ a0 ≤ 255) (ha1 : 0 ≤ a1 ∧ a1 ≤ 255) (ha2 : 0 ≤ a2 ∧ a2 ≤ 255) (hr3 : Kd.C (Kd.int .u8) w A3 l3.length l3) (hk3 : l3.length ≤ k3) (hw3 : ∀ x ∈ l3, 0 ≤ x ∧ x ≤ 255) : Calls Try.prog 6 #[.int .u8 a0, .int .u8 a1, .int .u8 a2, .slice A3 l3.length k3] w fun e w' => e = .returned (.bool true) ∧ Below w.heap.size w w' := by
  by_cases h : l3.length ≤ 100
  case neg => exact CacheGrows_off a0 a1 a2 A3 k3 l3 w ha0 ha1 ha2 hr3 hk3 hw3 h
  exact CacheGrows_on a0 a1 a2 A3 k3 l3 w ha0 ha1 ha2 hr3 hk3 hw3 h _ _ _ rfl rfl rfl
theorem CacheGrows_walk (a0 : Int) (a1 : Int) (a2 : Int) (a3 : Option Addr) (len3 cap3 : Nat) (z3 : List Int) (w : World) (w0 : (Lit.int .u8 a0).wf = true) (w1 : (Lit.int .u8 a1).wf = true) (w2 : (Lit.int .u8 a2).wf = true) (w3 : (a3 = none ∧ len3 = 0 ∧ cap3 = 0 ∧ z3 = []) ∨ ∃ x, a3 = some x ∧ len3 ≤ cap3 ∧ cap3 ≤ maxLen ∧ z3.length = cap3 ∧ (∀ i, i < z3.length → w.cell? (x.add i) = some (.int .u8 (z3.getD i 0))) ∧ ∀ n ∈ z3, (Lit.int .u8 n).wf = true) (y3 : len3 * 1 ≤ 140737488351232) :
    Calls Try.prog 6 #[.int .u8 a0, .int .u8 a1, .int .u8 a2, .slice a3 len3 cap3] w fun e w' => e = .returned (.bool true) ∧ Below w.heap.size w w' := by
  obtain ⟨l3, rfl, hr3, hm3, hw3, hc3⟩ := ReadsInt.ofRowC w3
  exact CacheGrows_all a0 a1 a2 _ _ l3 w (byte_ok w0) (byte_ok w1) (byte_ok w2) (Kd.C_of_reads (d := (0 : Int)) (h1 := fun _ => rfl) hr3) hc3 (fun x hx => byte_ok (hw3 x hx))
end Go.Proofs.Ytfdiagegpahcoaa.QCd
