import Derived.Test.YtfdiagegpahcoaaHand
namespace Go.Proofs.Ytfdiagegpahcoaa.QCa
set_option linter.unusedVariables false
set_option linter.unusedSimpArgs false
open Go.RowKit Go.Proofs.YtfdiagegpahcoaaW.PrintWords Go.Proofs.YtfdiagegpahcoaaW.PrintLast Go.Proofs.YtfdiagegpahcoaaW.PrintMore Mat
theorem cache_frontN (N : Nat) (k : Nat) (n : Nat) (line : Int) (A : Option Addr) (c : Nat) (rows : List (List Int)) (r : List Int) (j : Int) (w : World) (base : Nat) (ok : Nat → Prop) (hN : N = rows.length) (h : Kd.S kr 22 w base ok (.slice A N c) rows) (hr : rows[n]? = some r) (hp : 0 < r.length) (hj : slices_Index_int_int.f k r line = some j) (i : Nat) (hit : Bool) (hji : (j = i ∧ i < r.length ∧ hit = true) ∨ (j = -1 ∧ i = r.length - 1 ∧ hit = false)) :
    Calls Try.prog 31 #[.agg #[.slice A N c], .int .i64 n, .int .i64 line] w fun e w' => e = .returned (.bool hit) ∧ Kd.S kr 22 w' base ok (.slice A N c) (rows.set n (line :: (r.take i ++ r.drop (i + 1)))) ∧ Stays w w' base ok := by
  subst hN
  exact cache_front.calls k n line A c rows r j w base ok h hr hp hj i hit hji
def missRun (c0 c2 : Int) : List (List Int) → List Int → Int → Int × Int
  | _, [], n => (n, 0)
  | l, a :: q, n => if 0 ≤ a ∧ a ≤ 1048576 then (if c0 = 0 then missRun c0 c2 l q (n + 1) else missRun c0 c2 (l.set (a / c2 % c0).toNat (frontL (a / c2) (l.getD (a / c2 % c0).toNat []))) q (if (a / c2) ∈ l.getD (a / c2 % c0).toNat [] then n else n + 1)) else (0, 3)
def shapeOk (c0 c1 : Int) (l : List (List Int)) : Prop := (l.length : Int) = c0 ∧ ∀ r ∈ l, (r.length : Int) = c1
theorem missRun_step {c0 c2 : Int} {l : List (List Int)} {q : List Int} {x : Nat} (hx : x < q.length) {n : Int} {r : Int × Int} (h : missRun c0 c2 l (q.drop x) n = r) : missRun c0 c2 l (q[x] :: q.drop (x + 1)) n = r := by
  rw [List.drop_eq_getElem_cons hx] at h; exact h
theorem shapeOk.set {c0 c1 : Int} {l : List (List Int)} (h : shapeOk c0 c1 l) {n : Nat} {line : Int} (hn : n < l.length) (h1 : 1 ≤ c1) : shapeOk c0 c1 (l.set n (frontL line (l.getD n []))) := by
  refine ⟨by rw [List.length_set]; exact h.1, fun r hr => ?_⟩
  rcases List.mem_or_eq_of_mem_set hr with hr | rfl
  · exact h.2 r hr
  · have hg : l.getD n [] = l[n] := by simp [List.getD_eq_getElem?_getD, hn]
    have := h.2 _ (List.getElem_mem hn)
    rw [hg]
    unfold frontL
    rw [List.length_cons]
    split
    · next hm => rw [List.length_erase_of_mem hm]; have := List.length_pos_of_mem hm; omega
    · rw [List.length_dropLast]; omega
set_option maxHeartbeats 2000000 in
theorem cache_MissesBad.calls (k : Nat) (c0 c1 c2 : Int) (A : Option Addr) (c : Nat) (l : List (List Int)) (A2 : Option Addr) (cc : Nat) (q : List Int) (w : World) (hr : Kd.C kr w A l.length l) (hc : l.length ≤ c) (hsm : l.length ≤ 1000) (hrows : ∀ r ∈ l, r.length ≤ 1000) (hra : Kd.C (Kd.int .i64) w A2 q.length q) (hca : q.length ≤ cc) (E : Int) (hE : cache_checked.f k c0 c1 c2 l = some E) (hne : E ≠ 0) :
    Calls Try.prog 14 #[.agg #[.int .i64 c0, .int .i64 c1, .int .i64 c2], .agg #[.slice A l.length c], .slice A2 q.length cc] w fun e w' => e = .returned (.tuple #[.int .i64 0, .int .i64 E]) ∧ Below w.heap.size w w' := by
  replace hr := Aside0.mk hr
  replace hra := Aside0.mk hra
  replace hE := Aside0.mk hE
  have hEn : (E == 0) = false := by simpa using hne
  have HO := Aside0.mk (Own.start w)
  go_enter Try.func14, Try.ntmps14
  go_wp2_with (first
    | ((with_reducible refine gate_dst (N := 3) rfl ?_); refine box_event ?hg (N := 3) ?hd (cs := #[.int .i64 c0, .int .i64 c1, .int .i64 c2]) (t := 29) ?hr ?_; (case hd => rfl); (case hg => rfl); (case hr => first | (go_simp; done) | (go_simp; rfl)); intro gc hg w1 hb hbl; replace HO := Aside0.mk (HO.out.new hg hb hbl); clear hg hb hbl)
    | ((with_reducible refine gate_dst (N := 4) rfl ?_); refine box_event ?hg (N := 4) ?hd (cs := #[.slice A l.length c]) (t := 33) ?hr ?_; (case hd => rfl); (case hg => rfl); (case hr => first | (go_simp; done) | (go_simp; rfl)); intro gl hg w2 hb hbl; replace HO := Aside0.mk (HO.out.new hg hb hbl); clear hg hb hbl; have hxl := HO.out.cell 0 rfl 0 rfl; have hxc := HO.out.cell 1 rfl 0 rfl; have hxc1 := HO.out.cell 1 rfl 1 rfl; have hxc2 := HO.out.cell 1 rfl 2 rfl)
    | (go_at_call 28; refine (cache_checked.calls k _ _ _ _ _ l E _ (Kd.C_below hr.out HO.out.below) hc hE.out).mono ?_; rintro e w7 ⟨rfl, hbl⟩; replace HO := Aside0.mk (HO.out.step hbl); clear hbl hxl hxc hxc1 hxc2))
  go_ret2
  exact ⟨rfl, HO.out.below⟩
set_option maxHeartbeats 4000000 in
theorem cache_MissesGood.calls (k : Nat) (c0 c1 c2 : Int) (A : Option Addr) (c : Nat) (l : List (List Int)) (A2 : Option Addr) (cc : Nat) (q : List Int) (w : World) (hr : Kd.C kr w A l.length l) (hc : l.length ≤ c) (hsm : l.length ≤ 1000) (hrows : ∀ r ∈ l, r.length ≤ 1000) (hra : Kd.C (Kd.int .i64) w A2 q.length q) (hca : q.length ≤ cc) (hE : cache_checked.f k c0 c1 c2 l = some 0) (hconf : confOk c0 c1 c2) (hshape : shapeOk c0 c1 l) (hc0 : c0 ≠ 0) (r1 r2 : Int) (hres : missRun c0 c2 l q 0 = (r1, r2)) :
    Calls Try.prog 14 #[.agg #[.int .i64 c0, .int .i64 c1, .int .i64 c2], .agg #[.slice A l.length c], .slice A2 q.length cc] w fun e w' => e = .returned (.tuple #[.int .i64 r1, .int .i64 r2]) ∧ Below w.heap.size w w' := by
  have hla := hra.2.1
  replace hr := Aside0.mk hr
  replace hra := Aside0.mk hra
  replace hE := Aside0.mk hE
  have hcb : (c0 == 0) = false := by simpa using hc0
  replace hc0 := Aside0.mk hc0
  replace hres := Aside0.mk hres
  replace hconf := Aside0.mk hconf
  replace hshape := Aside0.mk hshape
  replace hrows := Aside0.mk hrows
  have HO := Aside0.mk (Own.start w)
  go_enter Try.func14, Try.ntmps14
  go_wp2_with (first
    | ((with_reducible refine gate_dst (N := 3) rfl ?_); refine box_event ?hg (N := 3) ?hd (cs := #[.int .i64 c0, .int .i64 c1, .int .i64 c2]) (t := 29) ?hr ?_; (case hd => rfl); (case hg => rfl); (case hr => first | (go_simp; done) | (go_simp; rfl)); intro gc hg w1 hb hbl; replace HO := Aside0.mk (HO.out.new hg hb hbl); clear hg hb hbl)
    | ((with_reducible refine gate_dst (N := 4) rfl ?_); refine box_event ?hg (N := 4) ?hd (cs := #[.slice A l.length c]) (t := 33) ?hr ?_; (case hd => rfl); (case hg => rfl); (case hr => first | (go_simp; done) | (go_simp; rfl)); intro gl hg w2 hb hbl; replace HO := Aside0.mk (HO.out.new hg hb hbl); clear hg hb hbl; have hxl := HO.out.cell 0 rfl 0 rfl; have hxc := HO.out.cell 1 rfl 0 rfl; have hxc1 := HO.out.cell 1 rfl 1 rfl; have hxc2 := HO.out.cell 1 rfl 2 rfl)
    | (go_at_call 28; refine (cache_checked.calls k _ _ _ _ _ l 0 _ (Kd.C_below hr.out HO.out.below) hc hE.out).mono ?_; rintro e w3 ⟨rfl, hbl⟩; replace HO := Aside0.mk (HO.out.step hbl); clear hbl hxl hxc hxc1 hxc2; have hxl := HO.out.cell 0 rfl 0 rfl)
    | (go_at_call 29; refine (cache_copied.calls _ _ l _ (Kd.C_below hr.out HO.out.below) hc hsm hrows.out).mono ?_; rintro e w4 ⟨v, rfl, hS, hbl⟩; obtain ⟨A1, c1', rfl⟩ := Kd.S_slice hS; have hlo := HO.out.below.size; replace HO := Aside0.mk (HO.out.step hbl); clear hbl; replace hS := Aside0.mk hS; replace hlo := Aside0.mk hlo; clear hxl)
    | ((with_reducible refine gate_dst (N := 9) rfl ?_); refine box_event ?hg (N := 9) ?hd (cs := #[.slice none 0 0]) (t := 33) ?hr ?_; (case hd => rfl); (case hg => rfl); (case hr => first | (go_simp; done) | (go_simp; rfl)); intro gn hg w5 hb hbl; replace HO := Aside0.mk (HO.out.new hg hb hbl); have hxn := HO.out.cell 0 rfl 0 rfl; have hfn := HO.out.frozen 0 rfl 0; replace hS := Aside0.mk (Kd.S_below hS.out hbl); clear hg hb hbl)
    | ((with_reducible refine gate_store (t := 33) (p := 9) rfl ?_); refine store_event (t := 33) (p := 9) (v := .tmp 21) (w1 := w5.setCell ⟨gn, 0, none⟩ (.slice A1 l.length c1')) ?hg ?ho ?hn ?hr ?_; (case ho => rfl); (case hg => rfl); (case hn => rfl); (case hr => first | (go_simp; done) | (go_simp; rfl)); intro w6 hw; replace hS := Aside0.mk (Kd.S_set hS.out (HO.out.at_ 0 rfl) (by decide) 0 (.slice A1 l.length c1')); replace HO := Aside0.mk (HO.out.set 0 rfl 0 (.slice A1 l.length c1')); rw [← hw] at HO hS; clear hw hxn hfn))
  replace hS := Aside0.mk (Kd.S_types (Kd.S_types (Kd.S_types hS.out (HO.out.at_ 0 rfl) (by decide)) (HO.out.at_ 1 rfl) (by decide)) (HO.out.at_ 2 rfl) (by decide))
  go_loopg [10, 24] (q.length + 1) (fun kq v10 v24 w' => ∃ (x n : Nat) (l' : List (List Int)), v10 = .int .i64 n ∧ v24 = .int .i64 x ∧ Aside0 (x ≤ q.length ∧ n ≤ x ∧ kq = q.length + 1 - x ∧ shapeOk c0 c1 l' ∧ missRun c0 c2 l' (q.drop x) n = (r1, r2)) ∧ Aside0 (Own w w' [(gn, 33, [.slice A1 l.length c1']), (gl, 33, [.slice A l.length c]), (gc, 29, [.int .i64 c0, .int .i64 c1, .int .i64 c2])]) ∧ Aside0 (Kd.S kr 22 w' w3.heap.size (fun k => ((True ∧ k ≠ gn) ∧ k ≠ gl) ∧ k ≠ gc) (.slice A1 l.length c1') l'))
  case atStart => exact ⟨0, 0, l, rfl, rfl, ⟨Nat.zero_le _, Nat.le_refl _, rfl, hshape.out, by simpa using hres.out⟩, HO, hS⟩
  case round =>
    clear HO hS
    obtain ⟨x, n, l', rfl, rfl, HX, HO, hS⟩ := hrel
    by_cases hx : x < q.length
    · have hx0 : (0 : Int) ≤ x := by omega
      have hx1 : (x : Int) < q.length := by omega
      obtain ⟨ad, rfl, hxa⟩ := Kd.at_int hra.out x hx0 hx1
      rw [rd_nat hx, Int.toNat_natCast] at hxa
      have hm := Aside0.mk (missRun_step hx HX.out.2.2.2.2)
      generalize q[x] = a at hxa hm
      have hxw : IntKind.i64.wrap ((x : Int) + 1) = ((x + 1 : Nat) : Int) := by rw [i64_w]; unfold wrap64; omega
      have hnx := HX.out.2.1
      have hnw : IntKind.i64.wrap ((n : Int) + 1) = ((n + 1 : Nat) : Int) := by rw [i64_w]; unfold wrap64; omega
      have hxa2 := pw_cell_below HO.out.below hxa
      have hbt := between_eq a 0 1048576
      by_cases h3 : 0 ≤ a ∧ a ≤ 1048576
      case neg =>
        rw [decide_eq_false h3] at hbt
        replace hbt := Aside0.mk hbt
        have hm2 := hm.out
        simp only [missRun] at hm2
        rw [if_neg h3] at hm2
        obtain ⟨rfl, rfl⟩ : (0 : Int) = r1 ∧ (3 : Int) = r2 := by simpa using hm2
        clear hm2 h3
        go_wp2_with (go_at_call 30; refine (cache_between.calls _ _ _ false _ hbt.out).mono ?_; rintro e w' ⟨rfl, ⟨nd, rfl⟩⟩; replace HO := Aside0.mk (HO.out.drewN nd))
        go_ret2
        exact ⟨rfl, HO.out.below⟩
      rw [decide_eq_true h3] at hbt
      replace hbt := Aside0.mk hbt
      have hln := Aside0.mk (Line_ok hconf.out h3.1 h3.2)
      have hl0 : 0 ≤ a / c2 := Int.ediv_nonneg h3.1 (by have := hconf.out.2.2; omega)
      have hst := Aside0.mk (Set_ok hconf.out hl0 hc0.out)
      have hn0 : 0 ≤ a / c2 % c0 := Int.emod_nonneg _ hc0.out
      have hn1 : a / c2 % c0 < c0 := Int.emod_lt_of_pos _ (by have := hconf.out.1; have := hc0.out; omega)
      have hm2 := hm.out
      simp only [missRun] at hm2
      rw [if_pos h3, if_neg hc0.out] at hm2
      clear hm h3
      generalize hline : a / c2 = line at hm2 hln hst hl0 hn0 hn1
      clear hline
      obtain ⟨m, hn⟩ : ∃ m : Nat, line % c0 = m := ⟨(line % c0).toNat, by omega⟩
      rw [hn] at hm2 hst hn1
      clear hn hn0
      rw [Int.toNat_natCast] at hm2
      have hlen := HX.out.2.2.2.1.1
      have hml : m < l'.length := by omega
      have hgd : l'.getD m [] = l'[m] := by simp [List.getD_eq_getElem?_getD, hml]
      have hrl := HX.out.2.2.2.1.2 _ (List.getElem_mem hml)
      have hsh := Aside0.mk (HX.out.2.2.2.1.set (line := line) hml (by have := hconf.out.2.1; omega))
      rw [hgd] at hsh hm2
      have hp : 0 < l'[m].length := by have := hconf.out.2.1; omega
      have hix := index_ev (l := l'[m]) (a := line) (by have := hconf.out.2.1; omega) (k := 4000) (by have := hconf.out.2.1; omega)
      have hrm := List.getElem?_eq_getElem hml
      obtain ⟨hit, i, hji, hfr, hhit⟩ : ∃ (hit : Bool) (i : Nat), ((idx l'[m] line = i ∧ i < l'[m].length ∧ hit = true) ∨ (idx l'[m] line = -1 ∧ i = l'[m].length - 1 ∧ hit = false)) ∧ line :: (l'[m].take i ++ l'[m].drop (i + 1)) = frontL line l'[m] ∧ (hit = decide (line ∈ l'[m])) := by
        by_cases h5 : line ∈ l'[m]
        · exact ⟨true, _, .inl ⟨by rw [idx, if_pos h5], List.idxOf_lt_length_iff.2 h5, rfl⟩, front_in h5, by simp [h5]⟩
        · exact ⟨false, _, .inr ⟨by rw [idx, if_neg h5], rfl, rfl⟩, front_out h5, by simp [h5]⟩
      have hm3 : missRun c0 c2 (l'.set m (frontL line l'[m])) (q.drop (x + 1)) (if hit = true then (n : Int) else n + 1) = (r1, r2) := by rw [hhit]; simpa using hm2
      clear hm2 hhit hgd
      generalize l'[m] = row at *
      replace hm3 := Aside0.mk hm3
      replace hix := Aside0.mk hix
      replace hji := Aside0.mk hji
      replace hfr := Aside0.mk hfr
      replace hrm := Aside0.mk hrm
      replace hp := Aside0.mk hp
      have hll : Aside0 (l.length = l'.length) := ⟨by have := hshape.out.1; have := HX.out.2.2.2.1.1; omega⟩
      clear hrl hlen hml hn1 hnx
      have hxc := HO.out.cell 2 rfl 0 rfl
      have hxc1 := HO.out.cell 2 rfl 1 rfl
      have hxc2 := HO.out.cell 2 rfl 2 rfl
      have hxn := HO.out.cell 0 rfl 0 rfl
      go_wp2_with (first
        | (go_at_call 30; refine (cache_between.calls _ _ _ true _ hbt.out).mono ?_; rintro e w' ⟨rfl, ⟨nd, rfl⟩⟩; replace HO := Aside0.mk (HO.out.drewN nd); replace hS := Aside0.mk (Kd.S_drewN hS.out nd))
        | (go_at_call 20; refine (cache_Line.calls _ _ _ _ _ _ hln.out).mono ?_; rintro e w8 ⟨rfl, hbl⟩; replace HO := Aside0.mk (HO.out.step hbl); replace hS := Aside0.mk (Kd.S_below hS.out hbl); clear hbl hxc hxc1 hxc2 hxn hxa2; have hxc := HO.out.cell 2 rfl 0 rfl; have hxc1 := HO.out.cell 2 rfl 1 rfl; have hxc2 := HO.out.cell 2 rfl 2 rfl; have hxn := HO.out.cell 0 rfl 0 rfl))
      go_region_held3 (fun w' => w'.cell? ⟨gn, 0, none⟩ = some (.slice A1 l.length c1') ∧ w'.cell? ⟨gc, 0, none⟩ = some (.int .i64 c0) ∧ w'.cell? ⟨gc, 1, none⟩ = some (.int .i64 c1) ∧ w'.cell? ⟨gc, 2, none⟩ = some (.int .i64 c2)) (go_keep) (first
        | (go_at_call 21; refine (cache_Set.calls _ _ _ _ _ _ hst.out).mono ?_; rintro e w9 ⟨rfl, hbl⟩; replace HO := Aside0.mk (HO.out.drew.step hbl); replace hS := Aside0.mk (Kd.S_below (Kd.S_drew hS.out) hbl); have hx1 := HO.out.cell 0 rfl 0 rfl; have hx2 := HO.out.cell 2 rfl 0 rfl; have hx3 := HO.out.cell 2 rfl 1 rfl; have hx4 := HO.out.cell 2 rfl 2 rfl)
        | (go_at_call 31; refine (cache_frontN l.length 4000 m line A1 c1' l' row _ _ _ _ hll.out hS.out hrm.out hp.out hix.out i hit hji.out).mono ?_; rintro e w10 ⟨rfl, hS2, hst⟩; replace hS := Aside0.mk hS2; replace HO := Aside0.mk (HO.out.stays hst hlo.out (by intro k hk; simpa [and_assoc] using hk)); have hx1 := HO.out.cell 0 rfl 0 rfl; have hx2 := HO.out.cell 2 rfl 0 rfl; have hx3 := HO.out.cell 2 rfl 1 rfl; have hx4 := HO.out.cell 2 rfl 2 rfl))
      rename_i hHeld
      clear hx1 hx2 hx3 hx4 hHeld hS2 hst hxc hxc1 hxc2 hxn
      have hm4 := hm3.out
      rw [hfr.out] at hS
      cases hit
      all_goals
        replace hm4 := Aside0.mk (by simpa using hm4 : _ = (r1, r2))
        go_wp2
        go_roundg (q.length - x)
        case measure => have := HX.out.2.2.1; omega
        case rel => first | exact ⟨x + 1, n, _, rfl, by simp [hxw], ⟨by omega, by have := HX.out.2.1; omega, by omega, hsh.out, by simpa using hm4.out⟩, HO, hS⟩ | exact ⟨x + 1, n + 1, _, by simp [hnw], by simp [hxw], ⟨by omega, by have := HX.out.2.1; omega, by omega, hsh.out, by simpa using hm4.out⟩, HO, hS⟩
    · have hx1 : ¬ (x : Int) < q.length := by omega
      obtain ⟨rfl, rfl⟩ : (n : Int) = r1 ∧ (0 : Int) = r2 := by
        have := HX.out.2.2.2.2
        rw [List.drop_eq_nil_of_le (by omega)] at this
        simpa [missRun] using this
      go_wp2
      go_ret2
      exact ⟨rfl, HO.out.below⟩
set_option maxHeartbeats 4000000 in
theorem cache_MissesNone.calls (k : Nat) (c0 c1 c2 : Int) (A : Option Addr) (c : Nat) (l : List (List Int)) (A2 : Option Addr) (cc : Nat) (q : List Int) (w : World) (hr : Kd.C kr w A l.length l) (hc : l.length ≤ c) (hsm : l.length ≤ 1000) (hrows : ∀ r ∈ l, r.length ≤ 1000) (hra : Kd.C (Kd.int .i64) w A2 q.length q) (hca : q.length ≤ cc) (hE : cache_checked.f k c0 c1 c2 l = some 0) (hconf : confOk c0 c1 c2) (hshape : shapeOk c0 c1 l) (hc0 : c0 = 0) (r1 r2 : Int) (hres : missRun c0 c2 l q 0 = (r1, r2)) :
    Calls Try.prog 14 #[.agg #[.int .i64 c0, .int .i64 c1, .int .i64 c2], .agg #[.slice A l.length c], .slice A2 q.length cc] w fun e w' => e = .returned (.tuple #[.int .i64 r1, .int .i64 r2]) ∧ Below w.heap.size w w' := by
  have hla := hra.2.1
  replace hr := Aside0.mk hr
  replace hra := Aside0.mk hra
  replace hE := Aside0.mk hE
  have hcb : (c0 == 0) = true := by simpa using hc0
  replace hc0 := Aside0.mk hc0
  replace hres := Aside0.mk hres
  replace hconf := Aside0.mk hconf
  replace hshape := Aside0.mk hshape
  replace hrows := Aside0.mk hrows
  have HO := Aside0.mk (Own.start w)
  go_enter Try.func14, Try.ntmps14
  go_wp2_with (first
    | ((with_reducible refine gate_dst (N := 3) rfl ?_); refine box_event ?hg (N := 3) ?hd (cs := #[.int .i64 c0, .int .i64 c1, .int .i64 c2]) (t := 29) ?hr ?_; (case hd => rfl); (case hg => rfl); (case hr => first | (go_simp; done) | (go_simp; rfl)); intro gc hg w1 hb hbl; replace HO := Aside0.mk (HO.out.new hg hb hbl); clear hg hb hbl)
    | ((with_reducible refine gate_dst (N := 4) rfl ?_); refine box_event ?hg (N := 4) ?hd (cs := #[.slice A l.length c]) (t := 33) ?hr ?_; (case hd => rfl); (case hg => rfl); (case hr => first | (go_simp; done) | (go_simp; rfl)); intro gl hg w2 hb hbl; replace HO := Aside0.mk (HO.out.new hg hb hbl); clear hg hb hbl; have hxl := HO.out.cell 0 rfl 0 rfl; have hxc := HO.out.cell 1 rfl 0 rfl; have hxc1 := HO.out.cell 1 rfl 1 rfl; have hxc2 := HO.out.cell 1 rfl 2 rfl)
    | (go_at_call 28; refine (cache_checked.calls k _ _ _ _ _ l 0 _ (Kd.C_below hr.out HO.out.below) hc hE.out).mono ?_; rintro e w3 ⟨rfl, hbl⟩; replace HO := Aside0.mk (HO.out.step hbl); clear hbl hxl hxc hxc1 hxc2; have hxl := HO.out.cell 0 rfl 0 rfl)
    | (go_at_call 29; refine (cache_copied.calls _ _ l _ (Kd.C_below hr.out HO.out.below) hc hsm hrows.out).mono ?_; rintro e w4 ⟨v, rfl, hS, hbl⟩; obtain ⟨A1, c1', rfl⟩ := Kd.S_slice hS; have hlo := HO.out.below.size; replace HO := Aside0.mk (HO.out.step hbl); clear hbl; replace hS := Aside0.mk hS; replace hlo := Aside0.mk hlo; clear hxl)
    | ((with_reducible refine gate_dst (N := 9) rfl ?_); refine box_event ?hg (N := 9) ?hd (cs := #[.slice none 0 0]) (t := 33) ?hr ?_; (case hd => rfl); (case hg => rfl); (case hr => first | (go_simp; done) | (go_simp; rfl)); intro gn hg w5 hb hbl; replace HO := Aside0.mk (HO.out.new hg hb hbl); have hxn := HO.out.cell 0 rfl 0 rfl; have hfn := HO.out.frozen 0 rfl 0; replace hS := Aside0.mk (Kd.S_below hS.out hbl); clear hg hb hbl)
    | ((with_reducible refine gate_store (t := 33) (p := 9) rfl ?_); refine store_event (t := 33) (p := 9) (v := .tmp 21) (w1 := w5.setCell ⟨gn, 0, none⟩ (.slice A1 l.length c1')) ?hg ?ho ?hn ?hr ?_; (case ho => rfl); (case hg => rfl); (case hn => rfl); (case hr => first | (go_simp; done) | (go_simp; rfl)); intro w6 hw; replace hS := Aside0.mk (Kd.S_set hS.out (HO.out.at_ 0 rfl) (by decide) 0 (.slice A1 l.length c1')); replace HO := Aside0.mk (HO.out.set 0 rfl 0 (.slice A1 l.length c1')); rw [← hw] at HO hS; clear hw hxn hfn))
  replace hS := Aside0.mk (Kd.S_types (Kd.S_types (Kd.S_types hS.out (HO.out.at_ 0 rfl) (by decide)) (HO.out.at_ 1 rfl) (by decide)) (HO.out.at_ 2 rfl) (by decide))
  go_loopg [10, 24] (q.length + 1) (fun kq v10 v24 w' => ∃ (x n : Nat) (l' : List (List Int)), v10 = .int .i64 n ∧ v24 = .int .i64 x ∧ Aside0 (x ≤ q.length ∧ n ≤ x ∧ kq = q.length + 1 - x ∧ shapeOk c0 c1 l' ∧ missRun c0 c2 l' (q.drop x) n = (r1, r2)) ∧ Aside0 (Own w w' [(gn, 33, [.slice A1 l.length c1']), (gl, 33, [.slice A l.length c]), (gc, 29, [.int .i64 c0, .int .i64 c1, .int .i64 c2])]) ∧ Aside0 (Kd.S kr 22 w' w3.heap.size (fun k => ((True ∧ k ≠ gn) ∧ k ≠ gl) ∧ k ≠ gc) (.slice A1 l.length c1') l'))
  case atStart => exact ⟨0, 0, l, rfl, rfl, ⟨Nat.zero_le _, Nat.le_refl _, rfl, hshape.out, by simpa using hres.out⟩, HO, hS⟩
  case round =>
    clear HO hS
    obtain ⟨x, n, l', rfl, rfl, HX, HO, hS⟩ := hrel
    by_cases hx : x < q.length
    · have hx0 : (0 : Int) ≤ x := by omega
      have hx1 : (x : Int) < q.length := by omega
      obtain ⟨ad, rfl, hxa⟩ := Kd.at_int hra.out x hx0 hx1
      rw [rd_nat hx, Int.toNat_natCast] at hxa
      have hm := Aside0.mk (missRun_step hx HX.out.2.2.2.2)
      generalize q[x] = a at hxa hm
      have hxw : IntKind.i64.wrap ((x : Int) + 1) = ((x + 1 : Nat) : Int) := by rw [i64_w]; unfold wrap64; omega
      have hnx := HX.out.2.1
      have hnw : IntKind.i64.wrap ((n : Int) + 1) = ((n + 1 : Nat) : Int) := by rw [i64_w]; unfold wrap64; omega
      have hxa2 := pw_cell_below HO.out.below hxa
      have hbt := between_eq a 0 1048576
      by_cases h3 : 0 ≤ a ∧ a ≤ 1048576
      case neg =>
        rw [decide_eq_false h3] at hbt
        replace hbt := Aside0.mk hbt
        have hm2 := hm.out
        simp only [missRun] at hm2
        rw [if_neg h3] at hm2
        obtain ⟨rfl, rfl⟩ : (0 : Int) = r1 ∧ (3 : Int) = r2 := by simpa using hm2
        clear hm2 h3
        go_wp2_with (go_at_call 30; refine (cache_between.calls _ _ _ false _ hbt.out).mono ?_; rintro e w' ⟨rfl, ⟨nd, rfl⟩⟩; replace HO := Aside0.mk (HO.out.drewN nd))
        go_ret2
        exact ⟨rfl, HO.out.below⟩
      rw [decide_eq_true h3] at hbt
      replace hbt := Aside0.mk hbt
      have hln := Aside0.mk (Line_ok hconf.out h3.1 h3.2)
      have hm2 := hm.out
      simp only [missRun] at hm2
      rw [if_pos h3, if_pos hc0.out] at hm2
      clear hm h3 hnx
      generalize a / c2 = line at hln
      have hm3 : missRun c0 c2 l' (q.drop (x + 1)) ((n + 1 : Nat) : Int) = (r1, r2) := hm2
      clear hm2
      replace hm3 := Aside0.mk hm3
      have hxc := HO.out.cell 2 rfl 0 rfl
      have hxc1 := HO.out.cell 2 rfl 1 rfl
      have hxc2 := HO.out.cell 2 rfl 2 rfl
      have hxn := HO.out.cell 0 rfl 0 rfl
      go_wp2_with (first
        | (go_at_call 30; refine (cache_between.calls _ _ _ true _ hbt.out).mono ?_; rintro e w' ⟨rfl, ⟨nd, rfl⟩⟩; replace HO := Aside0.mk (HO.out.drewN nd); replace hS := Aside0.mk (Kd.S_drewN hS.out nd))
        | (go_at_call 20; refine (cache_Line.calls _ _ _ _ _ _ hln.out).mono ?_; rintro e w8 ⟨rfl, hbl⟩; replace HO := Aside0.mk (HO.out.step hbl); replace hS := Aside0.mk (Kd.S_below hS.out hbl); clear hbl hxc hxc1 hxc2 hxn hxa2; have hxc := HO.out.cell 2 rfl 0 rfl; have hxc1 := HO.out.cell 2 rfl 1 rfl; have hxc2 := HO.out.cell 2 rfl 2 rfl; have hxn := HO.out.cell 0 rfl 0 rfl))
      go_quiet (fail)
      rename_i nq
      replace HO := Aside0.mk (HO.out.drewN nq)
      replace hS := Aside0.mk (Kd.S_drewN hS.out nq)
      clear hxc hxc1 hxc2 hxn
      go_wp2
      go_roundg (q.length - x)
      case measure => have := HX.out.2.2.1; omega
      case rel => exact ⟨x + 1, n + 1, _, by simp [hnw], by simp [hxw], ⟨by omega, by have := HX.out.2.1; omega, by omega, HX.out.2.2.2.1, hm3.out⟩, HO, hS⟩
    · have hx1 : ¬ (x : Int) < q.length := by omega
      obtain ⟨rfl, rfl⟩ : (n : Int) = r1 ∧ (0 : Int) = r2 := by
        have := HX.out.2.2.2.2
        rw [List.drop_eq_nil_of_le (by omega)] at this
        simpa [missRun] using this
      go_wp2
      go_ret2
      exact ⟨rfl, HO.out.below⟩
def missesP (c0 c1 c2 : Int) (l : List (List Int)) (q : List Int) : Int × Int := if confOk c0 c1 c2 then if matOk c0 c1 l then missRun c0 c2 l q 0 else (0, 10) else (0, 3)
def cache_Misses.f (a0_0 : Int) (a0_1 : Int) (a0_2 : Int) (l1_0 : List (List Int)) (l2 : List Int) : Option (Int × Int) := if smallM l1_0 then some (missesP a0_0 a0_1 a0_2 l1_0 l2) else none
theorem cache_Misses.calls (a0_0 : Int) (a0_1 : Int) (a0_2 : Int) (A1_0 : Option Addr) (c1_0 : Nat) (l1_0 : List (List Int)) (A2 : Option Addr) (c2 : Nat) (l2 : List Int) (r1 : Int) (r2 : Int) (w : World) (hr1_0 : Kd.C (Kd.slice 3 (Kd.int .i64)) w A1_0 l1_0.length l1_0) (hc1_0 : l1_0.length ≤ c1_0) (hr2 : Kd.C (Kd.int .i64) w A2 l2.length l2) (hc2 : l2.length ≤ c2) (h : cache_Misses.f a0_0 a0_1 a0_2 l1_0 l2 = some (r1, r2)) :
    Calls Try.prog 14 #[.agg #[.int .i64 a0_0, .int .i64 a0_1, .int .i64 a0_2], .agg #[.slice A1_0 l1_0.length c1_0], .slice A2 l2.length c2] w fun e w' => e = .returned (.tuple #[.int .i64 r1, .int .i64 r2]) ∧ Below w.heap.size w w' := by
  unfold cache_Misses.f at h
  by_cases hs : smallM l1_0
  case neg => rw [if_neg hs] at h; cases h
  rw [if_pos hs] at h
  have hE := checked_ev (c0 := a0_0) (c1 := a0_1) (c2 := a0_2) hs.1 hs.2 (Nat.le_refl 4000)
  unfold missesP at h
  by_cases h1 : confOk a0_0 a0_1 a0_2
  case neg =>
    rw [if_neg h1] at h hE
    obtain ⟨rfl, rfl⟩ : (0 : Int) = r1 ∧ (3 : Int) = r2 := by simpa using h
    exact cache_MissesBad.calls 4000 _ _ _ _ _ _ _ _ _ w hr1_0 hc1_0 hs.1 hs.2 hr2 hc2 _ hE (by decide)
  by_cases h2 : matOk a0_0 a0_1 l1_0
  case neg =>
    rw [if_pos h1, if_neg h2] at h hE
    obtain ⟨rfl, rfl⟩ : (0 : Int) = r1 ∧ (10 : Int) = r2 := by simpa using h
    exact cache_MissesBad.calls 4000 _ _ _ _ _ _ _ _ _ w hr1_0 hc1_0 hs.1 hs.2 hr2 hc2 _ hE (by decide)
  rw [if_pos h1, if_pos h2] at h hE
  have hsh : shapeOk a0_0 a0_1 l1_0 := ⟨h2.1, fun r hr => by obtain ⟨i, hi, rfl⟩ := List.getElem_of_mem hr; exact (h2.2 i hi).1⟩
  by_cases h4 : a0_0 = 0
  · exact cache_MissesNone.calls 4000 _ _ _ _ _ _ _ _ _ w hr1_0 hc1_0 hs.1 hs.2 hr2 hc2 hE h1 hsh h4 _ _ (Option.some.inj h)
  · exact cache_MissesGood.calls 4000 _ _ _ _ _ _ _ _ _ w hr1_0 hc1_0 hs.1 hs.2 hr2 hc2 hE h1 hsh h4 _ _ (Option.some.inj h)
end Go.Proofs.Ytfdiagegpahcoaa.QCa
