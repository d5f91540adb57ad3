import Derived.Test.YtfdiagegpahcoaaGd
namespace Go.Proofs.Ytfdiagegpahcoaa.QCa
set_option linter.unusedVariables false
set_option linter.unusedSimpArgs false
open Go.RowKit Go.Proofs.YtfdiagegpahcoaaW.PrintWords Go.Proofs.YtfdiagegpahcoaaW.PrintLast Go.Proofs.YtfdiagegpahcoaaW.PrintMore Mat
def useL (line : Int) (r : List Int) : List Int := line :: (r.take (scan line r 0 (r.length - 1, false)).1 ++ r.drop ((scan line r 0 (r.length - 1, false)).1 + 1))
def useP (c0 c2 : Int) (l : List (List Int)) (t : Int) : List (List Int) := l.set (t / c2 % c0).toNat (useL (t / c2) (l.getD (t / c2 % c0).toNat []))
def linesRun (L : List Int) (c0 c2 : Int) : Nat → Int → List (List Int) → Option (List (List Int) × Int)
  | 0, p, l => some (l, p)
  | i + 1, p, l => if c0 = 0 then some (l, p) else (timeboundmake_Deck_Next.f L p 120).bind fun q => linesRun L c0 c2 i q.2 (useP c0 c2 l q.1)
theorem scan_lt {line : Int} : ∀ (r : List Int) (x : Nat) (s : Nat × Bool) (n : Nat), s.1 < n → x + r.length ≤ n → (scan line r x s).1 < n := by
  intro r
  induction r with
  | nil => intro x s n h _; exact h
  | cons y r ih =>
    intro x s n h hx
    rw [List.length_cons] at hx
    simp only [scan]
    refine ih _ _ n ?_ (by omega)
    split
    · show x < n; omega
    · exact h
theorem useL_length {line : Int} {r : List Int} (h : 0 < r.length) : (useL line r).length = r.length := by
  have := scan_lt (line := line) r 0 (r.length - 1, false) r.length (by show r.length - 1 < r.length; omega) (by omega)
  unfold useL
  simp only [List.length_cons, List.length_append, List.length_take, List.length_drop]
  omega
theorem shapeOk.use {c0 c1 : Int} {l : List (List Int)} (h : shapeOk c0 c1 l) {n : Nat} {line : Int} (hn : n < l.length) (h1 : 1 ≤ c1) : shapeOk c0 c1 (l.set n (useL line (l.getD n []))) := by
  refine ⟨by rw [List.length_set]; exact h.1, fun r hr => ?_⟩
  rcases List.mem_or_eq_of_mem_set hr with hr | rfl
  · exact h.2 r hr
  · have hg : l.getD n [] = l[n] := by simp [List.getD_eq_getElem?_getD, hn]
    have := h.2 _ (List.getElem_mem hn)
    rw [hg, useL_length (by omega)]; exact this
theorem mod_range {a n t : Int} (hn : 0 < n) (hn2 : n ≤ 1000000) (h : timeboundmake_Mod.f a n = some t) : 0 ≤ t ∧ t < n := by
  unfold timeboundmake_Mod.f at h
  rw [if_neg (by omega)] at h
  have h1 := Int.tmod_lt_of_pos a hn
  have h2 : -n < Int.tmod a n := Int.lt_tmod_of_pos a hn
  rw [w64 (by omega) (by omega)] at h
  obtain rfl := Option.some.inj h
  exact ⟨Int.tmod_nonneg _ (by omega), Int.tmod_lt_of_pos _ hn⟩
theorem next_range {L : List Int} {p n t q : Int} (hn : 0 < n) (hn2 : n ≤ 1000000) (h : timeboundmake_Deck_Next.f L p n = some (t, q)) : 0 ≤ t ∧ t < n := by
  unfold timeboundmake_Deck_Next.f at h
  split at h
  · obtain ⟨rfl, _⟩ : (0 : Int) = t ∧ p = q := by simpa using h
    omega
  · split at h
    · obtain ⟨rfl, _⟩ : (0 : Int) = t ∧ p = q := by simpa using h
      omega
    · split at h
      case isFalse => cases h
      split at h
      case isFalse => cases h
      obtain ⟨m, hm, h2⟩ := Option.bind_eq_some_iff.1 h
      obtain ⟨rfl, _⟩ : m = t ∧ _ := by simpa using h2
      exact mod_range hn hn2 hm
def timeboundmake_lines.f (s0_0 : List Int) (s0_1 : Int) (a1_0 : Int) (a1_1 : Int) (a1_2 : Int) : Option ((List (List Int)) × Int) := if confOk a1_0 a1_1 a1_2 then ((timeboundmake_Deck_Next.f s0_0 s0_1 12).bind fun p => linesRun s0_0 a1_0 a1_2 p.1.toNat p.2 (emptyP a1_0 a1_1)) else none
theorem useN (N : Nat) (c0 c1 c2 address : Int) (A : Option Addr) (c : Nat) (rows : List (List Int)) (w : World) (base : Nat) (ok : Nat → Prop) (hN : N = rows.length) (h : Kd.S kr 22 w base ok (.slice A N c) rows) (hc0 : (0 : Int) < c0) (hc2 : (0 : Int) < c2) (ha0 : 0 ≤ address) (ha1 : address ≤ 1000000) (hr : (address / c2 % c0).toNat < rows.length) (hp : 0 < (rows.getD (address / c2 % c0).toNat []).length) :
    Calls Try.prog 43 #[.agg #[.int .i64 c0, .int .i64 c1, .int .i64 c2], .agg #[.slice A N c], .int .i64 address] w fun e w' => (∃ hit : Bool, e = .returned (.bool hit)) ∧ Kd.S kr 22 w' base ok (.slice A N c) (useP c0 c2 rows address) ∧ Stays w w' base ok := by
  subst hN
  have hl0 : 0 ≤ address / c2 := Int.ediv_nonneg ha0 (by omega)
  have hl1 : address / c2 ≤ address := Int.ediv_le_self c2 ha0
  have hn0 : 0 ≤ address / c2 % c0 := Int.emod_nonneg _ (by omega)
  have hg : rows.getD (address / c2 % c0).toNat [] = rows[(address / c2 % c0).toNat] := by simp [List.getD_eq_getElem?_getD, hr]
  rw [hg] at hp
  have := timeboundref22_Use.calls c0 c1 c2 address A c rows rows[(address / c2 % c0).toNat] w base ok h (address / c2 % c0).toNat (address / c2).toNat hc0 hc2 (by
    rw [Int.tdiv_eq_ediv_of_nonneg ha0, i64_w, w64 (by omega) (by omega)]; omega) (by
    rw [show (((address / c2).toNat : Nat) : Int) = address / c2 by omega, Int.tmod_eq_emod_of_nonneg hl0]; omega) (List.getElem?_eq_getElem hr) hp
    (scan (((address / c2).toNat : Nat) : Int) rows[(address / c2 % c0).toNat] 0 (rows[(address / c2 % c0).toNat].length - 1, false)).1 (scan (((address / c2).toNat : Nat) : Int) rows[(address / c2 % c0).toNat] 0 (rows[(address / c2 % c0).toNat].length - 1, false)).2 rfl (scan_lt _ _ _ _ (by show _ - 1 < _; omega) (by omega))
  refine this.mono ?_
  rintro e w' ⟨rfl, h1, h2⟩
  refine ⟨⟨_, rfl⟩, ?_, h2⟩
  rw [show (((address / c2).toNat : Nat) : Int) = address / c2 by omega] at h1
  unfold useP useL
  rw [hg]
  exact h1
set_option maxHeartbeats 4000000 in
theorem timeboundmake_lines.calls (g : Nat) (s0_0 : List Int) (s0_1 : Int) (a1_0 : Int) (a1_1 : Int) (a1_2 : Int) (r1 : List (List Int)) (r2 : Int) (w0 w : World) (hI : IsS54 w0 w g s0_0 s0_1) (hB : Below w0.heap.size w0 w) (h : timeboundmake_lines.f s0_0 s0_1 a1_0 a1_1 a1_2 = some (r1, r2)) :
    Calls Try.prog 27 #[.pointer (some ⟨g, 0, none⟩), .agg #[.int .i64 a1_0, .int .i64 a1_1, .int .i64 a1_2]] w fun e w' => ∃ v0_ : Value, e = .returned (.agg #[v0_]) ∧ Kd.S (Kd.slice 3 (Kd.int .i64)) 22 w' w.heap.size (fun _ => True) v0_ r1 ∧ IsS54 w0 w' g s0_0 r2 ∧ Below w0.heap.size w0 w' ∧ KeepBut w w' g none := by
  unfold timeboundmake_lines.f at h
  by_cases hconf : confOk a1_0 a1_1 a1_2
  case neg => rw [if_neg hconf] at h; cases h
  rw [if_pos hconf] at h
  obtain ⟨⟨n, p⟩, hn, h⟩ := Option.bind_eq_some_iff.1 h
  have hnr := next_range (by decide) (by decide) hn
  have hE := Aside0.mk (rempty_ev hconf (Nat.le_refl 100))
  have HO := Aside0.mk (OwnG.start hB hI)
  replace hI := Aside0.mk hI
  replace hn := Aside0.mk hn
  replace hconf := Aside0.mk hconf
  obtain ⟨i, rfl⟩ : ∃ i : Nat, n = i := ⟨n.toNat, by omega⟩
  have hi12 : i < 12 := by omega
  replace h := Aside0.mk (show linesRun s0_0 a1_0 a1_2 i p (emptyP a1_0 a1_1) = some (r1, r2) by simpa using h)
  clear hnr hB
  go_enter Try.func27, Try.ntmps27
  go_wp2_with (first
    | ((with_reducible refine gate_dst (N := 3) rfl ?_); refine box_event ?hg (N := 3) ?hd (cs := #[.int .i64 a1_0, .int .i64 a1_1, .int .i64 a1_2]) (t := 29) ?hr ?_; (case hd => rfl); (case hg => rfl); (case hr => first | (go_simp; done) | (go_simp; rfl)); intro gc hg w1 hb hbl; replace HO := Aside0.mk (HO.out.new hg hb hbl); replace hI := Aside0.mk (hI.out.below hbl); clear hg hb hbl)
    | ((with_reducible refine gate_dst (N := 4) rfl ?_); refine box_event ?hg (N := 4) ?hd (cs := #[.slice none 0 0]) (t := 33) ?hr ?_; (case hd => rfl); (case hg => rfl); (case hr => first | (go_simp; done) | (go_simp; rfl)); intro gr hg w2 hb hbl; replace HO := Aside0.mk (HO.out.new hg hb hbl); replace hI := Aside0.mk (hI.out.below hbl); clear hg hb hbl; have hxc := HO.out.cell 1 rfl 0 rfl; have hxc1 := HO.out.cell 1 rfl 1 rfl; have hxc2 := HO.out.cell 1 rfl 2 rfl)
    | (go_at_call 39; refine (timeboundref22_Empty.calls 100 _ _ _ _ _ hE.out).mono ?_; rintro e w3 ⟨v, rfl, hS, hbl⟩; obtain ⟨A1, c1', rfl⟩ := Kd.S_slice hS; have hlo := HO.out.keep.1; replace HO := Aside0.mk (HO.out.step hbl); replace hI := Aside0.mk (hI.out.below hbl); clear hbl; replace hS := Aside0.mk hS; replace hlo := Aside0.mk hlo; clear hxc hxc1 hxc2)
    | ((with_reducible refine gate_dst (N := 5) rfl ?_); refine box_event ?hg (N := 5) ?hd (cs := #[.slice none 0 0]) (t := 33) ?hr ?_; (case hd => rfl); (case hg => rfl); (case hr => first | (go_simp; done) | (go_simp; rfl)); intro gn hg w5 hb hbl; replace HO := Aside0.mk (HO.out.new hg hb hbl); replace hI := Aside0.mk (hI.out.below hbl); have hxn := HO.out.cell 0 rfl 0 rfl; have hfn := HO.out.frozen 0 rfl 0; replace hS := Aside0.mk (Kd.S_below hS.out hbl); clear hg hb hbl)
    | ((with_reducible refine gate_store (t := 33) (p := 5) rfl ?_); refine store_event (t := 33) (p := 5) (v := .tmp 8) (w1 := w5.setCell ⟨gn, 0, none⟩ (.slice A1 (emptyP a1_0 a1_1).length c1')) ?hg ?ho ?hn ?hr ?_; (case ho => rfl); (case hg => rfl); (case hn => rfl); (case hr => first | (go_simp; done) | (go_simp; rfl)); intro w6 hw; replace hS := Aside0.mk (Kd.S_set hS.out (HO.out.at_ 0 rfl) (by decide) 0 (.slice A1 (emptyP a1_0 a1_1).length c1')); replace hI := Aside0.mk (deck_set hI.out HO.out 0 rfl 0 (.slice A1 (emptyP a1_0 a1_1).length c1')); replace HO := Aside0.mk (HO.out.set 0 rfl 0 (.slice A1 (emptyP a1_0 a1_1).length c1')); rw [← hw] at HO hS hI; clear hw hxn hfn; replace hS := Aside0.mk (Kd.S_mono (Kd.S_bound (Kd.S_types (Kd.S_types (Kd.S_types hS.out (HO.out.at_ 0 rfl) (by decide)) (HO.out.at_ 1 rfl) (by decide)) (HO.out.at_ 2 rfl) (by decide))) (ok' := fun k => (((True ∧ k ≠ gn) ∧ k ≠ gr) ∧ k ≠ gc) ∧ k ≠ g) (fun k hk => ⟨hk.1, by have := hk.2.1; have := hlo.out; have := HO.out.lt; omega⟩)))
    | (go_at_call 15; refine (timeboundmake_Deck_Next.calls _ _ _ _ _ _ _ _ hI.out HO.out.below hn.out).mono ?_; rintro e w7 ⟨rfl, hI2, hB2, hK2⟩; replace HO := Aside0.mk (HO.out.next hK2 hB2); replace hI := Aside0.mk hI2; replace hS := Aside0.mk (Kd.S_keep hS.out hK2 (fun k hk => hk.2)); clear hI2 hB2 hK2))
  have hsh : shapeOk a1_0 a1_1 (emptyP a1_0 a1_1) := ⟨by have := hconf.out.1; simp [emptyP]; omega, fun r hr => by
    obtain ⟨_, rfl⟩ := List.mem_replicate.1 hr
    have := hconf.out.2.1; simp; omega⟩
  replace hsh := Aside0.mk hsh
  generalize hN : (emptyP a1_0 a1_1).length = N at HO hS ⊢
  replace hN : Aside0 ((N : Int) = a1_0) := ⟨by rw [← hN]; exact hsh.out.1⟩
  go_loopg [6] (i + 1) (fun kq v6 w' => ∃ (i' : Nat) (p' : Int) (l' : List (List Int)), v6 = .int .i64 i' ∧ Aside0 (i' < 12 ∧ kq = i' + 1 ∧ shapeOk a1_0 a1_1 l' ∧ linesRun s0_0 a1_0 a1_2 i' p' l' = some (r1, r2)) ∧ Aside0 (OwnG w0 w w' g [(gn, 33, [.slice A1 N c1']), (gr, 33, [.slice none 0 0]), (gc, 29, [.int .i64 a1_0, .int .i64 a1_1, .int .i64 a1_2])]) ∧ Aside0 (IsS54 w0 w' g s0_0 p') ∧ Aside0 (Kd.S kr 22 w' w2.heap.size (fun k => (((True ∧ k ≠ gn) ∧ k ≠ gr) ∧ k ≠ gc) ∧ k ≠ g) (.slice A1 N c1') l'))
  case atStart => exact ⟨i, p, _, rfl, ⟨hi12, rfl, hsh.out, h.out⟩, HO, hI, hS⟩
  case round =>
    clear HO hI hS h hsh
    obtain ⟨i', p', l', rfl, HX, HO, hI, hS⟩ := hrel
    cases i' with
    | zero =>
      obtain ⟨rfl, rfl⟩ : l' = r1 ∧ p' = r2 := by simpa [linesRun] using HX.out.2.2.2
      have hxc := HO.out.cell 2 rfl 0 rfl
      have hxc1 := HO.out.cell 2 rfl 1 rfl
      have hxc2 := HO.out.cell 2 rfl 2 rfl
      have hxn := HO.out.cell 0 rfl 0 rfl
      have hxr := HO.out.cell 1 rfl 0 rfl
      have hfr := HO.out.frozen 1 rfl 0
      have HO9 := Aside0.mk (HO.out.set 1 rfl 0 (.slice A1 N c1'))
      have hI9 := Aside0.mk (deck_set hI.out HO.out 1 rfl 0 (.slice A1 N c1'))
      have hS9 := Aside0.mk (Kd.S_mono (ok' := fun _ => True) (Kd.S_lower (Kd.S_set hS.out (HO.out.at_ 1 rfl) (by decide) 0 (.slice A1 N c1')) hlo.out) (fun _ _ => trivial))
      have hxr9 := HO9.out.cell 1 rfl 0 rfl
      go_wp2
      exact bodyPost_ret (v := .agg #[.slice A1 N c1']) (by simp [results, Try.results27, go_sem, hxr9]) rfl ⟨_, rfl, hS9.out, hI9.out, HO9.out.below, HO9.out.keep⟩
    | succ j =>
      have hj : j < 11 := by have := HX.out.1; omega
      have hj0 : (0 : Int) < ((j + 1 : Nat) : Int) := by omega
      have hw : IntKind.i64.wrap (((j + 1 : Nat) : Int) - 1) = j := by rw [i64_w]; unfold wrap64; omega
      have hxc := HO.out.cell 2 rfl 0 rfl
      have hxc1 := HO.out.cell 2 rfl 1 rfl
      have hxc2 := HO.out.cell 2 rfl 2 rfl
      have hxn := HO.out.cell 0 rfl 0 rfl
      by_cases hz : a1_0 = 0
      · have hz2 : ¬ (0 : Int) < a1_0 := by omega
        have h := HX.out.2.2.2
        rw [linesRun, if_pos hz] at h
        obtain ⟨rfl, rfl⟩ : l' = r1 ∧ p' = r2 := by simpa using h
        clear h hw
        have hxr := HO.out.cell 1 rfl 0 rfl
        have hfr := HO.out.frozen 1 rfl 0
        have HO9 := Aside0.mk (HO.out.set 1 rfl 0 (.slice A1 N c1'))
        have hI9 := Aside0.mk (deck_set hI.out HO.out 1 rfl 0 (.slice A1 N c1'))
        have hS9 := Aside0.mk (Kd.S_mono (ok' := fun _ => True) (Kd.S_lower (Kd.S_set hS.out (HO.out.at_ 1 rfl) (by decide) 0 (.slice A1 N c1')) hlo.out) (fun _ _ => trivial))
        have hxr9 := HO9.out.cell 1 rfl 0 rfl
        go_wp2
        exact bodyPost_ret (v := .agg #[.slice A1 N c1']) (by simp [results, Try.results27, go_sem, hxr9]) rfl ⟨_, rfl, hS9.out, hI9.out, HO9.out.below, HO9.out.keep⟩
      · have hz2 : (0 : Int) < a1_0 := by have := hconf.out.1; omega
        have h := HX.out.2.2.2
        rw [linesRun, if_neg hz] at h
        obtain ⟨⟨t, p2⟩, hn, h⟩ := Option.bind_eq_some_iff.1 h
        have htr := next_range (by decide) (by decide) hn
        replace hn := Aside0.mk hn
        replace h := Aside0.mk h
        have hc2 : 0 < a1_2 := by have := hconf.out.2.2; omega
        have hm : (t / a1_2 % a1_0).toNat < l'.length := by
          have h1 := Int.emod_lt_of_pos (t / a1_2) hz2
          have h2 := Int.emod_nonneg (t / a1_2) hz
          have h3 := HX.out.2.2.1.1
          omega
        have hsh := Aside0.mk (HX.out.2.2.1.use (line := t / a1_2) hm (by have := hconf.out.2.1; omega))
        have hp : Aside0 (0 < (l'.getD (t / a1_2 % a1_0).toNat []).length) := ⟨by
          have h3 := HX.out.2.2.1.2 _ (List.getElem_mem hm)
          have h4 := hconf.out.2.1
          simp only [List.getD_eq_getElem?_getD, List.getElem?_eq_getElem hm, Option.getD_some]
          omega⟩
        have hNl : Aside0 (N = l'.length) := ⟨by have := HX.out.2.2.1.1; have := hN.out; omega⟩
        replace hm := Aside0.mk hm
        replace htr := Aside0.mk htr
        go_wp2
        go_region_held3 (fun w' => w'.cell? ⟨gn, 0, none⟩ = some (.slice A1 N c1') ∧ w'.cell? ⟨gc, 0, none⟩ = some (.int .i64 a1_0) ∧ w'.cell? ⟨gc, 1, none⟩ = some (.int .i64 a1_1) ∧ w'.cell? ⟨gc, 2, none⟩ = some (.int .i64 a1_2)) (go_keep) (first
          | (go_at_call 15; refine (timeboundmake_Deck_Next.calls _ _ _ _ _ _ _ _ hI.out.drew HO.out.drew.below hn.out).mono ?_; rintro e w7 ⟨rfl, hI2, hB2, hK2⟩; replace HO := Aside0.mk (HO.out.drew.next hK2 hB2); replace hI := Aside0.mk hI2; replace hS := Aside0.mk (Kd.S_keep (Kd.S_drew hS.out) hK2 (fun k hk => hk.2)); have hx1 := HO.out.cell 0 rfl 0 rfl; have hx2 := HO.out.cell 2 rfl 0 rfl; have hx3 := HO.out.cell 2 rfl 1 rfl; have hx4 := HO.out.cell 2 rfl 2 rfl)
          | (go_at_call 43; refine (useN N a1_0 a1_1 a1_2 t A1 c1' l' _ _ _ hNl.out hS.out hz2 hc2 htr.out.1 (by have := htr.out.2; omega) hm.out hp.out).mono ?_; rintro e w8 ⟨⟨hit, rfl⟩, hS2, hst⟩; replace hI := Aside0.mk (deck_stays hI.out HO.out hst hlo.out); replace HO := Aside0.mk (HO.out.stays hst hlo.out (by intro k hk; simpa [and_assoc] using hk.1)); replace hS := Aside0.mk hS2; have hx1 := HO.out.cell 0 rfl 0 rfl; have hx2 := HO.out.cell 2 rfl 0 rfl; have hx3 := HO.out.cell 2 rfl 1 rfl; have hx4 := HO.out.cell 2 rfl 2 rfl))
        rename_i hHeld
        clear hHeld hx1 hx2 hx3 hx4 hst hS2 hxc hxc1 hxc2 hxn
        go_wp2
        go_roundg (j + 1)
        case measure => have := HX.out.2.1; omega
        case rel => exact ⟨j, p2, _, by simp [hw], ⟨by omega, rfl, hsh.out, h.out⟩, HO, hI, hS⟩
end Go.Proofs.Ytfdiagegpahcoaa.QCa
