import Derived.Test.YtfdiagegpahcoaaCopied
import Derived.Test.YtfdiagegpahcoaaFront
namespace Go.Proofs.Ytfdiagegpahcoaa.QCa
set_option linter.unusedVariables false
set_option linter.unusedSimpArgs false
open Go.RowKit Go.Proofs.YtfdiagegpahcoaaW.PrintWords Go.Proofs.YtfdiagegpahcoaaW.PrintLast Go.Proofs.YtfdiagegpahcoaaW.PrintMore Mat
set_option maxHeartbeats 2000000 in
theorem cache_TouchBad.calls (k : Nat) (c0 c1 c2 : Int) (A : Option Addr) (c : Nat) (l : List (List Int)) (a E : Int) (w : World) (hr : Kd.C kr w A l.length l) (hc : l.length ≤ c) (hsm : l.length ≤ 1000) (hrows : ∀ r ∈ l, r.length ≤ 1000) (hE : cache_checked.f k c0 c1 c2 l = some E) (hne : E ≠ 0) :
    Calls Try.prog 16 #[.agg #[.int .i64 c0, .int .i64 c1, .int .i64 c2], .agg #[.slice A l.length c], .int .i64 a] w fun e w' => ∃ v, e = .returned (.tuple #[.agg #[v], .bool false, .int .i64 E]) ∧ Kd.S kr 22 w' w.heap.size (fun _ => True) v l ∧ Below w.heap.size w w' := by
  replace hr := Aside0.mk hr
  replace hE := Aside0.mk hE
  have hEn : (E == 0) = false := by simpa using hne
  have HO := Aside0.mk (Own.start w)
  go_enter Try.func16, Try.ntmps16
  go_wp2_with (first
    | ((with_reducible refine gate_dst (N := 3) rfl ?_); refine box_event ?hg (N := 3) ?hd (cs := #[.int .i64 c0, .int .i64 c1, .int .i64 c2]) (t := 29) ?hr ?_; (case hd => rfl); (case hg => rfl); (case hr => first | (go_simp; done) | (go_simp; rfl)); intro gc hg w1 hb hbl; replace HO := Aside0.mk (HO.out.new hg hb hbl); clear hg hb hbl)
    | ((with_reducible refine gate_dst (N := 4) rfl ?_); refine box_event ?hg (N := 4) ?hd (cs := #[.slice A l.length c]) (t := 33) ?hr ?_; (case hd => rfl); (case hg => rfl); (case hr => first | (go_simp; done) | (go_simp; rfl)); intro gl hg w2 hb hbl; replace HO := Aside0.mk (HO.out.new hg hb hbl); clear hg hb hbl)
    | ((with_reducible refine gate_dst (N := 6) rfl ?_); refine box_event ?hg (N := 6) ?hd (cs := #[.slice none 0 0]) (t := 33) ?hr ?_; (case hd => rfl); (case hg => rfl); (case hr => first | (go_simp; done) | (go_simp; rfl)); intro gr hg w3 hb hbl; replace HO := Aside0.mk (HO.out.new hg hb hbl); clear hg hb hbl; have hx3 := HO.out.cell 1 rfl 0 rfl)
    | (go_at_call 29; refine (cache_copied.calls _ _ l _ (Kd.C_below hr.out HO.out.below) hc hsm hrows).mono ?_; rintro e w4 ⟨v, rfl, hS, hbl⟩; obtain ⟨A1, c1', rfl⟩ := Kd.S_slice hS; have hlo := HO.out.below.size; replace HO := Aside0.mk (HO.out.step hbl); clear hbl; replace hS := Aside0.mk hS; replace hlo := Aside0.mk hlo; clear hx3)
    | ((with_reducible refine gate_dst (N := 9) rfl ?_); refine box_event ?hg (N := 9) ?hd (cs := #[.slice none 0 0]) (t := 33) ?hr ?_; (case hd => rfl); (case hg => rfl); (case hr => first | (go_simp; done) | (go_simp; rfl)); intro go hg w5 hb hbl; replace HO := Aside0.mk (HO.out.new hg hb hbl); replace hS := Aside0.mk (Kd.S_below hS.out hbl); clear hg hb hbl; have hx5 := HO.out.cell 0 rfl 0 rfl; have hf5 := HO.out.frozen 0 rfl 0)
    | ((with_reducible refine gate_store (t := 33) (p := 9) rfl ?_); refine store_event (t := 33) (p := 9) (v := .tmp 13) (w1 := w5.setCell ⟨go, 0, none⟩ (.slice A1 l.length c1')) ?hg ?ho ?hn ?hr ?_; (case ho => rfl); (case hg => rfl); (case hn => rfl); (case hr => first | (go_simp; done) | (go_simp; rfl)); intro w6 hw; replace hS := Aside0.mk (Kd.S_set hS.out (HO.out.at_ 0 rfl) (by decide) 0 (.slice A1 l.length c1')); replace HO := Aside0.mk (HO.out.set 0 rfl 0 (.slice A1 l.length c1')); rw [← hw] at HO hS; clear hw hx5 hf5; have hxl6 := HO.out.cell 2 rfl 0 rfl; have hxc6 := HO.out.cell 3 rfl 0 rfl; have hxc7 := HO.out.cell 3 rfl 1 rfl; have hxc8 := HO.out.cell 3 rfl 2 rfl)
    | (go_at_call 28; refine (cache_checked.calls k _ _ _ _ _ l E _ (Kd.C_below hr.out HO.out.below) hc hE.out).mono ?_; rintro e w7 ⟨rfl, hbl⟩; replace HO := Aside0.mk (HO.out.step hbl); replace hS := Aside0.mk (Kd.S_below hS.out hbl); clear hbl hxl6 hxc6 hxc7 hxc8; have hxo := HO.out.cell 0 rfl 0 rfl; have hxr := HO.out.cell 1 rfl 0 rfl; have hfr := HO.out.frozen 1 rfl 0))
  have HO9 := HO.out.set 1 rfl 0 (.slice A1 l.length c1')
  have hxr9 := HO9.cell 1 rfl 0 rfl
  exact bodyPost_ret (v := .tuple #[.agg #[.slice A1 l.length c1'], .bool false, .int .i64 E]) (by simp [results, Try.results16, go_sem, hxr9]) rfl ⟨_, rfl, Kd.S_lower (Kd.S_set hS.out (HO.out.at_ 1 rfl) (by decide) 0 _) hlo.out, HO9.below⟩
set_option maxHeartbeats 2000000 in
theorem cache_TouchFar.calls (k : Nat) (c0 c1 c2 : Int) (A : Option Addr) (c : Nat) (l : List (List Int)) (a : Int) (w : World) (hr : Kd.C kr w A l.length l) (hc : l.length ≤ c) (hsm : l.length ≤ 1000) (hrows : ∀ r ∈ l, r.length ≤ 1000) (hE : cache_checked.f k c0 c1 c2 l = some 0) (ha : cache_between.f a 0 1048576 = some false) :
    Calls Try.prog 16 #[.agg #[.int .i64 c0, .int .i64 c1, .int .i64 c2], .agg #[.slice A l.length c], .int .i64 a] w fun e w' => ∃ v, e = .returned (.tuple #[.agg #[v], .bool false, .int .i64 3]) ∧ Kd.S kr 22 w' w.heap.size (fun _ => True) v l ∧ Below w.heap.size w w' := by
  replace hr := Aside0.mk hr
  replace hE := Aside0.mk hE
  replace ha := Aside0.mk ha
  have HO := Aside0.mk (Own.start w)
  go_enter Try.func16, Try.ntmps16
  go_wp2_with (first
    | ((with_reducible refine gate_dst (N := 3) rfl ?_); refine box_event ?hg (N := 3) ?hd (cs := #[.int .i64 c0, .int .i64 c1, .int .i64 c2]) (t := 29) ?hr ?_; (case hd => rfl); (case hg => rfl); (case hr => first | (go_simp; done) | (go_simp; rfl)); intro gc hg w1 hb hbl; replace HO := Aside0.mk (HO.out.new hg hb hbl); clear hg hb hbl)
    | ((with_reducible refine gate_dst (N := 4) rfl ?_); refine box_event ?hg (N := 4) ?hd (cs := #[.slice A l.length c]) (t := 33) ?hr ?_; (case hd => rfl); (case hg => rfl); (case hr => first | (go_simp; done) | (go_simp; rfl)); intro gl hg w2 hb hbl; replace HO := Aside0.mk (HO.out.new hg hb hbl); clear hg hb hbl)
    | ((with_reducible refine gate_dst (N := 6) rfl ?_); refine box_event ?hg (N := 6) ?hd (cs := #[.slice none 0 0]) (t := 33) ?hr ?_; (case hd => rfl); (case hg => rfl); (case hr => first | (go_simp; done) | (go_simp; rfl)); intro gr hg w3 hb hbl; replace HO := Aside0.mk (HO.out.new hg hb hbl); clear hg hb hbl; have hx3 := HO.out.cell 1 rfl 0 rfl)
    | (go_at_call 29; refine (cache_copied.calls _ _ l _ (Kd.C_below hr.out HO.out.below) hc hsm hrows).mono ?_; rintro e w4 ⟨v, rfl, hS, hbl⟩; obtain ⟨A1, c1', rfl⟩ := Kd.S_slice hS; have hlo := HO.out.below.size; replace HO := Aside0.mk (HO.out.step hbl); clear hbl; replace hS := Aside0.mk hS; replace hlo := Aside0.mk hlo; clear hx3)
    | ((with_reducible refine gate_dst (N := 9) rfl ?_); refine box_event ?hg (N := 9) ?hd (cs := #[.slice none 0 0]) (t := 33) ?hr ?_; (case hd => rfl); (case hg => rfl); (case hr => first | (go_simp; done) | (go_simp; rfl)); intro go hg w5 hb hbl; replace HO := Aside0.mk (HO.out.new hg hb hbl); replace hS := Aside0.mk (Kd.S_below hS.out hbl); clear hg hb hbl; have hx5 := HO.out.cell 0 rfl 0 rfl; have hf5 := HO.out.frozen 0 rfl 0)
    | ((with_reducible refine gate_store (t := 33) (p := 9) rfl ?_); refine store_event (t := 33) (p := 9) (v := .tmp 13) (w1 := w5.setCell ⟨go, 0, none⟩ (.slice A1 l.length c1')) ?hg ?ho ?hn ?hr ?_; (case ho => rfl); (case hg => rfl); (case hn => rfl); (case hr => first | (go_simp; done) | (go_simp; rfl)); intro w6 hw; replace hS := Aside0.mk (Kd.S_set hS.out (HO.out.at_ 0 rfl) (by decide) 0 (.slice A1 l.length c1')); replace HO := Aside0.mk (HO.out.set 0 rfl 0 (.slice A1 l.length c1')); rw [← hw] at HO hS; clear hw hx5 hf5; have hxl6 := HO.out.cell 2 rfl 0 rfl; have hxc6 := HO.out.cell 3 rfl 0 rfl; have hxc7 := HO.out.cell 3 rfl 1 rfl; have hxc8 := HO.out.cell 3 rfl 2 rfl)
    | (go_at_call 28; refine (cache_checked.calls k _ _ _ _ _ l 0 _ (Kd.C_below hr.out HO.out.below) hc hE.out).mono ?_; rintro e w7 ⟨rfl, hbl⟩; replace HO := Aside0.mk (HO.out.step hbl); replace hS := Aside0.mk (Kd.S_below hS.out hbl); clear hbl hxl6 hxc6 hxc7 hxc8; have hxo := HO.out.cell 0 rfl 0 rfl; have hxr := HO.out.cell 1 rfl 0 rfl; have hfr := HO.out.frozen 1 rfl 0)
    | (go_at_call 30; refine (cache_between.calls _ _ _ false _ ha.out).mono ?_; rintro e w' ⟨rfl, ⟨nd, rfl⟩⟩; replace HO := Aside0.mk (HO.out.drewN nd); replace hS := Aside0.mk (Kd.S_drewN hS.out nd)))
  have HO9 := HO.out.set 1 rfl 0 (.slice A1 l.length c1')
  have hxr9 := HO9.cell 1 rfl 0 rfl
  exact bodyPost_ret (v := .tuple #[.agg #[.slice A1 l.length c1'], .bool false, .int .i64 3]) (by simp [results, Try.results16, go_sem, hxr9]) rfl ⟨_, rfl, Kd.S_lower (Kd.S_set hS.out (HO.out.at_ 1 rfl) (by decide) 0 _) hlo.out, HO9.below⟩
set_option maxHeartbeats 2000000 in
theorem cache_TouchNone.calls (k : Nat) (c0 c1 c2 : Int) (A : Option Addr) (c : Nat) (l : List (List Int)) (a : Int) (w : World) (hr : Kd.C kr w A l.length l) (hc : l.length ≤ c) (hsm : l.length ≤ 1000) (hrows : ∀ r ∈ l, r.length ≤ 1000) (hE : cache_checked.f k c0 c1 c2 l = some 0) (ha : cache_between.f a 0 1048576 = some true) (hc0 : c0 = 0) :
    Calls Try.prog 16 #[.agg #[.int .i64 c0, .int .i64 c1, .int .i64 c2], .agg #[.slice A l.length c], .int .i64 a] w fun e w' => ∃ v, e = .returned (.tuple #[.agg #[v], .bool false, .int .i64 0]) ∧ Kd.S kr 22 w' w.heap.size (fun _ => True) v l ∧ Below w.heap.size w w' := by
  replace hr := Aside0.mk hr
  replace hE := Aside0.mk hE
  replace ha := Aside0.mk ha
  have hcb : (c0 == 0) = true := by simpa using hc0
  replace hc0 := Aside0.mk hc0
  have HO := Aside0.mk (Own.start w)
  go_enter Try.func16, Try.ntmps16
  go_wp2_with (first
    | ((with_reducible refine gate_dst (N := 3) rfl ?_); refine box_event ?hg (N := 3) ?hd (cs := #[.int .i64 c0, .int .i64 c1, .int .i64 c2]) (t := 29) ?hr ?_; (case hd => rfl); (case hg => rfl); (case hr => first | (go_simp; done) | (go_simp; rfl)); intro gc hg w1 hb hbl; replace HO := Aside0.mk (HO.out.new hg hb hbl); clear hg hb hbl)
    | ((with_reducible refine gate_dst (N := 4) rfl ?_); refine box_event ?hg (N := 4) ?hd (cs := #[.slice A l.length c]) (t := 33) ?hr ?_; (case hd => rfl); (case hg => rfl); (case hr => first | (go_simp; done) | (go_simp; rfl)); intro gl hg w2 hb hbl; replace HO := Aside0.mk (HO.out.new hg hb hbl); clear hg hb hbl)
    | ((with_reducible refine gate_dst (N := 6) rfl ?_); refine box_event ?hg (N := 6) ?hd (cs := #[.slice none 0 0]) (t := 33) ?hr ?_; (case hd => rfl); (case hg => rfl); (case hr => first | (go_simp; done) | (go_simp; rfl)); intro gr hg w3 hb hbl; replace HO := Aside0.mk (HO.out.new hg hb hbl); clear hg hb hbl; have hx3 := HO.out.cell 1 rfl 0 rfl)
    | (go_at_call 29; refine (cache_copied.calls _ _ l _ (Kd.C_below hr.out HO.out.below) hc hsm hrows).mono ?_; rintro e w4 ⟨v, rfl, hS, hbl⟩; obtain ⟨A1, c1', rfl⟩ := Kd.S_slice hS; have hlo := HO.out.below.size; replace HO := Aside0.mk (HO.out.step hbl); clear hbl; replace hS := Aside0.mk hS; replace hlo := Aside0.mk hlo; clear hx3)
    | ((with_reducible refine gate_dst (N := 9) rfl ?_); refine box_event ?hg (N := 9) ?hd (cs := #[.slice none 0 0]) (t := 33) ?hr ?_; (case hd => rfl); (case hg => rfl); (case hr => first | (go_simp; done) | (go_simp; rfl)); intro go hg w5 hb hbl; replace HO := Aside0.mk (HO.out.new hg hb hbl); replace hS := Aside0.mk (Kd.S_below hS.out hbl); clear hg hb hbl; have hx5 := HO.out.cell 0 rfl 0 rfl; have hf5 := HO.out.frozen 0 rfl 0)
    | ((with_reducible refine gate_store (t := 33) (p := 9) rfl ?_); refine store_event (t := 33) (p := 9) (v := .tmp 13) (w1 := w5.setCell ⟨go, 0, none⟩ (.slice A1 l.length c1')) ?hg ?ho ?hn ?hr ?_; (case ho => rfl); (case hg => rfl); (case hn => rfl); (case hr => first | (go_simp; done) | (go_simp; rfl)); intro w6 hw; replace hS := Aside0.mk (Kd.S_set hS.out (HO.out.at_ 0 rfl) (by decide) 0 (.slice A1 l.length c1')); replace HO := Aside0.mk (HO.out.set 0 rfl 0 (.slice A1 l.length c1')); rw [← hw] at HO hS; clear hw hx5 hf5; have hxl6 := HO.out.cell 2 rfl 0 rfl; have hxc6 := HO.out.cell 3 rfl 0 rfl; have hxc7 := HO.out.cell 3 rfl 1 rfl; have hxc8 := HO.out.cell 3 rfl 2 rfl)
    | (go_at_call 28; refine (cache_checked.calls k _ _ _ _ _ l 0 _ (Kd.C_below hr.out HO.out.below) hc hE.out).mono ?_; rintro e w7 ⟨rfl, hbl⟩; replace HO := Aside0.mk (HO.out.step hbl); replace hS := Aside0.mk (Kd.S_below hS.out hbl); clear hbl hxl6 hxc6 hxc7 hxc8; have hxo := HO.out.cell 0 rfl 0 rfl; have hxr := HO.out.cell 1 rfl 0 rfl; have hfr := HO.out.frozen 1 rfl 0; have hxq := HO.out.cell 3 rfl 0 rfl)
    | (go_at_call 30; refine (cache_between.calls _ _ _ true _ ha.out).mono ?_; rintro e w' ⟨rfl, ⟨nd, rfl⟩⟩; replace HO := Aside0.mk (HO.out.drewN nd); replace hS := Aside0.mk (Kd.S_drewN hS.out nd)))
  have HO9 := HO.out.set 1 rfl 0 (.slice A1 l.length c1')
  have hxr9 := HO9.cell 1 rfl 0 rfl
  exact bodyPost_ret (v := .tuple #[.agg #[.slice A1 l.length c1'], .bool false, .int .i64 0]) (by simp [results, Try.results16, go_sem, hxr9]) rfl ⟨_, rfl, Kd.S_lower (Kd.S_set hS.out (HO.out.at_ 1 rfl) (by decide) 0 _) hlo.out, HO9.below⟩
set_option maxHeartbeats 2000000 in
theorem cache_TouchGood.calls (k : Nat) (c0 c1 c2 : Int) (A : Option Addr) (c : Nat) (l : List (List Int)) (a : Int) (w : World) (hr : Kd.C kr w A l.length l) (hc : l.length ≤ c) (hsm : l.length ≤ 1000) (hrows : ∀ r ∈ l, r.length ≤ 1000) (hE : cache_checked.f k c0 c1 c2 l = some 0) (ha : cache_between.f a 0 1048576 = some true) (hc0 : c0 ≠ 0) (line : Int) (n : Nat) (hl : cache_Line.f c0 c1 c2 a = some line) (hs : cache_Set.f c0 c1 c2 line = some (n : Int)) (r : List Int) (hrn : l[n]? = some r) (hp : 0 < r.length) (j : Int) (i : Nat) (hit : Bool) (hj : slices_Index_int_int.f k r line = some j) (hji : (j = i ∧ i < r.length ∧ hit = true) ∨ (j = -1 ∧ i = r.length - 1 ∧ hit = false)) :
    Calls Try.prog 16 #[.agg #[.int .i64 c0, .int .i64 c1, .int .i64 c2], .agg #[.slice A l.length c], .int .i64 a] w fun e w' => ∃ v, e = .returned (.tuple #[.agg #[v], .bool hit, .int .i64 0]) ∧ Kd.S kr 22 w' w.heap.size (fun _ => True) v (l.set n (line :: (r.take i ++ r.drop (i + 1)))) ∧ Below w.heap.size w w' := by
  replace hr := Aside0.mk hr
  replace hE := Aside0.mk hE
  replace ha := Aside0.mk ha
  have hcb : (c0 == 0) = false := by simpa using hc0
  replace hl := Aside0.mk hl
  replace hj := Aside0.mk hj
  replace hji := Aside0.mk hji
  replace hrn := Aside0.mk hrn
  replace hp := Aside0.mk hp
  replace hs := Aside0.mk hs
  replace hc0 := Aside0.mk hc0
  have HO := Aside0.mk (Own.start w)
  go_enter Try.func16, Try.ntmps16
  go_wp2_with (first
    | ((with_reducible refine gate_dst (N := 3) rfl ?_); refine box_event ?hg (N := 3) ?hd (cs := #[.int .i64 c0, .int .i64 c1, .int .i64 c2]) (t := 29) ?hr ?_; (case hd => rfl); (case hg => rfl); (case hr => first | (go_simp; done) | (go_simp; rfl)); intro gc hg w1 hb hbl; replace HO := Aside0.mk (HO.out.new hg hb hbl); clear hg hb hbl)
    | ((with_reducible refine gate_dst (N := 4) rfl ?_); refine box_event ?hg (N := 4) ?hd (cs := #[.slice A l.length c]) (t := 33) ?hr ?_; (case hd => rfl); (case hg => rfl); (case hr => first | (go_simp; done) | (go_simp; rfl)); intro gl hg w2 hb hbl; replace HO := Aside0.mk (HO.out.new hg hb hbl); clear hg hb hbl)
    | ((with_reducible refine gate_dst (N := 6) rfl ?_); refine box_event ?hg (N := 6) ?hd (cs := #[.slice none 0 0]) (t := 33) ?hr ?_; (case hd => rfl); (case hg => rfl); (case hr => first | (go_simp; done) | (go_simp; rfl)); intro gr hg w3 hb hbl; replace HO := Aside0.mk (HO.out.new hg hb hbl); clear hg hb hbl; have hx3 := HO.out.cell 1 rfl 0 rfl)
    | (go_at_call 29; refine (cache_copied.calls _ _ l _ (Kd.C_below hr.out HO.out.below) hc hsm hrows).mono ?_; rintro e w4 ⟨v, rfl, hS, hbl⟩; obtain ⟨A1, c1', rfl⟩ := Kd.S_slice hS; have hlo := HO.out.below.size; replace HO := Aside0.mk (HO.out.step hbl); clear hbl; replace hS := Aside0.mk hS; replace hlo := Aside0.mk hlo; clear hx3)
    | ((with_reducible refine gate_dst (N := 9) rfl ?_); refine box_event ?hg (N := 9) ?hd (cs := #[.slice none 0 0]) (t := 33) ?hr ?_; (case hd => rfl); (case hg => rfl); (case hr => first | (go_simp; done) | (go_simp; rfl)); intro go hg w5 hb hbl; replace HO := Aside0.mk (HO.out.new hg hb hbl); replace hS := Aside0.mk (Kd.S_below hS.out hbl); clear hg hb hbl; have hx5 := HO.out.cell 0 rfl 0 rfl; have hf5 := HO.out.frozen 0 rfl 0)
    | ((with_reducible refine gate_store (t := 33) (p := 9) rfl ?_); refine store_event (t := 33) (p := 9) (v := .tmp 13) (w1 := w5.setCell ⟨go, 0, none⟩ (.slice A1 l.length c1')) ?hg ?ho ?hn ?hr ?_; (case ho => rfl); (case hg => rfl); (case hn => rfl); (case hr => first | (go_simp; done) | (go_simp; rfl)); intro w6 hw; replace hS := Aside0.mk (Kd.S_set hS.out (HO.out.at_ 0 rfl) (by decide) 0 (.slice A1 l.length c1')); replace HO := Aside0.mk (HO.out.set 0 rfl 0 (.slice A1 l.length c1')); rw [← hw] at HO hS; clear hw hx5 hf5; have hxl6 := HO.out.cell 2 rfl 0 rfl; have hxc6 := HO.out.cell 3 rfl 0 rfl; have hxc7 := HO.out.cell 3 rfl 1 rfl; have hxc8 := HO.out.cell 3 rfl 2 rfl)
    | (go_at_call 28; refine (cache_checked.calls k _ _ _ _ _ l 0 _ (Kd.C_below hr.out HO.out.below) hc hE.out).mono ?_; rintro e w7 ⟨rfl, hbl⟩; replace HO := Aside0.mk (HO.out.step hbl); replace hS := Aside0.mk (Kd.S_below hS.out hbl); clear hbl hxl6 hxc6 hxc7 hxc8; have hxo := HO.out.cell 0 rfl 0 rfl; have hxr := HO.out.cell 1 rfl 0 rfl; have hfr := HO.out.frozen 1 rfl 0; have hxq := HO.out.cell 3 rfl 0 rfl; have hxq1 := HO.out.cell 3 rfl 1 rfl; have hxq2 := HO.out.cell 3 rfl 2 rfl)
    | (go_at_call 20; refine (cache_Line.calls _ _ _ _ _ _ hl.out).mono ?_; rintro e w8 ⟨rfl, hbl⟩; replace HO := Aside0.mk (HO.out.step hbl); replace hS := Aside0.mk (Kd.S_below hS.out hbl); clear hbl hxo hxr hfr hxq hxq1 hxq2; have hxo := HO.out.cell 0 rfl 0 rfl; have hxq := HO.out.cell 3 rfl 0 rfl; have hxq1 := HO.out.cell 3 rfl 1 rfl; have hxq2 := HO.out.cell 3 rfl 2 rfl)
    | (go_at_call 30; refine (cache_between.calls _ _ _ true _ ha.out).mono ?_; rintro e w' ⟨rfl, ⟨nd, rfl⟩⟩; replace HO := Aside0.mk (HO.out.drewN nd); replace hS := Aside0.mk (Kd.S_drewN hS.out nd)))
  replace hS := Aside0.mk (Kd.S_types (Kd.S_types (Kd.S_types (Kd.S_types hS.out (HO.out.at_ 0 rfl) (by decide)) (HO.out.at_ 1 rfl) (by decide)) (HO.out.at_ 2 rfl) (by decide)) (HO.out.at_ 3 rfl) (by decide))
  clear hxo hxq hxq1 hxq2
  have hxo := HO.out.cell 0 rfl 0 rfl
  have hxq := HO.out.cell 3 rfl 0 rfl
  have hxq1 := HO.out.cell 3 rfl 1 rfl
  have hxq2 := HO.out.cell 3 rfl 2 rfl
  have hxr := HO.out.cell 1 rfl 0 rfl
  have hfr := HO.out.frozen 1 rfl 0
  have hne1 := (HO.out.ne 1 rfl (HO.out.at_ 3 rfl) (by decide)).symm
  have hne2 : gr ≠ go := by have := HO.out.bx.1; simp at this; exact fun e => this.1.1 e.symm
  go_region_held3 (fun w' => w'.cell? ⟨go, 0, none⟩ = some (.slice A1 l.length c1') ∧ w'.cell? ⟨gc, 0, none⟩ = some (.int .i64 c0) ∧ w'.cell? ⟨gc, 1, none⟩ = some (.int .i64 c1) ∧ w'.cell? ⟨gc, 2, none⟩ = some (.int .i64 c2)) (go_keep) (first
    | (go_at_call 21; refine (cache_Set.calls _ _ _ _ _ _ hs.out).mono ?_; rintro e w9 ⟨rfl, hbl⟩; replace HO := Aside0.mk (HO.out.drew.step hbl); replace hS := Aside0.mk (Kd.S_below (Kd.S_drew hS.out) hbl); have hx1 := HO.out.cell 0 rfl 0 rfl; have hx2 := HO.out.cell 3 rfl 0 rfl; have hx3 := HO.out.cell 3 rfl 1 rfl; have hx4 := HO.out.cell 3 rfl 2 rfl; have hx5 := HO.out.cell 1 rfl 0 rfl; have hx6 := HO.out.frozen 1 rfl 0)
    | (go_at_call 31; refine (cache_front.calls k n line A1 c1' l r j _ _ _ hS.out hrn.out hp.out hj.out i hit hji.out).mono ?_; rintro e w10 ⟨rfl, hS2, hst⟩; replace hS := Aside0.mk hS2; replace HO := Aside0.mk (HO.out.stays hst hlo.out (by intro k hk; simpa [and_assoc] using hk)); have hx1 := HO.out.cell 0 rfl 0 rfl; have hx2 := HO.out.cell 3 rfl 0 rfl; have hx3 := HO.out.cell 3 rfl 1 rfl; have hx4 := HO.out.cell 3 rfl 2 rfl; have hx5 := HO.out.cell 1 rfl 0 rfl; have hx6 := HO.out.frozen 1 rfl 0))
  have HO9 := Aside0.mk (HO.out.set 1 rfl 0 (.slice A1 l.length c1'))
  have hS9 := Aside0.mk (Kd.S_mono (ok' := fun _ => True) (Kd.S_lower (Kd.S_set hS.out (HO.out.at_ 1 rfl) (by decide) 0 (.slice A1 l.length c1')) hlo.out) (fun _ _ => trivial))
  have hxr9 := HO9.out.cell 1 rfl 0 rfl
  rename_i hHeld; clear hx1 hx2 hx3 hx4 hx5 hx6 hHeld HO hS hS2 hst hbl hxo hxq hxq1 hxq2 hxr hfr
  go_wp2
  exact bodyPost_ret (v := .tuple #[.agg #[.slice A1 l.length c1'], .bool hit, .int .i64 0]) (by simp [results, Try.results16, go_sem, hxr9]) rfl ⟨_, rfl, by simpa using hS9.out, HO9.out.below⟩
end Go.Proofs.Ytfdiagegpahcoaa.QCa
