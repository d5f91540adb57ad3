import Derived.Test.YtfdiagegpahcoaaMisses
namespace Go.Proofs.Ytfdiagegpahcoaa.QCa
set_option linter.unusedVariables false
set_option linter.unusedSimpArgs false
open Go.RowKit Go.Proofs.YtfdiagegpahcoaaW.PrintWords Go.Proofs.YtfdiagegpahcoaaW.PrintLast Go.Proofs.YtfdiagegpahcoaaW.PrintMore Mat
def slices_Repeat_int_int.f (l0 : List Int) (a1 : Int) : Option (List Int) := if l0.length = 1 then if 1 ≤ a1 ∧ a1 ≤ 4 then some (List.replicate a1.toNat (rd l0 0)) else none else none
theorem mul_small (n : Nat) (h : n = 1 ∨ n = 2 ∨ n = 3 ∨ n = 4) : bits_Mul.f 1 (n : Int) = some (0, (n : Int)) := by
  rcases h with rfl | rfl | rfl | rfl <;> decide +kernel
theorem R_ints {w w' : World} {g : Nat} {r : List Int} (hg : w.heap.size ≤ g) (hb : w'.heap[g]? = some (.cells (r.map (Value.int .i64)).toArray 3 (0, 0))) (hm : r.length ≤ maxLen) : Kd.R (Kd.int .i64) 3 w' w.heap.size (fun _ => True) (.slice (some ⟨g, 0, none⟩) r.length r.length) r := by
  refine ⟨fun _ _ => trivial, r.map (Value.int .i64), ⟨by simp [Kd.int, Kd.scalar], .inr ⟨g, r.length, _, rfl, hg, hb, Nat.le_refl _, hm, by simp [Kd.int, Kd.scalar], ?_⟩⟩, int_reps r⟩
  simp only [Kd.int, Kd.scalar, Nat.mul_one]
  exact List.take_of_length_le (by simp)
theorem rep_pos {W : World} {g n m k : Nat} {x : Int} {cs : List Value} (hne : ¬ n = m) (hcs : cs = (List.replicate k x).map (Value.int .i64)) (hk : k ≤ m) (hg : W.heap[g]? = some (.cells ((List.replicate m x ++ List.replicate (n - m) 0).map (Value.int .i64)).toArray 3 (0, 0))) :
    0 < cs.length → (if n = m then some (⟨g, 0, none⟩ : Addr) else some ⟨g, m, none⟩) = some ⟨g, m, none⟩ ∧ ∃ ad, (some ⟨g, 0, none⟩ : Option Addr) = some ad ∧ ∀ j v, cs[j]? = some v → W.cell? (ad.add j) = some v := by
  intro h0
  refine ⟨if_neg hne, _, rfl, fun j v hj => ?_⟩
  have hjl := (List.getElem?_eq_some_iff.1 hj).1
  subst hcs
  rw [List.length_map, List.length_replicate] at hjl
  rw [add_plain, blk_cell hg, ← hj]
  simp only [List.map_append, List.map_replicate, List.getElem?_toArray]
  rw [List.getElem?_append_left (by simp; omega), List.getElem?_replicate, List.getElem?_replicate, if_pos hjl, if_pos (by omega)]
theorem rep_next {n m k : Nat} {x : Int} (hk : k ≤ n - m) : splice ((List.replicate m x ++ List.replicate (n - m) 0).map (Value.int .i64)) m ((List.replicate k x).map (Value.int .i64)) = (List.replicate (m + k) x ++ List.replicate (n - (m + k)) 0).map (Value.int .i64) := by
  unfold splice
  rw [List.map_append, List.map_append, List.take_left' (by simp), List.drop_append, List.drop_eq_nil_of_le (by simp), List.nil_append]
  simp only [List.map_replicate, List.drop_replicate, List.length_replicate]
  rw [← List.append_assoc, List.replicate_append_replicate, show n - m - (m + k - m) = n - (m + k) by omega]
set_option maxHeartbeats 2000000 in
theorem slices_Repeat_go (A0 : Option Addr) (c0 : Nat) (x : Int) (n : Nat) (h1 : 1 ≤ n) (h2 : n ≤ 4) (w : World) (hr0 : Kd.C (Kd.int .i64) w A0 1 [x]) (hc0 : 1 ≤ c0) :
    Calls Try.prog 34 #[.slice A0 1 c0, .int .i64 n] w fun e w' => ∃ v0_ : Value, e = .returned v0_ ∧ Kd.R (Kd.int .i64) 3 w' w.heap.size (fun _ => True) v0_ (List.replicate n x) ∧ Below w.heap.size w w' := by
  have hm := mul_small n (by omega)
  have hmk : ∀ W : World, (Instr.makeSlice 22 (.int .i64 (n : Int)) (.int .i64 (n : Int))).run Try.prog W = .ok (.slice (some ⟨W.heap.size, 0, none⟩) n n) (W.alloc (.cells (madeCells #[.int .i64 0] n) 3)) :=
    print_make_of 22 3 (.int .i64 0) 8 Try.underlying22 (by kernel_rfl) rfl (by decide) n (by omega)
  have hsz3 : (Try.prog.info? 3).map (·.size) = some 1 := by kernel_rfl
  have hn0 : (0 : Int) ≤ n := by omega
  have hn4 : (n : Int) ≤ 4 := by omega
  have HO := Aside0.mk (Own.start w)
  replace hr0 := Aside0.mk hr0
  have hw1 : IntKind.u64.wrap (n : Int) = n := by simp [IntKind.wrap, IntKind.signed, IntKind.bits]; omega
  have hw2 : IntKind.i64.wrap (n : Int) = n := by rw [i64_w]; unfold wrap64; omega
  replace hm := Aside0.mk hm
  go_enter Try.func34, Try.ntmps34
  go_wp2_with (first
    | (go_at_call 46; refine (bits_Mul.calls _ _ _ _ _ hm.out).mono ?_; rintro e w' ⟨rfl, ⟨nd, rfl⟩⟩; replace HO := Aside0.mk (HO.out.drewN nd))
    | ((with_reducible refine gate_dst (N := 30) rfl ?_); refine make_event (n := n) ?hg (N := 30) ?hd (cs := madeCells #[.int .i64 0] n) (t := 3) ?hr ?_; (case hd => rfl); (case hg => rfl); (case hr => first | (go_simp; done) | (go_simp; rfl)); intro g hg w3 hb hbl; replace HO := Aside0.mk (HO.out.new hg hb hbl); clear hg hb hbl)
    | ((with_reducible refine gate_dst (N := 33) rfl ?_); refine wpList_copy_in rfl (.tmp 31) (.tmp 32) 22 22 rfl 3 Try.underlying22 hsz3 (some ⟨g, 0, none⟩) A0 n n 1 c0 ?_ ?_ g 0 (madeCells #[.int .i64 0] n).toList 3 ?_ ([x].map (Value.int .i64)) ?_ ?_ ?_ ?_ ?_; (all_goals ((try (simp [Act.eval, Act.put]; done)); (try exact (Nat.min_eq_left h1).symm); (try exact HO.out.at_ 0 rfl); (try exact fun h0 => ⟨rfl, reads_pos hr0.out HO.out.below (by simp)⟩); (try (rw [made_zero]; simp; omega)); (try (intro v hv; obtain ⟨x, _, rfl⟩ := List.mem_map.1 hv; rfl)))); intro w7 hn8 hgr7; replace HO := Aside0.mk (HO.out.put 0 rfl hn8 hgr7); clear hn8 hgr7))
  go_loopg [8] n (fun kq v8 w' => ∃ (m : Nat), v8 = .int .i64 m ∧ Aside0 (1 ≤ m ∧ m ≤ n ∧ kq = n + 1 - m) ∧ Aside0 (Own w w' [(g, 3, (List.replicate m x ++ List.replicate (n - m) 0).map (Value.int .i64))]))
  case atStart => exact ⟨1, rfl, ⟨Nat.le_refl _, h1, rfl⟩, ⟨by have := HO.out; simpa [splice, made_zero] using this⟩⟩
  case round =>
    clear HO
    obtain ⟨m, rfl, HX, HO⟩ := hrel
    have hm1 := HX.out.1
    have hm2 := HX.out.2.1
    by_cases hx : m < n
    · have hx0 : (0 : Int) ≤ m := by omega
      have hx1 : (m : Int) < n := by omega
      have hx2 : (m : Int) ≤ n := by omega
      have hne : ¬ m = n := by omega
      have hnm : (n : Int) - m = ((n - m : Nat) : Int) := by omega
      go_wp2
      obtain ⟨k, hk⟩ : ∃ k, k = Nat.min m (n - m) := ⟨_, rfl⟩
      have hk1 : k ≤ n - m := by rw [hk]; exact Nat.min_le_right _ _
      have hk2 : 1 ≤ k := by rw [hk]; exact Nat.le_min.2 ⟨hm1, by omega⟩
      have hk3 : k ≤ m := by rw [hk]; exact Nat.min_le_left _ _
      obtain ⟨cs, hcs⟩ : ∃ cs, cs = (List.replicate k x).map (Value.int .i64) := ⟨_, rfl⟩
      have hcl : cs.length = k := by rw [hcs]; simp
      have hw : IntKind.i64.wrap ((m : Int) + (k : Int)) = ((m + k : Nat) : Int) := by rw [i64_w]; unfold wrap64; omega
      have hcs1 : ∀ v ∈ cs, v.oneCell' = true := by rw [hcs]; intro v hv; obtain ⟨x, _, rfl⟩ := List.mem_map.1 hv; rfl
      replace hcs := Aside0.mk hcs
      replace hk := Aside0.mk hk
      replace hcl := Aside0.mk hcl
      replace hcs1 := Aside0.mk hcs1
      go_region_law (refine step_copy_in rfl (.tmp 41) (.tmp 44) 22 22 rfl 3 Try.underlying22 hsz3 (if n = m then some ⟨g, 0, none⟩ else some ⟨g, m, none⟩) (some ⟨g, 0, none⟩) (n - m) (n - m) m n (by simp [Act.eval, Act.put]) (by simp [Act.eval, Act.put]) g m ((List.replicate m x ++ List.replicate (n - m) 0).map (Value.int .i64)) 3 (HO.out.drew.at_ 0 rfl) cs (by rw [hcl.out]; exact hk.out) (rep_pos (by omega) hcs.out hk3 (HO.out.drew.at_ 0 rfl)) (by rw [hcl.out]; simp; omega) hcs1.out ?_; intro w2 hg2 hgr2; replace HO := Aside0.mk (HO.out.drew.put 0 rfl hg2 hgr2); rw [hcl.out]; clear hg2 hgr2)
      go_wp2
      go_roundg (n + 1 - (m + k))
      case measure => have := HX.out.2.2; clear hw; omega
      case rel =>
        have HO2 : Own w w2 [(g, 3, splice ((List.replicate m x ++ List.replicate (n - m) 0).map (Value.int .i64)) m cs)] := HO.out
        rw [hcs.out, rep_next hk1] at HO2
        refine ⟨m + k, by simp [hw], ?_, ⟨HO2⟩⟩
        clear hw
        exact ⟨by omega, by omega, rfl⟩
    · have hx1 : ¬ (m : Int) < n := by omega
      obtain rfl : m = n := by omega
      go_wp2
      go_ret
      have hb := HO.out.at_ 0 rfl
      have := R_ints (w := w) (r := List.replicate m x) (HO.out.ge _ List.mem_cons_self) (by simpa using hb) (by simp only [maxLen]; simp; omega)
      exact ⟨_, rfl, by simpa using this, HO.out.below⟩
theorem slices_Repeat_int_int.calls (A0 : Option Addr) (c0 : Nat) (l0 : List Int) (a1 : Int) (r : List Int) (w : World) (hr0 : Kd.C (Kd.int .i64) w A0 l0.length l0) (hc0 : l0.length ≤ c0) (h : slices_Repeat_int_int.f l0 a1 = some r) :
    Calls Try.prog 34 #[.slice A0 l0.length c0, .int .i64 a1] w fun e w' => ∃ v0_ : Value, e = .returned v0_ ∧ Kd.R (Kd.int .i64) 3 w' w.heap.size (fun _ => True) v0_ r ∧ Below w.heap.size w w' := by
  unfold slices_Repeat_int_int.f at h
  by_cases h1 : l0.length = 1
  case neg => rw [if_neg h1] at h; cases h
  by_cases h2 : 1 ≤ a1 ∧ a1 ≤ 4
  case neg => rw [if_pos h1, if_neg h2] at h; cases h
  rw [if_pos h1, if_pos h2] at h
  obtain ⟨x, rfl⟩ := List.length_eq_one_iff.1 h1
  obtain ⟨n, rfl⟩ : ∃ n : Nat, a1 = n := ⟨a1.toNat, by omega⟩
  obtain rfl : List.replicate n x = r := by simpa [rd] using h
  exact slices_Repeat_go A0 c0 x n (by omega) (by omega) w hr0 hc0
end Go.Proofs.Ytfdiagegpahcoaa.QCa
