import Derived.Test.YtfdiagegpahcoaaQCax
import Derived.Laws.CopyOwn
namespace Go.Proofs.Ytfdiagegpahcoaa.QCa
set_option linter.unusedVariables false
set_option linter.unusedSimpArgs false
open Go.RowKit Go.Proofs.YtfdiagegpahcoaaW.PrintWords Go.Proofs.YtfdiagegpahcoaaW.PrintLast Go.Proofs.YtfdiagegpahcoaaW.PrintMore Mat
set_option maxHeartbeats 2000000 in
theorem cache_front.calls (k : Nat) (n : Nat) (line : Int) (A : Option Addr) (c : Nat) (rows : List (List Int)) (r : List Int) (j : Int) (w : World) (base : Nat) (ok : Nat → Prop) (h : Kd.S kr 22 w base ok (.slice A rows.length c) rows) (hr : rows[n]? = some r) (hp : 0 < r.length) (hj : slices_Index_int_int.f k r line = some j) (i : Nat) (hit : Bool) (hji : (j = i ∧ i < r.length ∧ hit = true) ∨ (j = -1 ∧ i = r.length - 1 ∧ hit = false)) :
    Calls Try.prog 31 #[.agg #[.slice A rows.length c], .int .i64 n, .int .i64 line] w fun e w' => e = .returned (.bool hit) ∧ Kd.S kr 22 w' base ok (.slice A rows.length c) (rows.set n (line :: (r.take i ++ r.drop (i + 1)))) ∧ Stays w w' base ok := by
  have hn : n < rows.length := (List.getElem?_eq_some_iff.1 hr).1
  obtain ⟨g, gi, cur, rfl, hcell, hok, hne, hb, hg, hle, hmx, htk, hback⟩ := row_of h n hn r hr hp
  have hn0 : (0 : Int) ≤ n := by omega
  have hn1 : (n : Int) < rows.length := by omega
  have hmx' := hmx
  simp only [maxLen] at hmx'
  have hi : i < r.length := by omega
  have hw1 : IntKind.i64.wrap ((i : Int) + 1) = i + 1 := by rw [i64_w]; unfold wrap64; omega
  have hw2 : (j = -1) → IntKind.i64.wrap ((r.length : Int) - 1) = i := by rw [i64_w]; unfold wrap64; omega
  have hb0 : (0 : Int) ≤ (i : Int) + 1 := by omega
  have hb1 : (i : Int) + 1 ≤ cur.length := by omega
  have hb4 : (1 : Int) ≤ (i : Int) + 1 := by omega
  have hb3 : (i : Int) ≤ cur.length := by omega
  have hb5 : (0 : Int) < r.length := by omega
  obtain ⟨cs, hcs⟩ : ∃ cs, cs = (r.take i).map (Value.int .i64) := ⟨_, rfl⟩
  have hcl : cs.length = i := by rw [hcs]; simp; omega
  have hsz3 : (Try.prog.info? 3).map (·.size) = some 1 := by kernel_rfl
  replace hcs := Aside0.mk hcs
  replace hback := Aside0.mk hback
  replace htk := Aside0.mk htk
  rcases hji with ⟨rfl, _, rfl⟩ | ⟨rfl, hi2, rfl⟩
  case' inr => replace hw2 := hw2 rfl; clear hi2
  all_goals
    go_enter Try.func31, Try.ntmps31
    go_wp2_with (first | ((with_reducible refine gate_dst (N := 3) rfl ?_); refine box_event ?hg (N := 3) ?hd (cs := #[.slice (some ⟨g, 0, none⟩) rows.length c]) (t := 33) ?hr ?_; (case hd => rfl); (case hg => rfl); (case hr => first | (go_simp; done) | (go_simp; rfl)); intro gb hgb w1 hbox hbl; have hcell1 := pw_cell_below hbl hcell; have hg1 := blk_below hg hbl; have hx1 : w1.cell? ⟨gb, 0, none⟩ = some (.slice (some ⟨g, 0, none⟩) rows.length c) := (blk_cell hbox 0).trans rfl; have hC1 := C_of_row hg1 hle hmx htk.out; replace hgb := Aside0.mk hgb; replace hbox := Aside0.mk hbox; replace hbl := Aside0.mk hbl; replace hg1 := Aside0.mk hg1) | (go_at_call 44; refine (slices_Index_int_int.calls k _ _ r line _ _ hC1 hle hj).mono ?_; rintro e w' ⟨rfl, ⟨nd, rfl⟩⟩))
    go_region_law (refine step_copy_in rfl (.tmp 28) (.tmp 31) 22 22 rfl 3 Try.underlying22 hsz3 (if cur.length = 1 then some ⟨gi, 0, none⟩ else some ⟨gi, 1, none⟩) (some ⟨gi, 0, none⟩) i (cur.length - 1) i cur.length (by simp [Act.eval, Act.put]) (by simp [Act.eval, Act.put]) gi 1 cur 3 hg1.out cs (by simp [hcl]) (copy_pos hcl hcs.out htk.out (Nat.le_of_lt hi) (by omega) hg1.out) (by omega) (by rw [hcs.out]; intro v hv; obtain ⟨x, _, rfl⟩ := List.mem_map.1 hv; rfl) ?_; intro w2 hg2 hgr2)
    all_goals
      generalize (if cur.length = 1 then (some ⟨gi, 0, none⟩ : Option Addr) else some ⟨gi, 1, none⟩) = dp28
      have hx2 : w2.cell? ⟨gi, 0, none⟩ = (splice cur 1 cs).toArray[0]? := blk_cell hg2 0
      rw [show (splice cur 1 cs).toArray[0]? = some (.int .i64 r[0]) from splice_head htk.out hp] at hx2
      have hf2 := blk_frozen hg2 0
      replace hg2 := Aside0.mk hg2
      replace hgr2 := Aside0.mk hgr2
      go_wp2
      go_ret
      have hend := blk_put hg2.out 0 (.int .i64 line) rfl
      have hgr3 : w.grownBy (w2.setCell ⟨gi, 0, none⟩ (.int .i64 line)) (some gi) := (grown_of_below hbl.out (some gi)).trans (World.grownBy.trans (⟨hgr2.out.os, hgr2.out.tape, hgr2.out.output, hgr2.out.size, hgr2.out.block⟩) (grown_set w2 gi 0 _))
      obtain ⟨he1, he2⟩ := front_row line htk.out hle hi hcs.out
      refine ⟨by simp, hback.out _ _ _ (by simp; omega) he1 he2 hgr3 (by rw [hend]; simp), stays_of hgr3 ⟨hb, hok⟩⟩
