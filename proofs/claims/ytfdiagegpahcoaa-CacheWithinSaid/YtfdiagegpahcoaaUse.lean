import Derived.Test.YtfdiagegpahcoaaQCax
import Derived.Laws.CopyOwn
namespace Go.Proofs.Ytfdiagegpahcoaa.QCa
set_option linter.unusedVariables false
set_option linter.unusedSimpArgs false
open Go.RowKit Go.Proofs.YtfdiagegpahcoaaW.PrintWords Go.Proofs.YtfdiagegpahcoaaW.PrintLast Go.Proofs.YtfdiagegpahcoaaW.PrintMore Mat
def scan (n : Int) : List Int → Nat → Nat × Bool → Nat × Bool
  | [], _, s => s
  | x :: t, w, s => scan n t (w + 1) (if x = n then (w, true) else s)
set_option maxHeartbeats 2000000 in
theorem timeboundref22_Use.calls (c0 c1 c2 address : Int) (A : Option Addr) (c : Nat) (rows : List (List Int)) (r : List Int) (w : World) (base : Nat) (ok : Nat → Prop) (h : Kd.S kr 22 w base ok (.slice A rows.length c) rows) (n : Nat) (line : Nat) (hc0 : (0 : Int) < c0) (hc2 : (0 : Int) < c2) (hline : IntKind.i64.wrap (address.tdiv c2) = line) (hn : (line : Int).tmod c0 = n) (hr : rows[n]? = some r) (hp : 0 < r.length) (i : Nat) (hit : Bool) (hs : scan line r 0 (r.length - 1, false) = (i, hit)) (hi : i < r.length) :
    Calls Try.prog 43 #[.agg #[.int .i64 c0, .int .i64 c1, .int .i64 c2], .agg #[.slice A rows.length c], .int .i64 address] w fun e w' => e = .returned (.bool hit) ∧ Kd.S kr 22 w' base ok (.slice A rows.length c) (rows.set n (line :: (r.take i ++ r.drop (i + 1)))) ∧ Stays w w' base ok := by
  have hnr : n < rows.length := (List.getElem?_eq_some_iff.1 hr).1
  obtain ⟨g, gi, cur, rfl, hcell, hok, hne, hb, hg, hle, hmx, htk, hback⟩ := row_of h n hnr r hr hp
  have hn0 : (0 : Int) ≤ n := by omega
  have hn1 : (n : Int) < rows.length := by omega
  have hmx' := hmx
  simp only [maxLen] at hmx'
  have hw2 : IntKind.i64.wrap ((r.length : Int) - 1) = ((r.length - 1 : Nat) : Int) := by rw [i64_w]; unfold wrap64; omega
  have hz0 : (c0 == 0) = false := by simp; omega
  have hz2 : (c2 == 0) = false := by simp; omega
  have hz0' : ¬ c0 = 0 := by omega
  have hz2' : ¬ c2 = 0 := by omega
  replace hback := Aside0.mk hback
  replace htk := Aside0.mk htk
  replace hs := Aside0.mk hs
  replace hi := Aside0.mk hi
  go_enter Try.func43, Try.ntmps43
  go_wp2_with (first | ((with_reducible refine gate_dst (N := 3) rfl ?_); refine box_event ?hg (N := 3) ?hd (cs := #[.int .i64 c0, .int .i64 c1, .int .i64 c2]) (t := 29) ?hr ?_; (case hd => rfl); (case hg => rfl); (case hr => first | (go_simp; done) | (go_simp; rfl)); intro gc hgc w1 hboxc hblc) | ((with_reducible refine gate_dst (N := 4) rfl ?_); refine box_event ?hg (N := 4) ?hd (cs := #[.slice (some ⟨g, 0, none⟩) rows.length c]) (t := 33) ?hr ?_; (case hd => rfl); (case hg => rfl); (case hr => first | (go_simp; done) | (go_simp; rfl)); intro gb hgb w2 hboxb hblb; have hboxc2 := blk_below hboxc hblb; have hcell2 := pw_cell_below hblb (pw_cell_below hblc hcell); have hg2 := blk_below (blk_below hg hblc) hblb; have hx0 : w2.cell? ⟨gc, 0, none⟩ = some (.int .i64 c0) := (blk_cell hboxc2 0).trans rfl; have hx2 : w2.cell? ⟨gc, 2, none⟩ = some (.int .i64 c2) := (blk_cell hboxc2 2).trans rfl; have hxb : w2.cell? ⟨gb, 0, none⟩ = some (.slice (some ⟨g, 0, none⟩) rows.length c) := (blk_cell hboxb 0).trans rfl; replace hgb := Aside0.mk hgb; replace hgc := Aside0.mk hgc; replace hboxc := Aside0.mk hboxc; replace hboxb := Aside0.mk hboxb; replace hblc := Aside0.mk hblc; replace hblb := Aside0.mk hblb; replace hboxc2 := Aside0.mk hboxc2; replace hg2 := Aside0.mk hg2))
  go_region_held3 (fun w' => w'.cell? ⟨gb, 0, none⟩ = some (.slice (some ⟨g, 0, none⟩) rows.length c) ∧ w'.cell? ⟨gc, 0, none⟩ = some (.int .i64 c0) ∧ w'.cell? ⟨g, n, none⟩ = some (.slice (some ⟨gi, 0, none⟩) r.length cur.length)) (go_keep) (fail)
  have hg3 := Aside0.mk (blk_drew hg2.out)
  have hgr3 : Aside0 (w.grownBy w2.drew (some gi)) := ⟨(grown_of_below hblc.out (some gi)).trans ((grown_of_below hblb.out (some gi)).trans (grown_of_below (below_drew1 (Below.refl _ _)) _))⟩
  clear hg2 hx0 hx2 hxb hcell2
  rename_i hHd
  clear hHd
  generalize w2.drew = w3 at hg3 hgr3 ⊢
  go_wp2_with fail
  go_loopg [9, 10, 11] (r.length + 1) (fun kq v9 v10 v11 w' => ∃ (x aT : Nat) (ht : Bool), v9 = .int .i64 aT ∧ v10 = .bool ht ∧ v11 = .int .i64 x ∧ w' = w3 ∧ Aside0 (x ≤ r.length ∧ kq = r.length + 1 - x ∧ scan line (r.drop x) x (aT, ht) = (i, hit)))
  case atStart => exact ⟨0, r.length - 1, false, rfl, rfl, rfl, rfl, ⟨Nat.zero_le _, rfl, by simpa using hs.out⟩⟩
  case round =>
    obtain ⟨x, aT, ht, rfl, rfl, rfl, rfl, HX⟩ := hrel
    by_cases hx : x < r.length
    · have hx0 : (0 : Int) ≤ x := by omega
      have hx1 : (x : Int) < r.length := by omega
      have hxc : wr.cell? ⟨gi, x, none⟩ = some (.int .i64 r[x]) := (blk_cell hg3.out x).trans (by simpa using row_at htk.out hx)
      have hxw : IntKind.i64.wrap ((x : Int) + 1) = ((x + 1 : Nat) : Int) := by rw [i64_w]; unfold wrap64; omega
      by_cases he : r[x] = (line : Int)
      · have he' : (r[x] == (line : Int)) = true := by simp [he]
        go_wp2
        go_roundg (r.length - x)
        case measure => have := HX.out.2.1; omega
        case rel =>
          refine ⟨x + 1, x, true, rfl, rfl, by simp [hxw], rfl, ⟨by omega, by omega, ?_⟩⟩
          have := HX.out.2.2
          rw [List.drop_eq_getElem_cons hx] at this
          simpa [scan, he] using this
      · have he' : (r[x] == (line : Int)) = false := by simp [he]
        go_wp2
        go_roundg (r.length - x)
        case measure => have := HX.out.2.1; omega
        case rel =>
          refine ⟨x + 1, aT, ht, rfl, rfl, by simp [hxw], rfl, ⟨by omega, by omega, ?_⟩⟩
          have := HX.out.2.2
          rw [List.drop_eq_getElem_cons hx] at this
          simpa [scan, he] using this
    · have hx1 : ¬ (x : Int) < r.length := by omega
      have hfin := HX.out.2.2
      rw [List.drop_eq_nil_of_le (by omega)] at hfin
      simp only [scan, Prod.mk.injEq] at hfin
      obtain ⟨rfl, rfl⟩ := hfin
      go_wp2_with fail
      have hi' := hi.out
      have hic : aT < cur.length := by omega
      go_loopg [12] (aT + 1) (fun kq v12 w' => ∃ (x : Nat), v12 = .int .i64 x ∧ Aside0 (x ≤ aT ∧ kq = x + 1) ∧ Aside0 (w'.heap[gi]? = some (.cells (shiftAt cur aT x).toArray 3 (0, 0))) ∧ Aside0 (w.grownBy w' (some gi)))
      case atStart => exact ⟨aT, rfl, ⟨Nat.le_refl _, rfl⟩, ⟨by rw [shiftAt_start]; exact hg3.out⟩, hgr3⟩
      case round =>
        clear hg3 hgr3
        obtain ⟨x, rfl, HX2, hg4, hgr4⟩ := hrel
        have hxi := HX2.out.1
        cases x with
        | succ x =>
          have hxx : x < r.length := by omega
          have hx0 : (0 : Int) < ((x + 1 : Nat) : Int) := by omega
          have hx3 : (0 : Int) ≤ ((x + 1 : Nat) : Int) := by omega
          have hx4 : ((x + 1 : Nat) : Int) < r.length := by omega
          have hx5 : (0 : Int) ≤ x := by omega
          have hx6 : (x : Int) < r.length := by omega
          have hxw : IntKind.i64.wrap (((x + 1 : Nat) : Int) - 1) = x := by rw [i64_w]; unfold wrap64; omega
          have hxc : wr.cell? ⟨gi, x, none⟩ = some (.int .i64 r[x]) := (blk_cell hg4.out x).trans (by rw [List.getElem?_toArray, shiftAt_low cur (by omega) hxi hic]; exact row_at htk.out hxx)
          have hxd : wr.cell? ⟨gi, x + 1, none⟩ = some (.int .i64 r[x + 1]) := (blk_cell hg4.out (x + 1)).trans (by rw [List.getElem?_toArray, shiftAt_low cur (by omega) hxi hic]; exact row_at htk.out (by omega))
          have hxf := blk_frozen hg4.out (x + 1)
          go_wp2
          go_roundg (x + 1)
          case measure => have := HX2.out.2; omega
          case rel =>
            refine ⟨x, rfl, ⟨by omega, rfl⟩, ⟨?_⟩, ⟨hgr4.out.trans (grown_set wr gi (x + 1) _)⟩⟩
            exact blk_put hg4.out (x + 1) _ (by rw [List.setIfInBounds_toArray, shiftAt_step cur _ (row_at htk.out hxx) hxi hic])
        | zero =>
          have hz : (0 : Int) < r.length := by omega
          have hsa := shiftAt_zero htk.out hi'
          obtain ⟨cs, hcs⟩ : ∃ cs, cs = (r.take aT).map (Value.int .i64) := ⟨_, rfl⟩
          rw [← hcs] at hsa
          rw [hsa] at hg4
          have hx2 : wr.cell? ⟨gi, 0, none⟩ = (splice cur 1 cs).toArray[0]? := blk_cell hg4.out 0
          rw [show (splice cur 1 cs).toArray[0]? = some (.int .i64 r[0]) from splice_head htk.out hp] at hx2
          have hf2 := blk_frozen hg4.out 0
          replace hcs := Aside0.mk hcs
          replace hsa := Aside0.mk hsa
          go_wp2
          go_ret
          have hend := blk_put hg4.out 0 (.int .i64 line) rfl
          have hgr5 := hgr4.out.trans (grown_set wr gi 0 (.int .i64 line))
          obtain ⟨he1, he2⟩ := front_row line htk.out hle hi' hcs.out
          exact ⟨by simp, hback.out _ _ _ (by simp; omega) he1 he2 hgr5 (by rw [hend]; simp), stays_of hgr5 ⟨hb, hok⟩⟩
