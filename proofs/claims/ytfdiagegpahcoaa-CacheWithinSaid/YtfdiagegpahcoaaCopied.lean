import Derived.Test.YtfdiagegpahcoaaQCax
import Derived.Test.YtfdiagegpahcoaaBx
namespace Go.Proofs.Ytfdiagegpahcoaa.QCa
set_option linter.unusedVariables false
set_option linter.unusedSimpArgs false
open Go.RowKit Go.Proofs.YtfdiagegpahcoaaW.PrintWords Go.Proofs.YtfdiagegpahcoaaW.PrintLast Go.Proofs.YtfdiagegpahcoaaW.PrintMore Mat
theorem rd_at {l : List (List Int)} {x : Nat} (hx : x < l.length) : rd_L1 l x = l[x] := by simp [rd_L1, List.getD_eq_getElem?_getD, hx]
set_option maxHeartbeats 2000000 in
theorem cache_copied.calls (A : Option Addr) (c : Nat) (l : List (List Int)) (w : World) (hr : Kd.C kr w A l.length l) (hc : l.length ≤ c) (hsm : l.length ≤ 1000) (hrows : ∀ r ∈ l, r.length ≤ 1000) :
    Calls Try.prog 29 #[.agg #[.slice A l.length c]] w fun e w' => ∃ v, e = .returned (.agg #[v]) ∧ Kd.S kr 22 w' w.heap.size (fun _ => True) v l ∧ Below w.heap.size w w' := by
  have hmk : ∀ W : World, (Instr.makeSlice 31 (.int .i64 (l.length : Int)) (.int .i64 (l.length : Int))).run Try.prog W = .ok (.slice (some ⟨W.heap.size, 0, none⟩) l.length l.length) (W.alloc (.cells (madeCells #[.slice none 0 0] l.length) 22)) :=
    print_make_of 31 22 (.slice none 0 0) 24 Try.underlying31 (by kernel_rfl) rfl (by decide) l.length (by omega)
  replace hr := Aside0.mk hr
  replace hrows := Aside0.mk hrows
  have HO := Aside0.mk (Own.start w)
  go_enter Try.func29, Try.ntmps29
  go_wp2_with (first
    | ((with_reducible refine gate_dst (N := 1) rfl ?_); refine box_event ?hg (N := 1) ?hd (cs := #[.slice A l.length c]) (t := 33) ?hr ?_; (case hd => rfl); (case hg => rfl); (case hr => first | (go_simp; done) | (go_simp; rfl)); intro gp hg w1 hb hbl; replace HO := Aside0.mk (HO.out.new hg hb hbl); clear hg hb hbl)
    | ((with_reducible refine gate_dst (N := 2) rfl ?_); refine box_event ?hg (N := 2) ?hd (cs := #[.slice none 0 0]) (t := 33) ?hr ?_; (case hd => rfl); (case hg => rfl); (case hr => first | (go_simp; done) | (go_simp; rfl)); intro gr hg w2 hb hbl; replace HO := Aside0.mk (HO.out.new hg hb hbl); clear hg hb hbl; have hx2 := HO.out.cell 1 rfl 0 rfl)
    | ((with_reducible refine gate_dst (N := 9) rfl ?_); refine make_event (n := l.length) ?hg (N := 9) ?hd (cs := madeCells #[.slice none 0 0] l.length) (t := 22) ?hr ?_; (case hd => rfl); (case hg => rfl); (case hr => first | (go_simp; done) | (go_simp; rfl)); intro g hg w3 hb hbl; replace HO := Aside0.mk (HO.out.new hg hb hbl); clear hg hb hbl hx2)
    | ((with_reducible refine gate_dst (N := 3) rfl ?_); refine box_event ?hg (N := 3) ?hd (cs := #[.slice none 0 0]) (t := 33) ?hr ?_; (case hd => rfl); (case hg => rfl); (case hr => first | (go_simp; done) | (go_simp; rfl)); intro go hg w4 hb hbl; replace HO := Aside0.mk (HO.out.new hg hb hbl); clear hg hb hbl; have hx4 := HO.out.cell 0 rfl 0 rfl; have hf4 := HO.out.frozen 0 rfl 0)
    | ((with_reducible refine gate_store (t := 33) (p := 3) rfl ?_); refine store_event (t := 33) (p := 3) (v := .tmp 10) (w1 := w4.setCell ⟨go, 0, none⟩ (.slice (some ⟨g, 0, none⟩) l.length l.length)) ?hg ?ho ?hn ?hr ?_; (case ho => rfl); (case hg => rfl); (case hn => rfl); (case hr => first | (go_simp; done) | (go_simp; rfl)); intro w5 hw; replace HO := Aside0.mk (HO.out.set 0 rfl 0 (.slice (some ⟨g, 0, none⟩) l.length l.length)); rw [← hw] at HO; clear hw hx4 hf4; have hx5 := HO.out.cell 3 rfl 0 rfl))
  have hB := Aside0.mk (Built.start (w := w5) (base := w.heap.size) (g := g) (l := l) (HO.out.ge _ (List.mem_cons_of_mem _ List.mem_cons_self)) ((HO.out.at_ 1 rfl).trans (by rw [← made_nil l])))
  replace HO := Aside0.mk (Own.drop1 HO.out)
  clear hx5
  go_loopg [14] (l.length + 1) (fun kq v14 w' => ∃ (x : Nat) (G : List Nat), v14 = .int .i64 x ∧ Aside0 (x = G.length ∧ x ≤ l.length ∧ kq = l.length + 1 - x) ∧ Aside0 (Own w w' [(go, 33, [.slice (some ⟨g, 0, none⟩) l.length l.length]), (gr, 33, [.slice none 0 0]), (gp, 33, [.slice A l.length c])]) ∧ Aside0 (Built w' w.heap.size g l.length G l))
  case atStart => exact ⟨0, [], rfl, ⟨rfl, Nat.zero_le _, rfl⟩, HO, hB⟩
  case round =>
    clear HO hB
    obtain ⟨x, G, rfl, HX, HO, hB⟩ := hrel
    by_cases hx : x < l.length
    · have hx0 : (0 : Int) ≤ x := by omega
      have hx1 : (x : Int) < l.length := by omega
      obtain ⟨ad, Ax, cx, rfl, hxc, hlx, hCx⟩ := at_L1 hr.out x hx0 hx1
      rw [rd_at hx] at hxc hlx hCx
      rw [Int.toNat_natCast] at hxc
      have hlr := hrows.out _ (List.getElem_mem hx)
      obtain ⟨r, hrx⟩ : ∃ r, r = l[x] := ⟨_, rfl⟩
      rw [← hrx] at hxc hlx hCx hlr
      replace hrx := Aside0.mk hrx
      have hmk2 : ∀ W : World, (Instr.makeSlice 22 (.int .i64 (r.length : Int)) (.int .i64 (r.length : Int))).run Try.prog W = .ok (.slice (some ⟨W.heap.size, 0, none⟩) r.length r.length) (W.alloc (.cells (madeCells #[.int .i64 0] r.length) 3)) :=
        print_make_of 22 3 (.int .i64 0) 8 Try.underlying22 (by kernel_rfl) rfl (by decide) r.length (by omega)
      have hxc2 := pw_cell_below HO.out.below hxc
      have hxo := HO.out.cell 0 rfl 0 rfl
      have hxw : IntKind.i64.wrap ((x : Int) + 1) = ((x + 1 : Nat) : Int) := by rw [i64_w]; unfold wrap64; omega
      replace hxc := Aside0.mk hxc
      replace hCx := Aside0.mk hCx
      have hgc : wr.cell? ⟨g, x, none⟩ = some (.slice none 0 0) := (blk_cell hB.out.head x).trans (hB.out.next_nil HX.out.1 hx)
      have hgf := blk_frozen hB.out.head x
      have hgc2 : (wr.alloc (.cells (madeCells #[.int .i64 0] r.length) 3)).cell? ⟨g, x, none⟩ = some (.slice none 0 0) := (blk_cell (blk_alloc hB.out.head _) x).trans (hB.out.next_nil HX.out.1 hx)
      have hgf2 : (wr.alloc (.cells (madeCells #[.int .i64 0] r.length) 3)).frozen? ⟨g, x, none⟩ = false := blk_frozen (blk_alloc hB.out.head _) x
      have hne := World.new_ne wr ⟨g, x, none⟩ hgc
      have hgo := HO.out.ne 0 rfl hB.out.head (by decide)
      have hne2 := World.new_ne wr ⟨go, 0, none⟩ hxo
      go_wp2
      go_region_held3 (fun w' => w'.cell? ⟨go, 0, none⟩ = some (.slice (some ⟨g, 0, none⟩) l.length l.length)) (go_keep) (fail)
      have hs1 := grown_set (wr.alloc (.cells (madeCells #[.int .i64 0] r.length) 3)) g x (Value.slice (some ⟨wr.heap.size, 0, none⟩) r.length r.length)
      have hbn := blk_new wr (.cells (madeCells #[.int .i64 0] r.length) 3)
      have hgl := blk_lt hB.out.head
      have HO6 := Aside0.mk ((HO.out.step (below_alloc (Below.refl _ _) (.cells (madeCells #[.int .i64 0] r.length) 3))).far (blk_alloc hB.out.head _) (by simp) hB.out.gb hs1).drew
      have hn6 := Aside0.mk (blk_drew (blk_grown hbn hs1 (by simp; omega)))
      have hh6 := Aside0.mk (blk_drew (blk_put (blk_alloc hB.out.head (.cells (madeCells #[.int .i64 0] r.length) 3)) x (Value.slice (some ⟨wr.heap.size, 0, none⟩) r.length r.length) rfl))
      have hk6 : Aside0 (∀ k, k < wr.heap.size → k ≠ g → ((wr.alloc (.cells (madeCells #[.int .i64 0] r.length) 3)).setCell ⟨g, x, none⟩ (Value.slice (some ⟨wr.heap.size, 0, none⟩) r.length r.length)).drew.heap[k]? = wr.heap[k]?) := ⟨fun k hk hne => (Below.heap_setCell _ ⟨g, x, none⟩ _ k hne).trans (Below.heap_alloc wr _ k hk)⟩
      replace hs1 := Aside0.mk hs1
      replace hbn := Aside0.mk hbn
      clear hgc2 hgf2 hgc hgf hne hne2 hxc2 hxo
      rename_i hHd
      clear hHd
      generalize ((wr.alloc (.cells (madeCells #[.int .i64 0] r.length) 3)).setCell ⟨g, x, none⟩ (Value.slice (some ⟨wr.heap.size, 0, none⟩) r.length r.length)).drew = w6 at HO6 hn6 hh6 hk6 ⊢
      obtain ⟨gn, hgn⟩ : ∃ gn, gn = wr.heap.size := ⟨_, rfl⟩
      rw [← hgn] at hn6 hh6 ⊢
      replace hgn := Aside0.mk hgn
      have hxo6 := HO6.out.cell 0 rfl 0 rfl
      have hgx6 : w6.cell? ⟨g, x, none⟩ = some (.slice (some ⟨gn, 0, none⟩) r.length r.length) := (blk_cell hh6.out x).trans (by rw [List.setIfInBounds_toArray, List.getElem?_toArray, List.getElem?_set, if_pos rfl, if_pos (by rw [hB.out.head_len]; exact hx)])
      have hn7 : Aside0 (w6.heap[gn]? = some (.cells (List.replicate r.length (Value.int .i64 0)).toArray 3 (0, 0))) := ⟨hn6.out.trans (by rw [← made_zero])⟩
      have hsz3 : (Try.prog.info? 3).map (·.size) = some 1 := by kernel_rfl
      go_wp2_with ((with_reducible refine gate_dst (N := 32) rfl ?_); refine wpList_copy_in rfl (.tmp 30) (.tmp 31) 22 22 rfl 3 Try.underlying22 hsz3 (some ⟨gn, 0, none⟩) Ax r.length r.length r.length cx (by simp [Act.eval, Act.put]) (by simp [Act.eval, Act.put]) gn 0 (List.replicate r.length (Value.int .i64 0)) 3 hn7.out (r.map (Value.int .i64)) (by simp) (fun h0 => ⟨rfl, reads_pos hCx.out (below_step (Below.refl _ _) HO6.out.below) (by simpa using h0)⟩) (by simp) (by intro v hv; obtain ⟨x, _, rfl⟩ := List.mem_map.1 hv; rfl) ?_; intro w7 hn8 hgr7; replace hn8 := Aside0.mk hn8; replace hgr7 := Aside0.mk hgr7)
      go_roundg (l.length - x)
      case measure => have := HX.out.2.2; omega
      case rel =>
        have hg1 := hgn.out
        have hgne : g ≠ gn := by omega
        have hx7 := HX.out.1
        refine ⟨x + 1, G ++ [gn], by simp [hxw], ⟨by simp; omega, by omega, by omega⟩, ⟨HO6.out.far hn7.out (by simp) (by have := HO.out.below.size; omega) hgr7.out⟩, ⟨hB.out.next (r := r) (by omega) (by rw [← hx7, List.getElem?_eq_getElem hx, ← hrx.out]) (by omega) HO.out.below.size (hn8.out.trans (by rw [splice_all (by simp)])) ((blk_grown hh6.out hgr7.out (by intro e; injection e with e; omega)).trans (by rw [List.setIfInBounds_toArray, hx7])) (fun k hk hne => (hgr7.out.block k ?_ (by intro e; injection e with e; omega)).trans (hk6.out k hk hne))⟩⟩
        have := blk_lt hn7.out
        omega
    · have hx1 : ¬ (x : Int) < l.length := by omega
      have hxo := HO.out.cell 0 rfl 0 rfl
      have hxr := HO.out.cell 1 rfl 0 rfl
      have hfr := HO.out.frozen 1 rfl 0
      have hGl : G.length = l.length := by have := HX.out; omega
      have hS := Aside0.mk (hB.out.done hGl (by simp only [maxLen]; omega) (fun r hr => by have := hrows.out r hr; simp only [maxLen]; omega))
      have HO9 := Aside0.mk (HO.out.set 1 rfl 0 (.slice (some ⟨g, 0, none⟩) l.length l.length))
      have hxr9 := HO9.out.cell 1 rfl 0 rfl
      go_wp2
      exact bodyPost_ret (v := .agg #[.slice (some ⟨g, 0, none⟩) l.length l.length]) (by simp [results, Try.results29, go_sem, hxr9]) rfl ⟨_, rfl, Kd.S_set hS.out (HO.out.at_ 1 rfl) (by decide) 0 _, HO9.out.below⟩
