import Derived.Test.YtfdiagegpahcoaaBuilt
/- The call's own blocks, all in one fact. -/
namespace Go.Proofs.Ytfdiagegpahcoaa.Mat
open Go.RowKit Go.Proofs.YtfdiagegpahcoaaW.PrintWords
abbrev Blk := Nat × TypeId × List Value
def Bx (w : World) (L : List Blk) : Prop := (L.map (·.1)).Nodup ∧ ∀ x ∈ L, w.heap[x.1]? = some (.cells x.2.2.toArray x.2.1 (0, 0))
theorem Bx.nil (w : World) : Bx w [] := ⟨by simp, by simp⟩
theorem Bx.keep {w w' : World} {L : List Blk} (h : Bx w L) (hk : ∀ k, k < w.heap.size → k ∈ L.map (·.1) → w'.heap[k]? = w.heap[k]?) : Bx w' L :=
  ⟨h.1, fun x hx => (hk _ (blk_lt (h.2 x hx)) (List.mem_map_of_mem hx)).trans (h.2 x hx)⟩
theorem Bx.below {w w' : World} {L : List Blk} (h : Bx w L) (hb : Below w.heap.size w w') : Bx w' L := h.keep (fun k hk _ => hb.block k hk)
theorem Bx.drew {w : World} {L : List Blk} (h : Bx w L) : Bx w.drew L := h
theorem Bx.drewN {w : World} {L : List Blk} (h : Bx w L) (n : Nat) : Bx (w.drewN n) L := h
theorem Bx.new {w w' : World} {L : List Blk} {g : Nat} {t : TypeId} {cs : Array Value} (h : Bx w L) (hg : g = w.heap.size) (hn : w'.heap[g]? = some (.cells cs t (0, 0))) (hb : Below w.heap.size w w') : Bx w' ((g, t, cs.toList) :: L) := by
  refine ⟨?_, fun x hx => ?_⟩
  · rw [List.map_cons, List.nodup_cons]
    refine ⟨fun hm => ?_, h.1⟩
    obtain ⟨x, hx, he⟩ := List.mem_map.1 hm
    have := blk_lt (h.2 x hx)
    simp only at he
    omega
  · rcases List.mem_cons.1 hx with rfl | hx
    · simpa using hn
    · exact (hb.block _ (blk_lt (h.2 x hx))).trans (h.2 x hx)
theorem Bx.at_ {w : World} {L : List Blk} (h : Bx w L) (i : Nat) {g : Nat} {t : TypeId} {cs : List Value} (hi : L[i]? = some (g, t, cs)) : w.heap[g]? = some (.cells cs.toArray t (0, 0)) := h.2 _ (List.mem_of_getElem? hi)
theorem Bx.cell {w : World} {L : List Blk} (h : Bx w L) (i : Nat) {g : Nat} {t : TypeId} {cs : List Value} (hi : L[i]? = some (g, t, cs)) (j : Nat) {v : Value} (hv : cs[j]? = some v) : w.cell? ⟨g, j, none⟩ = some v := by
  rw [blk_cell (h.at_ i hi) j]; simpa using hv
theorem Bx.frozen {w : World} {L : List Blk} (h : Bx w L) (i : Nat) {g : Nat} {t : TypeId} {cs : List Value} (hi : L[i]? = some (g, t, cs)) (j : Nat) : w.frozen? ⟨g, j, none⟩ = false := blk_frozen (h.at_ i hi) j
theorem Bx.put {w w' : World} {L : List Blk} (h : Bx w L) (i : Nat) {g : Nat} {t : TypeId} {cs cs' : List Value} (hi : L[i]? = some (g, t, cs)) (hn : w'.heap[g]? = some (.cells cs'.toArray t (0, 0))) (hk : ∀ k, k < w.heap.size → k ≠ g → w'.heap[k]? = w.heap[k]?) : Bx w' (L.set i (g, t, cs')) := by
  obtain ⟨hil, hig⟩ := List.getElem?_eq_some_iff.1 hi
  have hmap : (L.set i (g, t, cs')).map (·.1) = L.map (·.1) := by
    rw [List.map_set]
    apply List.ext_getElem?
    intro j
    rw [List.getElem?_set]
    split
    · next e => subst e; rw [List.length_map, if_pos hil, List.getElem?_map, hi]; rfl
    · rfl
  refine ⟨by rw [hmap]; exact h.1, fun x hx => ?_⟩
  obtain ⟨j, hj, rfl⟩ := List.getElem_of_mem hx
  have hjl : j < L.length := by simpa using hj
  rw [List.getElem_set]
  split
  · exact hn
  · next hne =>
    have h2 := h.2 _ (List.getElem_mem hjl)
    refine (hk _ (blk_lt h2) (fun e => hne ?_)).trans h2
    have e2 : (L.map (·.1))[i]'(by simpa using hil) = (L.map (·.1))[j]'(by simpa using hjl) := by simp [hig, e]
    exact (List.getElem_inj h.1).1 e2
theorem Bx.set {w : World} {L : List Blk} (h : Bx w L) (i : Nat) {g : Nat} {t : TypeId} {cs : List Value} (hi : L[i]? = some (g, t, cs)) (j : Nat) (v : Value) : Bx (w.setCell ⟨g, j, none⟩ v) (L.set i (g, t, cs.set j v)) :=
  h.put i hi (by rw [blk_put (h.at_ i hi) j v rfl]; simp) (fun k _ hne => Below.heap_setCell w ⟨g, j, none⟩ v k hne)
/-- The world W of a call that began at w0, and its own blocks. -/
structure Own (w0 W : World) (L : List Blk) : Prop where
  below : Below w0.heap.size w0 W
  bx : Bx W L
  ge : ∀ x ∈ L, w0.heap.size ≤ x.1
theorem Own.start (w : World) : Own w w [] := ⟨Below.refl _ _, Bx.nil _, by simp⟩
theorem Own.new {w0 W W' : World} {L : List Blk} {g : Nat} {t : TypeId} {cs : Array Value} (h : Own w0 W L) (hg : g = W.heap.size) (hn : W'.heap[g]? = some (.cells cs t (0, 0))) (hb : Below W.heap.size W W') : Own w0 W' ((g, t, cs.toList) :: L) :=
  ⟨below_step h.below hb, h.bx.new hg hn hb, fun x hx => by
    rcases List.mem_cons.1 hx with rfl | hx
    · rw [hg]; exact h.below.size
    · exact h.ge x hx⟩
theorem Own.step {w0 W W' : World} {L : List Blk} (h : Own w0 W L) (hb : Below W.heap.size W W') : Own w0 W' L := ⟨below_step h.below hb, h.bx.below hb, h.ge⟩
theorem Own.drew {w0 W : World} {L : List Blk} (h : Own w0 W L) : Own w0 W.drew L := ⟨below_drew1 h.below, h.bx, h.ge⟩
theorem Own.drewN {w0 W : World} {L : List Blk} (h : Own w0 W L) (n : Nat) : Own w0 (W.drewN n) L := ⟨pw_below_drewN h.below n, h.bx, h.ge⟩
theorem Own.set {w0 W : World} {L : List Blk} (h : Own w0 W L) (i : Nat) {g : Nat} {t : TypeId} {cs : List Value} (hi : L[i]? = some (g, t, cs)) (j : Nat) (v : Value) : Own w0 (W.setCell ⟨g, j, none⟩ v) (L.set i (g, t, cs.set j v)) :=
  ⟨below_set h.below (h.ge _ (List.mem_of_getElem? hi)), h.bx.set i hi j v, fun x hx => by
    rcases List.mem_or_eq_of_mem_set hx with hx | rfl
    · exact h.ge x hx
    · exact (h.ge (g, t, cs) (List.mem_of_getElem? hi) : w0.heap.size ≤ g)⟩
theorem Own.put {w0 W W' : World} {L : List Blk} (h : Own w0 W L) (i : Nat) {g : Nat} {t : TypeId} {cs cs' : List Value} (hi : L[i]? = some (g, t, cs)) (hn : W'.heap[g]? = some (.cells cs'.toArray t (0, 0))) (hg : W.grownBy W' (some g)) : Own w0 W' (L.set i (g, t, cs')) :=
  ⟨⟨hg.os.trans h.below.os, hg.tape.trans h.below.tape, hg.output.trans h.below.output, Nat.le_trans h.below.size hg.size, fun k hk => (hg.block k (Nat.lt_of_lt_of_le hk h.below.size) (fun e => by injection e with e; have := h.ge _ (List.mem_of_getElem? hi); simp only at this; omega)).trans (h.below.block k hk)⟩, h.bx.put i hi hn (fun k hk hne => hg.block k hk (fun e => hne (by injection e))), fun x hx => by
    rcases List.mem_or_eq_of_mem_set hx with hx | rfl
    · exact h.ge x hx
    · exact (h.ge (g, t, cs) (List.mem_of_getElem? hi) : w0.heap.size ≤ g)⟩
theorem Own.stays {w0 W W' : World} {L : List Blk} {base : Nat} {ok : Nat → Prop} (h : Own w0 W L) (hs : Stays W W' base ok) (hb : w0.heap.size ≤ base) (hok : ∀ k, ok k → k ∉ L.map (·.1)) : Own w0 W' L :=
  ⟨⟨hs.os.trans h.below.os, hs.tape.trans h.below.tape, hs.output.trans h.below.output, Nat.le_trans h.below.size hs.size, fun k hk => (hs.block k (Nat.lt_of_lt_of_le hk h.below.size) (fun e => by omega)).trans (h.below.block k hk)⟩, h.bx.keep (fun k hk hm => hs.block k hk (fun e => hok k e.2 hm)), h.ge⟩
theorem Own.cell {w0 W : World} {L : List Blk} (h : Own w0 W L) (i : Nat) {g : Nat} {t : TypeId} {cs : List Value} (hi : L[i]? = some (g, t, cs)) (j : Nat) {v : Value} (hv : cs[j]? = some v) : W.cell? ⟨g, j, none⟩ = some v := h.bx.cell i hi j hv
theorem Own.frozen {w0 W : World} {L : List Blk} (h : Own w0 W L) (i : Nat) {g : Nat} {t : TypeId} {cs : List Value} (hi : L[i]? = some (g, t, cs)) (j : Nat) : W.frozen? ⟨g, j, none⟩ = false := h.bx.frozen i hi j
theorem Own.at_ {w0 W : World} {L : List Blk} (h : Own w0 W L) (i : Nat) {g : Nat} {t : TypeId} {cs : List Value} (hi : L[i]? = some (g, t, cs)) : W.heap[g]? = some (.cells cs.toArray t (0, 0)) := h.bx.at_ i hi
theorem Own.far {w0 W W' : World} {L : List Blk} (h : Own w0 W L) {g : Nat} {t : TypeId} {cs : Array Value} (hg : W.heap[g]? = some (.cells cs t (0, 0))) (ht : ∀ x ∈ L, x.2.1 ≠ t) (hge : w0.heap.size ≤ g) (hgr : W.grownBy W' (some g)) : Own w0 W' L :=
  ⟨⟨hgr.os.trans h.below.os, hgr.tape.trans h.below.tape, hgr.output.trans h.below.output, Nat.le_trans h.below.size hgr.size, fun k hk => (hgr.block k (Nat.lt_of_lt_of_le hk h.below.size) (fun e => by injection e with e; omega)).trans (h.below.block k hk)⟩,
    h.bx.keep (fun k hk hm => hgr.block k hk (fun e => by
      injection e with e
      subst e
      obtain ⟨x, hx, rfl⟩ := List.mem_map.1 hm
      have := h.bx.2 x hx
      rw [hg] at this
      injection this with this
      injection this with _ this
      exact ht x hx this.symm)), h.ge⟩
theorem Own.ne {w0 W : World} {L : List Blk} (h : Own w0 W L) (i : Nat) {g g1 : Nat} {t t1 : TypeId} {cs : List Value} {cs1 : Array Value} (hi : L[i]? = some (g1, t1, cs)) (hg : W.heap[g]? = some (.cells cs1 t (0, 0))) (ht : t ≠ t1) : g ≠ g1 := fun e => by
  have := h.at_ i hi
  rw [← e, hg] at this
  injection this with this
  injection this with _ this
  exact ht this
theorem Own.tail {w0 W : World} {x : Blk} {L : List Blk} (h : Own w0 W (x :: L)) : Own w0 W L := ⟨h.below, ⟨(List.nodup_cons.1 (by simpa using h.bx.1)).2, fun y hy => h.bx.2 y (List.mem_cons_of_mem _ hy)⟩, fun y hy => h.ge y (List.mem_cons_of_mem _ hy)⟩
theorem make_event {P : Program} {ops : Array Oper} {rest : List Oper} {o : Oper} {a : Act} {Q : Exit → Act → World → Prop} {W : World} {cs : Array Value} {t : TypeId} {n : Nat} (hgd : o.guard = none) {N : Tmp} (_hd : o.dst = some N)
    (hrun : (execOp a.eval o).run P W = .ok (.value (.slice (some ⟨W.heap.size, 0, none⟩) n n)) (W.alloc (.cells cs t (0, 0))))
    (h : ∀ g, g = W.heap.size → ∀ w1, w1.heap[g]? = some (.cells cs t (0, 0)) → Below W.heap.size W w1 → wpList P ops Q rest (a.put o.dst (.slice (some ⟨g, 0, none⟩) n n)) w1) : wpList P ops Q (o :: rest) a W :=
  Kd.event_run hgd hrun (h _ rfl _ (blk_new W _) (below_alloc (Below.refl _ _) _))
end Go.Proofs.Ytfdiagegpahcoaa.Mat
namespace Go.Proofs.Ytfdiagegpahcoaa.Mat
open Go.RowKit Go.Proofs.YtfdiagegpahcoaaW.PrintWords
theorem made_nil (l : List (List Int)) (n : Nat) : (madeCells #[Value.slice none 0 0] n).toList.toArray = (hd [] l ++ List.replicate (n - ([] : List Nat).length) (Value.slice none 0 0)).toArray := by
  congr 1
  apply List.ext_getElem?
  intro j
  simp only [madeCells, hd, List.zipWith_nil_left, List.nil_append, List.length_nil, Nat.sub_zero, List.getElem?_replicate, Array.toList_map, Array.toList_range, List.getElem?_map]
  by_cases hj : j < n
  · rw [if_pos hj, List.getElem?_range hj]
    simp [Nat.mod_one]
  · rw [if_neg hj, List.getElem?_eq_none (by simpa using hj)]
    rfl
theorem made_zero (n : Nat) : (madeCells #[Value.int .i64 0] n).toList = List.replicate n (Value.int .i64 0) := by
  apply List.ext_getElem?
  intro j
  simp only [madeCells, List.getElem?_replicate, Array.toList_map, Array.toList_range, List.getElem?_map]
  by_cases hj : j < n
  · rw [if_pos hj, List.getElem?_range hj]
    simp [Nat.mod_one]
  · rw [if_neg hj, List.getElem?_eq_none (by simpa using hj)]
    rfl
theorem Built.start {w : World} {base g : Nat} {l : List (List Int)} (hb : base ≤ g) (h : w.heap[g]? = some (.cells (hd [] l ++ List.replicate (l.length - ([] : List Nat).length) (Value.slice none 0 0)).toArray 22 (0, 0))) : Built w base g l.length [] l :=
  ⟨Nat.zero_le _, rfl, hb, by simp, by simp, h, by simp⟩
theorem Built.next_nil {w : World} {base g n : Nat} {G : List Nat} {l : List (List Int)} (h : Built w base g n G l) {x : Nat} (hx : x = G.length) (hl : x < n) : (hd G l ++ List.replicate (n - G.length) (Value.slice none 0 0)).toArray[x]? = some (.slice none 0 0) := by
  subst hx
  have := h.ln
  rw [List.getElem?_toArray, List.getElem?_append_right (by rw [hd_length (by omega)]; omega), hd_length (by omega), Nat.sub_self, List.getElem?_replicate, if_pos (by omega)]
theorem Built.head_len {w : World} {base g n : Nat} {G : List Nat} {l : List (List Int)} (h : Built w base g n G l) : (hd G l ++ List.replicate (n - G.length) (Value.slice none 0 0)).length = n := by
  have := h.ln
  have := h.len
  rw [List.length_append, hd_length (by omega), List.length_replicate]; omega
theorem Own.drop1 {w0 W : World} {x y : Blk} {L : List Blk} (h : Own w0 W (x :: y :: L)) : Own w0 W (x :: L) :=
  ⟨h.below, ⟨by have := h.bx.1; simp only [List.map_cons, List.nodup_cons, List.mem_cons, not_or] at this ⊢; exact ⟨this.1.2, this.2.2⟩, fun z hz => h.bx.2 z (by rcases List.mem_cons.1 hz with rfl | hz; exact List.mem_cons_self; exact List.mem_cons_of_mem _ (List.mem_cons_of_mem _ hz))⟩, fun z hz => h.ge z (by rcases List.mem_cons.1 hz with rfl | hz; exact List.mem_cons_self; exact List.mem_cons_of_mem _ (List.mem_cons_of_mem _ hz))⟩
theorem wpList_copy_in {P : Program} {ops : Array Oper} {rest : List Oper} {o : Oper} {a : Act} {w : World} {Q : Exit → Act → World → Prop} (hgd : o.guard = none) (d s : Operand) (dT sT : TypeId)
    (ho : o.op = .call { callee := .builtin .copy, args := #[d, s], argTypes := #[dT, sT] }) (elem : TypeId) (hu : P.underlying dT = some (.slice elem)) (hsz : (P.info? elem).map (·.size) = some 1)
    (dp sp : Option Addr) (dLen dCap sLen sCap : Nat) (hd : a.eval d = .slice dp dLen dCap) (hs : a.eval s = .slice sp sLen sCap)
    (g off : Nat) (cur : List Value) (t : TypeId) (hg : w.heap[g]? = some (.cells cur.toArray t (0, 0))) (cs : List Value) (hn : cs.length = Nat.min sLen dLen)
    (hpos : 0 < cs.length → dp = some ⟨g, off, none⟩ ∧ ∃ ad, sp = some ad ∧ ∀ j v, cs[j]? = some v → w.cell? (ad.add j) = some v)
    (hfit : off + cs.length ≤ cur.length) (h1 : ∀ v ∈ cs, v.oneCell' = true)
    (h : ∀ w', w'.heap[g]? = some (.cells (splice cur off cs).toArray t (0, 0)) → w.grownBy w' (some g) → wpList P ops Q rest (a.put o.dst (goInt cs.length)) w') : wpList P ops Q (o :: rest) a w := by
  refine wpList_plain hgd fun K hK => ?_
  have := step_copy_in (P := P) (ops := ops) (o := o) (a := a) (w := w) (K := K) (Q := Q) (E := True) hgd d s dT sT ho elem hu hsz dp sp dLen dCap sLen sCap hd hs g off cur t hg cs hn hpos hfit h1 (fun w' h2 h3 => hK _ _ (h w' h2 h3))
  rwa [if_pos (show Region.wanted o (yielded ops a.tmps) = true by simp [Region.wanted, hgd])] at this
theorem splice_all {cur cs : List Value} (h : cs.length = cur.length) : splice cur 0 cs = cs := by
  unfold splice
  rw [List.take_zero, List.nil_append, List.drop_eq_nil_of_le (by omega), List.append_nil]
theorem reads_pos {w W : World} {A : Option Addr} {r : List Int} (h : Kd.C (Kd.int .i64) w A r.length r) (hb : Below w.heap.size w W) : 0 < r.length → ∃ ad, A = some ad ∧ ∀ j v, (r.map (Value.int .i64))[j]? = some v → W.cell? (ad.add j) = some v := by
  intro h0
  obtain ⟨ad, e, hc⟩ := h.2.2 h0
  refine ⟨ad, e, fun j v hj => ?_⟩
  rw [List.getElem?_map] at hj
  obtain ⟨p, hp, rfl⟩ := Option.map_eq_some_iff.1 hj
  obtain ⟨c, _, hK, hcc⟩ := hc j p hp
  obtain rfl : c = [.int .i64 p] := hK
  have := hcc 0 _ rfl
  exact pw_cell_below hb (by simpa [Kd.int, Kd.scalar] using this)
end Go.Proofs.Ytfdiagegpahcoaa.Mat
