import Derived.Test.YtjoddcfcolhimaaQFrx16
/- A call's own blocks, all in one fact. -/
namespace Go.Proofs.Ytjoddcfcolhimaa.Ow
open Go.RowKit Go.Proofs.YtjoddcfcolhimaaW.PrintWords
abbrev Blk := Nat × TypeId × List Value
def Bx (w : World) (L : List Blk) : Prop := (L.map (·.1)).Nodup ∧ ∀ x ∈ L, w.heap[x.1]? = some (.cells x.2.2.toArray x.2.1 (0, 0))
theorem Bx.nil (w : World) : Bx w [] := ⟨by simp, by simp⟩
theorem Bx.keep {w w' : World} {L : List Blk} (h : Bx w L) (hk : ∀ k, k < w.heap.size → k ∈ L.map (·.1) → w'.heap[k]? = w.heap[k]?) : Bx w' L :=
  ⟨h.1, fun x hx => (hk _ (blk_lt (h.2 x hx)) (List.mem_map_of_mem hx)).trans (h.2 x hx)⟩
theorem Bx.below {w w' : World} {L : List Blk} (h : Bx w L) (hb : Below w.heap.size w w') : Bx w' L := h.keep (fun k hk _ => hb.block k hk)
theorem Bx.drew {w : World} {L : List Blk} (h : Bx w L) : Bx w.drew L := h
theorem Bx.drewN {w : World} {L : List Blk} (h : Bx w L) (n : Nat) : Bx (w.drewN n) L := h
theorem Bx.new {w w' : World} {L : List Blk} {g : Nat} {t : TypeId} {cs : Array Value} (h : Bx w L) (hg : g = w.heap.size) (hn : w'.heap[g]? = some (.cells cs t (0, 0))) (hb : Below w.heap.size w w') : Bx w' ((g, t, cs.toList) :: L) := by
  refine ⟨?_, fun x hx => ?_⟩
  · rw [List.map_cons, List.nodup_cons]
    refine ⟨fun hm => ?_, h.1⟩
    obtain ⟨x, hx, he⟩ := List.mem_map.1 hm
    have := blk_lt (h.2 x hx)
    simp only at he
    omega
  · rcases List.mem_cons.1 hx with rfl | hx
    · simpa using hn
    · exact (hb.block _ (blk_lt (h.2 x hx))).trans (h.2 x hx)
theorem Bx.at_ {w : World} {L : List Blk} (h : Bx w L) (i : Nat) {g : Nat} {t : TypeId} {cs : List Value} (hi : L[i]? = some (g, t, cs)) : w.heap[g]? = some (.cells cs.toArray t (0, 0)) := h.2 _ (List.mem_of_getElem? hi)
theorem Bx.cell {w : World} {L : List Blk} (h : Bx w L) (i : Nat) {g : Nat} {t : TypeId} {cs : List Value} (hi : L[i]? = some (g, t, cs)) (j : Nat) {v : Value} (hv : cs[j]? = some v) : w.cell? ⟨g, j, none⟩ = some v := by
  rw [blk_cell (h.at_ i hi) j]; simpa using hv
theorem Bx.frozen {w : World} {L : List Blk} (h : Bx w L) (i : Nat) {g : Nat} {t : TypeId} {cs : List Value} (hi : L[i]? = some (g, t, cs)) (j : Nat) : w.frozen? ⟨g, j, none⟩ = false := blk_frozen (h.at_ i hi) j
theorem Bx.put {w w' : World} {L : List Blk} (h : Bx w L) (i : Nat) {g : Nat} {t : TypeId} {cs cs' : List Value} (hi : L[i]? = some (g, t, cs)) (hn : w'.heap[g]? = some (.cells cs'.toArray t (0, 0))) (hk : ∀ k, k < w.heap.size → k ≠ g → w'.heap[k]? = w.heap[k]?) : Bx w' (L.set i (g, t, cs')) := by
  obtain ⟨hil, hig⟩ := List.getElem?_eq_some_iff.1 hi
  have hmap : (L.set i (g, t, cs')).map (·.1) = L.map (·.1) := by
    rw [List.map_set]
    apply List.ext_getElem?
    intro j
    rw [List.getElem?_set]
    split
    · next e => subst e; rw [List.length_map, if_pos hil, List.getElem?_map, hi]; rfl
    · rfl
  refine ⟨by rw [hmap]; exact h.1, fun x hx => ?_⟩
  obtain ⟨j, hj, rfl⟩ := List.getElem_of_mem hx
  have hjl : j < L.length := by simpa using hj
  rw [List.getElem_set]
  split
  · exact hn
  · next hne =>
    have h2 := h.2 _ (List.getElem_mem hjl)
    refine (hk _ (blk_lt h2) (fun e => hne ?_)).trans h2
    have e2 : (L.map (·.1))[i]'(by simpa using hil) = (L.map (·.1))[j]'(by simpa using hjl) := by simp [hig, e]
    exact (List.getElem_inj h.1).1 e2
theorem Bx.set {w : World} {L : List Blk} (h : Bx w L) (i : Nat) {g : Nat} {t : TypeId} {cs : List Value} (hi : L[i]? = some (g, t, cs)) (j : Nat) (v : Value) : Bx (w.setCell ⟨g, j, none⟩ v) (L.set i (g, t, cs.set j v)) :=
  h.put i hi (by rw [blk_put (h.at_ i hi) j v rfl]; simp) (fun k _ hne => Below.heap_setCell w ⟨g, j, none⟩ v k hne)
/-- The world W of a call that began at w0, and its own blocks. -/
structure Own (w0 W : World) (L : List Blk) : Prop where
  below : Below w0.heap.size w0 W
  bx : Bx W L
  ge : ∀ x ∈ L, w0.heap.size ≤ x.1
theorem Own.start (w : World) : Own w w [] := ⟨Below.refl _ _, Bx.nil _, by simp⟩
theorem Own.new {w0 W W' : World} {L : List Blk} {g : Nat} {t : TypeId} {cs : Array Value} (h : Own w0 W L) (hg : g = W.heap.size) (hn : W'.heap[g]? = some (.cells cs t (0, 0))) (hb : Below W.heap.size W W') : Own w0 W' ((g, t, cs.toList) :: L) :=
  ⟨below_step h.below hb, h.bx.new hg hn hb, fun x hx => by
    rcases List.mem_cons.1 hx with rfl | hx
    · rw [hg]; exact h.below.size
    · exact h.ge x hx⟩
theorem Own.step {w0 W W' : World} {L : List Blk} (h : Own w0 W L) (hb : Below W.heap.size W W') : Own w0 W' L := ⟨below_step h.below hb, h.bx.below hb, h.ge⟩
theorem Own.drew {w0 W : World} {L : List Blk} (h : Own w0 W L) : Own w0 W.drew L := ⟨below_drew1 h.below, h.bx, h.ge⟩
theorem Own.drewN {w0 W : World} {L : List Blk} (h : Own w0 W L) (n : Nat) : Own w0 (W.drewN n) L := ⟨pw_below_drewN h.below n, h.bx, h.ge⟩
theorem Own.set {w0 W : World} {L : List Blk} (h : Own w0 W L) (i : Nat) {g : Nat} {t : TypeId} {cs : List Value} (hi : L[i]? = some (g, t, cs)) (j : Nat) (v : Value) : Own w0 (W.setCell ⟨g, j, none⟩ v) (L.set i (g, t, cs.set j v)) :=
  ⟨below_set h.below (h.ge _ (List.mem_of_getElem? hi)), h.bx.set i hi j v, fun x hx => by
    rcases List.mem_or_eq_of_mem_set hx with hx | rfl
    · exact h.ge x hx
    · exact (h.ge (g, t, cs) (List.mem_of_getElem? hi) : w0.heap.size ≤ g)⟩
theorem Own.cell {w0 W : World} {L : List Blk} (h : Own w0 W L) (i : Nat) {g : Nat} {t : TypeId} {cs : List Value} (hi : L[i]? = some (g, t, cs)) (j : Nat) {v : Value} (hv : cs[j]? = some v) : W.cell? ⟨g, j, none⟩ = some v := h.bx.cell i hi j hv
theorem Own.frozen {w0 W : World} {L : List Blk} (h : Own w0 W L) (i : Nat) {g : Nat} {t : TypeId} {cs : List Value} (hi : L[i]? = some (g, t, cs)) (j : Nat) : W.frozen? ⟨g, j, none⟩ = false := h.bx.frozen i hi j
theorem Own.at_ {w0 W : World} {L : List Blk} (h : Own w0 W L) (i : Nat) {g : Nat} {t : TypeId} {cs : List Value} (hi : L[i]? = some (g, t, cs)) : W.heap[g]? = some (.cells cs.toArray t (0, 0)) := h.bx.at_ i hi
theorem Own.tail {w0 W : World} {x : Blk} {L : List Blk} (h : Own w0 W (x :: L)) : Own w0 W L := ⟨h.below, ⟨(List.nodup_cons.1 (by simpa using h.bx.1)).2, fun y hy => h.bx.2 y (List.mem_cons_of_mem _ hy)⟩, fun y hy => h.ge y (List.mem_cons_of_mem _ hy)⟩
theorem Own.alloc {w0 W : World} {L : List Blk} (h : Own w0 W L) (cs : List Value) (t : TypeId) : Own w0 (W.alloc (.cells cs.toArray t (0, 0))) ((W.heap.size, t, cs) :: L) :=
  h.new rfl (blk_new W _) (below_alloc (Below.refl _ _) _)
theorem Own.allocN {w0 W : World} {L : List Blk} (h : Own w0 W L) (n : Nat) (hn : n = W.heap.size) (cs : List Value) (t : TypeId) : Own w0 (W.alloc (.cells cs.toArray t (0, 0))) ((n, t, cs) :: L) := by
  subst hn; exact h.alloc cs t
theorem size_alloc (W : World) (o : Obj) : W.heap.size + 1 = (W.alloc o).heap.size := by simp
theorem Own.lt {w0 W : World} {L : List Blk} (h : Own w0 W L) (i : Nat) {a : Nat} {t : TypeId} {cs : List Value} (hi : L[i]? = some (a, t, cs)) : a < W.heap.size := blk_lt (h.bx.at_ i hi)
theorem Own.nei {w0 W : World} {L : List Blk} (h : Own w0 W L) (i j : Nat) {a b : Nat} {t u : TypeId} {cs ds : List Value} (hi : L[i]? = some (a, t, cs)) (hj : L[j]? = some (b, u, ds)) (hij : i ≠ j) : a ≠ b := fun e => by
  obtain ⟨h1, e1⟩ := List.getElem?_eq_some_iff.1 hi
  obtain ⟨h2, e2⟩ := List.getElem?_eq_some_iff.1 hj
  refine hij ((List.getElem_inj (h₀ := by simpa using h1) (h₁ := by simpa using h2) h.bx.1).1 ?_)
  simp [e1, e2, e]
theorem Own.swap {w0 W : World} {x y : Blk} {L : List Blk} (h : Own w0 W (x :: y :: L)) : Own w0 W (y :: x :: L) := by
  have hm : ∀ z, z ∈ y :: x :: L ↔ z ∈ x :: y :: L := fun z => by simp only [List.mem_cons]; constructor <;> (intro h; rcases h with h | h | h <;> simp [h])
  refine ⟨h.below, ⟨?_, fun z hz => h.bx.2 z ((hm z).1 hz)⟩, fun z hz => h.ge z ((hm z).1 hz)⟩
  have := h.bx.1
  simp only [List.map_cons, List.nodup_cons, List.mem_cons, not_or] at this ⊢
  exact ⟨⟨Ne.symm this.1.1, this.2.1⟩, this.1.2, this.2.2⟩
abbrev wdOf {w0 W : World} {L : List Blk} (_h : Own w0 W L) : World := W
end Go.Proofs.Ytjoddcfcolhimaa.Ow
