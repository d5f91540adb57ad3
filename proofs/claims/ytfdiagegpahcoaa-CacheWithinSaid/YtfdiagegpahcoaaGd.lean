import Derived.Test.YtfdiagegpahcoaaRepeat
import Derived.Test.YtfdiagegpahcoaaUse
namespace Go.Proofs.Ytfdiagegpahcoaa.Mat
open Go.RowKit Go.Proofs.YtfdiagegpahcoaaW.PrintWords Go.Proofs.Ytfdiagegpahcoaa.QCa
/-- As Own, in a call that also turns the deck's block g. -/
structure OwnG (w0 w W : World) (g : Nat) (L : List Blk) : Prop where
  below : Below w0.heap.size w0 W
  keep : KeepBut w W g none
  lo : w0.heap.size ≤ g
  lt : g < w.heap.size
  base : w0.heap.size ≤ w.heap.size
  bx : Bx W L
  ge : ∀ x ∈ L, w.heap.size ≤ x.1
theorem OwnG.start {w0 w : World} {g : Nat} {s : List Int} {n : Int} (hB : Below w0.heap.size w0 w) (hI : IsS54 w0 w g s n) : OwnG w0 w w g [] := ⟨hB, KeepBut.refl _ _ _, hI.ge, hI.lt, hB.size, Bx.nil _, by simp⟩
theorem OwnG.step {w0 w W W' : World} {g : Nat} {L : List Blk} (h : OwnG w0 w W g L) (hb : Below W.heap.size W W') : OwnG w0 w W' g L :=
  ⟨below_step h.below hb, h.keep.trans (KeepBut.of_below hb g none) (.inl rfl), h.lo, h.lt, h.base, h.bx.below hb, h.ge⟩
theorem OwnG.new {w0 w W W' : World} {g a : Nat} {t : TypeId} {cs : Array Value} {L : List Blk} (h : OwnG w0 w W g L) (hg : a = W.heap.size) (hn : W'.heap[a]? = some (.cells cs t (0, 0))) (hb : Below W.heap.size W W') : OwnG w0 w W' g ((a, t, cs.toList) :: L) :=
  ⟨below_step h.below hb, h.keep.trans (KeepBut.of_below hb g none) (.inl rfl), h.lo, h.lt, h.base, h.bx.new hg hn hb, fun x hx => by
    rcases List.mem_cons.1 hx with rfl | hx
    · rw [hg]; exact h.keep.1
    · exact h.ge x hx⟩
theorem OwnG.drewN {w0 w W : World} {g : Nat} {L : List Blk} (h : OwnG w0 w W g L) (n : Nat) : OwnG w0 w (W.drewN n) g L := h.step (pw_below_drewN (Below.refl _ _) n)
theorem OwnG.drew {w0 w W : World} {g : Nat} {L : List Blk} (h : OwnG w0 w W g L) : OwnG w0 w W.drew g L := h.step (below_drew1 (Below.refl _ _))
theorem OwnG.set {w0 w W : World} {g : Nat} {L : List Blk} (h : OwnG w0 w W g L) (i : Nat) {a : Nat} {t : TypeId} {cs : List Value} (hi : L[i]? = some (a, t, cs)) (j : Nat) (v : Value) : OwnG w0 w (W.setCell ⟨a, j, none⟩ v) g (L.set i (a, t, cs.set j v)) := by
  have hge : w.heap.size ≤ a := h.ge _ (List.mem_of_getElem? hi)
  refine ⟨below_set h.below (Nat.le_trans h.base hge), h.keep.trans (KeepBut.of_grown (grown_set W a j v) g) (.inr ⟨a, rfl, hge⟩), h.lo, h.lt, h.base, h.bx.set i hi j v, fun x hx => ?_⟩
  rcases List.mem_or_eq_of_mem_set hx with hx | rfl
  · exact h.ge x hx
  · exact hge
theorem OwnG.stays {w0 w W W' : World} {g : Nat} {L : List Blk} {base : Nat} {ok : Nat → Prop} (h : OwnG w0 w W g L) (hs : Stays W W' base ok) (hb : w.heap.size ≤ base) (hok : ∀ k, ok k → k ∉ L.map (·.1)) : OwnG w0 w W' g L := by
  have h1 := h.base
  have h2 := h.keep.1
  exact ⟨⟨hs.os.trans h.below.os, hs.tape.trans h.below.tape, hs.output.trans h.below.output, Nat.le_trans h.below.size hs.size, fun k hk => (hs.block k (by omega) (fun e => by omega)).trans (h.below.block k hk)⟩,
    ⟨Nat.le_trans h2 hs.size, fun k hk hg _ => (hs.block k (by omega) (fun e => by omega)).trans (h.keep.2 k hk hg (by simp))⟩, h.lo, h.lt, h1, h.bx.keep (fun k hk hm => hs.block k hk (fun e => hok k e.2 hm)), h.ge⟩
theorem OwnG.next {w0 w W W' : World} {g : Nat} {L : List Blk} (h : OwnG w0 w W g L) (hk : KeepBut W W' g none) (hB : Below w0.heap.size w0 W') : OwnG w0 w W' g L :=
  ⟨hB, h.keep.trans hk (.inl rfl), h.lo, h.lt, h.base, h.bx.keep (fun k hlt hm => hk.2 k hlt (fun e => by
    obtain ⟨x, hx, rfl⟩ := List.mem_map.1 hm
    have := h.ge x hx
    have := h.lt
    omega) (by simp)), h.ge⟩
theorem OwnG.cell {w0 w W : World} {g : Nat} {L : List Blk} (h : OwnG w0 w W g L) (i : Nat) {a : Nat} {t : TypeId} {cs : List Value} (hi : L[i]? = some (a, t, cs)) (j : Nat) {v : Value} (hv : cs[j]? = some v) : W.cell? ⟨a, j, none⟩ = some v := h.bx.cell i hi j hv
theorem OwnG.frozen {w0 w W : World} {g : Nat} {L : List Blk} (h : OwnG w0 w W g L) (i : Nat) {a : Nat} {t : TypeId} {cs : List Value} (hi : L[i]? = some (a, t, cs)) (j : Nat) : W.frozen? ⟨a, j, none⟩ = false := h.bx.frozen i hi j
theorem OwnG.at_ {w0 w W : World} {g : Nat} {L : List Blk} (h : OwnG w0 w W g L) (i : Nat) {a : Nat} {t : TypeId} {cs : List Value} (hi : L[i]? = some (a, t, cs)) : W.heap[a]? = some (.cells cs.toArray t (0, 0)) := h.bx.at_ i hi
theorem deck_stays {w0 w W W' : World} {g : Nat} {s : List Int} {n : Int} {L : List Blk} {base : Nat} {ok : Nat → Prop} (h : IsS54 w0 W g s n) (hO : OwnG w0 w W g L) (hs : Stays W W' base ok) (hb : w.heap.size ≤ base) : IsS54 w0 W' g s n := by
  obtain ⟨A0, c0, h1, h2, h3⟩ := h
  have := hO.lt
  exact ⟨A0, c0, (hs.block g (blk_lt h1) (fun e => by omega)).trans h1, h2, h3⟩
theorem deck_set {w0 w W : World} {g : Nat} {s : List Int} {n : Int} {L : List Blk} (h : IsS54 w0 W g s n) (hO : OwnG w0 w W g L) (i : Nat) {a : Nat} {t : TypeId} {cs : List Value} (hi : L[i]? = some (a, t, cs)) (j : Nat) (v : Value) : IsS54 w0 (W.setCell ⟨a, j, none⟩ v) g s n := by
  have h1 : w.heap.size ≤ a := hO.ge _ (List.mem_of_getElem? hi)
  have h2 := hO.lt
  exact h.far (by show g ≠ a; omega) v
end Go.Proofs.Ytfdiagegpahcoaa.Mat
namespace Go.Proofs.Ytfdiagegpahcoaa.QCa
open Go.RowKit Go.Proofs.YtfdiagegpahcoaaW.PrintWords Mat
def emptyP (c0 c1 : Int) : List (List Int) := List.replicate c0.toNat (List.replicate c1.toNat (-1))
theorem refCheck_eq (c0 c1 c2 : Int) : timeboundref22_Check.f c0 c1 c2 = some (if confOk c0 c1 c2 then 0 else 3) := by
  unfold timeboundref22_Check.f
  by_cases a1 : c0 < 0
  · rw [if_pos a1, if_neg (show ¬ confOk c0 c1 c2 from fun h => by have := h.1; have := h.2.1; have := h.2.2; omega)]
  by_cases a2 : c0 > 8
  · rw [if_neg a1, if_pos a2, if_neg (show ¬ confOk c0 c1 c2 from fun h => by have := h.1; have := h.2.1; have := h.2.2; omega)]
  by_cases a3 : c1 < 1
  · rw [if_neg a1, if_neg a2, if_pos a3, if_neg (show ¬ confOk c0 c1 c2 from fun h => by have := h.1; have := h.2.1; have := h.2.2; omega)]
  by_cases a4 : c1 > 4
  · rw [if_neg a1, if_neg a2, if_neg a3, if_pos a4, if_neg (show ¬ confOk c0 c1 c2 from fun h => by have := h.1; have := h.2.1; have := h.2.2; omega)]
  by_cases a5 : c2 < 1
  · rw [if_neg a1, if_neg a2, if_neg a3, if_neg a4, if_pos a5, if_neg (show ¬ confOk c0 c1 c2 from fun h => by have := h.1; have := h.2.1; have := h.2.2; omega)]
  by_cases a6 : c2 > 8
  · rw [if_neg a1, if_neg a2, if_neg a3, if_neg a4, if_neg a5, if_pos a6, if_neg (show ¬ confOk c0 c1 c2 from fun h => by have := h.1; have := h.2.1; have := h.2.2; omega)]
  rw [if_neg a1, if_neg a2, if_neg a3, if_neg a4, if_neg a5, if_neg a6, if_pos (show confOk c0 c1 c2 from ⟨⟨by omega, by omega⟩, ⟨by omega, by omega⟩, by omega, by omega⟩)]
theorem rempty_l1 {c0 c1 c2 x4 : Int} {acc : List (List Int)} (h1 : c1 ≤ 4) (ha : acc.length < 10) : ∀ (n m : Nat), (m : Int) + n = c1 → ∀ k, n + 1 ≤ k → timeboundref22_Empty.l1 k x4 (List.replicate m (-1)) m c0 c1 c2 acc = timeboundref22_Empty.l0 (k - n - 1) (wrap64 (x4 + 1)) c0 c1 c2 (acc ++ [List.replicate (m + n) (-1)]) := by
  intro n
  induction n with
  | zero =>
    intro m hm k hk
    obtain ⟨k, rfl⟩ : ∃ k', k = k' + 1 := ⟨k - 1, by omega⟩
    simp only [timeboundref22_Empty.l1]
    rw [if_neg (by omega), if_pos (by omega)]
    rfl
  | succ n ih =>
    intro m hm k hk
    obtain ⟨k, rfl⟩ : ∃ k', k = k' + 1 := ⟨k - 1, by omega⟩
    simp only [timeboundref22_Empty.l1]
    rw [if_pos (by omega), if_pos (by rw [List.length_replicate]; omega), w64 (by omega) (by omega)]
    have := ih (m + 1) (by omega) k (by omega)
    rw [show ((m : Int) + 1) = ((m + 1 : Nat) : Int) by omega, ← List.replicate_succ' , this]
    congr 1
    · omega
    · rw [show m + 1 + n = m + (n + 1) by omega]
theorem rempty_l0 {c0 c1 c2 : Int} (hc : confOk c0 c1 c2) : ∀ (n m : Nat), (m : Int) + n = c0 → ∀ k, 10 * n + 2 ≤ k → timeboundref22_Empty.l0 k m c0 c1 c2 (List.replicate m (List.replicate c1.toNat (-1))) = some (List.replicate (m + n) (List.replicate c1.toNat (-1))) := by
  obtain ⟨h0, h1, h2⟩ := id hc
  intro n
  induction n with
  | zero =>
    intro m hm k hk
    obtain ⟨k, rfl⟩ : ∃ k', k = k' + 2 := ⟨k - 2, by omega⟩
    simp only [timeboundref22_Empty.l0, timeboundref22_Empty.j1]
    rw [if_neg (by omega), if_neg (by decide)]
    rfl
  | succ n ih =>
    intro m hm k hk
    obtain ⟨k, rfl⟩ : ∃ k', k = k' + 2 := ⟨k - 2, by omega⟩
    simp only [timeboundref22_Empty.l0, timeboundref22_Empty.j1]
    rw [if_pos (by omega), refCheck_eq, if_pos hc]
    simp only [Option.bind_some]
    rw [if_pos (by decide)]
    have := rempty_l1 (c0 := c0) (c1 := c1) (c2 := c2) (x4 := m) (acc := List.replicate m (List.replicate c1.toNat (-1))) h1.2 (by simp; omega) c1.toNat 0 (by omega) k (by omega)
    rw [show ((0 : Nat) : Int) = 0 from rfl, List.replicate_zero] at this
    rw [this, Nat.zero_add, ← List.replicate_succ', w64 (by omega) (by omega), show ((m : Int) + 1) = ((m + 1 : Nat) : Int) by omega, ih (m + 1) (by omega) _ (by omega)]
    congr 2
    omega
theorem rempty_ev {c0 c1 c2 : Int} (hc : confOk c0 c1 c2) {k : Nat} (hk : 100 ≤ k) : timeboundref22_Empty.f k c0 c1 c2 = some (emptyP c0 c1) := by
  have h0 := hc.1
  have := rempty_l0 hc c0.toNat 0 (by omega) k (by omega)
  rw [Nat.zero_add] at this
  exact this
end Go.Proofs.Ytfdiagegpahcoaa.QCa
