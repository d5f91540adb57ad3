import Derived.Test.YtfdiagegpahcoaaLru
import Derived.Test.YtfdiagegpahcoaaQCbx3
import Derived.Test.YtfdiagegpahcoaaAw
/- A statement's own blocks, its deck and its matrices, all in one fact. -/
namespace Go.Proofs.Ytfdiagegpahcoaa.Mat
open Go.RowKit Go.Proofs.YtfdiagegpahcoaaW.PrintWords Go.Proofs.Ytfdiagegpahcoaa.QCa
/-- What was made: a matrix, a row. -/
inductive Mx where
  | mat (A : Option Addr) (c : Nat) (l : List (List Int))
  | row (A : Option Addr) (c : Nat) (l : List Int)
def HasS (W : World) : Mx → Prop
  | .mat A c l => ∃ base ok, Kd.S kr 22 W base ok (.slice A l.length c) l
  | .row A c l => ∃ base ok, Kd.R (Kd.int .i64) 3 W base ok (.slice A l.length c) l
theorem HasS.below {W W' : World} {m : Mx} (h : HasS W m) (hb : Below W.heap.size W W') : HasS W' m := by
  cases m with
  | mat A c l => obtain ⟨b, o, h⟩ := h; exact ⟨b, o, Kd.S_below h hb⟩
  | row A c l => obtain ⟨b, o, h⟩ := h; exact ⟨b, o, Kd.R_below h hb⟩
theorem HasS.set {W : World} {m : Mx} {a : Nat} {t : TypeId} {cs : Array Value} (h : HasS W m) (hblk : W.heap[a]? = some (.cells cs t (0, 0))) (hty : t = 29 ∨ t = 33) (j : Nat) (v : Value) : HasS (W.setCell ⟨a, j, none⟩ v) m := by
  cases m with
  | mat A c l =>
    obtain ⟨b, o, hS⟩ := h
    exact ⟨b, o, Kd.S_set hS hblk (by
      intro q hq
      have hq2 : q = 22 ∨ q = 3 := by simpa [Kd.slice, Kd.int, Kd.scalar] using hq
      rcases hty with rfl | rfl <;> rcases hq2 with rfl | rfl <;> decide) j v⟩
  | row A c l =>
    obtain ⟨b, o, hS⟩ := h
    exact ⟨b, o, Kd.R_set hS hblk (by
      intro q hq
      have hq2 : q = 3 := by simpa [Kd.slice, Kd.int, Kd.scalar] using hq
      rcases hty with rfl | rfl <;> subst hq2 <;> decide) j v⟩
theorem HasS.next {w0 W W' : World} {m : Mx} {g : Nat} {s : List Int} {p : Int} (h : HasS W m) (hI : IsS54 w0 W g s p) (hk : KeepBut W W' g none) : HasS W' m := by
  cases m with
  | mat A c l => obtain ⟨b, o, hS⟩ := h; exact ⟨b, _, Kd.S_keep (IsS54.apartS hI hS (by decide)) hk (fun k hk => hk.2)⟩
  | row A c l => obtain ⟨b, o, hS⟩ := h; exact ⟨b, _, Kd.R_keep (IsS54.apart hI hS (by decide)) hk (fun k hk => hk.2)⟩
def DeckIs (w0 W : World) (L : List Blk) : Option (Nat × List Int × Int) → Prop
  | none => True
  | some (g, s, p) => IsS54 w0 W g s p ∧ ∀ x ∈ L, x.1 ≠ g
structure OwnD (w0 W : World) (D : Option (Nat × List Int × Int)) (L : List Blk) (M : List Mx) : Prop where
  below : Below w0.heap.size w0 W
  bx : Bx W L
  ge : ∀ x ∈ L, w0.heap.size ≤ x.1
  ty : ∀ x ∈ L, x.2.1 = 29 ∨ x.2.1 = 33
  deck : DeckIs w0 W L D
  ms : ∀ m ∈ M, HasS W m
theorem OwnD.start (w : World) : OwnD w w none [] [] := ⟨Below.refl _ _, Bx.nil _, by simp, by simp, trivial, by simp⟩
theorem OwnD.step {w0 W W' : World} {D : Option (Nat × List Int × Int)} {L : List Blk} {M : List Mx} (h : OwnD w0 W D L M) (hb : Below W.heap.size W W') : OwnD w0 W' D L M :=
  ⟨below_step h.below hb, h.bx.below hb, h.ge, h.ty, by
    obtain _ | ⟨g, s, p⟩ := D
    · trivial
    · exact ⟨h.deck.1.below hb, h.deck.2⟩, fun m hm => (h.ms m hm).below hb⟩
theorem OwnD.drewN {w0 W : World} {D : Option (Nat × List Int × Int)} {L : List Blk} {M : List Mx} (h : OwnD w0 W D L M) (n : Nat) : OwnD w0 (W.drewN n) D L M := h.step (pw_below_drewN (Below.refl _ _) n)
theorem OwnD.drew {w0 W : World} {D : Option (Nat × List Int × Int)} {L : List Blk} {M : List Mx} (h : OwnD w0 W D L M) : OwnD w0 W.drew D L M := h.step (below_drew1 (Below.refl _ _))
theorem OwnD.new {w0 W W' : World} {D : Option (Nat × List Int × Int)} {a : Nat} {t : TypeId} {cs : Array Value} {L : List Blk} {M : List Mx} (h : OwnD w0 W D L M) (hg : a = W.heap.size) (hn : W'.heap[a]? = some (.cells cs t (0, 0))) (hb : Below W.heap.size W W') (ht : t = 29 ∨ t = 33 := by decide) : OwnD w0 W' D ((a, t, cs.toList) :: L) M := by
  have h' := h.step hb
  refine ⟨h'.below, h.bx.new hg hn hb, fun x hx => ?_, fun x hx => ?_, ?_, h'.ms⟩
  · rcases List.mem_cons.1 hx with rfl | hx
    · rw [hg]; exact h.below.size
    · exact h.ge x hx
  · rcases List.mem_cons.1 hx with rfl | hx
    · exact ht
    · exact h.ty x hx
  · obtain _ | ⟨g, s, p⟩ := D
    · trivial
    · refine ⟨h'.deck.1, fun x hx => ?_⟩
      rcases List.mem_cons.1 hx with rfl | hx
      · have := h.deck.1.lt
        show a ≠ g
        omega
      · exact h.deck.2 x hx
theorem OwnD.alloc {w0 W : World} {D : Option (Nat × List Int × Int)} {L : List Blk} {M : List Mx} (h : OwnD w0 W D L M) (cs : List Value) (t : TypeId) (ht : t = 29 ∨ t = 33 := by decide) : OwnD w0 (W.alloc (.cells cs.toArray t (0, 0))) D ((W.heap.size, t, cs) :: L) M :=
  h.new rfl (blk_new W _) (below_alloc (Below.refl _ _) _) ht
theorem OwnD.set {w0 W : World} {D : Option (Nat × List Int × Int)} {L : List Blk} {M : List Mx} (h : OwnD w0 W D L M) (i : Nat) {a : Nat} {t : TypeId} {cs : List Value} (hi : L[i]? = some (a, t, cs)) (j : Nat) (v : Value) : OwnD w0 (W.setCell ⟨a, j, none⟩ v) D (L.set i (a, t, cs.set j v)) M := by
  have hm := List.mem_of_getElem? hi
  have hge : w0.heap.size ≤ a := h.ge _ hm
  have hty : t = 29 ∨ t = 33 := h.ty _ hm
  have hblk := h.bx.at_ i hi
  have hmem : ∀ x ∈ L.set i (a, t, cs.set j v), x.1 ∈ L.map (·.1) ∧ (x.2.1 = 29 ∨ x.2.1 = 33) := fun x hx => by
    rcases List.mem_or_eq_of_mem_set hx with hx | rfl
    · exact ⟨List.mem_map_of_mem hx, h.ty x hx⟩
    · exact ⟨List.mem_map.2 ⟨_, hm, rfl⟩, hty⟩
  refine ⟨below_set h.below hge, h.bx.set i hi j v, fun x hx => ?_, fun x hx => (hmem x hx).2, ?_, fun m hm' => ?_⟩
  · obtain ⟨y, hy, e⟩ := List.mem_map.1 (hmem x hx).1
    rw [← e]; exact h.ge y hy
  · obtain _ | ⟨g, s, p⟩ := D
    · trivial
    · have hne : ∀ x ∈ L.set i (a, t, cs.set j v), x.1 ≠ g := fun x hx => by
        obtain ⟨y, hy, e⟩ := List.mem_map.1 (hmem x hx).1
        rw [← e]; exact h.deck.2 y hy
      exact ⟨h.deck.1.far (Ne.symm (h.deck.2 _ hm)) v, hne⟩
  · exact (h.ms m hm').set hblk hty j v
theorem OwnD.isDeck {w0 W : World} {g : Nat} {s : List Int} {p : Int} {L : List Blk} {M : List Mx} (h : OwnD w0 W (some (g, s, p)) L M) : IsS54 w0 W g s p := h.deck.1
theorem OwnD.lt {w0 W : World} {D : Option (Nat × List Int × Int)} {L : List Blk} {M : List Mx} (h : OwnD w0 W D L M) (i : Nat) {a : Nat} {t : TypeId} {cs : List Value} (hi : L[i]? = some (a, t, cs)) : a < W.heap.size := blk_lt (h.bx.at_ i hi)
theorem OwnD.at_ {w0 W : World} {D : Option (Nat × List Int × Int)} {L : List Blk} {M : List Mx} (h : OwnD w0 W D L M) (i : Nat) {a : Nat} {t : TypeId} {cs : List Value} (hi : L[i]? = some (a, t, cs)) : W.heap[a]? = some (.cells cs.toArray t (0, 0)) := h.bx.at_ i hi
theorem OwnD.allocN {w0 W : World} {D : Option (Nat × List Int × Int)} {L : List Blk} {M : List Mx} (h : OwnD w0 W D L M) (n : Nat) (hn : n = W.heap.size) (cs : List Value) (t : TypeId) (ht : t = 29 ∨ t = 33 := by decide) : OwnD w0 (W.alloc (.cells cs.toArray t (0, 0))) D ((n, t, cs) :: L) M := by
  subst hn; exact h.alloc cs t ht
theorem size_alloc (W : World) (o : Obj) : W.heap.size + 1 = (W.alloc o).heap.size := by simp
theorem OwnD.swap {w0 W : World} {D : Option (Nat × List Int × Int)} {x y : Blk} {L : List Blk} {M : List Mx} (h : OwnD w0 W D (x :: y :: L) M) : OwnD w0 W D (y :: x :: L) M := by
  have hm : ∀ z, z ∈ y :: x :: L ↔ z ∈ x :: y :: L := fun z => by simp only [List.mem_cons]; constructor <;> (intro h; rcases h with h | h | h <;> simp [h])
  refine ⟨h.below, ⟨?_, fun z hz => h.bx.2 z ((hm z).1 hz)⟩, fun z hz => h.ge z ((hm z).1 hz), fun z hz => h.ty z ((hm z).1 hz), ?_, h.ms⟩
  · have := h.bx.1
    simp only [List.map_cons, List.nodup_cons, List.mem_cons, not_or] at this ⊢
    exact ⟨⟨Ne.symm this.1.1, this.2.1⟩, this.1.2, this.2.2⟩
  · obtain _ | ⟨g, s, p⟩ := D
    · trivial
    · exact ⟨h.deck.1, fun z hz => h.deck.2 z ((hm z).1 hz)⟩
theorem OwnD.withDeck {w0 W W' : World} {g : Nat} {s : List Int} {p : Int} {M : List Mx} (h : OwnD w0 W none [] M) (hI : IsS54 w0 W' g s p) (hb : Below W.heap.size W W') : OwnD w0 W' (some (g, s, p)) [] M := by
  have h' := h.step hb
  exact ⟨h'.below, h'.bx, h'.ge, h'.ty, ⟨hI, by simp⟩, h'.ms⟩
theorem OwnD.next {w0 W W' : World} {g : Nat} {s : List Int} {p p' : Int} {L : List Blk} {M : List Mx} (h : OwnD w0 W (some (g, s, p)) L M) (hI : IsS54 w0 W' g s p') (hB : Below w0.heap.size w0 W') (hk : KeepBut W W' g none) : OwnD w0 W' (some (g, s, p')) L M := by
  refine ⟨hB, h.bx.keep (fun k hlt hm => hk.2 k hlt (fun e => ?_) (by simp)), h.ge, h.ty, ⟨hI, h.deck.2⟩, fun m hm => ?_⟩
  · obtain ⟨x, hx, rfl⟩ := List.mem_map.1 hm
    exact h.deck.2 x hx e
  · exact (h.ms m hm).next h.deck.1 hk
theorem OwnD.add {w0 W : World} {D : Option (Nat × List Int × Int)} {L : List Blk} {M : List Mx} {base : Nat} {ok : Nat → Prop} {A : Option Addr} {c : Nat} {l : List (List Int)} (h : OwnD w0 W D L M) (hS : Kd.S kr 22 W base ok (.slice A l.length c) l) : OwnD w0 W D L (.mat A c l :: M) :=
  ⟨h.below, h.bx, h.ge, h.ty, h.deck, fun m hm => by
    rcases List.mem_cons.1 hm with rfl | hm
    · exact ⟨_, _, hS⟩
    · exact h.ms m hm⟩
theorem OwnD.less {w0 W : World} {D : Option (Nat × List Int × Int)} {L : List Blk} {M M' : List Mx} (h : OwnD w0 W D L M) (hm : ∀ m ∈ M', m ∈ M) : OwnD w0 W D L M' := ⟨h.below, h.bx, h.ge, h.ty, h.deck, fun m hm' => h.ms m (hm m hm')⟩
theorem OwnD.tail {w0 W : World} {D : Option (Nat × List Int × Int)} {x : Blk} {L : List Blk} {M : List Mx} (h : OwnD w0 W D (x :: L) M) : OwnD w0 W D L M :=
  ⟨h.below, ⟨(List.nodup_cons.1 (by simpa using h.bx.1)).2, fun y hy => h.bx.2 y (List.mem_cons_of_mem _ hy)⟩, fun y hy => h.ge y (List.mem_cons_of_mem _ hy), fun y hy => h.ty y (List.mem_cons_of_mem _ hy), by
    obtain _ | ⟨g, s, p⟩ := D
    · trivial
    · exact ⟨h.deck.1, fun y hy => h.deck.2 y (List.mem_cons_of_mem _ hy)⟩, h.ms⟩
theorem OwnD.cell {w0 W : World} {D : Option (Nat × List Int × Int)} {L : List Blk} {M : List Mx} (h : OwnD w0 W D L M) (i : Nat) {a : Nat} {t : TypeId} {cs : List Value} (hi : L[i]? = some (a, t, cs)) (j : Nat) {v : Value} (hv : cs[j]? = some v) : W.cell? ⟨a, j, none⟩ = some v := h.bx.cell i hi j hv
theorem OwnD.frozen {w0 W : World} {D : Option (Nat × List Int × Int)} {L : List Blk} {M : List Mx} (h : OwnD w0 W D L M) (i : Nat) {a : Nat} {t : TypeId} {cs : List Value} (hi : L[i]? = some (a, t, cs)) (j : Nat) : W.frozen? ⟨a, j, none⟩ = false := h.bx.frozen i hi j
theorem OwnD.C {w0 W : World} {D : Option (Nat × List Int × Int)} {L : List Blk} {M : List Mx} (h : OwnD w0 W D L M) (i : Nat) {A : Option Addr} {c : Nat} {l : List (List Int)} (hi : M[i]? = some (.mat A c l)) : Kd.C kr W A l.length l := by
  obtain ⟨b, o, hS⟩ := h.ms _ (List.mem_of_getElem? hi)
  exact (Kd.S_reads' hS).2.2
theorem OwnD.cap {w0 W : World} {D : Option (Nat × List Int × Int)} {L : List Blk} {M : List Mx} (h : OwnD w0 W D L M) (i : Nat) {A : Option Addr} {c : Nat} {l : List (List Int)} (hi : M[i]? = some (.mat A c l)) : l.length ≤ c := by
  obtain ⟨b, o, hS⟩ := h.ms _ (List.mem_of_getElem? hi)
  exact (Kd.S_reads' hS).2.1
theorem OwnD.ne {w0 W : World} {D : Option (Nat × List Int × Int)} {L : List Blk} {M : List Mx} (h : OwnD w0 W D L M) (i j : Nat) {a b : Nat} {t u : TypeId} {cs ds : List Value} (hi : L[i]? = some (a, t, cs)) (hj : L[j]? = some (b, u, ds)) (hij : i ≠ j) : a ≠ b := fun e => by
  obtain ⟨h1, e1⟩ := List.getElem?_eq_some_iff.1 hi
  obtain ⟨h2, e2⟩ := List.getElem?_eq_some_iff.1 hj
  refine hij ((List.getElem_inj (h₀ := by simpa using h1) (h₁ := by simpa using h2) h.bx.1).1 ?_)
  simp [e1, e2, e]
theorem OwnD.R {w0 W : World} {D : Option (Nat × List Int × Int)} {L : List Blk} {M : List Mx} (h : OwnD w0 W D L M) (i : Nat) {A : Option Addr} {c : Nat} {l : List Int} (hi : M[i]? = some (.row A c l)) : l.length ≤ c ∧ Kd.C (Kd.int .i64) W A l.length l := by
  obtain ⟨b, o, hS⟩ := h.ms _ (List.mem_of_getElem? hi)
  exact ⟨(Kd.R_reads' hS).2.1, (Kd.R_reads' hS).2.2⟩
theorem OwnD.rcell {w0 W : World} {D : Option (Nat × List Int × Int)} {L : List Blk} {M : List Mx} (h : OwnD w0 W D L M) (i : Nat) {ad : Addr} {c : Nat} {l : List Int} (hi : M[i]? = some (.row (some ad) c l)) (j : Nat) {v : Int} (hj : l[j]? = some v) : W.cell? (ad.add j) = some (.int .i64 v) := by
  have hjl := (List.getElem?_eq_some_iff.1 hj).1
  obtain ⟨ad2, e, hx⟩ := Kd.at_int (h.R i hi).2 j (by omega) (by omega)
  cases e
  rw [Int.toNat_natCast] at hx
  simpa [rd, List.getD_eq_getElem?_getD, hj] using hx
theorem OwnD.rcell0 {w0 W : World} {D : Option (Nat × List Int × Int)} {L : List Blk} {M : List Mx} (h : OwnD w0 W D L M) (i : Nat) {ad : Addr} {c : Nat} {l : List Int} (hi : M[i]? = some (.row (some ad) c l)) {v : Int} (hj : l[0]? = some v) : W.cell? ad = some (.int .i64 v) := by
  have := h.rcell i hi 0 hj
  rwa [show ad.add 0 = ad from by cases ad; rfl] at this
theorem OwnD.rsome {w0 W : World} {D : Option (Nat × List Int × Int)} {L : List Blk} {M : List Mx} (h : OwnD w0 W D L M) (i : Nat) {A : Option Addr} {c : Nat} {l : List Int} (hi : M[i]? = some (.row A c l)) (hl : 0 < l.length) : ∃ ad, A = some ad := by
  obtain ⟨ad2, e, _⟩ := Kd.at_int (h.R i hi).2 0 (by omega) (by omega)
  exact ⟨ad2, e⟩
/-- A matrix that a callee made. -/
theorem OwnD.made {w0 W W' : World} {D : Option (Nat × List Int × Int)} {L : List Blk} {M : List Mx} {base : Nat} {ok : Nat → Prop} {v : Value} {l : List (List Int)} (h : OwnD w0 W D L M) (hS : Kd.S kr 22 W' base ok v l) (hb : Below W.heap.size W W') : ∃ A c, v = .slice A l.length c ∧ OwnD w0 W' D L (.mat A c l :: M) := by
  obtain ⟨A, c, rfl⟩ := Kd.S_slice hS
  exact ⟨A, c, rfl, (h.step hb).add hS⟩
theorem OwnD.madeNext {w0 W W' : World} {g : Nat} {s : List Int} {p p' : Int} {L : List Blk} {M : List Mx} {base : Nat} {ok : Nat → Prop} {v : Value} {l : List (List Int)} (h : OwnD w0 W (some (g, s, p)) L M) (hS : Kd.S kr 22 W' base ok v l) (hI : IsS54 w0 W' g s p') (hB : Below w0.heap.size w0 W') (hk : KeepBut W W' g none) : ∃ A c, v = .slice A l.length c ∧ OwnD w0 W' (some (g, s, p')) L (.mat A c l :: M) := by
  obtain ⟨A, c, rfl⟩ := Kd.S_slice hS
  exact ⟨A, c, rfl, (h.next hI hB hk).add hS⟩
/-- Beside all these, a row that grows. -/
def Apart (W : World) (v : Value) : Mx → Prop
  | .mat A c l => ∃ (base : Nat) (ok : Nat → Prop), Kd.S kr 22 W base (fun k => ok k ∧ some k ≠ v.ownBlock) (.slice A l.length c) l
  | .row _ _ _ => False
structure OwnA (w0 W : World) (D : Option (Nat × List Int × Int)) (L : List Blk) (M : List Mx) (v : Value) (l : List Int) : Prop where
  own : OwnD w0 W D L M
  apart : ∀ m ∈ M, Apart W v m
  row : Kd.R (Kd.int .i64) 3 W w0.heap.size (fun _ => True) v l
theorem OwnA.start {w0 W : World} {D : Option (Nat × List Int × Int)} {L : List Blk} {M : List Mx} (h : OwnD w0 W D L M) (hm : ∀ m ∈ M, ∃ A c l, m = .mat A c l) : OwnA w0 W D L M (.slice none 0 0) [] :=
  ⟨h, fun m hm' => by
    obtain ⟨A, c, l, rfl⟩ := hm m hm'
    obtain ⟨b, o, hS⟩ := h.ms _ hm'
    exact ⟨b, o, Kd.S_apart_nil hS⟩, Kd.R_nil _ _ _ _ _⟩
theorem OwnA.append {w0 W W1 : World} {D : Option (Nat × List Int × Int)} {L : List Blk} {M : List Mx} {v v1 : Value} {l l1 : List Int} (h : OwnA w0 W D L M v l) (ho : Kd.R (Kd.int .i64) 3 W1 w0.heap.size (fun _ => True) v1 l1) (hb : Below w0.heap.size w0 W1) (hg : W.grownBy W1 v.ownBlock) (hat : v1.ownBlock = v.ownBlock ∨ ∃ b, v1.ownBlock = some b ∧ W.heap.size ≤ b) : OwnA w0 W1 D L M v1 l1 := by
  have hap : ∀ m ∈ M, Apart W1 v1 m := fun m hm => by
    have := h.apart m hm
    cases m with
    | mat A c l => obtain ⟨b, o, hS⟩ := this; exact ⟨b, o, Kd.S_after hS hg hat⟩
    | row A c l => exact this.elim
  refine ⟨⟨hb, h.own.bx.keep (fun k hlt hm => hg.block k hlt (fun e => ?_)), h.own.ge, h.own.ty, ?_, fun m hm => ?_⟩, hap, ho⟩
  · obtain ⟨x, hx, rfl⟩ := List.mem_map.1 hm
    exact Kd.R_ne h.row (h.own.bx.2 x hx) (by rcases h.own.ty x hx with e | e <;> rw [e] <;> decide) e
  · obtain _ | ⟨g, s, p⟩ := D
    · trivial
    · exact ⟨h.own.deck.1.grown hg (h.own.deck.1.own_ne h.row (by decide)), h.own.deck.2⟩
  · have := hap m hm
    cases m with
    | mat A c l => obtain ⟨b, o, hS⟩ := this; exact ⟨b, _, hS⟩
    | row A c l => exact this.elim
theorem OwnA.done {w0 W : World} {D : Option (Nat × List Int × Int)} {L : List Blk} {M : List Mx} {v : Value} {l : List Int} (h : OwnA w0 W D L M v l) : ∃ A c, v = .slice A l.length c ∧ OwnD w0 W D L (.row A c l :: M) := by
  obtain ⟨A, c, rfl⟩ := Kd.R_slice h.row
  exact ⟨A, c, rfl, h.own.below, h.own.bx, h.own.ge, h.own.ty, h.own.deck, fun m hm => by
    rcases List.mem_cons.1 hm with rfl | hm
    · exact ⟨_, _, h.row⟩
    · exact h.own.ms m hm⟩
end Go.Proofs.Ytfdiagegpahcoaa.Mat
