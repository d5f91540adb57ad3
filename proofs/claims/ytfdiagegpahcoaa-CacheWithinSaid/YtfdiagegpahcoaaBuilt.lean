import Derived.Test.YtfdiagegpahcoaaMat
/- A matrix that is built row by row. -/
namespace Go.Proofs.Ytfdiagegpahcoaa.Mat
open Go.RowKit Go.Proofs.YtfdiagegpahcoaaW.PrintWords
def hd (G : List Nat) (l : List (List Int)) : List Value := List.zipWith (fun k (r : List Int) => .slice (some ⟨k, 0, none⟩) r.length r.length) G l
structure Built (w : World) (base g n : Nat) (G : List Nat) (l : List (List Int)) : Prop where
  len : G.length ≤ n
  ln : n = l.length
  gb : base ≤ g
  Gb : ∀ k ∈ G, base ≤ k ∧ k ≠ g
  nd : G.Nodup
  head : w.heap[g]? = some (.cells (hd G l ++ List.replicate (n - G.length) (Value.slice none 0 0)).toArray 22 (0, 0))
  row : ∀ (j k : Nat) (r : List Int), G[j]? = some k → l[j]? = some r → w.heap[k]? = some (.cells (r.map (Value.int .i64)).toArray 3 (0, 0))
theorem hd_length {G : List Nat} {l : List (List Int)} (h : G.length ≤ l.length) : (hd G l).length = G.length := by
  unfold hd; rw [List.length_zipWith]; omega
theorem Built.keep {w w' : World} {base g n : Nat} {G : List Nat} {l : List (List Int)} (h : Built w base g n G l) (hk : ∀ k, k < w.heap.size → w'.heap[k]? = w.heap[k]?) : Built w' base g n G l :=
  ⟨h.len, h.ln, h.gb, h.Gb, h.nd, (hk g (blk_lt h.head)).trans h.head, fun j k r h1 h2 => (hk k (blk_lt (h.row j k r h1 h2))).trans (h.row j k r h1 h2)⟩
theorem Built.next {w w' : World} {base g n gn : Nat} {G : List Nat} {l : List (List Int)} {r : List Int} (h : Built w base g n G l) (hlt : G.length < n) (hr : l[G.length]? = some r) (hn : w.heap.size ≤ gn) (hb : base ≤ w.heap.size)
    (hnew : w'.heap[gn]? = some (.cells (r.map (Value.int .i64)).toArray 3 (0, 0))) (hg : w'.heap[g]? = some (.cells ((hd G l ++ List.replicate (n - G.length) (Value.slice none 0 0)).set G.length (Value.slice (some ⟨gn, 0, none⟩) r.length r.length)).toArray 22 (0, 0)))
    (hk : ∀ k, k < w.heap.size → k ≠ g → w'.heap[k]? = w.heap[k]?) : Built w' base g n (G ++ [gn]) l := by
  have hgl := blk_lt h.head
  refine ⟨by simp; omega, h.ln, h.gb, fun k hk2 => ?_, ?_, ?_, fun j k r' h1 h2 => ?_⟩
  · rcases List.mem_append.1 hk2 with h2 | h2
    · exact h.Gb k h2
    · rw [List.mem_singleton.1 h2]; omega
  · rw [List.nodup_append]
    refine ⟨h.nd, by simp, fun a ha b hb2 => ?_⟩
    rw [List.mem_singleton.1 hb2]
    obtain ⟨j, hj, rfl⟩ := List.getElem_of_mem ha
    have hjl : j < l.length := by have := h.ln; omega
    have := blk_lt (h.row j G[j] l[j] (List.getElem?_eq_getElem hj) (List.getElem?_eq_getElem hjl))
    omega
  · rw [hg]
    congr 3
    have hl := h.ln
    have e1 : (hd G l).length = G.length := hd_length (by omega)
    rw [List.set_append, if_neg (by omega), e1, Nat.sub_self]
    have e2 : n - G.length = (n - (G ++ [gn]).length) + 1 := by simp; omega
    rw [e2, List.replicate_succ, List.set_cons_zero]
    have e3 : hd (G ++ [gn]) l = hd G l ++ [.slice (some ⟨gn, 0, none⟩) r.length r.length] := by
      have hl2 : l = l.take G.length ++ (r :: l.drop (G.length + 1)) := by
        have hlt2 : G.length < l.length := by omega
        rw [List.getElem?_eq_getElem hlt2] at hr
        obtain rfl := Option.some.inj hr
        rw [← List.drop_eq_getElem_cons hlt2, List.take_append_drop]
      unfold hd
      have e4 : (l.take G.length).length = G.length := by rw [List.length_take]; omega
      conv => lhs; rw [hl2]
      rw [List.zipWith_append (by rw [e4])]
      congr 1
      · apply List.ext_getElem?
        intro j
        rw [List.getElem?_zipWith, List.getElem?_zipWith]
        by_cases hj : j < G.length
        · rw [List.getElem?_take, if_pos hj]
        · rw [List.getElem?_eq_none (show G.length ≤ j by omega)]
    rw [e3]
    simp
  · by_cases hj : j < G.length
    · rw [List.getElem?_append_left hj] at h1
      have h3 := h.row j k r' h1 h2
      exact (hk k (blk_lt h3) (h.Gb k (List.mem_of_getElem? h1)).2).trans h3
    · have hj2 : j = G.length := by
        have := (List.getElem?_eq_some_iff.1 h1).1
        simp at this; omega
      subst hj2
      rw [List.getElem?_append_right (Nat.le_refl _), Nat.sub_self] at h1
      obtain rfl : gn = k := by simpa using h1
      rw [hr] at h2
      obtain rfl := Option.some.inj h2
      exact hnew
theorem Built.done {w : World} {base g n : Nat} {G : List Nat} {l : List (List Int)} (h : Built w base g n G l) (hn : G.length = n) (hm : n ≤ maxLen) (hr : ∀ r ∈ l, r.length ≤ maxLen) : Kd.S kr 22 w base (fun _ => True) (.slice (some ⟨g, 0, none⟩) l.length l.length) l := by
  have hl := h.ln
  subst hl
  refine ⟨fun k => G.idxOf k, fun _ _ => trivial, hd G l, ⟨?_, .inr ⟨g, l.length, _, ?_, h.gb, h.head, ?_, hm, ?_, ?_⟩⟩, ?_, fun j p hj => ?_⟩
  · simp [hd_length h.len, hn, Kd.tag, Kd.slice]
  · simp
  · simp
  · simp [hd_length h.len, hn, Kd.tag, Kd.slice]
  · simp only [List.length_zipIdx, hn, Nat.sub_self, List.replicate_zero, List.append_nil]
    rw [List.take_of_length_le]
    rw [hd_length h.len, hn]; simp [Kd.tag, Kd.slice]
  · simp [hd_length h.len, hn, Kd.tag, Kd.slice]
  · obtain ⟨r, i⟩ := p
    rw [List.getElem?_zipIdx, Nat.zero_add] at hj
    obtain ⟨r', hr', he⟩ := Option.map_eq_some_iff.1 hj
    obtain ⟨rfl, rfl⟩ := Prod.mk.inj he
    have hjl := (List.getElem?_eq_some_iff.1 hr').1
    have hjG : j < G.length := by omega
    have hcell : ((hd G l).drop (j * 1)).take 1 = [.slice (some ⟨G[j], 0, none⟩) r'.length r'.length] := by
      apply List.ext_getElem?
      intro m
      rw [List.getElem?_take]
      split
      · next hm1 =>
        obtain rfl : m = 0 := by omega
        unfold hd
        rw [List.getElem?_drop, List.getElem?_zipWith]
        simp [List.getElem?_eq_getElem hjG, hr']
      · next hm1 => rw [List.getElem?_eq_none]; simp; omega
    refine ⟨_, hcell, fun k hk => ?_, r'.map (Value.int .i64), ⟨?_, .inr ⟨G[j], r'.length, _, rfl, (h.Gb _ (List.getElem_mem hjG)).1, h.row j _ r' (List.getElem?_eq_getElem hjG) hr', Nat.le_refl _, hr r' (List.mem_of_getElem? hr'), ?_, ?_⟩⟩, int_reps r'⟩
    · obtain rfl : G[j] = k := by simpa [Value.ownBlock] using hk
      refine ⟨⟨trivial, ?_⟩, h.nd.idxOf_getElem j hjG⟩
      have := (h.Gb _ (List.getElem_mem hjG)).2
      simpa [Value.ownBlock] using this
    · simp [Kd.int, Kd.scalar]
    · simp [Kd.int, Kd.scalar]
    · simp only [Kd.int, Kd.scalar, Nat.mul_one]
      exact List.take_of_length_le (by simp)
end Go.Proofs.Ytfdiagegpahcoaa.Mat
