import Derived.Test.YtfdiagegpahcoaaWMore
import Derived.Laws.CopyOwn
/- Rows of numbers in place: one row of a matrix that is the call's own is read and written. -/
namespace Go.Proofs.Ytfdiagegpahcoaa.Mat
open Go.RowKit Go.Proofs.YtfdiagegpahcoaaW.PrintWords
abbrev kr : Kd (List Int) := Kd.slice 3 (Kd.int .i64)
theorem int_cells {w : World} {base : Nat} {ok : Nat → Prop} {r : List Int} {cs : List Value} (h : Reps ((Kd.int .i64).M w base ok) 1 r cs) : cs = r.map (.int .i64) := by
  obtain ⟨hl, hc⟩ := h
  apply List.ext_getElem?
  intro j
  rw [List.getElem?_map]
  by_cases hj : j < r.length
  · have := hc j _ (List.getElem?_eq_getElem hj)
    have h2 : ((cs.drop (j * 1)).take 1) = [.int .i64 r[j]] := this
    have h3 : cs[j]? = ((cs.drop (j * 1)).take 1)[0]? := by simp
    rw [h3, h2, List.getElem?_eq_getElem hj]; rfl
  · rw [List.getElem?_eq_none (by omega), List.getElem?_eq_none (by omega)]; rfl
theorem int_reps {w : World} {base : Nat} {ok : Nat → Prop} (r : List Int) : Reps ((Kd.int .i64).M w base ok) 1 r (r.map (.int .i64)) := by
  refine ⟨by simp, fun j p hj => ?_⟩
  show _ = _
  have hjl := (List.getElem?_eq_some_iff.1 hj).1
  apply List.ext_getElem?
  intro m
  rw [List.getElem?_take]
  split
  · next h => 
    obtain rfl : m = 0 := by omega
    simp [hj]
  · next h => rw [List.getElem?_eq_none]; simp; omega
theorem row_of {w : World} {base n c : Nat} {ok : Nat → Prop} {A : Option Addr} {rows : List (List Int)} (h : Kd.S kr 22 w base ok (.slice A n c) rows) (i : Nat) (hi : i < rows.length) (r : List Int) (hr : rows[i]? = some r) (hp : 0 < r.length) :
    ∃ (g gi : Nat) (cur : List Value), A = some ⟨g, 0, none⟩ ∧ w.cell? ⟨g, i, none⟩ = some (.slice (some ⟨gi, 0, none⟩) r.length cur.length) ∧ ok gi ∧ gi ≠ g ∧ base ≤ gi ∧ w.heap[gi]? = some (.cells cur.toArray 3 (0, 0)) ∧ r.length ≤ cur.length ∧ cur.length ≤ maxLen ∧ cur.take r.length = r.map (.int .i64) ∧
      ∀ (w1 : World) (r' : List Int) (cur' : List Value), r'.length = r.length → cur'.length = cur.length → cur'.take r'.length = r'.map (.int .i64) → w.grownBy w1 (some gi) → w1.heap[gi]? = some (.cells cur'.toArray 3 (0, 0)) → Kd.S kr 22 w1 base ok (.slice A n c) (rows.set i r') := by
  have hn := (Kd.S_reads' h).1
  obtain ⟨g, cap, hv, _⟩ := Kd.S_form h (by omega)
  injection hv with h1 h2 h3
  subst h1
  obtain ⟨oki, cs, hcl, ⟨v, rfl, hR⟩, hcc, hoki, hH⟩ := Kd.S_lend h [] i (by omega) (by omega)
  have hx : rows.getD ((i : Int).toNat) [] = r := by simp [List.getD_eq_getElem?_getD, hr]
  rw [hx] at hR
  obtain ⟨h0, inner, ho, hreps⟩ := hR
  have hin := int_cells hreps
  rcases ho.2 with ⟨_, h4⟩ | ⟨gi, cap', cur, rfl, hb, hg, hle, hmx, hsz, htk⟩
  · omega
  have hgi : oki gi := h0 gi rfl
  have hsz' : cur.size = cap' := by simpa [show (Kd.int .i64).sz = 1 from rfl] using hsz
  subst hsz'
  have htk' : cur.toList.take r.length = r.map (.int .i64) := by
    rw [← hin, ← htk]
    simp [show (Kd.int .i64).sz = 1 from rfl]
  refine ⟨g, gi, cur.toList, rfl, ?_, (hoki gi hgi).1, (hoki gi hgi).2, hb, by simpa using hg, by simpa using hle, by simpa using hmx, htk', ?_⟩
  · have := hcc 0 _ rfl
    simpa [show kr.sz = 1 from rfl] using this
  · intro w1 r' cur' hl1 hl2 ht hgr hg1
    have hM : kr.M w1 base oki r' [.slice (some ⟨gi, 0, none⟩) r.length cur.size] := by
      refine ⟨_, rfl, h0, r'.map (.int .i64), ⟨by simp [show (Kd.int .i64).sz = 1 from rfl], .inr ⟨gi, cur.size, cur'.toArray, by rw [hl1], hb, hg1, by rw [hl1]; exact hle, hmx, by simpa [show (Kd.int .i64).sz = 1 from rfl] using hl2, ?_⟩⟩, int_reps r'⟩
      simpa [show (Kd.int .i64).sz = 1 from rfl] using ht
    have := Kd.H_back (Kd.H_grown hH hgr (fun k hk => by injection hk with hk; subst hk; exact hgi)) hM (fun _ hk => hk)
    simpa using this
theorem takelen {P : Program} {f : FuncId} {A : Option Addr} {c : Nat} {l : List Int} {j : Int} {v : Value} {w : World} {Q : Ending → World → Prop} (h0 : j ≤ l.length) (h : Calls P f #[.slice A (l.take j.toNat).length c, v] w Q) : Calls P f #[.slice A j.toNat c, v] w Q := by
  rw [List.length_take, Nat.min_eq_left (by omega)] at h
  exact h
theorem C_of_row {w : World} {gi : Nat} {cur : List Value} {r : List Int} (hg : w.heap[gi]? = some (.cells cur.toArray 3 (0, 0))) (hle : r.length ≤ cur.length) (hmx : cur.length ≤ maxLen) (htk : cur.take r.length = r.map (.int .i64)) : Kd.C (Kd.int .i64) w (some ⟨gi, 0, none⟩) r.length r := by
  refine ⟨rfl, by simp only [maxLen] at hmx; omega, fun _ => ⟨_, rfl, fun j p hj => ⟨[.int .i64 p], rfl, rfl, fun i u hu => ?_⟩⟩⟩
  obtain ⟨rfl, rfl⟩ : i = 0 ∧ .int .i64 p = u := by
    cases i with
    | zero => exact ⟨rfl, by simpa using hu⟩
    | succ i => simp at hu
  have hjl := (List.getElem?_eq_some_iff.1 hj).1
  have h2 : cur[j]? = some (.int .i64 p) := by
    have : (cur.take r.length)[j]? = (r.map (.int .i64))[j]? := by rw [htk]
    rw [List.getElem?_take, if_pos hjl, List.getElem?_map, hj] at this
    exact this
  rw [add_plain]
  simp [World.cell?, hg, show (Kd.int .i64).sz = 1 from rfl, h2]
theorem grown_setRow (w : World) (g : Nat) (cs : Array Value) : w.grownBy (w.setRow g cs) (some g) :=
  ⟨rfl, rfl, rfl, by simp [World.setRow], fun k hk hne => setRow_other w g k cs (fun e => hne (by rw [e]))⟩
/-- 'copy' inside one row; all other blocks stay. -/
theorem step_copy_in {P : Program} {ops : Array Oper} {o : Oper} {a : Act} {w : World} {K : Act → World → Prop} {Q : Exit → Act → World → Prop} {E : Prop} (hgd : o.guard = none) (d s : Operand) (dT sT : TypeId)
    (ho : o.op = .call { callee := .builtin .copy, args := #[d, s], argTypes := #[dT, sT] }) (elem : TypeId) (hu : P.underlying dT = some (.slice elem)) (hsz : (P.info? elem).map (·.size) = some 1)
    (dp sp : Option Addr) (dLen dCap sLen sCap : Nat) (hd : a.eval d = .slice dp dLen dCap) (hs : a.eval s = .slice sp sLen sCap)
    (g off : Nat) (cur : List Value) (t : TypeId) (hg : w.heap[g]? = some (.cells cur.toArray t (0, 0))) (cs : List Value) (hn : cs.length = Nat.min sLen dLen)
    (hpos : 0 < cs.length → dp = some ⟨g, off, none⟩ ∧ ∃ ad, sp = some ad ∧ ∀ j v, cs[j]? = some v → w.cell? (ad.add j) = some v)
    (hfit : off + cs.length ≤ cur.length) (h1 : ∀ v ∈ cs, v.oneCell' = true)
    (h : ∀ w', w'.heap[g]? = some (.cells (splice cur off cs).toArray t (0, 0)) → w.grownBy w' (some g) → K (a.put o.dst (goInt cs.length)) w') :
    if Region.wanted o (yielded ops a.tmps) = true then Oper.wp P o a w K Q else E := by
  have hw : Region.wanted o (yielded ops a.tmps) = true := by simp [Region.wanted, hgd]
  rw [if_pos hw]
  by_cases h0 : cs.length = 0
  · obtain rfl : cs = [] := List.eq_nil_of_length_eq_zero h0
    have hrun := run_copy_none (P := P) w dT sT o.type elem dp sp dLen dCap sLen sCap hu hsz (by simpa using hn.symm)
    unfold Oper.wp
    simp [execOp, ho, resolve, invoke, builtin, hd, hs, hrun, Result.andThen]
    exact h w (show _ = _ by simpa [splice] using hg) ⟨rfl, rfl, rfl, Nat.le_refl _, fun _ _ _ => rfl⟩
  · obtain ⟨rfl, ad, rfl, hsrc⟩ := hpos (by omega)
    have hrun := run_copy_row (P := P) w dT sT o.type elem g off dLen dCap ad sLen sCap cur.toArray t cs hu hsz hg hn hsrc (by simpa using hfit) h1
    unfold Oper.wp
    simp [execOp, ho, resolve, invoke, builtin, hd, hs, hrun, Result.andThen]
    exact h _ (show _ = _ by simpa [splice] using setRow_heap w g _ _ t _ hg) (grown_setRow w g _)
/-- All but the row's own blocks stays. -/
structure Stays (w w' : World) (base : Nat) (ok : Nat → Prop) : Prop where
  os : w'.os = w.os
  tape : w'.tape = w.tape
  output : w'.output = w.output
  size : w.heap.size ≤ w'.heap.size
  block : ∀ k, k < w.heap.size → ¬ (base ≤ k ∧ ok k) → w'.heap[k]? = w.heap[k]?
theorem row_at {cur : List Value} {r : List Int} (htk : cur.take r.length = r.map (.int .i64)) {j : Nat} (hj : j < r.length) : cur[j]? = some (.int .i64 r[j]) := by
  have : (cur.take r.length)[j]? = (r.map (.int .i64))[j]? := by rw [htk]
  rw [List.getElem?_take, if_pos hj, List.getElem?_map, List.getElem?_eq_getElem hj] at this
  exact this
theorem copy_pos {w : World} {gi i : Nat} {cs cur : List Value} {r : List Int} (hcl : cs.length = i) (hcs : cs = (r.take i).map (.int .i64)) (htk : cur.take r.length = r.map (.int .i64)) (hi : i ≤ r.length) (hle : i < cur.length) (hg : w.heap[gi]? = some (.cells cur.toArray 3 (0, 0))) :
    0 < cs.length → (if cur.length = 1 then some (⟨gi, 0, none⟩ : Addr) else some ⟨gi, 1, none⟩) = some ⟨gi, 1, none⟩ ∧ ∃ ad, (some ⟨gi, 0, none⟩ : Option Addr) = some ad ∧ ∀ j v, cs[j]? = some v → w.cell? (ad.add j) = some v := by
  intro h0
  refine ⟨if_neg (by omega), _, rfl, fun j v hj => ?_⟩
  have hjl := (List.getElem?_eq_some_iff.1 hj).1
  subst hcs
  rw [List.getElem?_map, List.getElem?_take, if_pos (by omega), List.getElem?_eq_getElem (by omega)] at hj
  obtain rfl := Option.some.inj hj
  rw [add_plain]
  simp [World.cell?, hg, row_at htk (j := j) (by omega)]
theorem front_row {cur cs : List Value} {r : List Int} {i : Nat} (line : Int) (htk : cur.take r.length = r.map (.int .i64)) (hle : r.length ≤ cur.length) (hi : i < r.length) (hcs : cs = (r.take i).map (.int .i64)) :
    ((splice cur 1 cs).set 0 (.int .i64 line)).length = cur.length ∧ ((splice cur 1 cs).set 0 (.int .i64 line)).take (line :: (r.take i ++ r.drop (i + 1))).length = (line :: (r.take i ++ r.drop (i + 1))).map (.int .i64) := by
  have hcl : cs.length = i := by rw [hcs, List.length_map, List.length_take]; omega
  constructor
  · rw [List.length_set, length_splice _ _ _ (by omega)]
  · subst hcs
    cases cur with
    | nil => exact absurd hle (by simp only [List.length_nil]; omega)
    | cons x cur =>
      cases r with
      | nil => simp at hi
      | cons y r =>
        have h2 : cur.take r.length = r.map (.int .i64) := by simpa using (List.cons.inj (by simpa using htk)).2
        have hli : (r.length + 1 - (i + 1)) = r.length - i := by omega
        have hlen : (line :: ((y :: r).take i ++ (y :: r).drop (i + 1))).length = 1 + (i + (r.length - i)) := by simp at hi ⊢; omega
        have hd : (List.map (Value.int .i64) ((y :: r).take i)).length = i := by simp at hi ⊢; omega
        rw [hlen]
        unfold splice
        rw [hd]
        simp only [List.take_succ_cons, List.take_zero, List.cons_append, List.nil_append, List.set_cons_zero, List.map_cons, List.map_append, Nat.add_comm 1, List.drop_succ_cons]
        congr 1
        rw [List.take_append, List.take_of_length_le (by rw [hd]; omega), hd]
        congr 1
        rw [show i + (r.length - i) - i = r.length - i by omega, List.take_drop, show i + (r.length - i) = r.length by simp at hi; omega, h2, List.map_drop]
theorem splice_head {cur cs : List Value} {r : List Int} (htk : cur.take r.length = r.map (.int .i64)) (hp : 0 < r.length) : (splice cur 1 cs).toArray[0]? = some (.int .i64 r[0]) := by
  have := row_at htk hp
  cases cur with
  | nil => simp at this
  | cons x cur => simp [splice] at this ⊢; exact this
theorem grown_set (w : World) (g j : Nat) (v : Value) : w.grownBy (w.setCell ⟨g, j, none⟩ v) (some g) :=
  ⟨rfl, rfl, rfl, by simp [World.setCell], fun k hk hne => Below.heap_setCell w ⟨g, j, none⟩ v k (fun e => hne (by rw [e]))⟩
theorem stays_of {w w' : World} {base gi : Nat} {ok : Nat → Prop} (h : w.grownBy w' (some gi)) (hk : base ≤ gi ∧ ok gi) : Stays w w' base ok :=
  ⟨h.os, h.tape, h.output, h.size, fun k hlt hn => h.block k hlt (fun e => by injection e with e; subst e; exact hn hk)⟩
def shiftAt {α : Type} (cur : List α) (i x : Nat) : List α := cur.take (x + 1) ++ ((cur.drop x).take (i - x) ++ cur.drop (i + 1))
theorem shiftAt_start {α : Type} (cur : List α) (i : Nat) : shiftAt cur i i = cur := by
  unfold shiftAt; rw [Nat.sub_self, List.take_zero, List.nil_append, List.take_append_drop]
theorem shiftAt_length {α : Type} (cur : List α) {i x : Nat} (hx : x ≤ i) (hi : i < cur.length) : (shiftAt cur i x).length = cur.length := by
  unfold shiftAt; simp only [List.length_append, List.length_take, List.length_drop]; omega
theorem shiftAt_low {α : Type} (cur : List α) {i x j : Nat} (hj : j ≤ x) (hx : x ≤ i) (hi : i < cur.length) : (shiftAt cur i x)[j]? = cur[j]? := by
  unfold shiftAt
  rw [List.getElem?_append_left (by rw [List.length_take]; omega), List.getElem?_take, if_pos (by omega)]
theorem shiftAt_high {α : Type} (cur : List α) {i x j : Nat} (hj : x < j) (hx : x ≤ i) (hi : i < cur.length) : (shiftAt cur i x)[j]? = if j ≤ i then cur[j - 1]? else cur[j]? := by
  unfold shiftAt
  have e2 : (cur.take (x + 1)).length = x + 1 := by rw [List.length_take]; omega
  have e3 : ((cur.drop x).take (i - x)).length = i - x := by rw [List.length_take, List.length_drop]; omega
  rw [List.getElem?_append_right (by omega), e2]
  split
  · rw [List.getElem?_append_left (by omega), List.getElem?_take, if_pos (by omega), List.getElem?_drop]
    congr 1; omega
  · rw [List.getElem?_append_right (by omega), e3, List.getElem?_drop]
    congr 1; omega
theorem shiftAt_step {α : Type} (cur : List α) {i x : Nat} (v : α) (hv : cur[x]? = some v) (hx : x + 1 ≤ i) (hi : i < cur.length) : (shiftAt cur i (x + 1)).set (x + 1) v = shiftAt cur i x := by
  have hl1 := shiftAt_length cur hx hi
  apply List.ext_getElem?
  intro j
  rw [List.getElem?_set]
  by_cases h1 : x + 1 = j
  · subst h1
    rw [if_pos rfl, if_pos (by omega), shiftAt_high cur (Nat.lt_succ_self x) (by omega) hi, if_pos hx, ← hv]; rfl
  · rw [if_neg h1]
    by_cases h2 : j ≤ x
    · rw [shiftAt_low cur (by omega) hx hi, shiftAt_low cur h2 (by omega) hi]
    · rw [shiftAt_high cur (by omega) hx hi, shiftAt_high cur (by omega) (by omega) hi]
theorem shiftAt_zero {cur : List Value} {r : List Int} {i : Nat} (htk : cur.take r.length = r.map (.int .i64)) (hi : i < r.length) : shiftAt cur i 0 = splice cur 1 ((r.take i).map (.int .i64)) := by
  unfold shiftAt splice
  have : cur.take i = (r.take i).map (.int .i64) := by
    rw [List.map_take, ← htk, List.take_take, Nat.min_eq_left (by omega)]
  rw [List.drop_zero, Nat.sub_zero, this]
  congr 2
  rw [List.length_map, List.length_take, Nat.min_eq_left (by omega), Nat.add_comm]
end Go.Proofs.Ytfdiagegpahcoaa.Mat
