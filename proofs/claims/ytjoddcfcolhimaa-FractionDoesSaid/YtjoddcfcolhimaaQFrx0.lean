-- Printed by wip/drv/drv.py of this session, over the kit's print tool. Not trusted: Lean checks it.
import Derived.Test.YtjoddcfcolhimaaProg
import Derived.Below
import Derived.Deep.Draws
import Derived.Deep.AppendLies
import Derived.Maps.AppendAt
import Derived.OwnWalk
import Derived.Laws.BytesArg
import Derived.Laws.MakeOwn
import Derived.Laws.OwnMore
import Derived.Deep.OwnRows
import Derived.Tactics
import Derived.Lib.ConvBytes
import Derived.Laws.Slices
import Derived.WalkKit
import Derived.KernelRfl
import Derived.RowKit3
import Derived.Deep.LoopGhost
import Derived.Deep.QuietTactic
import Derived.BigQuiet
import Derived.WideLaws
import Derived.Deep.DeepCutAuto
import Derived.Deep.CutBlock
import Derived.Deep.RegionHeld3
import Derived.Laws.Rows
import Derived.Lib.AppendStr
import Derived.ArgAppend
import Derived.Laws.IdiomCopy
import Derived.OrdersHeld
import Derived.Laws.BitsLemmas
import Derived.RowKit
import Derived.Laws.Externs
import Derived.Test.YtjoddcfcolhimaaZMore
namespace Go.Proofs.Ytjoddcfcolhimaa.QFr
open Go.RowKit Go.Proofs.YtjoddcfcolhimaaW.PrintWords Go.Proofs.YtjoddcfcolhimaaW.PrintLast Go.Proofs.YtjoddcfcolhimaaW.PrintMore
attribute [local go_sem] max2_int min2_int max_two min_two max_three min_three max_four min_four   -- for this text's walks alone
set_option linter.unusedVariables false
set_option linter.unusedSimpArgs false


theorem bkb {W W' W1 : World} {g : Nat} {o : Obj} (h : Aside0 (W.heap[g]? = some o)) (hb : Below W'.heap.size W' W1) (he : W'.heap = W.heap := by rfl) : Aside0 (W1.heap[g]? = some o) := ⟨blk_below (w := W') (by rw [he]; exact h.out) hb⟩
theorem nbl {W W' : World} {g g1 : Nat} {o : Obj} (hg : g1 = W'.heap.size) (h : Aside0 (W.heap[g]? = some o)) (he : W'.heap = W.heap := by rfl) : Aside0 (g ≠ g1) := ⟨by rw [hg, he]; exact Nat.ne_of_lt (blk_lt h.out)⟩
theorem nbr {W W' : World} {g g1 : Nat} {o : Obj} (hg : g1 = W'.heap.size) (h : Aside0 (W.heap[g]? = some o)) (he : W'.heap = W.heap := by rfl) : Aside0 (g1 ≠ g) := ⟨by rw [hg, he]; exact Nat.ne_of_gt (blk_lt h.out)⟩
theorem blw {n : Nat} {W0 W W' W1 : World} (h : Aside0 (Below n W0 W)) (hb : Below W'.heap.size W' W1) (hn : n = W0.heap.size := by rfl) (h1 : W'.os = W.os := by rfl) (h2 : W'.tape = W.tape := by rfl) (h3 : W'.output = W.output := by rfl) (h4 : W'.heap = W.heap := by rfl) : Aside0 (Below n W0 W1) := ⟨by
  subst hn
  exact below_step (W := W') ⟨h1.trans h.out.os, h2.trans h.out.tape, h3.trans h.out.output, by rw [h4]; exact h.out.size, fun k hk => by rw [h4]; exact h.out.block k hk⟩ hb⟩
theorem gww {n g1 : Nat} {W0 W W' : World} (hg : g1 = W'.heap.size) (h : Aside0 (Below n W0 W)) (h4 : W'.heap = W.heap := by rfl) : Aside0 (W0.heap.size ≤ g1) := ⟨by rw [hg, h4]; exact h.out.size⟩
open Go.Proofs.YtjoddcfcolhimaaW.PrintLast in
/-- A call of a function value that stands in a slot. -/
theorem goest_ {P : Program} {ops : Array Oper} {Q : Exit → Act → World → Prop} {oi : Oper} {N : Option Tmp} {a : Act} {w : World} {K : Act → World → Prop} {f : FuncId} {fn : Func} {as_ : Array Operand} {ts : Array TypeId} {o : Operand} (hf : P.funcs[f]? = some fn) (hname : (fn.name == "runtime.NumGoroutine") = false) (hb : fn.body.isSome = true) (args : Array Value)
    (hw : Region.wanted oi (yielded ops a.tmps) = true) (hN : oi.dst = N) (hop : oi.op = .call { callee := .value o, args := as_, argTypes := ts }) (ho : a.eval o = .func (.func f) #[] #[]) (hargs : as_.map a.eval = args)
    (h : Calls P f args w fun e w' => ∃ v, e = .returned v ∧ K (a.put N v) w') : if Region.wanted oi (yielded ops a.tmps) = true then Oper.wp P oi a w K Q else K (a.put N undef) w := by
  refine call_ f args hw hN ?_ h
  have he := enters_ hf hname hb args w
  unfold execOp
  simp [hop, resolve, Deferred.ofValue, invoke, ho, hargs, he]



def errW : Option Int → Value
  | none => .nilIface
  | some c => .iface 0 (.int .i64 c)
theorem errW_none : errW none = .nilIface := rfl
theorem errW_some (c : Int) : errW (some c) = .iface 0 (.int .i64 c) := rfl

-- the values' own types

end Go.Proofs.Ytjoddcfcolhimaa.QFr
