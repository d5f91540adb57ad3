/-
  No cell of these rows narrows 'for every input' (looked for: loops, veiled, ifaces, maps, wideKeys, modest, calm, conditions, laid).
  DERIVED. THE GIVEN ROWS OF THIS SEAT. 6 by the template 'for every input the law returns true; each argument reads behind the call as it read before'; 0 by the template 'total and deterministic' (their statements: YtfdiagegpahcoaaTotals.lean).
  GIVEN WITH THE SEED: the statements are not yours to turn. If you find one false, say at which input.
  Laid BY PROGRAM, IN A SANDBOX (cutbox-rows.mjs): the forced cells as the released guide's own fill.sh prints them over the translation bf40fbbd75153d63… (all of the seat's roots in one cut). By AI agents, Wed Nov 11 2026. No macro, syntax, notation, axiom, sorry.
-/
import Derived.Test.YtfdiagegpahcoaaChecked
import GoSem.Claim
import GoSem.ClaimJoined
import GoSem.ClaimMapViews
import Derived.JoinedTies
import Derived.KernelRfl
namespace Go.Proofs.Ytfdiagegpahcoaa
/- THE CELL 'sum', in the pinned program and in every row, IS THE sha256 OF THE DUMP (.gsa) THAT YtfdiagegpahcoaaProg.lean LOADS. Nothing in Lean hashes anything: it is a label: what it is worth is what the hold of that sum in a sandbox is worth. -/
noncomputable def Try.pinned : Pinned := { name := "ytfdiagegpahcoaa", sum := "bf40fbbd75153d633d3b97c38c545fe9eed7ffedd285275a8010f97f74a265ff", checked := Try.checked }
namespace Rows
def none {H : Type} : Left H := { results := [], args := [] }

/-- 'timeboundlaw22.CacheSets': WHATEVER THE INPUT: true; the input reads as it did. -/
def cacheSetsSpec : ChangeSpec := { name := "cacheSets", fn := fun _ => fun
  | [d1, d2] => { results := [.lit (.bool true)], args := [d1, d2] }
  | _ => none }
def cacheSetsRow : OpenClaim := { program := "ytfdiagegpahcoaa", sum := "bf40fbbd75153d633d3b97c38c545fe9eed7ffedd285275a8010f97f74a265ff", func := "timebound/timeboundlaw22.CacheSets", spec := "cacheSets", apart := false }
def CacheSetsSaid : Prop := cacheSetsRow.holds Try.pinned (OpenSpec.ofChange cacheSetsSpec)

/-- ITS FALSE NEIGHBOUR: 'it returns false'. Refute it at one input. -/
def cacheSetsWrong : ChangeSpec := { name := "cacheSets", fn := fun _ => fun
  | [d1, d2] => { results := [.lit (.bool false)], args := [d1, d2] }
  | _ => none }
def CacheSetsWrongFalsely : Prop := cacheSetsRow.holds Try.pinned (OpenSpec.ofChange cacheSetsWrong)

/-- 'timeboundlaw22.CacheDiffers': WHATEVER THE INPUT: true; the input reads as it did. -/
def cacheDiffersSpec : ChangeSpec := { name := "cacheDiffers", fn := fun _ => fun
  | [d1, d2] => { results := [.lit (.bool true)], args := [d1, d2] }
  | _ => none }
def cacheDiffersRow : OpenClaim := { program := "ytfdiagegpahcoaa", sum := "bf40fbbd75153d633d3b97c38c545fe9eed7ffedd285275a8010f97f74a265ff", func := "timebound/timeboundlaw22.CacheDiffers", spec := "cacheDiffers", apart := false }
def CacheDiffersSaid : Prop := cacheDiffersRow.holds Try.pinned (OpenSpec.ofChange cacheDiffersSpec)

/-- ITS FALSE NEIGHBOUR: 'it returns false'. Refute it at one input. -/
def cacheDiffersWrong : ChangeSpec := { name := "cacheDiffers", fn := fun _ => fun
  | [d1, d2] => { results := [.lit (.bool false)], args := [d1, d2] }
  | _ => none }
def CacheDiffersWrongFalsely : Prop := cacheDiffersRow.holds Try.pinned (OpenSpec.ofChange cacheDiffersWrong)

/-- 'timeboundlaw22.CacheForgets': WHATEVER THE INPUT: true; the input reads as it did. -/
def cacheForgetsSpec : ChangeSpec := { name := "cacheForgets", fn := fun _ => fun
  | [d1, d2] => { results := [.lit (.bool true)], args := [d1, d2] }
  | _ => none }
def cacheForgetsRow : OpenClaim := { program := "ytfdiagegpahcoaa", sum := "bf40fbbd75153d633d3b97c38c545fe9eed7ffedd285275a8010f97f74a265ff", func := "timebound/timeboundlaw22.CacheForgets", spec := "cacheForgets", apart := false }
def CacheForgetsSaid : Prop := cacheForgetsRow.holds Try.pinned (OpenSpec.ofChange cacheForgetsSpec)

/-- ITS FALSE NEIGHBOUR: 'it returns false'. Refute it at one input. -/
def cacheForgetsWrong : ChangeSpec := { name := "cacheForgets", fn := fun _ => fun
  | [d1, d2] => { results := [.lit (.bool false)], args := [d1, d2] }
  | _ => none }
def CacheForgetsWrongFalsely : Prop := cacheForgetsRow.holds Try.pinned (OpenSpec.ofChange cacheForgetsWrong)

/-- 'timeboundlaw22.CacheGrows': WHATEVER THE INPUT: true; the input reads as it did. -/
def cacheGrowsSpec : ChangeSpec := { name := "cacheGrows", fn := fun _ => fun
  | [d1, d2, d3, d4] => { results := [.lit (.bool true)], args := [d1, d2, d3, d4] }
  | _ => none }
def cacheGrowsRow : OpenClaim := { program := "ytfdiagegpahcoaa", sum := "bf40fbbd75153d633d3b97c38c545fe9eed7ffedd285275a8010f97f74a265ff", func := "timebound/timeboundlaw22.CacheGrows", spec := "cacheGrows", apart := false }
def CacheGrowsSaid : Prop := cacheGrowsRow.holds Try.pinned (OpenSpec.ofChange cacheGrowsSpec)

/-- ITS FALSE NEIGHBOUR: 'it returns false'. Refute it at one input. -/
def cacheGrowsWrong : ChangeSpec := { name := "cacheGrows", fn := fun _ => fun
  | [d1, d2, d3, d4] => { results := [.lit (.bool false)], args := [d1, d2, d3, d4] }
  | _ => none }
def CacheGrowsWrongFalsely : Prop := cacheGrowsRow.holds Try.pinned (OpenSpec.ofChange cacheGrowsWrong)

/-- 'timeboundlaw22.CacheWithin': WHATEVER THE INPUT: true; the input reads as it did. -/
def cacheWithinSpec : ChangeSpec := { name := "cacheWithin", fn := fun _ => fun
  | [d1, d2, d3] => { results := [.lit (.bool true)], args := [d1, d2, d3] }
  | _ => none }
def cacheWithinRow : OpenClaim := { program := "ytfdiagegpahcoaa", sum := "bf40fbbd75153d633d3b97c38c545fe9eed7ffedd285275a8010f97f74a265ff", func := "timebound/timeboundlaw22.CacheWithin", spec := "cacheWithin", apart := false }
def CacheWithinSaid : Prop := cacheWithinRow.holds Try.pinned (OpenSpec.ofChange cacheWithinSpec)

/-- ITS FALSE NEIGHBOUR: 'it returns false'. Refute it at one input. -/
def cacheWithinWrong : ChangeSpec := { name := "cacheWithin", fn := fun _ => fun
  | [d1, d2, d3] => { results := [.lit (.bool false)], args := [d1, d2, d3] }
  | _ => none }
def CacheWithinWrongFalsely : Prop := cacheWithinRow.holds Try.pinned (OpenSpec.ofChange cacheWithinWrong)

/-- 'timeboundlaw22.CacheRuns': WHATEVER THE INPUT: true; the input reads as it did. -/
def cacheRunsSpec : ChangeSpec := { name := "cacheRuns", fn := fun _ => fun
  | [d1, d2, d3] => { results := [.lit (.bool true)], args := [d1, d2, d3] }
  | _ => none }
def cacheRunsRow : OpenClaim := { program := "ytfdiagegpahcoaa", sum := "bf40fbbd75153d633d3b97c38c545fe9eed7ffedd285275a8010f97f74a265ff", func := "timebound/timeboundlaw22.CacheRuns", spec := "cacheRuns", apart := false }
def CacheRunsSaid : Prop := cacheRunsRow.holds Try.pinned (OpenSpec.ofChange cacheRunsSpec)

/-- ITS FALSE NEIGHBOUR: 'it returns false'. Refute it at one input. -/
def cacheRunsWrong : ChangeSpec := { name := "cacheRuns", fn := fun _ => fun
  | [d1, d2, d3] => { results := [.lit (.bool false)], args := [d1, d2, d3] }
  | _ => none }
def CacheRunsWrongFalsely : Prop := cacheRunsRow.holds Try.pinned (OpenSpec.ofChange cacheRunsWrong)

/- THE SECOND FORM. 'bulk': how many values and letters a reading holds, each counted each time it is reached (what is shared counts as often as it is met; a slice's spare places count too). A statement '..UptoSaid' is the law's where the arguments, and the package variables that the reading takes, are together of bulk at most 1048576: NARROWER than '..Said'. Prove '..Said' where nothing that the law and all that it calls make is longer than what came in: it says more and counts as full. Else prove '..UptoSaid'. A law counts once. -/
mutual
def uptoBulk {H : Type} : DataW H → Nat
  | .lit (.string bytes) => bytes.length + 1
  | .lit _ => 1
  | .nil => 1
  | .ptr d => uptoBulk d + 1
  | .slice elems spare => uptoBulkAll elems + uptoBulkAll spare + 1
  | .agg parts => uptoBulkAll parts + 1
  | .iface _ d => uptoBulk d + 1
  | .map entries => uptoBulkEntries entries + 1
  | .held _ => 1
def uptoBulkAll {H : Type} : List (DataW H) → Nat
  | [] => 0
  | d :: r => uptoBulk d + uptoBulkAll r
def uptoBulkEntries {H : Type} : List (Lit × DataW H) → Nat
  | [] => 0
  | x :: r => uptoBulkEntry x + uptoBulkEntries r
def uptoBulkEntry {H : Type} : Lit × DataW H → Nat
  | (.string bytes, d) => bytes.length + uptoBulk d + 1
  | (_, d) => uptoBulk d + 1
 end
def uptoSmall : (H : Type) → List (DataW H) → Bool := fun _ ds => decide (uptoBulkAll ds ≤ 1048576)
def OpenSpec.upto (s : _root_.Go.ChangeSpec) : _root_.Go.OpenSpec := { _root_.Go.OpenSpec.ofChange s with cond := some uptoSmall }

/-- 'timeboundlaw22.CacheSets', WHERE WHAT IT READS IS OF BULK AT MOST 1048576: true; the input reads as it did. -/
def cacheSetsUptoRow : OpenClaim := { program := "ytfdiagegpahcoaa", sum := "bf40fbbd75153d633d3b97c38c545fe9eed7ffedd285275a8010f97f74a265ff", func := "timebound/timeboundlaw22.CacheSets", spec := "cacheSets", apart := false, narrowed := true }
def CacheSetsUptoSaid : Prop := cacheSetsUptoRow.holds Try.pinned (OpenSpec.upto cacheSetsSpec)

/-- 'timeboundlaw22.CacheDiffers', WHERE WHAT IT READS IS OF BULK AT MOST 1048576: true; the input reads as it did. -/
def cacheDiffersUptoRow : OpenClaim := { program := "ytfdiagegpahcoaa", sum := "bf40fbbd75153d633d3b97c38c545fe9eed7ffedd285275a8010f97f74a265ff", func := "timebound/timeboundlaw22.CacheDiffers", spec := "cacheDiffers", apart := false, narrowed := true }
def CacheDiffersUptoSaid : Prop := cacheDiffersUptoRow.holds Try.pinned (OpenSpec.upto cacheDiffersSpec)

/-- 'timeboundlaw22.CacheForgets', WHERE WHAT IT READS IS OF BULK AT MOST 1048576: true; the input reads as it did. -/
def cacheForgetsUptoRow : OpenClaim := { program := "ytfdiagegpahcoaa", sum := "bf40fbbd75153d633d3b97c38c545fe9eed7ffedd285275a8010f97f74a265ff", func := "timebound/timeboundlaw22.CacheForgets", spec := "cacheForgets", apart := false, narrowed := true }
def CacheForgetsUptoSaid : Prop := cacheForgetsUptoRow.holds Try.pinned (OpenSpec.upto cacheForgetsSpec)

/-- 'timeboundlaw22.CacheGrows', WHERE WHAT IT READS IS OF BULK AT MOST 1048576: true; the input reads as it did. -/
def cacheGrowsUptoRow : OpenClaim := { program := "ytfdiagegpahcoaa", sum := "bf40fbbd75153d633d3b97c38c545fe9eed7ffedd285275a8010f97f74a265ff", func := "timebound/timeboundlaw22.CacheGrows", spec := "cacheGrows", apart := false, narrowed := true }
def CacheGrowsUptoSaid : Prop := cacheGrowsUptoRow.holds Try.pinned (OpenSpec.upto cacheGrowsSpec)

/-- 'timeboundlaw22.CacheWithin', WHERE WHAT IT READS IS OF BULK AT MOST 1048576: true; the input reads as it did. -/
def cacheWithinUptoRow : OpenClaim := { program := "ytfdiagegpahcoaa", sum := "bf40fbbd75153d633d3b97c38c545fe9eed7ffedd285275a8010f97f74a265ff", func := "timebound/timeboundlaw22.CacheWithin", spec := "cacheWithin", apart := false, narrowed := true }
def CacheWithinUptoSaid : Prop := cacheWithinUptoRow.holds Try.pinned (OpenSpec.upto cacheWithinSpec)

/-- 'timeboundlaw22.CacheRuns', WHERE WHAT IT READS IS OF BULK AT MOST 1048576: true; the input reads as it did. -/
def cacheRunsUptoRow : OpenClaim := { program := "ytfdiagegpahcoaa", sum := "bf40fbbd75153d633d3b97c38c545fe9eed7ffedd285275a8010f97f74a265ff", func := "timebound/timeboundlaw22.CacheRuns", spec := "cacheRuns", apart := false, narrowed := true }
def CacheRunsUptoSaid : Prop := cacheRunsUptoRow.holds Try.pinned (OpenSpec.upto cacheRunsSpec)

end Rows
end Go.Proofs.Ytfdiagegpahcoaa
