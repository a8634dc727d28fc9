/-
  No cell of these rows narrows 'for every input' (looked for: loops, veiled, ifaces, maps, wideKeys, modest, calm, conditions, laid).
  DERIVED. THE GIVEN ROWS OF THIS SEAT. 5 by the template 'for every input the law returns true; each argument reads behind the call as it read before'; 0 by the template 'total and deterministic' (their statements: YtajhfmioidmacaaTotals.lean).
  GIVEN WITH THE SEED: the statements are not yours to turn. If you find one false, say at which input.
  Laid BY PROGRAM, IN A SANDBOX (cutbox-rows.mjs): the forced cells as the released guide's own fill.sh prints them over the translation cadb967eb1a8fa49… (all of the seat's roots in one cut). By AI agents, Wed Nov 11 2026. No macro, syntax, notation, axiom, sorry.
-/
import Derived.Test.YtajhfmioidmacaaChecked
import GoSem.Claim
import GoSem.ClaimJoined
import GoSem.ClaimMapViews
import Derived.JoinedTies
import Derived.KernelRfl
namespace Go.Proofs.Ytajhfmioidmacaa
/- THE CELL 'sum', in the pinned program and in every row, IS THE sha256 OF THE DUMP (.gsa) THAT YtajhfmioidmacaaProg.lean LOADS. Nothing in Lean hashes anything: it is a label: what it is worth is what the hold of that sum in a sandbox is worth. -/
noncomputable def Try.pinned : Pinned := { name := "ytajhfmioidmacaa", sum := "cadb967eb1a8fa49d59b3aecc1c37aef47319503822ebbaa356f92e602599068", checked := Try.checked }
namespace Rows
def none {H : Type} : Left H := { results := [], args := [] }

/-- 'wirelesslaw49.ReplayCaches': WHATEVER THE INPUT: true; the input reads as it did. -/
def replayCachesSpec : ChangeSpec := { name := "replayCaches", fn := fun _ => fun
  | [d1, d2] => { results := [.lit (.bool true)], args := [d1, d2] }
  | _ => none }
def replayCachesRow : OpenClaim := { program := "ytajhfmioidmacaa", sum := "cadb967eb1a8fa49d59b3aecc1c37aef47319503822ebbaa356f92e602599068", func := "wireless/wirelesslaw49.ReplayCaches", spec := "replayCaches", unfollowed := true, recurses := true, apart := false }
def ReplayCachesSaid : Prop := replayCachesRow.holds Try.pinned (OpenSpec.ofChange replayCachesSpec)

/-- ITS FALSE NEIGHBOUR: 'it returns false'. Refute it at one input. -/
def replayCachesWrong : ChangeSpec := { name := "replayCaches", fn := fun _ => fun
  | [d1, d2] => { results := [.lit (.bool false)], args := [d1, d2] }
  | _ => none }
def ReplayCachesWrongFalsely : Prop := replayCachesRow.holds Try.pinned (OpenSpec.ofChange replayCachesWrong)

/-- 'wirelesslaw49.ReplayKeeps': WHATEVER THE INPUT: true; the input reads as it did. -/
def replayKeepsSpec : ChangeSpec := { name := "replayKeeps", fn := fun _ => fun
  | [d] => { results := [.lit (.bool true)], args := [d] }
  | _ => none }
def replayKeepsRow : OpenClaim := { program := "ytajhfmioidmacaa", sum := "cadb967eb1a8fa49d59b3aecc1c37aef47319503822ebbaa356f92e602599068", func := "wireless/wirelesslaw49.ReplayKeeps", spec := "replayKeeps", unfollowed := true, recurses := true, apart := false }
def ReplayKeepsSaid : Prop := replayKeepsRow.holds Try.pinned (OpenSpec.ofChange replayKeepsSpec)

/-- ITS FALSE NEIGHBOUR: 'it returns false'. Refute it at one input. -/
def replayKeepsWrong : ChangeSpec := { name := "replayKeeps", fn := fun _ => fun
  | [d] => { results := [.lit (.bool false)], args := [d] }
  | _ => none }
def ReplayKeepsWrongFalsely : Prop := replayKeepsRow.holds Try.pinned (OpenSpec.ofChange replayKeepsWrong)

/-- 'wirelesslaw49.ReplayOrders': WHATEVER THE INPUT: true; the input reads as it did. -/
def replayOrdersSpec : ChangeSpec := { name := "replayOrders", fn := fun _ => fun
  | [d1, d2, d3] => { results := [.lit (.bool true)], args := [d1, d2, d3] }
  | _ => none }
def replayOrdersRow : OpenClaim := { program := "ytajhfmioidmacaa", sum := "cadb967eb1a8fa49d59b3aecc1c37aef47319503822ebbaa356f92e602599068", func := "wireless/wirelesslaw49.ReplayOrders", spec := "replayOrders", unfollowed := true, recurses := true, apart := false }
def ReplayOrdersSaid : Prop := replayOrdersRow.holds Try.pinned (OpenSpec.ofChange replayOrdersSpec)

/-- ITS FALSE NEIGHBOUR: 'it returns false'. Refute it at one input. -/
def replayOrdersWrong : ChangeSpec := { name := "replayOrders", fn := fun _ => fun
  | [d1, d2, d3] => { results := [.lit (.bool false)], args := [d1, d2, d3] }
  | _ => none }
def ReplayOrdersWrongFalsely : Prop := replayOrdersRow.holds Try.pinned (OpenSpec.ofChange replayOrdersWrong)

/-- 'wirelesslaw49.ReplayChecks': WHATEVER THE INPUT: true; the input reads as it did. -/
def replayChecksSpec : ChangeSpec := { name := "replayChecks", fn := fun _ => fun
  | [d1, d2] => { results := [.lit (.bool true)], args := [d1, d2] }
  | _ => none }
def replayChecksRow : OpenClaim := { program := "ytajhfmioidmacaa", sum := "cadb967eb1a8fa49d59b3aecc1c37aef47319503822ebbaa356f92e602599068", func := "wireless/wirelesslaw49.ReplayChecks", spec := "replayChecks", unfollowed := true, recurses := true, apart := false }
def ReplayChecksSaid : Prop := replayChecksRow.holds Try.pinned (OpenSpec.ofChange replayChecksSpec)

/-- ITS FALSE NEIGHBOUR: 'it returns false'. Refute it at one input. -/
def replayChecksWrong : ChangeSpec := { name := "replayChecks", fn := fun _ => fun
  | [d1, d2] => { results := [.lit (.bool false)], args := [d1, d2] }
  | _ => none }
def ReplayChecksWrongFalsely : Prop := replayChecksRow.holds Try.pinned (OpenSpec.ofChange replayChecksWrong)

/-- 'wirelesslaw49.ReplayOnce': WHATEVER THE INPUT: true; the input reads as it did. -/
def replayOnceSpec : ChangeSpec := { name := "replayOnce", fn := fun _ => fun
  | [d] => { results := [.lit (.bool true)], args := [d] }
  | _ => none }
def replayOnceRow : OpenClaim := { program := "ytajhfmioidmacaa", sum := "cadb967eb1a8fa49d59b3aecc1c37aef47319503822ebbaa356f92e602599068", func := "wireless/wirelesslaw49.ReplayOnce", spec := "replayOnce", unfollowed := true, recurses := true, apart := false }
def ReplayOnceSaid : Prop := replayOnceRow.holds Try.pinned (OpenSpec.ofChange replayOnceSpec)

/-- ITS FALSE NEIGHBOUR: 'it returns false'. Refute it at one input. -/
def replayOnceWrong : ChangeSpec := { name := "replayOnce", fn := fun _ => fun
  | [d] => { results := [.lit (.bool false)], args := [d] }
  | _ => none }
def ReplayOnceWrongFalsely : Prop := replayOnceRow.holds Try.pinned (OpenSpec.ofChange replayOnceWrong)

/- THE SECOND FORM. 'bulk': how many values and letters a reading holds, each counted each time it is reached (what is shared counts as often as it is met; a slice's spare places count too). A statement '..UptoSaid' is the law's where the arguments, and the package variables that the reading takes, are together of bulk at most 1048576: NARROWER than '..Said'. Prove '..Said' where nothing that the law and all that it calls make is longer than what came in: it says more and counts as full. Else prove '..UptoSaid'. A law counts once. -/
mutual
def uptoBulk {H : Type} : DataW H → Nat
  | .lit (.string bytes) => bytes.length + 1
  | .lit _ => 1
  | .nil => 1
  | .ptr d => uptoBulk d + 1
  | .slice elems spare => uptoBulkAll elems + uptoBulkAll spare + 1
  | .agg parts => uptoBulkAll parts + 1
  | .iface _ d => uptoBulk d + 1
  | .map entries => uptoBulkEntries entries + 1
  | .held _ => 1
def uptoBulkAll {H : Type} : List (DataW H) → Nat
  | [] => 0
  | d :: r => uptoBulk d + uptoBulkAll r
def uptoBulkEntries {H : Type} : List (Lit × DataW H) → Nat
  | [] => 0
  | x :: r => uptoBulkEntry x + uptoBulkEntries r
def uptoBulkEntry {H : Type} : Lit × DataW H → Nat
  | (.string bytes, d) => bytes.length + uptoBulk d + 1
  | (_, d) => uptoBulk d + 1
 end
def uptoSmall : (H : Type) → List (DataW H) → Bool := fun _ ds => decide (uptoBulkAll ds ≤ 1048576)
def OpenSpec.upto (s : _root_.Go.ChangeSpec) : _root_.Go.OpenSpec := { _root_.Go.OpenSpec.ofChange s with cond := some uptoSmall }

/-- 'wirelesslaw49.ReplayCaches', WHERE WHAT IT READS IS OF BULK AT MOST 1048576: true; the input reads as it did. -/
def replayCachesUptoRow : OpenClaim := { program := "ytajhfmioidmacaa", sum := "cadb967eb1a8fa49d59b3aecc1c37aef47319503822ebbaa356f92e602599068", func := "wireless/wirelesslaw49.ReplayCaches", spec := "replayCaches", unfollowed := true, recurses := true, apart := false, narrowed := true }
def ReplayCachesUptoSaid : Prop := replayCachesUptoRow.holds Try.pinned (OpenSpec.upto replayCachesSpec)

/-- 'wirelesslaw49.ReplayKeeps', WHERE WHAT IT READS IS OF BULK AT MOST 1048576: true; the input reads as it did. -/
def replayKeepsUptoRow : OpenClaim := { program := "ytajhfmioidmacaa", sum := "cadb967eb1a8fa49d59b3aecc1c37aef47319503822ebbaa356f92e602599068", func := "wireless/wirelesslaw49.ReplayKeeps", spec := "replayKeeps", unfollowed := true, recurses := true, apart := false, narrowed := true }
def ReplayKeepsUptoSaid : Prop := replayKeepsUptoRow.holds Try.pinned (OpenSpec.upto replayKeepsSpec)

/-- 'wirelesslaw49.ReplayOrders', WHERE WHAT IT READS IS OF BULK AT MOST 1048576: true; the input reads as it did. -/
def replayOrdersUptoRow : OpenClaim := { program := "ytajhfmioidmacaa", sum := "cadb967eb1a8fa49d59b3aecc1c37aef47319503822ebbaa356f92e602599068", func := "wireless/wirelesslaw49.ReplayOrders", spec := "replayOrders", unfollowed := true, recurses := true, apart := false, narrowed := true }
def ReplayOrdersUptoSaid : Prop := replayOrdersUptoRow.holds Try.pinned (OpenSpec.upto replayOrdersSpec)

/-- 'wirelesslaw49.ReplayChecks', WHERE WHAT IT READS IS OF BULK AT MOST 1048576: true; the input reads as it did. -/
def replayChecksUptoRow : OpenClaim := { program := "ytajhfmioidmacaa", sum := "cadb967eb1a8fa49d59b3aecc1c37aef47319503822ebbaa356f92e602599068", func := "wireless/wirelesslaw49.ReplayChecks", spec := "replayChecks", unfollowed := true, recurses := true, apart := false, narrowed := true }
def ReplayChecksUptoSaid : Prop := replayChecksUptoRow.holds Try.pinned (OpenSpec.upto replayChecksSpec)

/-- 'wirelesslaw49.ReplayOnce', WHERE WHAT IT READS IS OF BULK AT MOST 1048576: true; the input reads as it did. -/
def replayOnceUptoRow : OpenClaim := { program := "ytajhfmioidmacaa", sum := "cadb967eb1a8fa49d59b3aecc1c37aef47319503822ebbaa356f92e602599068", func := "wireless/wirelesslaw49.ReplayOnce", spec := "replayOnce", unfollowed := true, recurses := true, apart := false, narrowed := true }
def ReplayOnceUptoSaid : Prop := replayOnceUptoRow.holds Try.pinned (OpenSpec.upto replayOnceSpec)

end Rows
end Go.Proofs.Ytajhfmioidmacaa
