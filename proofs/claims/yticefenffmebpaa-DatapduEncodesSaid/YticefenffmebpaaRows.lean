/-
  No cell of these rows narrows 'for every input' (looked for: loops, veiled, ifaces, maps, wideKeys, modest, calm, conditions, laid).
  DERIVED. THE GIVEN ROWS OF THIS SEAT. 6 by the template 'for every input the law returns true; each argument reads behind the call as it read before'; 0 by the template 'total and deterministic' (their statements: YticefenffmebpaaTotals.lean).
  GIVEN WITH THE SEED: the statements are not yours to turn. If you find one false, say at which input.
  Laid BY PROGRAM, IN A SANDBOX (cutbox-rows.mjs): the forced cells as the released guide's own fill.sh prints them over the translation 0b5164705284b57a… (all of the seat's roots in one cut). By AI agents, Wed Nov 11 2026. No macro, syntax, notation, axiom, sorry.
-/
import Derived.Test.YticefenffmebpaaChecked
import GoSem.Claim
import GoSem.ClaimJoined
import GoSem.ClaimMapViews
import Derived.JoinedTies
import Derived.KernelRfl
namespace Go.Proofs.Yticefenffmebpaa
/- THE CELL 'sum', in the pinned program and in every row, IS THE sha256 OF THE DUMP (.gsa) THAT YticefenffmebpaaProg.lean LOADS. Nothing in Lean hashes anything: it is a label: what it is worth is what the hold of that sum in a sandbox is worth. -/
noncomputable def Try.pinned : Pinned := { name := "yticefenffmebpaa", sum := "0b5164705284b57a7804c71768c4b7c1139773e08873693db8412229f4ccfb4b", checked := Try.checked }
namespace Rows
def none {H : Type} : Left H := { results := [], args := [] }

/-- 'wirelesslaw23.DatapduChecks': WHATEVER THE INPUT: true; the input reads as it did. -/
def datapduChecksSpec : ChangeSpec := { name := "datapduChecks", fn := fun _ => fun
  | [d] => { results := [.lit (.bool true)], args := [d] }
  | _ => none }
def datapduChecksRow : OpenClaim := { program := "yticefenffmebpaa", sum := "0b5164705284b57a7804c71768c4b7c1139773e08873693db8412229f4ccfb4b", func := "wireless/wirelesslaw23.DatapduChecks", spec := "datapduChecks", unfollowed := true, recurses := true, apart := false }
def DatapduChecksSaid : Prop := datapduChecksRow.holds Try.pinned (OpenSpec.ofChange datapduChecksSpec)

/-- ITS FALSE NEIGHBOUR: 'it returns false'. Refute it at one input. -/
def datapduChecksWrong : ChangeSpec := { name := "datapduChecks", fn := fun _ => fun
  | [d] => { results := [.lit (.bool false)], args := [d] }
  | _ => none }
def DatapduChecksWrongFalsely : Prop := datapduChecksRow.holds Try.pinned (OpenSpec.ofChange datapduChecksWrong)

/-- 'wirelesslaw23.DatapduEncodes': WHATEVER THE INPUT: true; the input reads as it did. -/
def datapduEncodesSpec : ChangeSpec := { name := "datapduEncodes", fn := fun _ => fun
  | [d] => { results := [.lit (.bool true)], args := [d] }
  | _ => none }
def datapduEncodesRow : OpenClaim := { program := "yticefenffmebpaa", sum := "0b5164705284b57a7804c71768c4b7c1139773e08873693db8412229f4ccfb4b", func := "wireless/wirelesslaw23.DatapduEncodes", spec := "datapduEncodes", unfollowed := true, recurses := true, apart := false }
def DatapduEncodesSaid : Prop := datapduEncodesRow.holds Try.pinned (OpenSpec.ofChange datapduEncodesSpec)

/-- ITS FALSE NEIGHBOUR: 'it returns false'. Refute it at one input. -/
def datapduEncodesWrong : ChangeSpec := { name := "datapduEncodes", fn := fun _ => fun
  | [d] => { results := [.lit (.bool false)], args := [d] }
  | _ => none }
def DatapduEncodesWrongFalsely : Prop := datapduEncodesRow.holds Try.pinned (OpenSpec.ofChange datapduEncodesWrong)

/-- 'wirelesslaw23.DatapduDecodes': WHATEVER THE INPUT: true; the input reads as it did. -/
def datapduDecodesSpec : ChangeSpec := { name := "datapduDecodes", fn := fun _ => fun
  | [d] => { results := [.lit (.bool true)], args := [d] }
  | _ => none }
def datapduDecodesRow : OpenClaim := { program := "yticefenffmebpaa", sum := "0b5164705284b57a7804c71768c4b7c1139773e08873693db8412229f4ccfb4b", func := "wireless/wirelesslaw23.DatapduDecodes", spec := "datapduDecodes", unfollowed := true, recurses := true, apart := false }
def DatapduDecodesSaid : Prop := datapduDecodesRow.holds Try.pinned (OpenSpec.ofChange datapduDecodesSpec)

/-- ITS FALSE NEIGHBOUR: 'it returns false'. Refute it at one input. -/
def datapduDecodesWrong : ChangeSpec := { name := "datapduDecodes", fn := fun _ => fun
  | [d] => { results := [.lit (.bool false)], args := [d] }
  | _ => none }
def DatapduDecodesWrongFalsely : Prop := datapduDecodesRow.holds Try.pinned (OpenSpec.ofChange datapduDecodesWrong)

/-- 'wirelesslaw23.DatapduBack': WHATEVER THE INPUT: true; the input reads as it did. -/
def datapduBackSpec : ChangeSpec := { name := "datapduBack", fn := fun _ => fun
  | [d] => { results := [.lit (.bool true)], args := [d] }
  | _ => none }
def datapduBackRow : OpenClaim := { program := "yticefenffmebpaa", sum := "0b5164705284b57a7804c71768c4b7c1139773e08873693db8412229f4ccfb4b", func := "wireless/wirelesslaw23.DatapduBack", spec := "datapduBack", unfollowed := true, recurses := true, apart := false }
def DatapduBackSaid : Prop := datapduBackRow.holds Try.pinned (OpenSpec.ofChange datapduBackSpec)

/-- ITS FALSE NEIGHBOUR: 'it returns false'. Refute it at one input. -/
def datapduBackWrong : ChangeSpec := { name := "datapduBack", fn := fun _ => fun
  | [d] => { results := [.lit (.bool false)], args := [d] }
  | _ => none }
def DatapduBackWrongFalsely : Prop := datapduBackRow.holds Try.pinned (OpenSpec.ofChange datapduBackWrong)

/-- 'wirelesslaw23.DatapduUnique': WHATEVER THE INPUT: true; the input reads as it did. -/
def datapduUniqueSpec : ChangeSpec := { name := "datapduUnique", fn := fun _ => fun
  | [d] => { results := [.lit (.bool true)], args := [d] }
  | _ => none }
def datapduUniqueRow : OpenClaim := { program := "yticefenffmebpaa", sum := "0b5164705284b57a7804c71768c4b7c1139773e08873693db8412229f4ccfb4b", func := "wireless/wirelesslaw23.DatapduUnique", spec := "datapduUnique", unfollowed := true, recurses := true, apart := false }
def DatapduUniqueSaid : Prop := datapduUniqueRow.holds Try.pinned (OpenSpec.ofChange datapduUniqueSpec)

/-- ITS FALSE NEIGHBOUR: 'it returns false'. Refute it at one input. -/
def datapduUniqueWrong : ChangeSpec := { name := "datapduUnique", fn := fun _ => fun
  | [d] => { results := [.lit (.bool false)], args := [d] }
  | _ => none }
def DatapduUniqueWrongFalsely : Prop := datapduUniqueRow.holds Try.pinned (OpenSpec.ofChange datapduUniqueWrong)

/-- 'wirelesslaw23.DatapduEnds': WHATEVER THE INPUT: true; the input reads as it did. -/
def datapduEndsSpec : ChangeSpec := { name := "datapduEnds", fn := fun _ => fun
  | [d1, d2, d3] => { results := [.lit (.bool true)], args := [d1, d2, d3] }
  | _ => none }
def datapduEndsRow : OpenClaim := { program := "yticefenffmebpaa", sum := "0b5164705284b57a7804c71768c4b7c1139773e08873693db8412229f4ccfb4b", func := "wireless/wirelesslaw23.DatapduEnds", spec := "datapduEnds", unfollowed := true, recurses := true, apart := false }
def DatapduEndsSaid : Prop := datapduEndsRow.holds Try.pinned (OpenSpec.ofChange datapduEndsSpec)

/-- ITS FALSE NEIGHBOUR: 'it returns false'. Refute it at one input. -/
def datapduEndsWrong : ChangeSpec := { name := "datapduEnds", fn := fun _ => fun
  | [d1, d2, d3] => { results := [.lit (.bool false)], args := [d1, d2, d3] }
  | _ => none }
def DatapduEndsWrongFalsely : Prop := datapduEndsRow.holds Try.pinned (OpenSpec.ofChange datapduEndsWrong)

/- THE SECOND FORM. 'bulk': how many values and letters a reading holds, each counted each time it is reached (what is shared counts as often as it is met; a slice's spare places count too). A statement '..UptoSaid' is the law's where the arguments, and the package variables that the reading takes, are together of bulk at most 1048576: NARROWER than '..Said'. Prove '..Said' where nothing that the law and all that it calls make is longer than what came in: it says more and counts as full. Else prove '..UptoSaid'. A law counts once. -/
mutual
def uptoBulk {H : Type} : DataW H → Nat
  | .lit (.string bytes) => bytes.length + 1
  | .lit _ => 1
  | .nil => 1
  | .ptr d => uptoBulk d + 1
  | .slice elems spare => uptoBulkAll elems + uptoBulkAll spare + 1
  | .agg parts => uptoBulkAll parts + 1
  | .iface _ d => uptoBulk d + 1
  | .map entries => uptoBulkEntries entries + 1
  | .held _ => 1
def uptoBulkAll {H : Type} : List (DataW H) → Nat
  | [] => 0
  | d :: r => uptoBulk d + uptoBulkAll r
def uptoBulkEntries {H : Type} : List (Lit × DataW H) → Nat
  | [] => 0
  | x :: r => uptoBulkEntry x + uptoBulkEntries r
def uptoBulkEntry {H : Type} : Lit × DataW H → Nat
  | (.string bytes, d) => bytes.length + uptoBulk d + 1
  | (_, d) => uptoBulk d + 1
 end
def uptoSmall : (H : Type) → List (DataW H) → Bool := fun _ ds => decide (uptoBulkAll ds ≤ 1048576)
def OpenSpec.upto (s : _root_.Go.ChangeSpec) : _root_.Go.OpenSpec := { _root_.Go.OpenSpec.ofChange s with cond := some uptoSmall }

/-- 'wirelesslaw23.DatapduChecks', WHERE WHAT IT READS IS OF BULK AT MOST 1048576: true; the input reads as it did. -/
def datapduChecksUptoRow : OpenClaim := { program := "yticefenffmebpaa", sum := "0b5164705284b57a7804c71768c4b7c1139773e08873693db8412229f4ccfb4b", func := "wireless/wirelesslaw23.DatapduChecks", spec := "datapduChecks", unfollowed := true, recurses := true, apart := false, narrowed := true }
def DatapduChecksUptoSaid : Prop := datapduChecksUptoRow.holds Try.pinned (OpenSpec.upto datapduChecksSpec)

/-- 'wirelesslaw23.DatapduEncodes', WHERE WHAT IT READS IS OF BULK AT MOST 1048576: true; the input reads as it did. -/
def datapduEncodesUptoRow : OpenClaim := { program := "yticefenffmebpaa", sum := "0b5164705284b57a7804c71768c4b7c1139773e08873693db8412229f4ccfb4b", func := "wireless/wirelesslaw23.DatapduEncodes", spec := "datapduEncodes", unfollowed := true, recurses := true, apart := false, narrowed := true }
def DatapduEncodesUptoSaid : Prop := datapduEncodesUptoRow.holds Try.pinned (OpenSpec.upto datapduEncodesSpec)

/-- 'wirelesslaw23.DatapduDecodes', WHERE WHAT IT READS IS OF BULK AT MOST 1048576: true; the input reads as it did. -/
def datapduDecodesUptoRow : OpenClaim := { program := "yticefenffmebpaa", sum := "0b5164705284b57a7804c71768c4b7c1139773e08873693db8412229f4ccfb4b", func := "wireless/wirelesslaw23.DatapduDecodes", spec := "datapduDecodes", unfollowed := true, recurses := true, apart := false, narrowed := true }
def DatapduDecodesUptoSaid : Prop := datapduDecodesUptoRow.holds Try.pinned (OpenSpec.upto datapduDecodesSpec)

/-- 'wirelesslaw23.DatapduBack', WHERE WHAT IT READS IS OF BULK AT MOST 1048576: true; the input reads as it did. -/
def datapduBackUptoRow : OpenClaim := { program := "yticefenffmebpaa", sum := "0b5164705284b57a7804c71768c4b7c1139773e08873693db8412229f4ccfb4b", func := "wireless/wirelesslaw23.DatapduBack", spec := "datapduBack", unfollowed := true, recurses := true, apart := false, narrowed := true }
def DatapduBackUptoSaid : Prop := datapduBackUptoRow.holds Try.pinned (OpenSpec.upto datapduBackSpec)

/-- 'wirelesslaw23.DatapduUnique', WHERE WHAT IT READS IS OF BULK AT MOST 1048576: true; the input reads as it did. -/
def datapduUniqueUptoRow : OpenClaim := { program := "yticefenffmebpaa", sum := "0b5164705284b57a7804c71768c4b7c1139773e08873693db8412229f4ccfb4b", func := "wireless/wirelesslaw23.DatapduUnique", spec := "datapduUnique", unfollowed := true, recurses := true, apart := false, narrowed := true }
def DatapduUniqueUptoSaid : Prop := datapduUniqueUptoRow.holds Try.pinned (OpenSpec.upto datapduUniqueSpec)

/-- 'wirelesslaw23.DatapduEnds', WHERE WHAT IT READS IS OF BULK AT MOST 1048576: true; the input reads as it did. -/
def datapduEndsUptoRow : OpenClaim := { program := "yticefenffmebpaa", sum := "0b5164705284b57a7804c71768c4b7c1139773e08873693db8412229f4ccfb4b", func := "wireless/wirelesslaw23.DatapduEnds", spec := "datapduEnds", unfollowed := true, recurses := true, apart := false, narrowed := true }
def DatapduEndsUptoSaid : Prop := datapduEndsUptoRow.holds Try.pinned (OpenSpec.upto datapduEndsSpec)

end Rows
end Go.Proofs.Yticefenffmebpaa
