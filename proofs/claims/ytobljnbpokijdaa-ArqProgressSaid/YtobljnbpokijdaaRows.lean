/-
  No cell of these rows narrows 'for every input' (looked for: loops, veiled, ifaces, maps, wideKeys, modest, calm, conditions, laid).
  DERIVED. THE GIVEN ROWS OF THIS SEAT. 4 by the template 'for every input the law returns true; each argument reads behind the call as it read before'; 0 by the template 'total and deterministic' (their statements: YtobljnbpokijdaaTotals.lean).
  GIVEN WITH THE SEED: the statements are not yours to turn. If you find one false, say at which input.
  Laid BY PROGRAM, IN A SANDBOX (cutbox-rows.mjs): the forced cells as the released guide's own fill.sh prints them over the translation 92d4c3a18e3b59b1… (all of the seat's roots in one cut). By AI agents, Wed Nov 11 2026. No macro, syntax, notation, axiom, sorry.
-/
import Derived.Test.YtobljnbpokijdaaChecked
import GoSem.Claim
import GoSem.ClaimJoined
import GoSem.ClaimMapViews
import Derived.JoinedTies
import Derived.KernelRfl
namespace Go.Proofs.Ytobljnbpokijdaa
/- THE CELL 'sum', in the pinned program and in every row, IS THE sha256 OF THE DUMP (.gsa) THAT YtobljnbpokijdaaProg.lean LOADS. Nothing in Lean hashes anything: it is a label: what it is worth is what the hold of that sum in a sandbox is worth. -/
noncomputable def Try.pinned : Pinned := { name := "ytobljnbpokijdaa", sum := "92d4c3a18e3b59b11b6b4c9c5643edb8d0b802021c1e6ee2a16d78e60c724391", checked := Try.checked }
namespace Rows
def none {H : Type} : Left H := { results := [], args := [] }

/-- 'wirelesslaw24.ArqPlays': WHATEVER THE INPUT: true; the input reads as it did. -/
def arqPlaysSpec : ChangeSpec := { name := "arqPlays", fn := fun _ => fun
  | [d] => { results := [.lit (.bool true)], args := [d] }
  | _ => none }
def arqPlaysRow : OpenClaim := { program := "ytobljnbpokijdaa", sum := "92d4c3a18e3b59b11b6b4c9c5643edb8d0b802021c1e6ee2a16d78e60c724391", func := "wireless/wirelesslaw24.ArqPlays", spec := "arqPlays", apart := false }
def ArqPlaysSaid : Prop := arqPlaysRow.holds Try.pinned (OpenSpec.ofChange arqPlaysSpec)

/-- ITS FALSE NEIGHBOUR: 'it returns false'. Refute it at one input. -/
def arqPlaysWrong : ChangeSpec := { name := "arqPlays", fn := fun _ => fun
  | [d] => { results := [.lit (.bool false)], args := [d] }
  | _ => none }
def ArqPlaysWrongFalsely : Prop := arqPlaysRow.holds Try.pinned (OpenSpec.ofChange arqPlaysWrong)

/-- 'wirelesslaw24.ArqOnce': WHATEVER THE INPUT: true; the input reads as it did. -/
def arqOnceSpec : ChangeSpec := { name := "arqOnce", fn := fun _ => fun
  | [d] => { results := [.lit (.bool true)], args := [d] }
  | _ => none }
def arqOnceRow : OpenClaim := { program := "ytobljnbpokijdaa", sum := "92d4c3a18e3b59b11b6b4c9c5643edb8d0b802021c1e6ee2a16d78e60c724391", func := "wireless/wirelesslaw24.ArqOnce", spec := "arqOnce", apart := false }
def ArqOnceSaid : Prop := arqOnceRow.holds Try.pinned (OpenSpec.ofChange arqOnceSpec)

/-- ITS FALSE NEIGHBOUR: 'it returns false'. Refute it at one input. -/
def arqOnceWrong : ChangeSpec := { name := "arqOnce", fn := fun _ => fun
  | [d] => { results := [.lit (.bool false)], args := [d] }
  | _ => none }
def ArqOnceWrongFalsely : Prop := arqOnceRow.holds Try.pinned (OpenSpec.ofChange arqOnceWrong)

/-- 'wirelesslaw24.ArqRepeats': WHATEVER THE INPUT: true; the input reads as it did. -/
def arqRepeatsSpec : ChangeSpec := { name := "arqRepeats", fn := fun _ => fun
  | [d1, d2] => { results := [.lit (.bool true)], args := [d1, d2] }
  | _ => none }
def arqRepeatsRow : OpenClaim := { program := "ytobljnbpokijdaa", sum := "92d4c3a18e3b59b11b6b4c9c5643edb8d0b802021c1e6ee2a16d78e60c724391", func := "wireless/wirelesslaw24.ArqRepeats", spec := "arqRepeats", apart := false }
def ArqRepeatsSaid : Prop := arqRepeatsRow.holds Try.pinned (OpenSpec.ofChange arqRepeatsSpec)

/-- ITS FALSE NEIGHBOUR: 'it returns false'. Refute it at one input. -/
def arqRepeatsWrong : ChangeSpec := { name := "arqRepeats", fn := fun _ => fun
  | [d1, d2] => { results := [.lit (.bool false)], args := [d1, d2] }
  | _ => none }
def ArqRepeatsWrongFalsely : Prop := arqRepeatsRow.holds Try.pinned (OpenSpec.ofChange arqRepeatsWrong)

/-- 'wirelesslaw24.ArqProgress': WHATEVER THE INPUT: true; the input reads as it did. -/
def arqProgressSpec : ChangeSpec := { name := "arqProgress", fn := fun _ => fun
  | [d] => { results := [.lit (.bool true)], args := [d] }
  | _ => none }
def arqProgressRow : OpenClaim := { program := "ytobljnbpokijdaa", sum := "92d4c3a18e3b59b11b6b4c9c5643edb8d0b802021c1e6ee2a16d78e60c724391", func := "wireless/wirelesslaw24.ArqProgress", spec := "arqProgress", apart := false }
def ArqProgressSaid : Prop := arqProgressRow.holds Try.pinned (OpenSpec.ofChange arqProgressSpec)

/-- ITS FALSE NEIGHBOUR: 'it returns false'. Refute it at one input. -/
def arqProgressWrong : ChangeSpec := { name := "arqProgress", fn := fun _ => fun
  | [d] => { results := [.lit (.bool false)], args := [d] }
  | _ => none }
def ArqProgressWrongFalsely : Prop := arqProgressRow.holds Try.pinned (OpenSpec.ofChange arqProgressWrong)

/- THE SECOND FORM. 'bulk': how many values and letters a reading holds, each counted each time it is reached (what is shared counts as often as it is met; a slice's spare places count too). A statement '..UptoSaid' is the law's where the arguments, and the package variables that the reading takes, are together of bulk at most 1048576: NARROWER than '..Said'. Prove '..Said' where nothing that the law and all that it calls make is longer than what came in: it says more and counts as full. Else prove '..UptoSaid'. A law counts once. -/
mutual
def uptoBulk {H : Type} : DataW H → Nat
  | .lit (.string bytes) => bytes.length + 1
  | .lit _ => 1
  | .nil => 1
  | .ptr d => uptoBulk d + 1
  | .slice elems spare => uptoBulkAll elems + uptoBulkAll spare + 1
  | .agg parts => uptoBulkAll parts + 1
  | .iface _ d => uptoBulk d + 1
  | .map entries => uptoBulkEntries entries + 1
  | .held _ => 1
def uptoBulkAll {H : Type} : List (DataW H) → Nat
  | [] => 0
  | d :: r => uptoBulk d + uptoBulkAll r
def uptoBulkEntries {H : Type} : List (Lit × DataW H) → Nat
  | [] => 0
  | x :: r => uptoBulkEntry x + uptoBulkEntries r
def uptoBulkEntry {H : Type} : Lit × DataW H → Nat
  | (.string bytes, d) => bytes.length + uptoBulk d + 1
  | (_, d) => uptoBulk d + 1
 end
def uptoSmall : (H : Type) → List (DataW H) → Bool := fun _ ds => decide (uptoBulkAll ds ≤ 1048576)
def OpenSpec.upto (s : _root_.Go.ChangeSpec) : _root_.Go.OpenSpec := { _root_.Go.OpenSpec.ofChange s with cond := some uptoSmall }

/-- 'wirelesslaw24.ArqPlays', WHERE WHAT IT READS IS OF BULK AT MOST 1048576: true; the input reads as it did. -/
def arqPlaysUptoRow : OpenClaim := { program := "ytobljnbpokijdaa", sum := "92d4c3a18e3b59b11b6b4c9c5643edb8d0b802021c1e6ee2a16d78e60c724391", func := "wireless/wirelesslaw24.ArqPlays", spec := "arqPlays", apart := false, narrowed := true }
def ArqPlaysUptoSaid : Prop := arqPlaysUptoRow.holds Try.pinned (OpenSpec.upto arqPlaysSpec)

/-- 'wirelesslaw24.ArqOnce', WHERE WHAT IT READS IS OF BULK AT MOST 1048576: true; the input reads as it did. -/
def arqOnceUptoRow : OpenClaim := { program := "ytobljnbpokijdaa", sum := "92d4c3a18e3b59b11b6b4c9c5643edb8d0b802021c1e6ee2a16d78e60c724391", func := "wireless/wirelesslaw24.ArqOnce", spec := "arqOnce", apart := false, narrowed := true }
def ArqOnceUptoSaid : Prop := arqOnceUptoRow.holds Try.pinned (OpenSpec.upto arqOnceSpec)

/-- 'wirelesslaw24.ArqRepeats', WHERE WHAT IT READS IS OF BULK AT MOST 1048576: true; the input reads as it did. -/
def arqRepeatsUptoRow : OpenClaim := { program := "ytobljnbpokijdaa", sum := "92d4c3a18e3b59b11b6b4c9c5643edb8d0b802021c1e6ee2a16d78e60c724391", func := "wireless/wirelesslaw24.ArqRepeats", spec := "arqRepeats", apart := false, narrowed := true }
def ArqRepeatsUptoSaid : Prop := arqRepeatsUptoRow.holds Try.pinned (OpenSpec.upto arqRepeatsSpec)

/-- 'wirelesslaw24.ArqProgress', WHERE WHAT IT READS IS OF BULK AT MOST 1048576: true; the input reads as it did. -/
def arqProgressUptoRow : OpenClaim := { program := "ytobljnbpokijdaa", sum := "92d4c3a18e3b59b11b6b4c9c5643edb8d0b802021c1e6ee2a16d78e60c724391", func := "wireless/wirelesslaw24.ArqProgress", spec := "arqProgress", apart := false, narrowed := true }
def ArqProgressUptoSaid : Prop := arqProgressUptoRow.holds Try.pinned (OpenSpec.upto arqProgressSpec)

end Rows
end Go.Proofs.Ytobljnbpokijdaa
