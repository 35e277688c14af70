/-
  No cell of these rows narrows 'for every input' (looked for: loops, veiled, ifaces, maps, wideKeys, modest, calm, conditions, laid).
  DERIVED. THE GIVEN ROWS OF THIS SEAT. 5 by the template 'for every input the law returns true; each argument reads behind the call as it read before'; 0 by the template 'total and deterministic' (their statements: YtkfdhgfeidjaiaaTotals.lean).
  GIVEN WITH THE SEED: the statements are not yours to turn. If you find one false, say at which input.
  Laid BY PROGRAM, IN A SANDBOX (cutbox-rows.mjs): the forced cells as the released guide's own fill.sh prints them over the translation 0b07e3a4f7da4f70… (all of the seat's roots in one cut). By AI agents, Wed Nov 11 2026. No macro, syntax, notation, axiom, sorry.
-/
import Derived.Test.YtkfdhgfeidjaiaaChecked
import GoSem.Claim
import GoSem.ClaimJoined
import GoSem.ClaimMapViews
import Derived.JoinedTies
import Derived.KernelRfl
namespace Go.Proofs.Ytkfdhgfeidjaiaa
/- THE CELL 'sum', in the pinned program and in every row, IS THE sha256 OF THE DUMP (.gsa) THAT YtkfdhgfeidjaiaaProg.lean LOADS. Nothing in Lean hashes anything: it is a label: what it is worth is what the hold of that sum in a sandbox is worth. -/
noncomputable def Try.pinned : Pinned := { name := "ytkfdhgfeidjaiaa", sum := "0b07e3a4f7da4f701342ea3d0078309f14ae64f56f69c5a64818cd32f848754e", checked := Try.checked }
namespace Rows
def none {H : Type} : Left H := { results := [], args := [] }

/-- 'icehouselaw.DevAppends': WHATEVER THE INPUT: true; the input reads as it did. -/
def devAppendsSpec : ChangeSpec := { name := "devAppends", fn := fun _ => fun
  | [d1, d2, d3, d4] => { results := [.lit (.bool true)], args := [d1, d2, d3, d4] }
  | _ => none }
def devAppendsRow : OpenClaim := { program := "ytkfdhgfeidjaiaa", sum := "0b07e3a4f7da4f701342ea3d0078309f14ae64f56f69c5a64818cd32f848754e", func := "icehouse/icehouselaw.DevAppends", spec := "devAppends", unfollowed := true, recurses := true, plainKeys := false, apart := false }
def DevAppendsSaid : Prop := devAppendsRow.holds Try.pinned (OpenSpec.ofChange devAppendsSpec)

/-- ITS FALSE NEIGHBOUR: 'it returns false'. Refute it at one input. -/
def devAppendsWrong : ChangeSpec := { name := "devAppends", fn := fun _ => fun
  | [d1, d2, d3, d4] => { results := [.lit (.bool false)], args := [d1, d2, d3, d4] }
  | _ => none }
def DevAppendsWrongFalsely : Prop := devAppendsRow.holds Try.pinned (OpenSpec.ofChange devAppendsWrong)

/-- 'icehouselaw.CodeStates': WHATEVER THE INPUT: true; the input reads as it did. -/
def codeStatesSpec : ChangeSpec := { name := "codeStates", fn := fun _ => fun
  | [d] => { results := [.lit (.bool true)], args := [d] }
  | _ => none }
def codeStatesRow : OpenClaim := { program := "ytkfdhgfeidjaiaa", sum := "0b07e3a4f7da4f701342ea3d0078309f14ae64f56f69c5a64818cd32f848754e", func := "icehouse/icehouselaw.CodeStates", spec := "codeStates", inPlace := ["internal/bytealg.abigen_runtime_cmpstring"], unfollowed := true, recurses := true, plainKeys := false, apart := false }
def CodeStatesSaid : Prop := codeStatesRow.holds Try.pinned (OpenSpec.ofChange codeStatesSpec)

/-- ITS FALSE NEIGHBOUR: 'it returns false'. Refute it at one input. -/
def codeStatesWrong : ChangeSpec := { name := "codeStates", fn := fun _ => fun
  | [d] => { results := [.lit (.bool false)], args := [d] }
  | _ => none }
def CodeStatesWrongFalsely : Prop := codeStatesRow.holds Try.pinned (OpenSpec.ofChange codeStatesWrong)

/-- 'icehouselaw.CodeReads': WHATEVER THE INPUT: true; the input reads as it did. -/
def codeReadsSpec : ChangeSpec := { name := "codeReads", fn := fun _ => fun
  | [d] => { results := [.lit (.bool true)], args := [d] }
  | _ => none }
def codeReadsRow : OpenClaim := { program := "ytkfdhgfeidjaiaa", sum := "0b07e3a4f7da4f701342ea3d0078309f14ae64f56f69c5a64818cd32f848754e", func := "icehouse/icehouselaw.CodeReads", spec := "codeReads", inPlace := ["internal/bytealg.abigen_runtime_cmpstring"], unfollowed := true, recurses := true, plainKeys := false, apart := false }
def CodeReadsSaid : Prop := codeReadsRow.holds Try.pinned (OpenSpec.ofChange codeReadsSpec)

/-- ITS FALSE NEIGHBOUR: 'it returns false'. Refute it at one input. -/
def codeReadsWrong : ChangeSpec := { name := "codeReads", fn := fun _ => fun
  | [d] => { results := [.lit (.bool false)], args := [d] }
  | _ => none }
def CodeReadsWrongFalsely : Prop := codeReadsRow.holds Try.pinned (OpenSpec.ofChange codeReadsWrong)

/-- 'icehouselaw.ListVersions': WHATEVER THE INPUT: true; the input reads as it did. -/
def listVersionsSpec : ChangeSpec := { name := "listVersions", fn := fun _ => fun
  | [d1, d2, d3, d4] => { results := [.lit (.bool true)], args := [d1, d2, d3, d4] }
  | _ => none }
def listVersionsRow : OpenClaim := { program := "ytkfdhgfeidjaiaa", sum := "0b07e3a4f7da4f701342ea3d0078309f14ae64f56f69c5a64818cd32f848754e", func := "icehouse/icehouselaw.ListVersions", spec := "listVersions", inPlace := ["internal/bytealg.abigen_runtime_cmpstring"], unfollowed := true, recurses := true, plainKeys := false, apart := false }
def ListVersionsSaid : Prop := listVersionsRow.holds Try.pinned (OpenSpec.ofChange listVersionsSpec)

/-- ITS FALSE NEIGHBOUR: 'it returns false'. Refute it at one input. -/
def listVersionsWrong : ChangeSpec := { name := "listVersions", fn := fun _ => fun
  | [d1, d2, d3, d4] => { results := [.lit (.bool false)], args := [d1, d2, d3, d4] }
  | _ => none }
def ListVersionsWrongFalsely : Prop := listVersionsRow.holds Try.pinned (OpenSpec.ofChange listVersionsWrong)

/-- 'icehouselaw.ListKeys': WHATEVER THE INPUT: true; the input reads as it did. -/
def listKeysSpec : ChangeSpec := { name := "listKeys", fn := fun _ => fun
  | [d1, d2, d3, d4, d5, d6] => { results := [.lit (.bool true)], args := [d1, d2, d3, d4, d5, d6] }
  | _ => none }
def listKeysRow : OpenClaim := { program := "ytkfdhgfeidjaiaa", sum := "0b07e3a4f7da4f701342ea3d0078309f14ae64f56f69c5a64818cd32f848754e", func := "icehouse/icehouselaw.ListKeys", spec := "listKeys", inPlace := ["internal/bytealg.abigen_runtime_cmpstring", "internal/bytealg.IndexByteString", "internal/bytealg.IndexString"], unfollowed := true, recurses := true, named := ["internal/bytealg.MaxLen"], plainKeys := false, apart := false }
def ListKeysSaid : Prop := listKeysRow.holds Try.pinned (OpenSpec.ofChange listKeysSpec)

/-- ITS FALSE NEIGHBOUR: 'it returns false'. Refute it at one input. -/
def listKeysWrong : ChangeSpec := { name := "listKeys", fn := fun _ => fun
  | [d1, d2, d3, d4, d5, d6] => { results := [.lit (.bool false)], args := [d1, d2, d3, d4, d5, d6] }
  | _ => none }
def ListKeysWrongFalsely : Prop := listKeysRow.holds Try.pinned (OpenSpec.ofChange listKeysWrong)

/- THE SECOND FORM. 'bulk': how many values and letters a reading holds, each counted each time it is reached (what is shared counts as often as it is met; a slice's spare places count too). A statement '..UptoSaid' is the law's where the arguments, and the package variables that the reading takes, are together of bulk at most 1048576: NARROWER than '..Said'. Prove '..Said' where nothing that the law and all that it calls make is longer than what came in: it says more and counts as full. Else prove '..UptoSaid'. A law counts once. -/
mutual
def uptoBulk {H : Type} : DataW H → Nat
  | .lit (.string bytes) => bytes.length + 1
  | .lit _ => 1
  | .nil => 1
  | .ptr d => uptoBulk d + 1
  | .slice elems spare => uptoBulkAll elems + uptoBulkAll spare + 1
  | .agg parts => uptoBulkAll parts + 1
  | .iface _ d => uptoBulk d + 1
  | .map entries => uptoBulkEntries entries + 1
  | .held _ => 1
def uptoBulkAll {H : Type} : List (DataW H) → Nat
  | [] => 0
  | d :: r => uptoBulk d + uptoBulkAll r
def uptoBulkEntries {H : Type} : List (Lit × DataW H) → Nat
  | [] => 0
  | x :: r => uptoBulkEntry x + uptoBulkEntries r
def uptoBulkEntry {H : Type} : Lit × DataW H → Nat
  | (.string bytes, d) => bytes.length + uptoBulk d + 1
  | (_, d) => uptoBulk d + 1
 end
def uptoSmall : (H : Type) → List (DataW H) → Bool := fun _ ds => decide (uptoBulkAll ds ≤ 1048576)
def OpenSpec.upto (s : _root_.Go.ChangeSpec) : _root_.Go.OpenSpec := { _root_.Go.OpenSpec.ofChange s with cond := some uptoSmall }

/-- 'icehouselaw.DevAppends', WHERE WHAT IT READS IS OF BULK AT MOST 1048576: true; the input reads as it did. -/
def devAppendsUptoRow : OpenClaim := { program := "ytkfdhgfeidjaiaa", sum := "0b07e3a4f7da4f701342ea3d0078309f14ae64f56f69c5a64818cd32f848754e", func := "icehouse/icehouselaw.DevAppends", spec := "devAppends", unfollowed := true, recurses := true, plainKeys := false, apart := false, narrowed := true }
def DevAppendsUptoSaid : Prop := devAppendsUptoRow.holds Try.pinned (OpenSpec.upto devAppendsSpec)

/-- 'icehouselaw.CodeStates', WHERE WHAT IT READS IS OF BULK AT MOST 1048576: true; the input reads as it did. -/
def codeStatesUptoRow : OpenClaim := { program := "ytkfdhgfeidjaiaa", sum := "0b07e3a4f7da4f701342ea3d0078309f14ae64f56f69c5a64818cd32f848754e", func := "icehouse/icehouselaw.CodeStates", spec := "codeStates", inPlace := ["internal/bytealg.abigen_runtime_cmpstring"], unfollowed := true, recurses := true, plainKeys := false, apart := false, narrowed := true }
def CodeStatesUptoSaid : Prop := codeStatesUptoRow.holds Try.pinned (OpenSpec.upto codeStatesSpec)

/-- 'icehouselaw.CodeReads', WHERE WHAT IT READS IS OF BULK AT MOST 1048576: true; the input reads as it did. -/
def codeReadsUptoRow : OpenClaim := { program := "ytkfdhgfeidjaiaa", sum := "0b07e3a4f7da4f701342ea3d0078309f14ae64f56f69c5a64818cd32f848754e", func := "icehouse/icehouselaw.CodeReads", spec := "codeReads", inPlace := ["internal/bytealg.abigen_runtime_cmpstring"], unfollowed := true, recurses := true, plainKeys := false, apart := false, narrowed := true }
def CodeReadsUptoSaid : Prop := codeReadsUptoRow.holds Try.pinned (OpenSpec.upto codeReadsSpec)

/-- 'icehouselaw.ListVersions', WHERE WHAT IT READS IS OF BULK AT MOST 1048576: true; the input reads as it did. -/
def listVersionsUptoRow : OpenClaim := { program := "ytkfdhgfeidjaiaa", sum := "0b07e3a4f7da4f701342ea3d0078309f14ae64f56f69c5a64818cd32f848754e", func := "icehouse/icehouselaw.ListVersions", spec := "listVersions", inPlace := ["internal/bytealg.abigen_runtime_cmpstring"], unfollowed := true, recurses := true, plainKeys := false, apart := false, narrowed := true }
def ListVersionsUptoSaid : Prop := listVersionsUptoRow.holds Try.pinned (OpenSpec.upto listVersionsSpec)

/-- 'icehouselaw.ListKeys', WHERE WHAT IT READS IS OF BULK AT MOST 1048576: true; the input reads as it did. -/
def listKeysUptoRow : OpenClaim := { program := "ytkfdhgfeidjaiaa", sum := "0b07e3a4f7da4f701342ea3d0078309f14ae64f56f69c5a64818cd32f848754e", func := "icehouse/icehouselaw.ListKeys", spec := "listKeys", inPlace := ["internal/bytealg.abigen_runtime_cmpstring", "internal/bytealg.IndexByteString", "internal/bytealg.IndexString"], unfollowed := true, recurses := true, named := ["internal/bytealg.MaxLen"], plainKeys := false, apart := false, narrowed := true }
def ListKeysUptoSaid : Prop := listKeysUptoRow.holds Try.pinned (OpenSpec.upto listKeysSpec)

end Rows
end Go.Proofs.Ytkfdhgfeidjaiaa
