/-
  No cell of these rows narrows 'for every input' (looked for: loops, veiled, ifaces, maps, wideKeys, modest, calm, conditions, laid).
  DERIVED. THE GIVEN ROWS OF THIS SEAT. 8 by the template 'for every input the law returns true; each argument reads behind the call as it read before'; 0 by the template 'total and deterministic' (their statements: YtfdjbjinomfgiaaTotals.lean).
  GIVEN WITH THE SEED: the statements are not yours to turn. If you find one false, say at which input.
  Laid BY PROGRAM, IN A SANDBOX (cutbox-rows.mjs): the forced cells as the released guide's own fill.sh prints them over the translation 5a0cf58ee6753918… (all of the seat's roots in one cut). By AI agents, Wed Nov 11 2026. No macro, syntax, notation, axiom, sorry.
-/
import Derived.Test.YtfdjbjinomfgiaaChecked
import GoSem.Claim
import GoSem.ClaimJoined
import GoSem.ClaimMapViews
import Derived.JoinedTies
import Derived.KernelRfl
namespace Go.Proofs.Ytfdjbjinomfgiaa
/- THE CELL 'sum', in the pinned program and in every row, IS THE sha256 OF THE DUMP (.gsa) THAT YtfdjbjinomfgiaaProg.lean LOADS. Nothing in Lean hashes anything: it is a label: what it is worth is what the hold of that sum in a sandbox is worth. -/
noncomputable def Try.pinned : Pinned := { name := "ytfdjbjinomfgiaa", sum := "5a0cf58ee6753918a7f87d2ad8d898a451cd0576f354766d661bf3214f2747cf", checked := Try.checked }
namespace Rows
def none {H : Type} : Left H := { results := [], args := [] }

/-- 'conchlaw16.BuiltReads': WHATEVER THE INPUT: true; the input reads as it did. -/
def builtReadsSpec : ChangeSpec := { name := "builtReads", fn := fun _ => fun
  | [d1, d2] => { results := [.lit (.bool true)], args := [d1, d2] }
  | _ => none }
def builtReadsRow : OpenClaim := { program := "ytfdjbjinomfgiaa", sum := "5a0cf58ee6753918a7f87d2ad8d898a451cd0576f354766d661bf3214f2747cf", func := "conch/conchlaw16.BuiltReads", spec := "builtReads", inPlace := ["internal/bytealg.IndexByteString", "internal/abi.NoEscape", "internal/bytealg.MakeNoZero"], unfollowed := true, recurses := true, apart := false }
def BuiltReadsSaid : Prop := builtReadsRow.holds Try.pinned (OpenSpec.ofChange builtReadsSpec)

/-- ITS FALSE NEIGHBOUR: 'it returns false'. Refute it at one input. -/
def builtReadsWrong : ChangeSpec := { name := "builtReads", fn := fun _ => fun
  | [d1, d2] => { results := [.lit (.bool false)], args := [d1, d2] }
  | _ => none }
def BuiltReadsWrongFalsely : Prop := builtReadsRow.holds Try.pinned (OpenSpec.ofChange builtReadsWrong)

/-- 'conchlaw13.EnvPlays': WHATEVER THE INPUT: true; the input reads as it did. -/
def envPlaysSpec : ChangeSpec := { name := "envPlays", fn := fun _ => fun
  | [d1, d2, d3] => { results := [.lit (.bool true)], args := [d1, d2, d3] }
  | _ => none }
def envPlaysRow : OpenClaim := { program := "ytfdjbjinomfgiaa", sum := "5a0cf58ee6753918a7f87d2ad8d898a451cd0576f354766d661bf3214f2747cf", func := "conch/conchlaw13.EnvPlays", spec := "envPlays", inPlace := ["internal/bytealg.IndexByteString", "maps.clone"], unfollowed := true, recurses := true, apart := false }
def EnvPlaysSaid : Prop := envPlaysRow.holds Try.pinned (OpenSpec.ofChange envPlaysSpec)

/-- ITS FALSE NEIGHBOUR: 'it returns false'. Refute it at one input. -/
def envPlaysWrong : ChangeSpec := { name := "envPlays", fn := fun _ => fun
  | [d1, d2, d3] => { results := [.lit (.bool false)], args := [d1, d2, d3] }
  | _ => none }
def EnvPlaysWrongFalsely : Prop := envPlaysRow.holds Try.pinned (OpenSpec.ofChange envPlaysWrong)

/-- 'conchlaw12.TreeGlobs': WHATEVER THE INPUT: true; the input reads as it did. -/
def treeGlobsSpec : ChangeSpec := { name := "treeGlobs", fn := fun _ => fun
  | [d1, d2] => { results := [.lit (.bool true)], args := [d1, d2] }
  | _ => none }
def treeGlobsRow : OpenClaim := { program := "ytfdjbjinomfgiaa", sum := "5a0cf58ee6753918a7f87d2ad8d898a451cd0576f354766d661bf3214f2747cf", func := "conch/conchlaw12.TreeGlobs", spec := "treeGlobs", inPlace := ["internal/bytealg.IndexByteString"], unfollowed := true, recurses := true, apart := false }
def TreeGlobsSaid : Prop := treeGlobsRow.holds Try.pinned (OpenSpec.ofChange treeGlobsSpec)

/-- ITS FALSE NEIGHBOUR: 'it returns false'. Refute it at one input. -/
def treeGlobsWrong : ChangeSpec := { name := "treeGlobs", fn := fun _ => fun
  | [d1, d2] => { results := [.lit (.bool false)], args := [d1, d2] }
  | _ => none }
def TreeGlobsWrongFalsely : Prop := treeGlobsRow.holds Try.pinned (OpenSpec.ofChange treeGlobsWrong)

/-- 'conchlaw12.TreeFull': WHATEVER THE INPUT: true; the input reads as it did. -/
def treeFullSpec : ChangeSpec := { name := "treeFull", fn := fun _ => fun
  | [d1, d2] => { results := [.lit (.bool true)], args := [d1, d2] }
  | _ => none }
def treeFullRow : OpenClaim := { program := "ytfdjbjinomfgiaa", sum := "5a0cf58ee6753918a7f87d2ad8d898a451cd0576f354766d661bf3214f2747cf", func := "conch/conchlaw12.TreeFull", spec := "treeFull", inPlace := ["internal/bytealg.IndexByteString"], unfollowed := true, recurses := true, apart := false }
def TreeFullSaid : Prop := treeFullRow.holds Try.pinned (OpenSpec.ofChange treeFullSpec)

/-- ITS FALSE NEIGHBOUR: 'it returns false'. Refute it at one input. -/
def treeFullWrong : ChangeSpec := { name := "treeFull", fn := fun _ => fun
  | [d1, d2] => { results := [.lit (.bool false)], args := [d1, d2] }
  | _ => none }
def TreeFullWrongFalsely : Prop := treeFullRow.holds Try.pinned (OpenSpec.ofChange treeFullWrong)

/-- 'conchlaw12.TreeTells': WHATEVER THE INPUT: true; the input reads as it did. -/
def treeTellsSpec : ChangeSpec := { name := "treeTells", fn := fun _ => fun
  | [d1, d2, d3, d4] => { results := [.lit (.bool true)], args := [d1, d2, d3, d4] }
  | _ => none }
def treeTellsRow : OpenClaim := { program := "ytfdjbjinomfgiaa", sum := "5a0cf58ee6753918a7f87d2ad8d898a451cd0576f354766d661bf3214f2747cf", func := "conch/conchlaw12.TreeTells", spec := "treeTells", inPlace := ["internal/bytealg.IndexByteString", "maps.clone"], unfollowed := true, recurses := true, apart := false }
def TreeTellsSaid : Prop := treeTellsRow.holds Try.pinned (OpenSpec.ofChange treeTellsSpec)

/-- ITS FALSE NEIGHBOUR: 'it returns false'. Refute it at one input. -/
def treeTellsWrong : ChangeSpec := { name := "treeTells", fn := fun _ => fun
  | [d1, d2, d3, d4] => { results := [.lit (.bool false)], args := [d1, d2, d3, d4] }
  | _ => none }
def TreeTellsWrongFalsely : Prop := treeTellsRow.holds Try.pinned (OpenSpec.ofChange treeTellsWrong)

/-- 'conchlaw21.StateTells': WHATEVER THE INPUT: true; the input reads as it did. -/
def stateTellsSpec : ChangeSpec := { name := "stateTells", fn := fun _ => fun
  | [d1, d2, d3] => { results := [.lit (.bool true)], args := [d1, d2, d3] }
  | _ => none }
def stateTellsRow : OpenClaim := { program := "ytfdjbjinomfgiaa", sum := "5a0cf58ee6753918a7f87d2ad8d898a451cd0576f354766d661bf3214f2747cf", func := "conch/conchlaw21.StateTells", spec := "stateTells", inPlace := ["internal/bytealg.IndexByteString", "maps.clone"], unfollowed := true, recurses := true, apart := false }
def StateTellsSaid : Prop := stateTellsRow.holds Try.pinned (OpenSpec.ofChange stateTellsSpec)

/-- ITS FALSE NEIGHBOUR: 'it returns false'. Refute it at one input. -/
def stateTellsWrong : ChangeSpec := { name := "stateTells", fn := fun _ => fun
  | [d1, d2, d3] => { results := [.lit (.bool false)], args := [d1, d2, d3] }
  | _ => none }
def StateTellsWrongFalsely : Prop := stateTellsRow.holds Try.pinned (OpenSpec.ofChange stateTellsWrong)

/-- 'conchlaw21.StateJoins': WHATEVER THE INPUT: true; the input reads as it did. -/
def stateJoinsSpec : ChangeSpec := { name := "stateJoins", fn := fun _ => fun
  | [d1, d2, d3, d4] => { results := [.lit (.bool true)], args := [d1, d2, d3, d4] }
  | _ => none }
def stateJoinsRow : OpenClaim := { program := "ytfdjbjinomfgiaa", sum := "5a0cf58ee6753918a7f87d2ad8d898a451cd0576f354766d661bf3214f2747cf", func := "conch/conchlaw21.StateJoins", spec := "stateJoins", inPlace := ["internal/bytealg.IndexByteString", "maps.clone"], unfollowed := true, recurses := true, apart := false }
def StateJoinsSaid : Prop := stateJoinsRow.holds Try.pinned (OpenSpec.ofChange stateJoinsSpec)

/-- ITS FALSE NEIGHBOUR: 'it returns false'. Refute it at one input. -/
def stateJoinsWrong : ChangeSpec := { name := "stateJoins", fn := fun _ => fun
  | [d1, d2, d3, d4] => { results := [.lit (.bool false)], args := [d1, d2, d3, d4] }
  | _ => none }
def StateJoinsWrongFalsely : Prop := stateJoinsRow.holds Try.pinned (OpenSpec.ofChange stateJoinsWrong)

/-- 'conchlaw16.BuiltExports': WHATEVER THE INPUT: true; the input reads as it did. -/
def builtExportsSpec : ChangeSpec := { name := "builtExports", fn := fun _ => fun
  | [d1, d2] => { results := [.lit (.bool true)], args := [d1, d2] }
  | _ => none }
def builtExportsRow : OpenClaim := { program := "ytfdjbjinomfgiaa", sum := "5a0cf58ee6753918a7f87d2ad8d898a451cd0576f354766d661bf3214f2747cf", func := "conch/conchlaw16.BuiltExports", spec := "builtExports", inPlace := ["internal/bytealg.IndexByteString", "internal/abi.NoEscape", "internal/bytealg.MakeNoZero"], unfollowed := true, recurses := true, apart := false }
def BuiltExportsSaid : Prop := builtExportsRow.holds Try.pinned (OpenSpec.ofChange builtExportsSpec)

/-- ITS FALSE NEIGHBOUR: 'it returns false'. Refute it at one input. -/
def builtExportsWrong : ChangeSpec := { name := "builtExports", fn := fun _ => fun
  | [d1, d2] => { results := [.lit (.bool false)], args := [d1, d2] }
  | _ => none }
def BuiltExportsWrongFalsely : Prop := builtExportsRow.holds Try.pinned (OpenSpec.ofChange builtExportsWrong)

/- THE SECOND FORM. 'bulk': how many values and letters a reading holds, each counted each time it is reached (what is shared counts as often as it is met; a slice's spare places count too). A statement '..UptoSaid' is the law's where the arguments, and the package variables that the reading takes, are together of bulk at most 1048576: NARROWER than '..Said'. Prove '..Said' where nothing that the law and all that it calls make is longer than what came in: it says more and counts as full. Else prove '..UptoSaid'. A law counts once. -/
mutual
def uptoBulk {H : Type} : DataW H → Nat
  | .lit (.string bytes) => bytes.length + 1
  | .lit _ => 1
  | .nil => 1
  | .ptr d => uptoBulk d + 1
  | .slice elems spare => uptoBulkAll elems + uptoBulkAll spare + 1
  | .agg parts => uptoBulkAll parts + 1
  | .iface _ d => uptoBulk d + 1
  | .map entries => uptoBulkEntries entries + 1
  | .held _ => 1
def uptoBulkAll {H : Type} : List (DataW H) → Nat
  | [] => 0
  | d :: r => uptoBulk d + uptoBulkAll r
def uptoBulkEntries {H : Type} : List (Lit × DataW H) → Nat
  | [] => 0
  | x :: r => uptoBulkEntry x + uptoBulkEntries r
def uptoBulkEntry {H : Type} : Lit × DataW H → Nat
  | (.string bytes, d) => bytes.length + uptoBulk d + 1
  | (_, d) => uptoBulk d + 1
 end
def uptoSmall : (H : Type) → List (DataW H) → Bool := fun _ ds => decide (uptoBulkAll ds ≤ 1048576)
def OpenSpec.upto (s : _root_.Go.ChangeSpec) : _root_.Go.OpenSpec := { _root_.Go.OpenSpec.ofChange s with cond := some uptoSmall }

/-- 'conchlaw16.BuiltReads', WHERE WHAT IT READS IS OF BULK AT MOST 1048576: true; the input reads as it did. -/
def builtReadsUptoRow : OpenClaim := { program := "ytfdjbjinomfgiaa", sum := "5a0cf58ee6753918a7f87d2ad8d898a451cd0576f354766d661bf3214f2747cf", func := "conch/conchlaw16.BuiltReads", spec := "builtReads", inPlace := ["internal/bytealg.IndexByteString", "internal/abi.NoEscape", "internal/bytealg.MakeNoZero"], unfollowed := true, recurses := true, apart := false, narrowed := true }
def BuiltReadsUptoSaid : Prop := builtReadsUptoRow.holds Try.pinned (OpenSpec.upto builtReadsSpec)

/-- 'conchlaw13.EnvPlays', WHERE WHAT IT READS IS OF BULK AT MOST 1048576: true; the input reads as it did. -/
def envPlaysUptoRow : OpenClaim := { program := "ytfdjbjinomfgiaa", sum := "5a0cf58ee6753918a7f87d2ad8d898a451cd0576f354766d661bf3214f2747cf", func := "conch/conchlaw13.EnvPlays", spec := "envPlays", inPlace := ["internal/bytealg.IndexByteString", "maps.clone"], unfollowed := true, recurses := true, apart := false, narrowed := true }
def EnvPlaysUptoSaid : Prop := envPlaysUptoRow.holds Try.pinned (OpenSpec.upto envPlaysSpec)

/-- 'conchlaw12.TreeGlobs', WHERE WHAT IT READS IS OF BULK AT MOST 1048576: true; the input reads as it did. -/
def treeGlobsUptoRow : OpenClaim := { program := "ytfdjbjinomfgiaa", sum := "5a0cf58ee6753918a7f87d2ad8d898a451cd0576f354766d661bf3214f2747cf", func := "conch/conchlaw12.TreeGlobs", spec := "treeGlobs", inPlace := ["internal/bytealg.IndexByteString"], unfollowed := true, recurses := true, apart := false, narrowed := true }
def TreeGlobsUptoSaid : Prop := treeGlobsUptoRow.holds Try.pinned (OpenSpec.upto treeGlobsSpec)

/-- 'conchlaw12.TreeFull', WHERE WHAT IT READS IS OF BULK AT MOST 1048576: true; the input reads as it did. -/
def treeFullUptoRow : OpenClaim := { program := "ytfdjbjinomfgiaa", sum := "5a0cf58ee6753918a7f87d2ad8d898a451cd0576f354766d661bf3214f2747cf", func := "conch/conchlaw12.TreeFull", spec := "treeFull", inPlace := ["internal/bytealg.IndexByteString"], unfollowed := true, recurses := true, apart := false, narrowed := true }
def TreeFullUptoSaid : Prop := treeFullUptoRow.holds Try.pinned (OpenSpec.upto treeFullSpec)

/-- 'conchlaw12.TreeTells', WHERE WHAT IT READS IS OF BULK AT MOST 1048576: true; the input reads as it did. -/
def treeTellsUptoRow : OpenClaim := { program := "ytfdjbjinomfgiaa", sum := "5a0cf58ee6753918a7f87d2ad8d898a451cd0576f354766d661bf3214f2747cf", func := "conch/conchlaw12.TreeTells", spec := "treeTells", inPlace := ["internal/bytealg.IndexByteString", "maps.clone"], unfollowed := true, recurses := true, apart := false, narrowed := true }
def TreeTellsUptoSaid : Prop := treeTellsUptoRow.holds Try.pinned (OpenSpec.upto treeTellsSpec)

/-- 'conchlaw21.StateTells', WHERE WHAT IT READS IS OF BULK AT MOST 1048576: true; the input reads as it did. -/
def stateTellsUptoRow : OpenClaim := { program := "ytfdjbjinomfgiaa", sum := "5a0cf58ee6753918a7f87d2ad8d898a451cd0576f354766d661bf3214f2747cf", func := "conch/conchlaw21.StateTells", spec := "stateTells", inPlace := ["internal/bytealg.IndexByteString", "maps.clone"], unfollowed := true, recurses := true, apart := false, narrowed := true }
def StateTellsUptoSaid : Prop := stateTellsUptoRow.holds Try.pinned (OpenSpec.upto stateTellsSpec)

/-- 'conchlaw21.StateJoins', WHERE WHAT IT READS IS OF BULK AT MOST 1048576: true; the input reads as it did. -/
def stateJoinsUptoRow : OpenClaim := { program := "ytfdjbjinomfgiaa", sum := "5a0cf58ee6753918a7f87d2ad8d898a451cd0576f354766d661bf3214f2747cf", func := "conch/conchlaw21.StateJoins", spec := "stateJoins", inPlace := ["internal/bytealg.IndexByteString", "maps.clone"], unfollowed := true, recurses := true, apart := false, narrowed := true }
def StateJoinsUptoSaid : Prop := stateJoinsUptoRow.holds Try.pinned (OpenSpec.upto stateJoinsSpec)

/-- 'conchlaw16.BuiltExports', WHERE WHAT IT READS IS OF BULK AT MOST 1048576: true; the input reads as it did. -/
def builtExportsUptoRow : OpenClaim := { program := "ytfdjbjinomfgiaa", sum := "5a0cf58ee6753918a7f87d2ad8d898a451cd0576f354766d661bf3214f2747cf", func := "conch/conchlaw16.BuiltExports", spec := "builtExports", inPlace := ["internal/bytealg.IndexByteString", "internal/abi.NoEscape", "internal/bytealg.MakeNoZero"], unfollowed := true, recurses := true, apart := false, narrowed := true }
def BuiltExportsUptoSaid : Prop := builtExportsUptoRow.holds Try.pinned (OpenSpec.upto builtExportsSpec)

end Rows
end Go.Proofs.Ytfdjbjinomfgiaa
