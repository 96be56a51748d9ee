/-
  NARROWER THAN 'FOR EVERY INPUT', by the rows' own cells (each row's printed sentence says how): RunRuns: laid · RunMoved: laid · RunParts: laid · RunCounts: laid · RunProfile: laid · RunNobody: laid · RunPoison: laid.
  DERIVED. THE GIVEN ROWS OF THIS SEAT. 7 by the template 'for every input the law returns true; each argument reads behind the call as it read before'; 0 by the template 'total and deterministic' (their statements: YtfkjkdoloamakaaDoorTotals.lean).
  GIVEN WITH THE SEED: the statements are not yours to turn. If you find one false, say at which input.
  Laid BY PROGRAM, IN A SANDBOX (cutbox-rows.mjs): the forced cells as the released guide's own fill.sh prints them over the translation b936c7a3c30febd0… (all of the seat's roots in one cut). By AI agents, Wed Nov 11 2026. No macro, syntax, notation, axiom, sorry.
-/
import Derived.Test.YtfkjkdoloamakaaDoorChecked
import GoSem.Claim
import GoSem.ClaimJoined
import GoSem.ClaimMapViews
import Derived.JoinedTies
import Derived.KernelRfl
namespace Go.Proofs.YtfkjkdoloamakaaDoor
/- THE CELL 'sum', in the pinned program and in every row, IS THE sha256 OF THE DUMP (.gsa) THAT YtfkjkdoloamakaaDoorProg.lean LOADS. Nothing in Lean hashes anything: it is a label: what it is worth is what the hold of that sum in a sandbox is worth. -/
noncomputable def Tryd.pinned : Pinned := { name := "ytfkjkdoloamakaadoor", sum := "b936c7a3c30febd098452116656fb41476c4e469fcacdfff2d005575b34ac169", checked := Tryd.checked }
namespace Rows
def none {H : Type} : Left H := { results := [], args := [] }

/- WHAT THE LISTED PACKAGE-LEVEL VARIABLES READ AS WHEN THE CALL BEGINS. Each datum BY PROGRAM (the guide's laid-datum.mjs) off the statement by which the dump's own 'gosem.cut.vars' lays the variable. In a bare row this is a premise. The card (YtfkjkdoloamakaaDoorCards.lean) ties it to the program's text. -/
def laid_bireme_code_forms {H : Type} : DataW H := .agg [.agg [.lit (.int .i64 17), .lit (.int .i64 0), .lit (.string [99, 111, 110, 115, 116])], .agg [.lit (.int .i64 3), .lit (.int .i64 0), .lit (.string [109, 111, 118, 101])], .agg [.lit (.int .i64 7), .lit (.int .i64 0), .lit (.string [97, 100, 100])], .agg [.lit (.int .i64 7), .lit (.int .i64 0), .lit (.string [115, 117, 98])], .agg [.lit (.int .i64 7), .lit (.int .i64 0), .lit (.string [97, 110, 100])], .agg [.lit (.int .i64 7), .lit (.int .i64 0), .lit (.string [111, 114])], .agg [.lit (.int .i64 7), .lit (.int .i64 0), .lit (.string [120, 111, 114])], .agg [.lit (.int .i64 7), .lit (.int .i64 0), .lit (.string [115, 104, 108])], .agg [.lit (.int .i64 7), .lit (.int .i64 0), .lit (.string [115, 104, 114])], .agg [.lit (.int .i64 7), .lit (.int .i64 0), .lit (.string [108, 101, 115, 115])], .agg [.lit (.int .i64 7), .lit (.int .i64 0), .lit (.string [101, 113, 117, 97, 108])], .agg [.lit (.int .i64 15), .lit (.int .i64 0), .lit (.string [112, 105, 99, 107])], .agg [.lit (.int .i64 7), .lit (.int .i64 1), .lit (.string [109, 117, 108])], .agg [.lit (.int .i64 7), .lit (.int .i64 1), .lit (.string [100, 105, 118])], .agg [.lit (.int .i64 7), .lit (.int .i64 1), .lit (.string [114, 101, 109])], .agg [.lit (.int .i64 35), .lit (.int .i64 2), .lit (.string [108, 111, 97, 100])], .agg [.lit (.int .i64 38), .lit (.int .i64 2), .lit (.string [115, 116, 111, 114, 101])], .agg [.lit (.int .i64 65), .lit (.int .i64 2), .lit (.string [102, 101, 116, 99, 104])], .agg [.lit (.int .i64 66), .lit (.int .i64 2), .lit (.string [107, 101, 101, 112])], .agg [.lit (.int .i64 2), .lit (.int .i64 3), .lit (.string [112, 114, 105, 110, 116])], .agg [.lit (.int .i64 130), .lit (.int .i64 3), .lit (.string [101, 120, 105, 116])], .agg [.lit (.int .i64 2), .lit (.int .i64 3), .lit (.string [99, 104, 101, 99, 107])], .agg [.lit (.int .i64 7), .lit (.int .i64 1), .lit (.string [100, 105, 118, 115])], .agg [.lit (.int .i64 7), .lit (.int .i64 1), .lit (.string [114, 101, 109, 115])], .agg [.lit (.int .i64 35), .lit (.int .i64 2), .lit (.string [108, 111, 97, 100, 115])]]

/-- 'biremelaw09.RunRuns': WHATEVER THE INPUT: true; the input reads as it did. -/
def runRunsSpec : ChangeSpec := { name := "runRuns", fn := fun _ => fun
  | [d1, d2, d3] => { results := [.lit (.bool true)], args := [d1, d2, d3] }
  | _ => none }
def runRunsRow : OpenClaim := { program := "ytfkjkdoloamakaadoor", sum := "b936c7a3c30febd098452116656fb41476c4e469fcacdfff2d005575b34ac169", func := "bireme/biremelaw09.RunRuns", spec := "runRuns", unfollowed := true, recurses := true, named := ["bireme/code.forms"], apart := false, laid := [("bireme/code.forms", laid_bireme_code_forms)] }
def RunRunsSaid : Prop := runRunsRow.holds Tryd.pinned (OpenSpec.ofChange runRunsSpec)

/-- ITS FALSE NEIGHBOUR: 'it returns false'. Refute it at one input. -/
def runRunsWrong : ChangeSpec := { name := "runRuns", fn := fun _ => fun
  | [d1, d2, d3] => { results := [.lit (.bool false)], args := [d1, d2, d3] }
  | _ => none }
def RunRunsWrongFalsely : Prop := runRunsRow.holds Tryd.pinned (OpenSpec.ofChange runRunsWrong)

/-- 'biremelaw09.RunMoved': WHATEVER THE INPUT: true; the input reads as it did. -/
def runMovedSpec : ChangeSpec := { name := "runMoved", fn := fun _ => fun
  | [d1, d2, d3] => { results := [.lit (.bool true)], args := [d1, d2, d3] }
  | _ => none }
def runMovedRow : OpenClaim := { program := "ytfkjkdoloamakaadoor", sum := "b936c7a3c30febd098452116656fb41476c4e469fcacdfff2d005575b34ac169", func := "bireme/biremelaw09.RunMoved", spec := "runMoved", unfollowed := true, recurses := true, named := ["bireme/code.forms"], apart := false, laid := [("bireme/code.forms", laid_bireme_code_forms)] }
def RunMovedSaid : Prop := runMovedRow.holds Tryd.pinned (OpenSpec.ofChange runMovedSpec)

/-- ITS FALSE NEIGHBOUR: 'it returns false'. Refute it at one input. -/
def runMovedWrong : ChangeSpec := { name := "runMoved", fn := fun _ => fun
  | [d1, d2, d3] => { results := [.lit (.bool false)], args := [d1, d2, d3] }
  | _ => none }
def RunMovedWrongFalsely : Prop := runMovedRow.holds Tryd.pinned (OpenSpec.ofChange runMovedWrong)

/-- 'biremelaw09.RunParts': WHATEVER THE INPUT: true; the input reads as it did. -/
def runPartsSpec : ChangeSpec := { name := "runParts", fn := fun _ => fun
  | [d1, d2, d3] => { results := [.lit (.bool true)], args := [d1, d2, d3] }
  | _ => none }
def runPartsRow : OpenClaim := { program := "ytfkjkdoloamakaadoor", sum := "b936c7a3c30febd098452116656fb41476c4e469fcacdfff2d005575b34ac169", func := "bireme/biremelaw09.RunParts", spec := "runParts", unfollowed := true, recurses := true, named := ["bireme/code.forms"], apart := false, laid := [("bireme/code.forms", laid_bireme_code_forms)] }
def RunPartsSaid : Prop := runPartsRow.holds Tryd.pinned (OpenSpec.ofChange runPartsSpec)

/-- ITS FALSE NEIGHBOUR: 'it returns false'. Refute it at one input. -/
def runPartsWrong : ChangeSpec := { name := "runParts", fn := fun _ => fun
  | [d1, d2, d3] => { results := [.lit (.bool false)], args := [d1, d2, d3] }
  | _ => none }
def RunPartsWrongFalsely : Prop := runPartsRow.holds Tryd.pinned (OpenSpec.ofChange runPartsWrong)

/-- 'biremelaw09.RunCounts': WHATEVER THE INPUT: true; the input reads as it did. -/
def runCountsSpec : ChangeSpec := { name := "runCounts", fn := fun _ => fun
  | [d1, d2, d3] => { results := [.lit (.bool true)], args := [d1, d2, d3] }
  | _ => none }
def runCountsRow : OpenClaim := { program := "ytfkjkdoloamakaadoor", sum := "b936c7a3c30febd098452116656fb41476c4e469fcacdfff2d005575b34ac169", func := "bireme/biremelaw09.RunCounts", spec := "runCounts", unfollowed := true, recurses := true, named := ["bireme/code.forms"], apart := false, laid := [("bireme/code.forms", laid_bireme_code_forms)] }
def RunCountsSaid : Prop := runCountsRow.holds Tryd.pinned (OpenSpec.ofChange runCountsSpec)

/-- ITS FALSE NEIGHBOUR: 'it returns false'. Refute it at one input. -/
def runCountsWrong : ChangeSpec := { name := "runCounts", fn := fun _ => fun
  | [d1, d2, d3] => { results := [.lit (.bool false)], args := [d1, d2, d3] }
  | _ => none }
def RunCountsWrongFalsely : Prop := runCountsRow.holds Tryd.pinned (OpenSpec.ofChange runCountsWrong)

/-- 'biremelaw09.RunProfile': WHATEVER THE INPUT: true; the input reads as it did. -/
def runProfileSpec : ChangeSpec := { name := "runProfile", fn := fun _ => fun
  | [d1, d2, d3] => { results := [.lit (.bool true)], args := [d1, d2, d3] }
  | _ => none }
def runProfileRow : OpenClaim := { program := "ytfkjkdoloamakaadoor", sum := "b936c7a3c30febd098452116656fb41476c4e469fcacdfff2d005575b34ac169", func := "bireme/biremelaw09.RunProfile", spec := "runProfile", unfollowed := true, recurses := true, named := ["bireme/code.forms"], apart := false, laid := [("bireme/code.forms", laid_bireme_code_forms)] }
def RunProfileSaid : Prop := runProfileRow.holds Tryd.pinned (OpenSpec.ofChange runProfileSpec)

/-- ITS FALSE NEIGHBOUR: 'it returns false'. Refute it at one input. -/
def runProfileWrong : ChangeSpec := { name := "runProfile", fn := fun _ => fun
  | [d1, d2, d3] => { results := [.lit (.bool false)], args := [d1, d2, d3] }
  | _ => none }
def RunProfileWrongFalsely : Prop := runProfileRow.holds Tryd.pinned (OpenSpec.ofChange runProfileWrong)

/-- 'biremelaw09.RunNobody': WHATEVER THE INPUT: true; the input reads as it did. -/
def runNobodySpec : ChangeSpec := { name := "runNobody", fn := fun _ => fun
  | [d1, d2, d3] => { results := [.lit (.bool true)], args := [d1, d2, d3] }
  | _ => none }
def runNobodyRow : OpenClaim := { program := "ytfkjkdoloamakaadoor", sum := "b936c7a3c30febd098452116656fb41476c4e469fcacdfff2d005575b34ac169", func := "bireme/biremelaw09.RunNobody", spec := "runNobody", unfollowed := true, recurses := true, named := ["bireme/code.forms"], apart := false, laid := [("bireme/code.forms", laid_bireme_code_forms)] }
def RunNobodySaid : Prop := runNobodyRow.holds Tryd.pinned (OpenSpec.ofChange runNobodySpec)

/-- ITS FALSE NEIGHBOUR: 'it returns false'. Refute it at one input. -/
def runNobodyWrong : ChangeSpec := { name := "runNobody", fn := fun _ => fun
  | [d1, d2, d3] => { results := [.lit (.bool false)], args := [d1, d2, d3] }
  | _ => none }
def RunNobodyWrongFalsely : Prop := runNobodyRow.holds Tryd.pinned (OpenSpec.ofChange runNobodyWrong)

/-- 'biremelaw09.RunPoison': WHATEVER THE INPUT: true; the input reads as it did. -/
def runPoisonSpec : ChangeSpec := { name := "runPoison", fn := fun _ => fun
  | [d1, d2] => { results := [.lit (.bool true)], args := [d1, d2] }
  | _ => none }
def runPoisonRow : OpenClaim := { program := "ytfkjkdoloamakaadoor", sum := "b936c7a3c30febd098452116656fb41476c4e469fcacdfff2d005575b34ac169", func := "bireme/biremelaw09.RunPoison", spec := "runPoison", unfollowed := true, recurses := true, named := ["bireme/code.forms"], apart := false, laid := [("bireme/code.forms", laid_bireme_code_forms)] }
def RunPoisonSaid : Prop := runPoisonRow.holds Tryd.pinned (OpenSpec.ofChange runPoisonSpec)

/-- ITS FALSE NEIGHBOUR: 'it returns false'. Refute it at one input. -/
def runPoisonWrong : ChangeSpec := { name := "runPoison", fn := fun _ => fun
  | [d1, d2] => { results := [.lit (.bool false)], args := [d1, d2] }
  | _ => none }
def RunPoisonWrongFalsely : Prop := runPoisonRow.holds Tryd.pinned (OpenSpec.ofChange runPoisonWrong)

/- THE SECOND FORM. 'bulk': how many values and letters a reading holds, each counted each time it is reached (what is shared counts as often as it is met; a slice's spare places count too). A statement '..UptoSaid' is the law's where the arguments, and the package variables that the reading takes, are together of bulk at most 1048576: NARROWER than '..Said'. Prove '..Said' where nothing that the law and all that it calls make is longer than what came in: it says more and counts as full. Else prove '..UptoSaid'. A law counts once. -/
mutual
def uptoBulk {H : Type} : DataW H → Nat
  | .lit (.string bytes) => bytes.length + 1
  | .lit _ => 1
  | .nil => 1
  | .ptr d => uptoBulk d + 1
  | .slice elems spare => uptoBulkAll elems + uptoBulkAll spare + 1
  | .agg parts => uptoBulkAll parts + 1
  | .iface _ d => uptoBulk d + 1
  | .map entries => uptoBulkEntries entries + 1
  | .held _ => 1
def uptoBulkAll {H : Type} : List (DataW H) → Nat
  | [] => 0
  | d :: r => uptoBulk d + uptoBulkAll r
def uptoBulkEntries {H : Type} : List (Lit × DataW H) → Nat
  | [] => 0
  | x :: r => uptoBulkEntry x + uptoBulkEntries r
def uptoBulkEntry {H : Type} : Lit × DataW H → Nat
  | (.string bytes, d) => bytes.length + uptoBulk d + 1
  | (_, d) => uptoBulk d + 1
 end
def uptoSmall : (H : Type) → List (DataW H) → Bool := fun _ ds => decide (uptoBulkAll ds ≤ 1048576)
def OpenSpec.upto (s : _root_.Go.ChangeSpec) : _root_.Go.OpenSpec := { _root_.Go.OpenSpec.ofChange s with cond := some uptoSmall }

/-- 'biremelaw09.RunRuns', WHERE WHAT IT READS IS OF BULK AT MOST 1048576: true; the input reads as it did. -/
def runRunsUptoRow : OpenClaim := { program := "ytfkjkdoloamakaadoor", sum := "b936c7a3c30febd098452116656fb41476c4e469fcacdfff2d005575b34ac169", func := "bireme/biremelaw09.RunRuns", spec := "runRuns", unfollowed := true, recurses := true, named := ["bireme/code.forms"], apart := false, laid := [("bireme/code.forms", laid_bireme_code_forms)], narrowed := true }
def RunRunsUptoSaid : Prop := runRunsUptoRow.holds Tryd.pinned (OpenSpec.upto runRunsSpec)

/-- 'biremelaw09.RunMoved', WHERE WHAT IT READS IS OF BULK AT MOST 1048576: true; the input reads as it did. -/
def runMovedUptoRow : OpenClaim := { program := "ytfkjkdoloamakaadoor", sum := "b936c7a3c30febd098452116656fb41476c4e469fcacdfff2d005575b34ac169", func := "bireme/biremelaw09.RunMoved", spec := "runMoved", unfollowed := true, recurses := true, named := ["bireme/code.forms"], apart := false, laid := [("bireme/code.forms", laid_bireme_code_forms)], narrowed := true }
def RunMovedUptoSaid : Prop := runMovedUptoRow.holds Tryd.pinned (OpenSpec.upto runMovedSpec)

/-- 'biremelaw09.RunParts', WHERE WHAT IT READS IS OF BULK AT MOST 1048576: true; the input reads as it did. -/
def runPartsUptoRow : OpenClaim := { program := "ytfkjkdoloamakaadoor", sum := "b936c7a3c30febd098452116656fb41476c4e469fcacdfff2d005575b34ac169", func := "bireme/biremelaw09.RunParts", spec := "runParts", unfollowed := true, recurses := true, named := ["bireme/code.forms"], apart := false, laid := [("bireme/code.forms", laid_bireme_code_forms)], narrowed := true }
def RunPartsUptoSaid : Prop := runPartsUptoRow.holds Tryd.pinned (OpenSpec.upto runPartsSpec)

/-- 'biremelaw09.RunCounts', WHERE WHAT IT READS IS OF BULK AT MOST 1048576: true; the input reads as it did. -/
def runCountsUptoRow : OpenClaim := { program := "ytfkjkdoloamakaadoor", sum := "b936c7a3c30febd098452116656fb41476c4e469fcacdfff2d005575b34ac169", func := "bireme/biremelaw09.RunCounts", spec := "runCounts", unfollowed := true, recurses := true, named := ["bireme/code.forms"], apart := false, laid := [("bireme/code.forms", laid_bireme_code_forms)], narrowed := true }
def RunCountsUptoSaid : Prop := runCountsUptoRow.holds Tryd.pinned (OpenSpec.upto runCountsSpec)

/-- 'biremelaw09.RunProfile', WHERE WHAT IT READS IS OF BULK AT MOST 1048576: true; the input reads as it did. -/
def runProfileUptoRow : OpenClaim := { program := "ytfkjkdoloamakaadoor", sum := "b936c7a3c30febd098452116656fb41476c4e469fcacdfff2d005575b34ac169", func := "bireme/biremelaw09.RunProfile", spec := "runProfile", unfollowed := true, recurses := true, named := ["bireme/code.forms"], apart := false, laid := [("bireme/code.forms", laid_bireme_code_forms)], narrowed := true }
def RunProfileUptoSaid : Prop := runProfileUptoRow.holds Tryd.pinned (OpenSpec.upto runProfileSpec)

/-- 'biremelaw09.RunNobody', WHERE WHAT IT READS IS OF BULK AT MOST 1048576: true; the input reads as it did. -/
def runNobodyUptoRow : OpenClaim := { program := "ytfkjkdoloamakaadoor", sum := "b936c7a3c30febd098452116656fb41476c4e469fcacdfff2d005575b34ac169", func := "bireme/biremelaw09.RunNobody", spec := "runNobody", unfollowed := true, recurses := true, named := ["bireme/code.forms"], apart := false, laid := [("bireme/code.forms", laid_bireme_code_forms)], narrowed := true }
def RunNobodyUptoSaid : Prop := runNobodyUptoRow.holds Tryd.pinned (OpenSpec.upto runNobodySpec)

/-- 'biremelaw09.RunPoison', WHERE WHAT IT READS IS OF BULK AT MOST 1048576: true; the input reads as it did. -/
def runPoisonUptoRow : OpenClaim := { program := "ytfkjkdoloamakaadoor", sum := "b936c7a3c30febd098452116656fb41476c4e469fcacdfff2d005575b34ac169", func := "bireme/biremelaw09.RunPoison", spec := "runPoison", unfollowed := true, recurses := true, named := ["bireme/code.forms"], apart := false, laid := [("bireme/code.forms", laid_bireme_code_forms)], narrowed := true }
def RunPoisonUptoSaid : Prop := runPoisonUptoRow.holds Tryd.pinned (OpenSpec.upto runPoisonSpec)

end Rows
end Go.Proofs.YtfkjkdoloamakaaDoor
