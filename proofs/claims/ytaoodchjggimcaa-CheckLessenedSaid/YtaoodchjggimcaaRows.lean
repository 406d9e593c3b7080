/-
  NARROWER THAN 'FOR EVERY INPUT', by the rows' own cells (each row's printed sentence says how): CheckParts: loops · KernelCast: loops · CheckLessened: loops · InsertSound: loops · ProofOnce: loops · LessenTaken: loops · KernelTakes: loops.
  DERIVED. THE GIVEN ROWS OF THIS SEAT. 8 by the template 'for every input the law returns true; each argument reads behind the call as it read before'; 0 by the template 'total and deterministic' (their statements: YtaoodchjggimcaaTotals.lean).
  GIVEN WITH THE SEED: the statements are not yours to turn. If you find one false, say at which input.
  Laid BY PROGRAM, IN A SANDBOX (cutbox-rows.mjs): the forced cells as the released guide's own fill.sh prints them over the translation fa5bf1b46d901d8d… (all of the seat's roots in one cut). By AI agents, Wed Nov 11 2026. No macro, syntax, notation, axiom, sorry.
-/
import Derived.Test.YtaoodchjggimcaaChecked
import GoSem.Claim
import GoSem.ClaimJoined
import GoSem.ClaimMapViews
import Derived.JoinedTies
import Derived.KernelRfl
namespace Go.Proofs.Ytaoodchjggimcaa
/- THE CELL 'sum', in the pinned program and in every row, IS THE sha256 OF THE DUMP (.gsa) THAT YtaoodchjggimcaaProg.lean LOADS. Nothing in Lean hashes anything: it is a label: what it is worth is what the hold of that sum in a sandbox is worth. -/
noncomputable def Try.pinned : Pinned := { name := "ytaoodchjggimcaa", sum := "fa5bf1b46d901d8df2c490903fe75be1b24149cd462a3b932e93901e5777a414", checked := Try.checked }
namespace Rows
def none {H : Type} : Left H := { results := [], args := [] }

/-- 'lychgatelaw09.CheckParts': WHATEVER THE INPUT: true; the input reads as it did. -/
def checkPartsSpec : ChangeSpec := { name := "checkParts", fn := fun _ => fun
  | [d1, d2] => { results := [.lit (.bool true)], args := [d1, d2] }
  | _ => none }
def checkPartsRow : OpenClaim := { program := "ytaoodchjggimcaa", sum := "fa5bf1b46d901d8df2c490903fe75be1b24149cd462a3b932e93901e5777a414", func := "lychgate/lychgatelaw09.CheckParts", spec := "checkParts", unfollowed := true, recurses := true, loops := true, apart := false }
def CheckPartsSaid : Prop := checkPartsRow.holds Try.pinned (OpenSpec.ofChange checkPartsSpec)

/-- ITS FALSE NEIGHBOUR: 'it returns false'. Refute it at one input. -/
def checkPartsWrong : ChangeSpec := { name := "checkParts", fn := fun _ => fun
  | [d1, d2] => { results := [.lit (.bool false)], args := [d1, d2] }
  | _ => none }
def CheckPartsWrongFalsely : Prop := checkPartsRow.holds Try.pinned (OpenSpec.ofChange checkPartsWrong)

/-- 'lychgatelaw13.KernelKnown': WHATEVER THE INPUT: true; the input reads as it did. -/
def kernelKnownSpec : ChangeSpec := { name := "kernelKnown", fn := fun _ => fun
  | [] => { results := [.lit (.bool true)], args := [] }
  | _ => none }
def kernelKnownRow : OpenClaim := { program := "ytaoodchjggimcaa", sum := "fa5bf1b46d901d8df2c490903fe75be1b24149cd462a3b932e93901e5777a414", func := "lychgate/lychgatelaw13.KernelKnown", spec := "kernelKnown", inPlace := ["internal/reflectlite.TypeOf"], unfollowed := true, recurses := true, apart := false }
def KernelKnownSaid : Prop := kernelKnownRow.holds Try.pinned (OpenSpec.ofChange kernelKnownSpec)

/-- ITS FALSE NEIGHBOUR: 'it returns false'. Refute it at one input. -/
def kernelKnownWrong : ChangeSpec := { name := "kernelKnown", fn := fun _ => fun
  | [] => { results := [.lit (.bool false)], args := [] }
  | _ => none }
def KernelKnownWrongFalsely : Prop := kernelKnownRow.holds Try.pinned (OpenSpec.ofChange kernelKnownWrong)

/-- 'lychgatelaw13.KernelCast': WHATEVER THE INPUT: true; the input reads as it did. -/
def kernelCastSpec : ChangeSpec := { name := "kernelCast", fn := fun _ => fun
  | [d1, d2, d3] => { results := [.lit (.bool true)], args := [d1, d2, d3] }
  | _ => none }
def kernelCastRow : OpenClaim := { program := "ytaoodchjggimcaa", sum := "fa5bf1b46d901d8df2c490903fe75be1b24149cd462a3b932e93901e5777a414", func := "lychgate/lychgatelaw13.KernelCast", spec := "kernelCast", inPlace := ["internal/reflectlite.TypeOf"], unfollowed := true, recurses := true, loops := true, apart := false }
def KernelCastSaid : Prop := kernelCastRow.holds Try.pinned (OpenSpec.ofChange kernelCastSpec)

/-- ITS FALSE NEIGHBOUR: 'it returns false'. Refute it at one input. -/
def kernelCastWrong : ChangeSpec := { name := "kernelCast", fn := fun _ => fun
  | [d1, d2, d3] => { results := [.lit (.bool false)], args := [d1, d2, d3] }
  | _ => none }
def KernelCastWrongFalsely : Prop := kernelCastRow.holds Try.pinned (OpenSpec.ofChange kernelCastWrong)

/-- 'lychgatelaw09.CheckLessened': WHATEVER THE INPUT: true; the input reads as it did. -/
def checkLessenedSpec : ChangeSpec := { name := "checkLessened", fn := fun _ => fun
  | [d1, d2] => { results := [.lit (.bool true)], args := [d1, d2] }
  | _ => none }
def checkLessenedRow : OpenClaim := { program := "ytaoodchjggimcaa", sum := "fa5bf1b46d901d8df2c490903fe75be1b24149cd462a3b932e93901e5777a414", func := "lychgate/lychgatelaw09.CheckLessened", spec := "checkLessened", unfollowed := true, recurses := true, loops := true, apart := false }
def CheckLessenedSaid : Prop := checkLessenedRow.holds Try.pinned (OpenSpec.ofChange checkLessenedSpec)

/-- ITS FALSE NEIGHBOUR: 'it returns false'. Refute it at one input. -/
def checkLessenedWrong : ChangeSpec := { name := "checkLessened", fn := fun _ => fun
  | [d1, d2] => { results := [.lit (.bool false)], args := [d1, d2] }
  | _ => none }
def CheckLessenedWrongFalsely : Prop := checkLessenedRow.holds Try.pinned (OpenSpec.ofChange checkLessenedWrong)

/-- 'lychgatelaw12.InsertSound': WHATEVER THE INPUT: true; the input reads as it did. -/
def insertSoundSpec : ChangeSpec := { name := "insertSound", fn := fun _ => fun
  | [d] => { results := [.lit (.bool true)], args := [d] }
  | _ => none }
def insertSoundRow : OpenClaim := { program := "ytaoodchjggimcaa", sum := "fa5bf1b46d901d8df2c490903fe75be1b24149cd462a3b932e93901e5777a414", func := "lychgate/lychgatelaw12.InsertSound", spec := "insertSound", unfollowed := true, recurses := true, loops := true, apart := false }
def InsertSoundSaid : Prop := insertSoundRow.holds Try.pinned (OpenSpec.ofChange insertSoundSpec)

/-- ITS FALSE NEIGHBOUR: 'it returns false'. Refute it at one input. -/
def insertSoundWrong : ChangeSpec := { name := "insertSound", fn := fun _ => fun
  | [d] => { results := [.lit (.bool false)], args := [d] }
  | _ => none }
def InsertSoundWrongFalsely : Prop := insertSoundRow.holds Try.pinned (OpenSpec.ofChange insertSoundWrong)

/-- 'lychgatelaw10.ProofOnce': WHATEVER THE INPUT: true; the input reads as it did. -/
def proofOnceSpec : ChangeSpec := { name := "proofOnce", fn := fun _ => fun
  | [d1, d2] => { results := [.lit (.bool true)], args := [d1, d2] }
  | _ => none }
def proofOnceRow : OpenClaim := { program := "ytaoodchjggimcaa", sum := "fa5bf1b46d901d8df2c490903fe75be1b24149cd462a3b932e93901e5777a414", func := "lychgate/lychgatelaw10.ProofOnce", spec := "proofOnce", unfollowed := true, recurses := true, loops := true, apart := false }
def ProofOnceSaid : Prop := proofOnceRow.holds Try.pinned (OpenSpec.ofChange proofOnceSpec)

/-- ITS FALSE NEIGHBOUR: 'it returns false'. Refute it at one input. -/
def proofOnceWrong : ChangeSpec := { name := "proofOnce", fn := fun _ => fun
  | [d1, d2] => { results := [.lit (.bool false)], args := [d1, d2] }
  | _ => none }
def ProofOnceWrongFalsely : Prop := proofOnceRow.holds Try.pinned (OpenSpec.ofChange proofOnceWrong)

/-- 'lychgatelaw22.LessenTaken': WHATEVER THE INPUT: true; the input reads as it did. -/
def lessenTakenSpec : ChangeSpec := { name := "lessenTaken", fn := fun _ => fun
  | [d1, d2] => { results := [.lit (.bool true)], args := [d1, d2] }
  | _ => none }
def lessenTakenRow : OpenClaim := { program := "ytaoodchjggimcaa", sum := "fa5bf1b46d901d8df2c490903fe75be1b24149cd462a3b932e93901e5777a414", func := "lychgate/lychgatelaw22.LessenTaken", spec := "lessenTaken", unfollowed := true, recurses := true, loops := true, apart := false }
def LessenTakenSaid : Prop := lessenTakenRow.holds Try.pinned (OpenSpec.ofChange lessenTakenSpec)

/-- ITS FALSE NEIGHBOUR: 'it returns false'. Refute it at one input. -/
def lessenTakenWrong : ChangeSpec := { name := "lessenTaken", fn := fun _ => fun
  | [d1, d2] => { results := [.lit (.bool false)], args := [d1, d2] }
  | _ => none }
def LessenTakenWrongFalsely : Prop := lessenTakenRow.holds Try.pinned (OpenSpec.ofChange lessenTakenWrong)

/-- 'lychgatelaw13.KernelTakes': WHATEVER THE INPUT: true; the input reads as it did. -/
def kernelTakesSpec : ChangeSpec := { name := "kernelTakes", fn := fun _ => fun
  | [d] => { results := [.lit (.bool true)], args := [d] }
  | _ => none }
def kernelTakesRow : OpenClaim := { program := "ytaoodchjggimcaa", sum := "fa5bf1b46d901d8df2c490903fe75be1b24149cd462a3b932e93901e5777a414", func := "lychgate/lychgatelaw13.KernelTakes", spec := "kernelTakes", inPlace := ["internal/reflectlite.TypeOf"], unfollowed := true, recurses := true, loops := true, apart := false }
def KernelTakesSaid : Prop := kernelTakesRow.holds Try.pinned (OpenSpec.ofChange kernelTakesSpec)

/-- ITS FALSE NEIGHBOUR: 'it returns false'. Refute it at one input. -/
def kernelTakesWrong : ChangeSpec := { name := "kernelTakes", fn := fun _ => fun
  | [d] => { results := [.lit (.bool false)], args := [d] }
  | _ => none }
def KernelTakesWrongFalsely : Prop := kernelTakesRow.holds Try.pinned (OpenSpec.ofChange kernelTakesWrong)

/- THE SECOND FORM. 'bulk': how many values and letters a reading holds, each counted each time it is reached (what is shared counts as often as it is met; a slice's spare places count too). A statement '..UptoSaid' is the law's where the arguments, and the package variables that the reading takes, are together of bulk at most 1048576: NARROWER than '..Said'. Prove '..Said' where nothing that the law and all that it calls make is longer than what came in: it says more and counts as full. Else prove '..UptoSaid'. A law counts once. -/
mutual
def uptoBulk {H : Type} : DataW H → Nat
  | .lit (.string bytes) => bytes.length + 1
  | .lit _ => 1
  | .nil => 1
  | .ptr d => uptoBulk d + 1
  | .slice elems spare => uptoBulkAll elems + uptoBulkAll spare + 1
  | .agg parts => uptoBulkAll parts + 1
  | .iface _ d => uptoBulk d + 1
  | .map entries => uptoBulkEntries entries + 1
  | .held _ => 1
def uptoBulkAll {H : Type} : List (DataW H) → Nat
  | [] => 0
  | d :: r => uptoBulk d + uptoBulkAll r
def uptoBulkEntries {H : Type} : List (Lit × DataW H) → Nat
  | [] => 0
  | x :: r => uptoBulkEntry x + uptoBulkEntries r
def uptoBulkEntry {H : Type} : Lit × DataW H → Nat
  | (.string bytes, d) => bytes.length + uptoBulk d + 1
  | (_, d) => uptoBulk d + 1
 end
def uptoSmall : (H : Type) → List (DataW H) → Bool := fun _ ds => decide (uptoBulkAll ds ≤ 1048576)
def OpenSpec.upto (s : _root_.Go.ChangeSpec) : _root_.Go.OpenSpec := { _root_.Go.OpenSpec.ofChange s with cond := some uptoSmall }

/-- 'lychgatelaw09.CheckParts', WHERE WHAT IT READS IS OF BULK AT MOST 1048576: true; the input reads as it did. -/
def checkPartsUptoRow : OpenClaim := { program := "ytaoodchjggimcaa", sum := "fa5bf1b46d901d8df2c490903fe75be1b24149cd462a3b932e93901e5777a414", func := "lychgate/lychgatelaw09.CheckParts", spec := "checkParts", unfollowed := true, recurses := true, loops := true, apart := false, narrowed := true }
def CheckPartsUptoSaid : Prop := checkPartsUptoRow.holds Try.pinned (OpenSpec.upto checkPartsSpec)

/-- 'lychgatelaw13.KernelKnown', WHERE WHAT IT READS IS OF BULK AT MOST 1048576: true; the input reads as it did. -/
def kernelKnownUptoRow : OpenClaim := { program := "ytaoodchjggimcaa", sum := "fa5bf1b46d901d8df2c490903fe75be1b24149cd462a3b932e93901e5777a414", func := "lychgate/lychgatelaw13.KernelKnown", spec := "kernelKnown", inPlace := ["internal/reflectlite.TypeOf"], unfollowed := true, recurses := true, apart := false, narrowed := true }
def KernelKnownUptoSaid : Prop := kernelKnownUptoRow.holds Try.pinned (OpenSpec.upto kernelKnownSpec)

/-- 'lychgatelaw13.KernelCast', WHERE WHAT IT READS IS OF BULK AT MOST 1048576: true; the input reads as it did. -/
def kernelCastUptoRow : OpenClaim := { program := "ytaoodchjggimcaa", sum := "fa5bf1b46d901d8df2c490903fe75be1b24149cd462a3b932e93901e5777a414", func := "lychgate/lychgatelaw13.KernelCast", spec := "kernelCast", inPlace := ["internal/reflectlite.TypeOf"], unfollowed := true, recurses := true, loops := true, apart := false, narrowed := true }
def KernelCastUptoSaid : Prop := kernelCastUptoRow.holds Try.pinned (OpenSpec.upto kernelCastSpec)

/-- 'lychgatelaw09.CheckLessened', WHERE WHAT IT READS IS OF BULK AT MOST 1048576: true; the input reads as it did. -/
def checkLessenedUptoRow : OpenClaim := { program := "ytaoodchjggimcaa", sum := "fa5bf1b46d901d8df2c490903fe75be1b24149cd462a3b932e93901e5777a414", func := "lychgate/lychgatelaw09.CheckLessened", spec := "checkLessened", unfollowed := true, recurses := true, loops := true, apart := false, narrowed := true }
def CheckLessenedUptoSaid : Prop := checkLessenedUptoRow.holds Try.pinned (OpenSpec.upto checkLessenedSpec)

/-- 'lychgatelaw12.InsertSound', WHERE WHAT IT READS IS OF BULK AT MOST 1048576: true; the input reads as it did. -/
def insertSoundUptoRow : OpenClaim := { program := "ytaoodchjggimcaa", sum := "fa5bf1b46d901d8df2c490903fe75be1b24149cd462a3b932e93901e5777a414", func := "lychgate/lychgatelaw12.InsertSound", spec := "insertSound", unfollowed := true, recurses := true, loops := true, apart := false, narrowed := true }
def InsertSoundUptoSaid : Prop := insertSoundUptoRow.holds Try.pinned (OpenSpec.upto insertSoundSpec)

/-- 'lychgatelaw10.ProofOnce', WHERE WHAT IT READS IS OF BULK AT MOST 1048576: true; the input reads as it did. -/
def proofOnceUptoRow : OpenClaim := { program := "ytaoodchjggimcaa", sum := "fa5bf1b46d901d8df2c490903fe75be1b24149cd462a3b932e93901e5777a414", func := "lychgate/lychgatelaw10.ProofOnce", spec := "proofOnce", unfollowed := true, recurses := true, loops := true, apart := false, narrowed := true }
def ProofOnceUptoSaid : Prop := proofOnceUptoRow.holds Try.pinned (OpenSpec.upto proofOnceSpec)

/-- 'lychgatelaw22.LessenTaken', WHERE WHAT IT READS IS OF BULK AT MOST 1048576: true; the input reads as it did. -/
def lessenTakenUptoRow : OpenClaim := { program := "ytaoodchjggimcaa", sum := "fa5bf1b46d901d8df2c490903fe75be1b24149cd462a3b932e93901e5777a414", func := "lychgate/lychgatelaw22.LessenTaken", spec := "lessenTaken", unfollowed := true, recurses := true, loops := true, apart := false, narrowed := true }
def LessenTakenUptoSaid : Prop := lessenTakenUptoRow.holds Try.pinned (OpenSpec.upto lessenTakenSpec)

/-- 'lychgatelaw13.KernelTakes', WHERE WHAT IT READS IS OF BULK AT MOST 1048576: true; the input reads as it did. -/
def kernelTakesUptoRow : OpenClaim := { program := "ytaoodchjggimcaa", sum := "fa5bf1b46d901d8df2c490903fe75be1b24149cd462a3b932e93901e5777a414", func := "lychgate/lychgatelaw13.KernelTakes", spec := "kernelTakes", inPlace := ["internal/reflectlite.TypeOf"], unfollowed := true, recurses := true, loops := true, apart := false, narrowed := true }
def KernelTakesUptoSaid : Prop := kernelTakesUptoRow.holds Try.pinned (OpenSpec.upto kernelTakesSpec)

end Rows
end Go.Proofs.Ytaoodchjggimcaa
