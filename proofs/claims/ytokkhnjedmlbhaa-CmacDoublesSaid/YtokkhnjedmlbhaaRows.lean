/-
  No cell of these rows narrows 'for every input' (looked for: loops, veiled, ifaces, maps, wideKeys, modest, calm, conditions, laid).
  DERIVED. THE GIVEN ROWS OF THIS SEAT. 34 by the template 'for every input the law returns true; each argument reads behind the call as it read before'; 0 by the template 'total and deterministic' (their statements: YtokkhnjedmlbhaaTotals.lean).
  GIVEN WITH THE SEED: the statements are not yours to turn. If you find one false, say at which input.
  Laid BY PROGRAM, IN A SANDBOX (cutbox-rows.mjs): the forced cells as the released guide's own fill.sh prints them over the translation 1781485b6291ced0… (all of the seat's roots in one cut). By AI agents, Wed Nov 11 2026. No macro, syntax, notation, axiom, sorry.
-/
import Derived.Test.YtokkhnjedmlbhaaChecked
import GoSem.Claim
import GoSem.ClaimJoined
import GoSem.ClaimMapViews
import Derived.JoinedTies
import Derived.KernelRfl
namespace Go.Proofs.Ytokkhnjedmlbhaa
/- THE CELL 'sum', in the pinned program and in every row, IS THE sha256 OF THE DUMP (.gsa) THAT YtokkhnjedmlbhaaProg.lean LOADS. Nothing in Lean hashes anything: it is a label: what it is worth is what the hold of that sum in a sandbox is worth. -/
noncomputable def Try.pinned : Pinned := { name := "ytokkhnjedmlbhaa", sum := "1781485b6291ced0de6f0c71edc105e3e60b3688c8d076326dcf2f889365df0c", checked := Try.checked }
namespace Rows
def none {H : Type} : Left H := { results := [], args := [] }

/-- 'clavigerlaw05.FieldTells': WHATEVER THE INPUT: true; the input reads as it did. -/
def fieldTellsSpec : ChangeSpec := { name := "fieldTells", fn := fun _ => fun
  | [d1, d2, d3] => { results := [.lit (.bool true)], args := [d1, d2, d3] }
  | _ => none }
def fieldTellsRow : OpenClaim := { program := "ytokkhnjedmlbhaa", sum := "1781485b6291ced0de6f0c71edc105e3e60b3688c8d076326dcf2f889365df0c", func := "claviger/clavigerlaw05.FieldTells", spec := "fieldTells", apart := false }
def FieldTellsSaid : Prop := fieldTellsRow.holds Try.pinned (OpenSpec.ofChange fieldTellsSpec)

/-- ITS FALSE NEIGHBOUR: 'it returns false'. Refute it at one input. -/
def fieldTellsWrong : ChangeSpec := { name := "fieldTells", fn := fun _ => fun
  | [d1, d2, d3] => { results := [.lit (.bool false)], args := [d1, d2, d3] }
  | _ => none }
def FieldTellsWrongFalsely : Prop := fieldTellsRow.holds Try.pinned (OpenSpec.ofChange fieldTellsWrong)

/-- 'clavigerlaw05.FieldLaws': WHATEVER THE INPUT: true; the input reads as it did. -/
def fieldLawsSpec : ChangeSpec := { name := "fieldLaws", fn := fun _ => fun
  | [d1, d2, d3] => { results := [.lit (.bool true)], args := [d1, d2, d3] }
  | _ => none }
def fieldLawsRow : OpenClaim := { program := "ytokkhnjedmlbhaa", sum := "1781485b6291ced0de6f0c71edc105e3e60b3688c8d076326dcf2f889365df0c", func := "claviger/clavigerlaw05.FieldLaws", spec := "fieldLaws", apart := false }
def FieldLawsSaid : Prop := fieldLawsRow.holds Try.pinned (OpenSpec.ofChange fieldLawsSpec)

/-- ITS FALSE NEIGHBOUR: 'it returns false'. Refute it at one input. -/
def fieldLawsWrong : ChangeSpec := { name := "fieldLaws", fn := fun _ => fun
  | [d1, d2, d3] => { results := [.lit (.bool false)], args := [d1, d2, d3] }
  | _ => none }
def FieldLawsWrongFalsely : Prop := fieldLawsRow.holds Try.pinned (OpenSpec.ofChange fieldLawsWrong)

/-- 'clavigerlaw05.FieldDots': WHATEVER THE INPUT: true; the input reads as it did. -/
def fieldDotsSpec : ChangeSpec := { name := "fieldDots", fn := fun _ => fun
  | [d1, d2] => { results := [.lit (.bool true)], args := [d1, d2] }
  | _ => none }
def fieldDotsRow : OpenClaim := { program := "ytokkhnjedmlbhaa", sum := "1781485b6291ced0de6f0c71edc105e3e60b3688c8d076326dcf2f889365df0c", func := "claviger/clavigerlaw05.FieldDots", spec := "fieldDots", apart := false }
def FieldDotsSaid : Prop := fieldDotsRow.holds Try.pinned (OpenSpec.ofChange fieldDotsSpec)

/-- ITS FALSE NEIGHBOUR: 'it returns false'. Refute it at one input. -/
def fieldDotsWrong : ChangeSpec := { name := "fieldDots", fn := fun _ => fun
  | [d1, d2] => { results := [.lit (.bool false)], args := [d1, d2] }
  | _ => none }
def FieldDotsWrongFalsely : Prop := fieldDotsRow.holds Try.pinned (OpenSpec.ofChange fieldDotsWrong)

/-- 'clavigerlaw07.RoundAdds': WHATEVER THE INPUT: true; the input reads as it did. -/
def roundAddsSpec : ChangeSpec := { name := "roundAdds", fn := fun _ => fun
  | [d1, d2] => { results := [.lit (.bool true)], args := [d1, d2] }
  | _ => none }
def roundAddsRow : OpenClaim := { program := "ytokkhnjedmlbhaa", sum := "1781485b6291ced0de6f0c71edc105e3e60b3688c8d076326dcf2f889365df0c", func := "claviger/clavigerlaw07.RoundAdds", spec := "roundAdds", unfollowed := true, recurses := true, apart := false }
def RoundAddsSaid : Prop := roundAddsRow.holds Try.pinned (OpenSpec.ofChange roundAddsSpec)

/-- ITS FALSE NEIGHBOUR: 'it returns false'. Refute it at one input. -/
def roundAddsWrong : ChangeSpec := { name := "roundAdds", fn := fun _ => fun
  | [d1, d2] => { results := [.lit (.bool false)], args := [d1, d2] }
  | _ => none }
def RoundAddsWrongFalsely : Prop := roundAddsRow.holds Try.pinned (OpenSpec.ofChange roundAddsWrong)

/-- 'clavigerlaw06.SboxBy': WHATEVER THE INPUT: true; the input reads as it did. -/
def sboxBySpec : ChangeSpec := { name := "sboxBy", fn := fun _ => fun
  | [d] => { results := [.lit (.bool true)], args := [d] }
  | _ => none }
def sboxByRow : OpenClaim := { program := "ytokkhnjedmlbhaa", sum := "1781485b6291ced0de6f0c71edc105e3e60b3688c8d076326dcf2f889365df0c", func := "claviger/clavigerlaw06.SboxBy", spec := "sboxBy", inPlace := ["internal/abi.NoEscape"], unfollowed := true, recurses := true, apart := false }
def SboxBySaid : Prop := sboxByRow.holds Try.pinned (OpenSpec.ofChange sboxBySpec)

/-- ITS FALSE NEIGHBOUR: 'it returns false'. Refute it at one input. -/
def sboxByWrong : ChangeSpec := { name := "sboxBy", fn := fun _ => fun
  | [d] => { results := [.lit (.bool false)], args := [d] }
  | _ => none }
def SboxByWrongFalsely : Prop := sboxByRow.holds Try.pinned (OpenSpec.ofChange sboxByWrong)

/-- 'clavigerlaw38.OpenBack': WHATEVER THE INPUT: true; the input reads as it did. -/
def openBackSpec : ChangeSpec := { name := "openBack", fn := fun _ => fun
  | [d1, d2, d3, d4, d5] => { results := [.lit (.bool true)], args := [d1, d2, d3, d4, d5] }
  | _ => none }
def openBackRow : OpenClaim := { program := "ytokkhnjedmlbhaa", sum := "1781485b6291ced0de6f0c71edc105e3e60b3688c8d076326dcf2f889365df0c", func := "claviger/clavigerlaw38.OpenBack", spec := "openBack", inPlace := ["internal/abi.NoEscape", "internal/bytealg.MakeNoZero"], unfollowed := true, recurses := true, apart := false }
def OpenBackSaid : Prop := openBackRow.holds Try.pinned (OpenSpec.ofChange openBackSpec)

/-- ITS FALSE NEIGHBOUR: 'it returns false'. Refute it at one input. -/
def openBackWrong : ChangeSpec := { name := "openBack", fn := fun _ => fun
  | [d1, d2, d3, d4, d5] => { results := [.lit (.bool false)], args := [d1, d2, d3, d4, d5] }
  | _ => none }
def OpenBackWrongFalsely : Prop := openBackRow.holds Try.pinned (OpenSpec.ofChange openBackWrong)

/-- 'clavigerlaw06.SboxTells': WHATEVER THE INPUT: true; the input reads as it did. -/
def sboxTellsSpec : ChangeSpec := { name := "sboxTells", fn := fun _ => fun
  | [d1, d2, d3] => { results := [.lit (.bool true)], args := [d1, d2, d3] }
  | _ => none }
def sboxTellsRow : OpenClaim := { program := "ytokkhnjedmlbhaa", sum := "1781485b6291ced0de6f0c71edc105e3e60b3688c8d076326dcf2f889365df0c", func := "claviger/clavigerlaw06.SboxTells", spec := "sboxTells", inPlace := ["internal/abi.NoEscape"], unfollowed := true, recurses := true, apart := false }
def SboxTellsSaid : Prop := sboxTellsRow.holds Try.pinned (OpenSpec.ofChange sboxTellsSpec)

/-- ITS FALSE NEIGHBOUR: 'it returns false'. Refute it at one input. -/
def sboxTellsWrong : ChangeSpec := { name := "sboxTells", fn := fun _ => fun
  | [d1, d2, d3] => { results := [.lit (.bool false)], args := [d1, d2, d3] }
  | _ => none }
def SboxTellsWrongFalsely : Prop := sboxTellsRow.holds Try.pinned (OpenSpec.ofChange sboxTellsWrong)

/-- 'clavigerlaw06.SboxOnce': WHATEVER THE INPUT: true; the input reads as it did. -/
def sboxOnceSpec : ChangeSpec := { name := "sboxOnce", fn := fun _ => fun
  | [d1, d2] => { results := [.lit (.bool true)], args := [d1, d2] }
  | _ => none }
def sboxOnceRow : OpenClaim := { program := "ytokkhnjedmlbhaa", sum := "1781485b6291ced0de6f0c71edc105e3e60b3688c8d076326dcf2f889365df0c", func := "claviger/clavigerlaw06.SboxOnce", spec := "sboxOnce", inPlace := ["internal/abi.NoEscape"], unfollowed := true, recurses := true, apart := false }
def SboxOnceSaid : Prop := sboxOnceRow.holds Try.pinned (OpenSpec.ofChange sboxOnceSpec)

/-- ITS FALSE NEIGHBOUR: 'it returns false'. Refute it at one input. -/
def sboxOnceWrong : ChangeSpec := { name := "sboxOnce", fn := fun _ => fun
  | [d1, d2] => { results := [.lit (.bool false)], args := [d1, d2] }
  | _ => none }
def SboxOnceWrongFalsely : Prop := sboxOnceRow.holds Try.pinned (OpenSpec.ofChange sboxOnceWrong)

/-- 'clavigerlaw38.OpenBinds': WHATEVER THE INPUT: true; the input reads as it did. -/
def openBindsSpec : ChangeSpec := { name := "openBinds", fn := fun _ => fun
  | [d1, d2, d3, d4, d5] => { results := [.lit (.bool true)], args := [d1, d2, d3, d4, d5] }
  | _ => none }
def openBindsRow : OpenClaim := { program := "ytokkhnjedmlbhaa", sum := "1781485b6291ced0de6f0c71edc105e3e60b3688c8d076326dcf2f889365df0c", func := "claviger/clavigerlaw38.OpenBinds", spec := "openBinds", inPlace := ["internal/abi.NoEscape", "internal/bytealg.MakeNoZero"], unfollowed := true, recurses := true, apart := false }
def OpenBindsSaid : Prop := openBindsRow.holds Try.pinned (OpenSpec.ofChange openBindsSpec)

/-- ITS FALSE NEIGHBOUR: 'it returns false'. Refute it at one input. -/
def openBindsWrong : ChangeSpec := { name := "openBinds", fn := fun _ => fun
  | [d1, d2, d3, d4, d5] => { results := [.lit (.bool false)], args := [d1, d2, d3, d4, d5] }
  | _ => none }
def OpenBindsWrongFalsely : Prop := openBindsRow.holds Try.pinned (OpenSpec.ofChange openBindsWrong)

/-- 'clavigerlaw07.RoundTells': WHATEVER THE INPUT: true; the input reads as it did. -/
def roundTellsSpec : ChangeSpec := { name := "roundTells", fn := fun _ => fun
  | [d1, d2, d3] => { results := [.lit (.bool true)], args := [d1, d2, d3] }
  | _ => none }
def roundTellsRow : OpenClaim := { program := "ytokkhnjedmlbhaa", sum := "1781485b6291ced0de6f0c71edc105e3e60b3688c8d076326dcf2f889365df0c", func := "claviger/clavigerlaw07.RoundTells", spec := "roundTells", inPlace := ["internal/abi.NoEscape"], unfollowed := true, recurses := true, apart := false }
def RoundTellsSaid : Prop := roundTellsRow.holds Try.pinned (OpenSpec.ofChange roundTellsSpec)

/-- ITS FALSE NEIGHBOUR: 'it returns false'. Refute it at one input. -/
def roundTellsWrong : ChangeSpec := { name := "roundTells", fn := fun _ => fun
  | [d1, d2, d3] => { results := [.lit (.bool false)], args := [d1, d2, d3] }
  | _ => none }
def RoundTellsWrongFalsely : Prop := roundTellsRow.holds Try.pinned (OpenSpec.ofChange roundTellsWrong)

/-- 'clavigerlaw07.RoundBack': WHATEVER THE INPUT: true; the input reads as it did. -/
def roundBackSpec : ChangeSpec := { name := "roundBack", fn := fun _ => fun
  | [d1, d2, d3] => { results := [.lit (.bool true)], args := [d1, d2, d3] }
  | _ => none }
def roundBackRow : OpenClaim := { program := "ytokkhnjedmlbhaa", sum := "1781485b6291ced0de6f0c71edc105e3e60b3688c8d076326dcf2f889365df0c", func := "claviger/clavigerlaw07.RoundBack", spec := "roundBack", inPlace := ["internal/abi.NoEscape"], unfollowed := true, recurses := true, apart := false }
def RoundBackSaid : Prop := roundBackRow.holds Try.pinned (OpenSpec.ofChange roundBackSpec)

/-- ITS FALSE NEIGHBOUR: 'it returns false'. Refute it at one input. -/
def roundBackWrong : ChangeSpec := { name := "roundBack", fn := fun _ => fun
  | [d1, d2, d3] => { results := [.lit (.bool false)], args := [d1, d2, d3] }
  | _ => none }
def RoundBackWrongFalsely : Prop := roundBackRow.holds Try.pinned (OpenSpec.ofChange roundBackWrong)

/-- 'clavigerlaw08.SchedBegins': WHATEVER THE INPUT: true; the input reads as it did. -/
def schedBeginsSpec : ChangeSpec := { name := "schedBegins", fn := fun _ => fun
  | [d1, d2] => { results := [.lit (.bool true)], args := [d1, d2] }
  | _ => none }
def schedBeginsRow : OpenClaim := { program := "ytokkhnjedmlbhaa", sum := "1781485b6291ced0de6f0c71edc105e3e60b3688c8d076326dcf2f889365df0c", func := "claviger/clavigerlaw08.SchedBegins", spec := "schedBegins", inPlace := ["internal/abi.NoEscape", "internal/bytealg.MakeNoZero"], unfollowed := true, recurses := true, apart := false }
def SchedBeginsSaid : Prop := schedBeginsRow.holds Try.pinned (OpenSpec.ofChange schedBeginsSpec)

/-- ITS FALSE NEIGHBOUR: 'it returns false'. Refute it at one input. -/
def schedBeginsWrong : ChangeSpec := { name := "schedBegins", fn := fun _ => fun
  | [d1, d2] => { results := [.lit (.bool false)], args := [d1, d2] }
  | _ => none }
def SchedBeginsWrongFalsely : Prop := schedBeginsRow.holds Try.pinned (OpenSpec.ofChange schedBeginsWrong)

/-- 'clavigerlaw08.SchedTells': WHATEVER THE INPUT: true; the input reads as it did. -/
def schedTellsSpec : ChangeSpec := { name := "schedTells", fn := fun _ => fun
  | [d1, d2] => { results := [.lit (.bool true)], args := [d1, d2] }
  | _ => none }
def schedTellsRow : OpenClaim := { program := "ytokkhnjedmlbhaa", sum := "1781485b6291ced0de6f0c71edc105e3e60b3688c8d076326dcf2f889365df0c", func := "claviger/clavigerlaw08.SchedTells", spec := "schedTells", inPlace := ["internal/abi.NoEscape", "internal/bytealg.MakeNoZero"], unfollowed := true, recurses := true, apart := false }
def SchedTellsSaid : Prop := schedTellsRow.holds Try.pinned (OpenSpec.ofChange schedTellsSpec)

/-- ITS FALSE NEIGHBOUR: 'it returns false'. Refute it at one input. -/
def schedTellsWrong : ChangeSpec := { name := "schedTells", fn := fun _ => fun
  | [d1, d2] => { results := [.lit (.bool false)], args := [d1, d2] }
  | _ => none }
def SchedTellsWrongFalsely : Prop := schedTellsRow.holds Try.pinned (OpenSpec.ofChange schedTellsWrong)

/-- 'clavigerlaw09.AesTells': WHATEVER THE INPUT: true; the input reads as it did. -/
def aesTellsSpec : ChangeSpec := { name := "aesTells", fn := fun _ => fun
  | [d1, d2] => { results := [.lit (.bool true)], args := [d1, d2] }
  | _ => none }
def aesTellsRow : OpenClaim := { program := "ytokkhnjedmlbhaa", sum := "1781485b6291ced0de6f0c71edc105e3e60b3688c8d076326dcf2f889365df0c", func := "claviger/clavigerlaw09.AesTells", spec := "aesTells", inPlace := ["internal/abi.NoEscape", "internal/bytealg.MakeNoZero"], unfollowed := true, recurses := true, apart := false }
def AesTellsSaid : Prop := aesTellsRow.holds Try.pinned (OpenSpec.ofChange aesTellsSpec)

/-- ITS FALSE NEIGHBOUR: 'it returns false'. Refute it at one input. -/
def aesTellsWrong : ChangeSpec := { name := "aesTells", fn := fun _ => fun
  | [d1, d2] => { results := [.lit (.bool false)], args := [d1, d2] }
  | _ => none }
def AesTellsWrongFalsely : Prop := aesTellsRow.holds Try.pinned (OpenSpec.ofChange aesTellsWrong)

/-- 'clavigerlaw09.AesBack': WHATEVER THE INPUT: true; the input reads as it did. -/
def aesBackSpec : ChangeSpec := { name := "aesBack", fn := fun _ => fun
  | [d1, d2, d3] => { results := [.lit (.bool true)], args := [d1, d2, d3] }
  | _ => none }
def aesBackRow : OpenClaim := { program := "ytokkhnjedmlbhaa", sum := "1781485b6291ced0de6f0c71edc105e3e60b3688c8d076326dcf2f889365df0c", func := "claviger/clavigerlaw09.AesBack", spec := "aesBack", inPlace := ["internal/abi.NoEscape", "internal/bytealg.MakeNoZero"], unfollowed := true, recurses := true, apart := false }
def AesBackSaid : Prop := aesBackRow.holds Try.pinned (OpenSpec.ofChange aesBackSpec)

/-- ITS FALSE NEIGHBOUR: 'it returns false'. Refute it at one input. -/
def aesBackWrong : ChangeSpec := { name := "aesBack", fn := fun _ => fun
  | [d1, d2, d3] => { results := [.lit (.bool false)], args := [d1, d2, d3] }
  | _ => none }
def AesBackWrongFalsely : Prop := aesBackRow.holds Try.pinned (OpenSpec.ofChange aesBackWrong)

/-- 'clavigerlaw09.AesMany': WHATEVER THE INPUT: true; the input reads as it did. -/
def aesManySpec : ChangeSpec := { name := "aesMany", fn := fun _ => fun
  | [d1, d2, d3] => { results := [.lit (.bool true)], args := [d1, d2, d3] }
  | _ => none }
def aesManyRow : OpenClaim := { program := "ytokkhnjedmlbhaa", sum := "1781485b6291ced0de6f0c71edc105e3e60b3688c8d076326dcf2f889365df0c", func := "claviger/clavigerlaw09.AesMany", spec := "aesMany", inPlace := ["internal/abi.NoEscape", "internal/bytealg.MakeNoZero"], unfollowed := true, recurses := true, apart := false }
def AesManySaid : Prop := aesManyRow.holds Try.pinned (OpenSpec.ofChange aesManySpec)

/-- ITS FALSE NEIGHBOUR: 'it returns false'. Refute it at one input. -/
def aesManyWrong : ChangeSpec := { name := "aesMany", fn := fun _ => fun
  | [d1, d2, d3] => { results := [.lit (.bool false)], args := [d1, d2, d3] }
  | _ => none }
def AesManyWrongFalsely : Prop := aesManyRow.holds Try.pinned (OpenSpec.ofChange aesManyWrong)

/-- 'clavigerlaw11.CmacDoubles': WHATEVER THE INPUT: true; the input reads as it did. -/
def cmacDoublesSpec : ChangeSpec := { name := "cmacDoubles", fn := fun _ => fun
  | [d1, d2] => { results := [.lit (.bool true)], args := [d1, d2] }
  | _ => none }
def cmacDoublesRow : OpenClaim := { program := "ytokkhnjedmlbhaa", sum := "1781485b6291ced0de6f0c71edc105e3e60b3688c8d076326dcf2f889365df0c", func := "claviger/clavigerlaw11.CmacDoubles", spec := "cmacDoubles", inPlace := ["internal/abi.NoEscape", "internal/bytealg.MakeNoZero"], unfollowed := true, recurses := true, apart := false }
def CmacDoublesSaid : Prop := cmacDoublesRow.holds Try.pinned (OpenSpec.ofChange cmacDoublesSpec)

/-- ITS FALSE NEIGHBOUR: 'it returns false'. Refute it at one input. -/
def cmacDoublesWrong : ChangeSpec := { name := "cmacDoubles", fn := fun _ => fun
  | [d1, d2] => { results := [.lit (.bool false)], args := [d1, d2] }
  | _ => none }
def CmacDoublesWrongFalsely : Prop := cmacDoublesRow.holds Try.pinned (OpenSpec.ofChange cmacDoublesWrong)

/-- 'clavigerlaw11.CmacTells': WHATEVER THE INPUT: true; the input reads as it did. -/
def cmacTellsSpec : ChangeSpec := { name := "cmacTells", fn := fun _ => fun
  | [d1, d2, d3, d4] => { results := [.lit (.bool true)], args := [d1, d2, d3, d4] }
  | _ => none }
def cmacTellsRow : OpenClaim := { program := "ytokkhnjedmlbhaa", sum := "1781485b6291ced0de6f0c71edc105e3e60b3688c8d076326dcf2f889365df0c", func := "claviger/clavigerlaw11.CmacTells", spec := "cmacTells", inPlace := ["internal/abi.NoEscape", "internal/bytealg.MakeNoZero"], unfollowed := true, recurses := true, apart := false }
def CmacTellsSaid : Prop := cmacTellsRow.holds Try.pinned (OpenSpec.ofChange cmacTellsSpec)

/-- ITS FALSE NEIGHBOUR: 'it returns false'. Refute it at one input. -/
def cmacTellsWrong : ChangeSpec := { name := "cmacTells", fn := fun _ => fun
  | [d1, d2, d3, d4] => { results := [.lit (.bool false)], args := [d1, d2, d3, d4] }
  | _ => none }
def CmacTellsWrongFalsely : Prop := cmacTellsRow.holds Try.pinned (OpenSpec.ofChange cmacTellsWrong)

/-- 'clavigerlaw10.CbcTells': WHATEVER THE INPUT: true; the input reads as it did. -/
def cbcTellsSpec : ChangeSpec := { name := "cbcTells", fn := fun _ => fun
  | [d1, d2, d3] => { results := [.lit (.bool true)], args := [d1, d2, d3] }
  | _ => none }
def cbcTellsRow : OpenClaim := { program := "ytokkhnjedmlbhaa", sum := "1781485b6291ced0de6f0c71edc105e3e60b3688c8d076326dcf2f889365df0c", func := "claviger/clavigerlaw10.CbcTells", spec := "cbcTells", inPlace := ["internal/abi.NoEscape", "internal/bytealg.MakeNoZero"], unfollowed := true, recurses := true, apart := false }
def CbcTellsSaid : Prop := cbcTellsRow.holds Try.pinned (OpenSpec.ofChange cbcTellsSpec)

/-- ITS FALSE NEIGHBOUR: 'it returns false'. Refute it at one input. -/
def cbcTellsWrong : ChangeSpec := { name := "cbcTells", fn := fun _ => fun
  | [d1, d2, d3] => { results := [.lit (.bool false)], args := [d1, d2, d3] }
  | _ => none }
def CbcTellsWrongFalsely : Prop := cbcTellsRow.holds Try.pinned (OpenSpec.ofChange cbcTellsWrong)

/-- 'clavigerlaw10.CbcBack': WHATEVER THE INPUT: true; the input reads as it did. -/
def cbcBackSpec : ChangeSpec := { name := "cbcBack", fn := fun _ => fun
  | [d1, d2, d3, d4] => { results := [.lit (.bool true)], args := [d1, d2, d3, d4] }
  | _ => none }
def cbcBackRow : OpenClaim := { program := "ytokkhnjedmlbhaa", sum := "1781485b6291ced0de6f0c71edc105e3e60b3688c8d076326dcf2f889365df0c", func := "claviger/clavigerlaw10.CbcBack", spec := "cbcBack", inPlace := ["internal/abi.NoEscape", "internal/bytealg.MakeNoZero"], unfollowed := true, recurses := true, apart := false }
def CbcBackSaid : Prop := cbcBackRow.holds Try.pinned (OpenSpec.ofChange cbcBackSpec)

/-- ITS FALSE NEIGHBOUR: 'it returns false'. Refute it at one input. -/
def cbcBackWrong : ChangeSpec := { name := "cbcBack", fn := fun _ => fun
  | [d1, d2, d3, d4] => { results := [.lit (.bool false)], args := [d1, d2, d3, d4] }
  | _ => none }
def CbcBackWrongFalsely : Prop := cbcBackRow.holds Try.pinned (OpenSpec.ofChange cbcBackWrong)

/-- 'clavigerlaw11.CmacChecks': WHATEVER THE INPUT: true; the input reads as it did. -/
def cmacChecksSpec : ChangeSpec := { name := "cmacChecks", fn := fun _ => fun
  | [d1, d2, d3] => { results := [.lit (.bool true)], args := [d1, d2, d3] }
  | _ => none }
def cmacChecksRow : OpenClaim := { program := "ytokkhnjedmlbhaa", sum := "1781485b6291ced0de6f0c71edc105e3e60b3688c8d076326dcf2f889365df0c", func := "claviger/clavigerlaw11.CmacChecks", spec := "cmacChecks", inPlace := ["internal/abi.NoEscape", "internal/bytealg.MakeNoZero"], unfollowed := true, recurses := true, apart := false }
def CmacChecksSaid : Prop := cmacChecksRow.holds Try.pinned (OpenSpec.ofChange cmacChecksSpec)

/-- ITS FALSE NEIGHBOUR: 'it returns false'. Refute it at one input. -/
def cmacChecksWrong : ChangeSpec := { name := "cmacChecks", fn := fun _ => fun
  | [d1, d2, d3] => { results := [.lit (.bool false)], args := [d1, d2, d3] }
  | _ => none }
def CmacChecksWrongFalsely : Prop := cmacChecksRow.holds Try.pinned (OpenSpec.ofChange cmacChecksWrong)

/-- 'clavigerlaw12.KdfTells': WHATEVER THE INPUT: true; the input reads as it did. -/
def kdfTellsSpec : ChangeSpec := { name := "kdfTells", fn := fun _ => fun
  | [d1, d2, d3, d4] => { results := [.lit (.bool true)], args := [d1, d2, d3, d4] }
  | _ => none }
def kdfTellsRow : OpenClaim := { program := "ytokkhnjedmlbhaa", sum := "1781485b6291ced0de6f0c71edc105e3e60b3688c8d076326dcf2f889365df0c", func := "claviger/clavigerlaw12.KdfTells", spec := "kdfTells", inPlace := ["internal/abi.NoEscape", "internal/bytealg.MakeNoZero"], unfollowed := true, recurses := true, apart := false }
def KdfTellsSaid : Prop := kdfTellsRow.holds Try.pinned (OpenSpec.ofChange kdfTellsSpec)

/-- ITS FALSE NEIGHBOUR: 'it returns false'. Refute it at one input. -/
def kdfTellsWrong : ChangeSpec := { name := "kdfTells", fn := fun _ => fun
  | [d1, d2, d3, d4] => { results := [.lit (.bool false)], args := [d1, d2, d3, d4] }
  | _ => none }
def KdfTellsWrongFalsely : Prop := kdfTellsRow.holds Try.pinned (OpenSpec.ofChange kdfTellsWrong)

/-- 'clavigerlaw12.KdfBegins': WHATEVER THE INPUT: true; the input reads as it did. -/
def kdfBeginsSpec : ChangeSpec := { name := "kdfBegins", fn := fun _ => fun
  | [d1, d2, d3, d4] => { results := [.lit (.bool true)], args := [d1, d2, d3, d4] }
  | _ => none }
def kdfBeginsRow : OpenClaim := { program := "ytokkhnjedmlbhaa", sum := "1781485b6291ced0de6f0c71edc105e3e60b3688c8d076326dcf2f889365df0c", func := "claviger/clavigerlaw12.KdfBegins", spec := "kdfBegins", inPlace := ["internal/abi.NoEscape", "internal/bytealg.MakeNoZero"], unfollowed := true, recurses := true, apart := false }
def KdfBeginsSaid : Prop := kdfBeginsRow.holds Try.pinned (OpenSpec.ofChange kdfBeginsSpec)

/-- ITS FALSE NEIGHBOUR: 'it returns false'. Refute it at one input. -/
def kdfBeginsWrong : ChangeSpec := { name := "kdfBegins", fn := fun _ => fun
  | [d1, d2, d3, d4] => { results := [.lit (.bool false)], args := [d1, d2, d3, d4] }
  | _ => none }
def KdfBeginsWrongFalsely : Prop := kdfBeginsRow.holds Try.pinned (OpenSpec.ofChange kdfBeginsWrong)

/-- 'clavigerlaw35.DeriveTells': WHATEVER THE INPUT: true; the input reads as it did. -/
def deriveTellsSpec : ChangeSpec := { name := "deriveTells", fn := fun _ => fun
  | [d1, d2, d3] => { results := [.lit (.bool true)], args := [d1, d2, d3] }
  | _ => none }
def deriveTellsRow : OpenClaim := { program := "ytokkhnjedmlbhaa", sum := "1781485b6291ced0de6f0c71edc105e3e60b3688c8d076326dcf2f889365df0c", func := "claviger/clavigerlaw35.DeriveTells", spec := "deriveTells", inPlace := ["internal/abi.NoEscape", "internal/bytealg.MakeNoZero"], unfollowed := true, recurses := true, apart := false }
def DeriveTellsSaid : Prop := deriveTellsRow.holds Try.pinned (OpenSpec.ofChange deriveTellsSpec)

/-- ITS FALSE NEIGHBOUR: 'it returns false'. Refute it at one input. -/
def deriveTellsWrong : ChangeSpec := { name := "deriveTells", fn := fun _ => fun
  | [d1, d2, d3] => { results := [.lit (.bool false)], args := [d1, d2, d3] }
  | _ => none }
def DeriveTellsWrongFalsely : Prop := deriveTellsRow.holds Try.pinned (OpenSpec.ofChange deriveTellsWrong)

/-- 'clavigerlaw35.DeriveSizes': WHATEVER THE INPUT: true; the input reads as it did. -/
def deriveSizesSpec : ChangeSpec := { name := "deriveSizes", fn := fun _ => fun
  | [d] => { results := [.lit (.bool true)], args := [d] }
  | _ => none }
def deriveSizesRow : OpenClaim := { program := "ytokkhnjedmlbhaa", sum := "1781485b6291ced0de6f0c71edc105e3e60b3688c8d076326dcf2f889365df0c", func := "claviger/clavigerlaw35.DeriveSizes", spec := "deriveSizes", inPlace := ["internal/abi.NoEscape", "internal/bytealg.MakeNoZero"], unfollowed := true, recurses := true, apart := false }
def DeriveSizesSaid : Prop := deriveSizesRow.holds Try.pinned (OpenSpec.ofChange deriveSizesSpec)

/-- ITS FALSE NEIGHBOUR: 'it returns false'. Refute it at one input. -/
def deriveSizesWrong : ChangeSpec := { name := "deriveSizes", fn := fun _ => fun
  | [d] => { results := [.lit (.bool false)], args := [d] }
  | _ => none }
def DeriveSizesWrongFalsely : Prop := deriveSizesRow.holds Try.pinned (OpenSpec.ofChange deriveSizesWrong)

/-- 'clavigerlaw14.PadwrapTells': WHATEVER THE INPUT: true; the input reads as it did. -/
def padwrapTellsSpec : ChangeSpec := { name := "padwrapTells", fn := fun _ => fun
  | [d1, d2, d3, d4] => { results := [.lit (.bool true)], args := [d1, d2, d3, d4] }
  | _ => none }
def padwrapTellsRow : OpenClaim := { program := "ytokkhnjedmlbhaa", sum := "1781485b6291ced0de6f0c71edc105e3e60b3688c8d076326dcf2f889365df0c", func := "claviger/clavigerlaw14.PadwrapTells", spec := "padwrapTells", inPlace := ["internal/abi.NoEscape", "internal/bytealg.MakeNoZero"], unfollowed := true, recurses := true, apart := false }
def PadwrapTellsSaid : Prop := padwrapTellsRow.holds Try.pinned (OpenSpec.ofChange padwrapTellsSpec)

/-- ITS FALSE NEIGHBOUR: 'it returns false'. Refute it at one input. -/
def padwrapTellsWrong : ChangeSpec := { name := "padwrapTells", fn := fun _ => fun
  | [d1, d2, d3, d4] => { results := [.lit (.bool false)], args := [d1, d2, d3, d4] }
  | _ => none }
def PadwrapTellsWrongFalsely : Prop := padwrapTellsRow.holds Try.pinned (OpenSpec.ofChange padwrapTellsWrong)

/-- 'clavigerlaw14.PadwrapBack': WHATEVER THE INPUT: true; the input reads as it did. -/
def padwrapBackSpec : ChangeSpec := { name := "padwrapBack", fn := fun _ => fun
  | [d1, d2] => { results := [.lit (.bool true)], args := [d1, d2] }
  | _ => none }
def padwrapBackRow : OpenClaim := { program := "ytokkhnjedmlbhaa", sum := "1781485b6291ced0de6f0c71edc105e3e60b3688c8d076326dcf2f889365df0c", func := "claviger/clavigerlaw14.PadwrapBack", spec := "padwrapBack", inPlace := ["internal/abi.NoEscape", "internal/bytealg.MakeNoZero"], unfollowed := true, recurses := true, apart := false }
def PadwrapBackSaid : Prop := padwrapBackRow.holds Try.pinned (OpenSpec.ofChange padwrapBackSpec)

/-- ITS FALSE NEIGHBOUR: 'it returns false'. Refute it at one input. -/
def padwrapBackWrong : ChangeSpec := { name := "padwrapBack", fn := fun _ => fun
  | [d1, d2] => { results := [.lit (.bool false)], args := [d1, d2] }
  | _ => none }
def PadwrapBackWrongFalsely : Prop := padwrapBackRow.holds Try.pinned (OpenSpec.ofChange padwrapBackWrong)

/-- 'clavigerlaw14.PadwrapOne': WHATEVER THE INPUT: true; the input reads as it did. -/
def padwrapOneSpec : ChangeSpec := { name := "padwrapOne", fn := fun _ => fun
  | [d1, d2] => { results := [.lit (.bool true)], args := [d1, d2] }
  | _ => none }
def padwrapOneRow : OpenClaim := { program := "ytokkhnjedmlbhaa", sum := "1781485b6291ced0de6f0c71edc105e3e60b3688c8d076326dcf2f889365df0c", func := "claviger/clavigerlaw14.PadwrapOne", spec := "padwrapOne", inPlace := ["internal/abi.NoEscape", "internal/bytealg.MakeNoZero"], unfollowed := true, recurses := true, apart := false }
def PadwrapOneSaid : Prop := padwrapOneRow.holds Try.pinned (OpenSpec.ofChange padwrapOneSpec)

/-- ITS FALSE NEIGHBOUR: 'it returns false'. Refute it at one input. -/
def padwrapOneWrong : ChangeSpec := { name := "padwrapOne", fn := fun _ => fun
  | [d1, d2] => { results := [.lit (.bool false)], args := [d1, d2] }
  | _ => none }
def PadwrapOneWrongFalsely : Prop := padwrapOneRow.holds Try.pinned (OpenSpec.ofChange padwrapOneWrong)

/-- 'clavigerlaw37.SealTells': WHATEVER THE INPUT: true; the input reads as it did. -/
def sealTellsSpec : ChangeSpec := { name := "sealTells", fn := fun _ => fun
  | [d1, d2, d3, d4, d5] => { results := [.lit (.bool true)], args := [d1, d2, d3, d4, d5] }
  | _ => none }
def sealTellsRow : OpenClaim := { program := "ytokkhnjedmlbhaa", sum := "1781485b6291ced0de6f0c71edc105e3e60b3688c8d076326dcf2f889365df0c", func := "claviger/clavigerlaw37.SealTells", spec := "sealTells", inPlace := ["internal/abi.NoEscape", "internal/bytealg.MakeNoZero"], unfollowed := true, recurses := true, apart := false }
def SealTellsSaid : Prop := sealTellsRow.holds Try.pinned (OpenSpec.ofChange sealTellsSpec)

/-- ITS FALSE NEIGHBOUR: 'it returns false'. Refute it at one input. -/
def sealTellsWrong : ChangeSpec := { name := "sealTells", fn := fun _ => fun
  | [d1, d2, d3, d4, d5] => { results := [.lit (.bool false)], args := [d1, d2, d3, d4, d5] }
  | _ => none }
def SealTellsWrongFalsely : Prop := sealTellsRow.holds Try.pinned (OpenSpec.ofChange sealTellsWrong)

/-- 'clavigerlaw37.SealHolds': WHATEVER THE INPUT: true; the input reads as it did. -/
def sealHoldsSpec : ChangeSpec := { name := "sealHolds", fn := fun _ => fun
  | [d1, d2, d3] => { results := [.lit (.bool true)], args := [d1, d2, d3] }
  | _ => none }
def sealHoldsRow : OpenClaim := { program := "ytokkhnjedmlbhaa", sum := "1781485b6291ced0de6f0c71edc105e3e60b3688c8d076326dcf2f889365df0c", func := "claviger/clavigerlaw37.SealHolds", spec := "sealHolds", inPlace := ["internal/abi.NoEscape", "internal/bytealg.MakeNoZero"], unfollowed := true, recurses := true, apart := false }
def SealHoldsSaid : Prop := sealHoldsRow.holds Try.pinned (OpenSpec.ofChange sealHoldsSpec)

/-- ITS FALSE NEIGHBOUR: 'it returns false'. Refute it at one input. -/
def sealHoldsWrong : ChangeSpec := { name := "sealHolds", fn := fun _ => fun
  | [d1, d2, d3] => { results := [.lit (.bool false)], args := [d1, d2, d3] }
  | _ => none }
def SealHoldsWrongFalsely : Prop := sealHoldsRow.holds Try.pinned (OpenSpec.ofChange sealHoldsWrong)

/-- 'clavigerlaw13.WrapTells': WHATEVER THE INPUT: true; the input reads as it did. -/
def wrapTellsSpec : ChangeSpec := { name := "wrapTells", fn := fun _ => fun
  | [d1, d2, d3, d4] => { results := [.lit (.bool true)], args := [d1, d2, d3, d4] }
  | _ => none }
def wrapTellsRow : OpenClaim := { program := "ytokkhnjedmlbhaa", sum := "1781485b6291ced0de6f0c71edc105e3e60b3688c8d076326dcf2f889365df0c", func := "claviger/clavigerlaw13.WrapTells", spec := "wrapTells", inPlace := ["internal/abi.NoEscape", "internal/bytealg.MakeNoZero"], unfollowed := true, recurses := true, apart := false }
def WrapTellsSaid : Prop := wrapTellsRow.holds Try.pinned (OpenSpec.ofChange wrapTellsSpec)

/-- ITS FALSE NEIGHBOUR: 'it returns false'. Refute it at one input. -/
def wrapTellsWrong : ChangeSpec := { name := "wrapTells", fn := fun _ => fun
  | [d1, d2, d3, d4] => { results := [.lit (.bool false)], args := [d1, d2, d3, d4] }
  | _ => none }
def WrapTellsWrongFalsely : Prop := wrapTellsRow.holds Try.pinned (OpenSpec.ofChange wrapTellsWrong)

/-- 'clavigerlaw13.WrapBack': WHATEVER THE INPUT: true; the input reads as it did. -/
def wrapBackSpec : ChangeSpec := { name := "wrapBack", fn := fun _ => fun
  | [d1, d2, d3] => { results := [.lit (.bool true)], args := [d1, d2, d3] }
  | _ => none }
def wrapBackRow : OpenClaim := { program := "ytokkhnjedmlbhaa", sum := "1781485b6291ced0de6f0c71edc105e3e60b3688c8d076326dcf2f889365df0c", func := "claviger/clavigerlaw13.WrapBack", spec := "wrapBack", inPlace := ["internal/abi.NoEscape", "internal/bytealg.MakeNoZero"], unfollowed := true, recurses := true, apart := false }
def WrapBackSaid : Prop := wrapBackRow.holds Try.pinned (OpenSpec.ofChange wrapBackSpec)

/-- ITS FALSE NEIGHBOUR: 'it returns false'. Refute it at one input. -/
def wrapBackWrong : ChangeSpec := { name := "wrapBack", fn := fun _ => fun
  | [d1, d2, d3] => { results := [.lit (.bool false)], args := [d1, d2, d3] }
  | _ => none }
def WrapBackWrongFalsely : Prop := wrapBackRow.holds Try.pinned (OpenSpec.ofChange wrapBackWrong)

/-- 'clavigerlaw13.WrapOne': WHATEVER THE INPUT: true; the input reads as it did. -/
def wrapOneSpec : ChangeSpec := { name := "wrapOne", fn := fun _ => fun
  | [d1, d2] => { results := [.lit (.bool true)], args := [d1, d2] }
  | _ => none }
def wrapOneRow : OpenClaim := { program := "ytokkhnjedmlbhaa", sum := "1781485b6291ced0de6f0c71edc105e3e60b3688c8d076326dcf2f889365df0c", func := "claviger/clavigerlaw13.WrapOne", spec := "wrapOne", inPlace := ["internal/abi.NoEscape", "internal/bytealg.MakeNoZero"], unfollowed := true, recurses := true, apart := false }
def WrapOneSaid : Prop := wrapOneRow.holds Try.pinned (OpenSpec.ofChange wrapOneSpec)

/-- ITS FALSE NEIGHBOUR: 'it returns false'. Refute it at one input. -/
def wrapOneWrong : ChangeSpec := { name := "wrapOne", fn := fun _ => fun
  | [d1, d2] => { results := [.lit (.bool false)], args := [d1, d2] }
  | _ => none }
def WrapOneWrongFalsely : Prop := wrapOneRow.holds Try.pinned (OpenSpec.ofChange wrapOneWrong)

/-- 'clavigerlaw38.OpenTells': WHATEVER THE INPUT: true; the input reads as it did. -/
def openTellsSpec : ChangeSpec := { name := "openTells", fn := fun _ => fun
  | [d1, d2, d3, d4] => { results := [.lit (.bool true)], args := [d1, d2, d3, d4] }
  | _ => none }
def openTellsRow : OpenClaim := { program := "ytokkhnjedmlbhaa", sum := "1781485b6291ced0de6f0c71edc105e3e60b3688c8d076326dcf2f889365df0c", func := "claviger/clavigerlaw38.OpenTells", spec := "openTells", inPlace := ["internal/abi.NoEscape", "internal/bytealg.MakeNoZero"], unfollowed := true, recurses := true, apart := false }
def OpenTellsSaid : Prop := openTellsRow.holds Try.pinned (OpenSpec.ofChange openTellsSpec)

/-- ITS FALSE NEIGHBOUR: 'it returns false'. Refute it at one input. -/
def openTellsWrong : ChangeSpec := { name := "openTells", fn := fun _ => fun
  | [d1, d2, d3, d4] => { results := [.lit (.bool false)], args := [d1, d2, d3, d4] }
  | _ => none }
def OpenTellsWrongFalsely : Prop := openTellsRow.holds Try.pinned (OpenSpec.ofChange openTellsWrong)

/- THE SECOND FORM. 'bulk': how many values and letters a reading holds, each counted each time it is reached (what is shared counts as often as it is met; a slice's spare places count too). A statement '..UptoSaid' is the law's where the arguments, and the package variables that the reading takes, are together of bulk at most 1048576: NARROWER than '..Said'. Prove '..Said' where nothing that the law and all that it calls make is longer than what came in: it says more and counts as full. Else prove '..UptoSaid'. A law counts once. -/
mutual
def uptoBulk {H : Type} : DataW H → Nat
  | .lit (.string bytes) => bytes.length + 1
  | .lit _ => 1
  | .nil => 1
  | .ptr d => uptoBulk d + 1
  | .slice elems spare => uptoBulkAll elems + uptoBulkAll spare + 1
  | .agg parts => uptoBulkAll parts + 1
  | .iface _ d => uptoBulk d + 1
  | .map entries => uptoBulkEntries entries + 1
  | .held _ => 1
def uptoBulkAll {H : Type} : List (DataW H) → Nat
  | [] => 0
  | d :: r => uptoBulk d + uptoBulkAll r
def uptoBulkEntries {H : Type} : List (Lit × DataW H) → Nat
  | [] => 0
  | x :: r => uptoBulkEntry x + uptoBulkEntries r
def uptoBulkEntry {H : Type} : Lit × DataW H → Nat
  | (.string bytes, d) => bytes.length + uptoBulk d + 1
  | (_, d) => uptoBulk d + 1
 end
def uptoSmall : (H : Type) → List (DataW H) → Bool := fun _ ds => decide (uptoBulkAll ds ≤ 1048576)
def OpenSpec.upto (s : _root_.Go.ChangeSpec) : _root_.Go.OpenSpec := { _root_.Go.OpenSpec.ofChange s with cond := some uptoSmall }

/-- 'clavigerlaw05.FieldTells', WHERE WHAT IT READS IS OF BULK AT MOST 1048576: true; the input reads as it did. -/
def fieldTellsUptoRow : OpenClaim := { program := "ytokkhnjedmlbhaa", sum := "1781485b6291ced0de6f0c71edc105e3e60b3688c8d076326dcf2f889365df0c", func := "claviger/clavigerlaw05.FieldTells", spec := "fieldTells", apart := false, narrowed := true }
def FieldTellsUptoSaid : Prop := fieldTellsUptoRow.holds Try.pinned (OpenSpec.upto fieldTellsSpec)

/-- 'clavigerlaw05.FieldLaws', WHERE WHAT IT READS IS OF BULK AT MOST 1048576: true; the input reads as it did. -/
def fieldLawsUptoRow : OpenClaim := { program := "ytokkhnjedmlbhaa", sum := "1781485b6291ced0de6f0c71edc105e3e60b3688c8d076326dcf2f889365df0c", func := "claviger/clavigerlaw05.FieldLaws", spec := "fieldLaws", apart := false, narrowed := true }
def FieldLawsUptoSaid : Prop := fieldLawsUptoRow.holds Try.pinned (OpenSpec.upto fieldLawsSpec)

/-- 'clavigerlaw05.FieldDots', WHERE WHAT IT READS IS OF BULK AT MOST 1048576: true; the input reads as it did. -/
def fieldDotsUptoRow : OpenClaim := { program := "ytokkhnjedmlbhaa", sum := "1781485b6291ced0de6f0c71edc105e3e60b3688c8d076326dcf2f889365df0c", func := "claviger/clavigerlaw05.FieldDots", spec := "fieldDots", apart := false, narrowed := true }
def FieldDotsUptoSaid : Prop := fieldDotsUptoRow.holds Try.pinned (OpenSpec.upto fieldDotsSpec)

/-- 'clavigerlaw07.RoundAdds', WHERE WHAT IT READS IS OF BULK AT MOST 1048576: true; the input reads as it did. -/
def roundAddsUptoRow : OpenClaim := { program := "ytokkhnjedmlbhaa", sum := "1781485b6291ced0de6f0c71edc105e3e60b3688c8d076326dcf2f889365df0c", func := "claviger/clavigerlaw07.RoundAdds", spec := "roundAdds", unfollowed := true, recurses := true, apart := false, narrowed := true }
def RoundAddsUptoSaid : Prop := roundAddsUptoRow.holds Try.pinned (OpenSpec.upto roundAddsSpec)

/-- 'clavigerlaw06.SboxBy', WHERE WHAT IT READS IS OF BULK AT MOST 1048576: true; the input reads as it did. -/
def sboxByUptoRow : OpenClaim := { program := "ytokkhnjedmlbhaa", sum := "1781485b6291ced0de6f0c71edc105e3e60b3688c8d076326dcf2f889365df0c", func := "claviger/clavigerlaw06.SboxBy", spec := "sboxBy", inPlace := ["internal/abi.NoEscape"], unfollowed := true, recurses := true, apart := false, narrowed := true }
def SboxByUptoSaid : Prop := sboxByUptoRow.holds Try.pinned (OpenSpec.upto sboxBySpec)

/-- 'clavigerlaw38.OpenBack', WHERE WHAT IT READS IS OF BULK AT MOST 1048576: true; the input reads as it did. -/
def openBackUptoRow : OpenClaim := { program := "ytokkhnjedmlbhaa", sum := "1781485b6291ced0de6f0c71edc105e3e60b3688c8d076326dcf2f889365df0c", func := "claviger/clavigerlaw38.OpenBack", spec := "openBack", inPlace := ["internal/abi.NoEscape", "internal/bytealg.MakeNoZero"], unfollowed := true, recurses := true, apart := false, narrowed := true }
def OpenBackUptoSaid : Prop := openBackUptoRow.holds Try.pinned (OpenSpec.upto openBackSpec)

/-- 'clavigerlaw06.SboxTells', WHERE WHAT IT READS IS OF BULK AT MOST 1048576: true; the input reads as it did. -/
def sboxTellsUptoRow : OpenClaim := { program := "ytokkhnjedmlbhaa", sum := "1781485b6291ced0de6f0c71edc105e3e60b3688c8d076326dcf2f889365df0c", func := "claviger/clavigerlaw06.SboxTells", spec := "sboxTells", inPlace := ["internal/abi.NoEscape"], unfollowed := true, recurses := true, apart := false, narrowed := true }
def SboxTellsUptoSaid : Prop := sboxTellsUptoRow.holds Try.pinned (OpenSpec.upto sboxTellsSpec)

/-- 'clavigerlaw06.SboxOnce', WHERE WHAT IT READS IS OF BULK AT MOST 1048576: true; the input reads as it did. -/
def sboxOnceUptoRow : OpenClaim := { program := "ytokkhnjedmlbhaa", sum := "1781485b6291ced0de6f0c71edc105e3e60b3688c8d076326dcf2f889365df0c", func := "claviger/clavigerlaw06.SboxOnce", spec := "sboxOnce", inPlace := ["internal/abi.NoEscape"], unfollowed := true, recurses := true, apart := false, narrowed := true }
def SboxOnceUptoSaid : Prop := sboxOnceUptoRow.holds Try.pinned (OpenSpec.upto sboxOnceSpec)

/-- 'clavigerlaw38.OpenBinds', WHERE WHAT IT READS IS OF BULK AT MOST 1048576: true; the input reads as it did. -/
def openBindsUptoRow : OpenClaim := { program := "ytokkhnjedmlbhaa", sum := "1781485b6291ced0de6f0c71edc105e3e60b3688c8d076326dcf2f889365df0c", func := "claviger/clavigerlaw38.OpenBinds", spec := "openBinds", inPlace := ["internal/abi.NoEscape", "internal/bytealg.MakeNoZero"], unfollowed := true, recurses := true, apart := false, narrowed := true }
def OpenBindsUptoSaid : Prop := openBindsUptoRow.holds Try.pinned (OpenSpec.upto openBindsSpec)

/-- 'clavigerlaw07.RoundTells', WHERE WHAT IT READS IS OF BULK AT MOST 1048576: true; the input reads as it did. -/
def roundTellsUptoRow : OpenClaim := { program := "ytokkhnjedmlbhaa", sum := "1781485b6291ced0de6f0c71edc105e3e60b3688c8d076326dcf2f889365df0c", func := "claviger/clavigerlaw07.RoundTells", spec := "roundTells", inPlace := ["internal/abi.NoEscape"], unfollowed := true, recurses := true, apart := false, narrowed := true }
def RoundTellsUptoSaid : Prop := roundTellsUptoRow.holds Try.pinned (OpenSpec.upto roundTellsSpec)

/-- 'clavigerlaw07.RoundBack', WHERE WHAT IT READS IS OF BULK AT MOST 1048576: true; the input reads as it did. -/
def roundBackUptoRow : OpenClaim := { program := "ytokkhnjedmlbhaa", sum := "1781485b6291ced0de6f0c71edc105e3e60b3688c8d076326dcf2f889365df0c", func := "claviger/clavigerlaw07.RoundBack", spec := "roundBack", inPlace := ["internal/abi.NoEscape"], unfollowed := true, recurses := true, apart := false, narrowed := true }
def RoundBackUptoSaid : Prop := roundBackUptoRow.holds Try.pinned (OpenSpec.upto roundBackSpec)

/-- 'clavigerlaw08.SchedBegins', WHERE WHAT IT READS IS OF BULK AT MOST 1048576: true; the input reads as it did. -/
def schedBeginsUptoRow : OpenClaim := { program := "ytokkhnjedmlbhaa", sum := "1781485b6291ced0de6f0c71edc105e3e60b3688c8d076326dcf2f889365df0c", func := "claviger/clavigerlaw08.SchedBegins", spec := "schedBegins", inPlace := ["internal/abi.NoEscape", "internal/bytealg.MakeNoZero"], unfollowed := true, recurses := true, apart := false, narrowed := true }
def SchedBeginsUptoSaid : Prop := schedBeginsUptoRow.holds Try.pinned (OpenSpec.upto schedBeginsSpec)

/-- 'clavigerlaw08.SchedTells', WHERE WHAT IT READS IS OF BULK AT MOST 1048576: true; the input reads as it did. -/
def schedTellsUptoRow : OpenClaim := { program := "ytokkhnjedmlbhaa", sum := "1781485b6291ced0de6f0c71edc105e3e60b3688c8d076326dcf2f889365df0c", func := "claviger/clavigerlaw08.SchedTells", spec := "schedTells", inPlace := ["internal/abi.NoEscape", "internal/bytealg.MakeNoZero"], unfollowed := true, recurses := true, apart := false, narrowed := true }
def SchedTellsUptoSaid : Prop := schedTellsUptoRow.holds Try.pinned (OpenSpec.upto schedTellsSpec)

/-- 'clavigerlaw09.AesTells', WHERE WHAT IT READS IS OF BULK AT MOST 1048576: true; the input reads as it did. -/
def aesTellsUptoRow : OpenClaim := { program := "ytokkhnjedmlbhaa", sum := "1781485b6291ced0de6f0c71edc105e3e60b3688c8d076326dcf2f889365df0c", func := "claviger/clavigerlaw09.AesTells", spec := "aesTells", inPlace := ["internal/abi.NoEscape", "internal/bytealg.MakeNoZero"], unfollowed := true, recurses := true, apart := false, narrowed := true }
def AesTellsUptoSaid : Prop := aesTellsUptoRow.holds Try.pinned (OpenSpec.upto aesTellsSpec)

/-- 'clavigerlaw09.AesBack', WHERE WHAT IT READS IS OF BULK AT MOST 1048576: true; the input reads as it did. -/
def aesBackUptoRow : OpenClaim := { program := "ytokkhnjedmlbhaa", sum := "1781485b6291ced0de6f0c71edc105e3e60b3688c8d076326dcf2f889365df0c", func := "claviger/clavigerlaw09.AesBack", spec := "aesBack", inPlace := ["internal/abi.NoEscape", "internal/bytealg.MakeNoZero"], unfollowed := true, recurses := true, apart := false, narrowed := true }
def AesBackUptoSaid : Prop := aesBackUptoRow.holds Try.pinned (OpenSpec.upto aesBackSpec)

/-- 'clavigerlaw09.AesMany', WHERE WHAT IT READS IS OF BULK AT MOST 1048576: true; the input reads as it did. -/
def aesManyUptoRow : OpenClaim := { program := "ytokkhnjedmlbhaa", sum := "1781485b6291ced0de6f0c71edc105e3e60b3688c8d076326dcf2f889365df0c", func := "claviger/clavigerlaw09.AesMany", spec := "aesMany", inPlace := ["internal/abi.NoEscape", "internal/bytealg.MakeNoZero"], unfollowed := true, recurses := true, apart := false, narrowed := true }
def AesManyUptoSaid : Prop := aesManyUptoRow.holds Try.pinned (OpenSpec.upto aesManySpec)

/-- 'clavigerlaw11.CmacDoubles', WHERE WHAT IT READS IS OF BULK AT MOST 1048576: true; the input reads as it did. -/
def cmacDoublesUptoRow : OpenClaim := { program := "ytokkhnjedmlbhaa", sum := "1781485b6291ced0de6f0c71edc105e3e60b3688c8d076326dcf2f889365df0c", func := "claviger/clavigerlaw11.CmacDoubles", spec := "cmacDoubles", inPlace := ["internal/abi.NoEscape", "internal/bytealg.MakeNoZero"], unfollowed := true, recurses := true, apart := false, narrowed := true }
def CmacDoublesUptoSaid : Prop := cmacDoublesUptoRow.holds Try.pinned (OpenSpec.upto cmacDoublesSpec)

/-- 'clavigerlaw11.CmacTells', WHERE WHAT IT READS IS OF BULK AT MOST 1048576: true; the input reads as it did. -/
def cmacTellsUptoRow : OpenClaim := { program := "ytokkhnjedmlbhaa", sum := "1781485b6291ced0de6f0c71edc105e3e60b3688c8d076326dcf2f889365df0c", func := "claviger/clavigerlaw11.CmacTells", spec := "cmacTells", inPlace := ["internal/abi.NoEscape", "internal/bytealg.MakeNoZero"], unfollowed := true, recurses := true, apart := false, narrowed := true }
def CmacTellsUptoSaid : Prop := cmacTellsUptoRow.holds Try.pinned (OpenSpec.upto cmacTellsSpec)

/-- 'clavigerlaw10.CbcTells', WHERE WHAT IT READS IS OF BULK AT MOST 1048576: true; the input reads as it did. -/
def cbcTellsUptoRow : OpenClaim := { program := "ytokkhnjedmlbhaa", sum := "1781485b6291ced0de6f0c71edc105e3e60b3688c8d076326dcf2f889365df0c", func := "claviger/clavigerlaw10.CbcTells", spec := "cbcTells", inPlace := ["internal/abi.NoEscape", "internal/bytealg.MakeNoZero"], unfollowed := true, recurses := true, apart := false, narrowed := true }
def CbcTellsUptoSaid : Prop := cbcTellsUptoRow.holds Try.pinned (OpenSpec.upto cbcTellsSpec)

/-- 'clavigerlaw10.CbcBack', WHERE WHAT IT READS IS OF BULK AT MOST 1048576: true; the input reads as it did. -/
def cbcBackUptoRow : OpenClaim := { program := "ytokkhnjedmlbhaa", sum := "1781485b6291ced0de6f0c71edc105e3e60b3688c8d076326dcf2f889365df0c", func := "claviger/clavigerlaw10.CbcBack", spec := "cbcBack", inPlace := ["internal/abi.NoEscape", "internal/bytealg.MakeNoZero"], unfollowed := true, recurses := true, apart := false, narrowed := true }
def CbcBackUptoSaid : Prop := cbcBackUptoRow.holds Try.pinned (OpenSpec.upto cbcBackSpec)

/-- 'clavigerlaw11.CmacChecks', WHERE WHAT IT READS IS OF BULK AT MOST 1048576: true; the input reads as it did. -/
def cmacChecksUptoRow : OpenClaim := { program := "ytokkhnjedmlbhaa", sum := "1781485b6291ced0de6f0c71edc105e3e60b3688c8d076326dcf2f889365df0c", func := "claviger/clavigerlaw11.CmacChecks", spec := "cmacChecks", inPlace := ["internal/abi.NoEscape", "internal/bytealg.MakeNoZero"], unfollowed := true, recurses := true, apart := false, narrowed := true }
def CmacChecksUptoSaid : Prop := cmacChecksUptoRow.holds Try.pinned (OpenSpec.upto cmacChecksSpec)

/-- 'clavigerlaw12.KdfTells', WHERE WHAT IT READS IS OF BULK AT MOST 1048576: true; the input reads as it did. -/
def kdfTellsUptoRow : OpenClaim := { program := "ytokkhnjedmlbhaa", sum := "1781485b6291ced0de6f0c71edc105e3e60b3688c8d076326dcf2f889365df0c", func := "claviger/clavigerlaw12.KdfTells", spec := "kdfTells", inPlace := ["internal/abi.NoEscape", "internal/bytealg.MakeNoZero"], unfollowed := true, recurses := true, apart := false, narrowed := true }
def KdfTellsUptoSaid : Prop := kdfTellsUptoRow.holds Try.pinned (OpenSpec.upto kdfTellsSpec)

/-- 'clavigerlaw12.KdfBegins', WHERE WHAT IT READS IS OF BULK AT MOST 1048576: true; the input reads as it did. -/
def kdfBeginsUptoRow : OpenClaim := { program := "ytokkhnjedmlbhaa", sum := "1781485b6291ced0de6f0c71edc105e3e60b3688c8d076326dcf2f889365df0c", func := "claviger/clavigerlaw12.KdfBegins", spec := "kdfBegins", inPlace := ["internal/abi.NoEscape", "internal/bytealg.MakeNoZero"], unfollowed := true, recurses := true, apart := false, narrowed := true }
def KdfBeginsUptoSaid : Prop := kdfBeginsUptoRow.holds Try.pinned (OpenSpec.upto kdfBeginsSpec)

/-- 'clavigerlaw35.DeriveTells', WHERE WHAT IT READS IS OF BULK AT MOST 1048576: true; the input reads as it did. -/
def deriveTellsUptoRow : OpenClaim := { program := "ytokkhnjedmlbhaa", sum := "1781485b6291ced0de6f0c71edc105e3e60b3688c8d076326dcf2f889365df0c", func := "claviger/clavigerlaw35.DeriveTells", spec := "deriveTells", inPlace := ["internal/abi.NoEscape", "internal/bytealg.MakeNoZero"], unfollowed := true, recurses := true, apart := false, narrowed := true }
def DeriveTellsUptoSaid : Prop := deriveTellsUptoRow.holds Try.pinned (OpenSpec.upto deriveTellsSpec)

/-- 'clavigerlaw35.DeriveSizes', WHERE WHAT IT READS IS OF BULK AT MOST 1048576: true; the input reads as it did. -/
def deriveSizesUptoRow : OpenClaim := { program := "ytokkhnjedmlbhaa", sum := "1781485b6291ced0de6f0c71edc105e3e60b3688c8d076326dcf2f889365df0c", func := "claviger/clavigerlaw35.DeriveSizes", spec := "deriveSizes", inPlace := ["internal/abi.NoEscape", "internal/bytealg.MakeNoZero"], unfollowed := true, recurses := true, apart := false, narrowed := true }
def DeriveSizesUptoSaid : Prop := deriveSizesUptoRow.holds Try.pinned (OpenSpec.upto deriveSizesSpec)

/-- 'clavigerlaw14.PadwrapTells', WHERE WHAT IT READS IS OF BULK AT MOST 1048576: true; the input reads as it did. -/
def padwrapTellsUptoRow : OpenClaim := { program := "ytokkhnjedmlbhaa", sum := "1781485b6291ced0de6f0c71edc105e3e60b3688c8d076326dcf2f889365df0c", func := "claviger/clavigerlaw14.PadwrapTells", spec := "padwrapTells", inPlace := ["internal/abi.NoEscape", "internal/bytealg.MakeNoZero"], unfollowed := true, recurses := true, apart := false, narrowed := true }
def PadwrapTellsUptoSaid : Prop := padwrapTellsUptoRow.holds Try.pinned (OpenSpec.upto padwrapTellsSpec)

/-- 'clavigerlaw14.PadwrapBack', WHERE WHAT IT READS IS OF BULK AT MOST 1048576: true; the input reads as it did. -/
def padwrapBackUptoRow : OpenClaim := { program := "ytokkhnjedmlbhaa", sum := "1781485b6291ced0de6f0c71edc105e3e60b3688c8d076326dcf2f889365df0c", func := "claviger/clavigerlaw14.PadwrapBack", spec := "padwrapBack", inPlace := ["internal/abi.NoEscape", "internal/bytealg.MakeNoZero"], unfollowed := true, recurses := true, apart := false, narrowed := true }
def PadwrapBackUptoSaid : Prop := padwrapBackUptoRow.holds Try.pinned (OpenSpec.upto padwrapBackSpec)

/-- 'clavigerlaw14.PadwrapOne', WHERE WHAT IT READS IS OF BULK AT MOST 1048576: true; the input reads as it did. -/
def padwrapOneUptoRow : OpenClaim := { program := "ytokkhnjedmlbhaa", sum := "1781485b6291ced0de6f0c71edc105e3e60b3688c8d076326dcf2f889365df0c", func := "claviger/clavigerlaw14.PadwrapOne", spec := "padwrapOne", inPlace := ["internal/abi.NoEscape", "internal/bytealg.MakeNoZero"], unfollowed := true, recurses := true, apart := false, narrowed := true }
def PadwrapOneUptoSaid : Prop := padwrapOneUptoRow.holds Try.pinned (OpenSpec.upto padwrapOneSpec)

/-- 'clavigerlaw37.SealTells', WHERE WHAT IT READS IS OF BULK AT MOST 1048576: true; the input reads as it did. -/
def sealTellsUptoRow : OpenClaim := { program := "ytokkhnjedmlbhaa", sum := "1781485b6291ced0de6f0c71edc105e3e60b3688c8d076326dcf2f889365df0c", func := "claviger/clavigerlaw37.SealTells", spec := "sealTells", inPlace := ["internal/abi.NoEscape", "internal/bytealg.MakeNoZero"], unfollowed := true, recurses := true, apart := false, narrowed := true }
def SealTellsUptoSaid : Prop := sealTellsUptoRow.holds Try.pinned (OpenSpec.upto sealTellsSpec)

/-- 'clavigerlaw37.SealHolds', WHERE WHAT IT READS IS OF BULK AT MOST 1048576: true; the input reads as it did. -/
def sealHoldsUptoRow : OpenClaim := { program := "ytokkhnjedmlbhaa", sum := "1781485b6291ced0de6f0c71edc105e3e60b3688c8d076326dcf2f889365df0c", func := "claviger/clavigerlaw37.SealHolds", spec := "sealHolds", inPlace := ["internal/abi.NoEscape", "internal/bytealg.MakeNoZero"], unfollowed := true, recurses := true, apart := false, narrowed := true }
def SealHoldsUptoSaid : Prop := sealHoldsUptoRow.holds Try.pinned (OpenSpec.upto sealHoldsSpec)

/-- 'clavigerlaw13.WrapTells', WHERE WHAT IT READS IS OF BULK AT MOST 1048576: true; the input reads as it did. -/
def wrapTellsUptoRow : OpenClaim := { program := "ytokkhnjedmlbhaa", sum := "1781485b6291ced0de6f0c71edc105e3e60b3688c8d076326dcf2f889365df0c", func := "claviger/clavigerlaw13.WrapTells", spec := "wrapTells", inPlace := ["internal/abi.NoEscape", "internal/bytealg.MakeNoZero"], unfollowed := true, recurses := true, apart := false, narrowed := true }
def WrapTellsUptoSaid : Prop := wrapTellsUptoRow.holds Try.pinned (OpenSpec.upto wrapTellsSpec)

/-- 'clavigerlaw13.WrapBack', WHERE WHAT IT READS IS OF BULK AT MOST 1048576: true; the input reads as it did. -/
def wrapBackUptoRow : OpenClaim := { program := "ytokkhnjedmlbhaa", sum := "1781485b6291ced0de6f0c71edc105e3e60b3688c8d076326dcf2f889365df0c", func := "claviger/clavigerlaw13.WrapBack", spec := "wrapBack", inPlace := ["internal/abi.NoEscape", "internal/bytealg.MakeNoZero"], unfollowed := true, recurses := true, apart := false, narrowed := true }
def WrapBackUptoSaid : Prop := wrapBackUptoRow.holds Try.pinned (OpenSpec.upto wrapBackSpec)

/-- 'clavigerlaw13.WrapOne', WHERE WHAT IT READS IS OF BULK AT MOST 1048576: true; the input reads as it did. -/
def wrapOneUptoRow : OpenClaim := { program := "ytokkhnjedmlbhaa", sum := "1781485b6291ced0de6f0c71edc105e3e60b3688c8d076326dcf2f889365df0c", func := "claviger/clavigerlaw13.WrapOne", spec := "wrapOne", inPlace := ["internal/abi.NoEscape", "internal/bytealg.MakeNoZero"], unfollowed := true, recurses := true, apart := false, narrowed := true }
def WrapOneUptoSaid : Prop := wrapOneUptoRow.holds Try.pinned (OpenSpec.upto wrapOneSpec)

/-- 'clavigerlaw38.OpenTells', WHERE WHAT IT READS IS OF BULK AT MOST 1048576: true; the input reads as it did. -/
def openTellsUptoRow : OpenClaim := { program := "ytokkhnjedmlbhaa", sum := "1781485b6291ced0de6f0c71edc105e3e60b3688c8d076326dcf2f889365df0c", func := "claviger/clavigerlaw38.OpenTells", spec := "openTells", inPlace := ["internal/abi.NoEscape", "internal/bytealg.MakeNoZero"], unfollowed := true, recurses := true, apart := false, narrowed := true }
def OpenTellsUptoSaid : Prop := openTellsUptoRow.holds Try.pinned (OpenSpec.upto openTellsSpec)

end Rows
end Go.Proofs.Ytokkhnjedmlbhaa
