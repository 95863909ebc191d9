/-
  No cell of these rows narrows 'for every input' (looked for: loops, veiled, ifaces, maps, wideKeys, modest, calm, conditions, laid).
  DERIVED. THE GIVEN ROWS OF THIS SEAT. 11 by the template 'for every input the law returns true; each argument reads behind the call as it read before'; 0 by the template 'total and deterministic' (their statements: YtmcpfkgahmdkgaaTotals.lean).
  GIVEN WITH THE SEED: the statements are not yours to turn. If you find one false, say at which input.
  Laid BY PROGRAM, IN A SANDBOX (cutbox-rows.mjs): the forced cells as the released guide's own fill.sh prints them over the translation e227d81d632ecc7a… (all of the seat's roots in one cut). By AI agents, Wed Nov 11 2026. No macro, syntax, notation, axiom, sorry.
-/
import Derived.Test.YtmcpfkgahmdkgaaChecked
import GoSem.Claim
import GoSem.ClaimJoined
import GoSem.ClaimMapViews
import Derived.JoinedTies
import Derived.KernelRfl
namespace Go.Proofs.Ytmcpfkgahmdkgaa
/- THE CELL 'sum', in the pinned program and in every row, IS THE sha256 OF THE DUMP (.gsa) THAT YtmcpfkgahmdkgaaProg.lean LOADS. Nothing in Lean hashes anything: it is a label: what it is worth is what the hold of that sum in a sandbox is worth. -/
noncomputable def Try.pinned : Pinned := { name := "ytmcpfkgahmdkgaa", sum := "e227d81d632ecc7ac9339c774e67bf614ff86ede7f8d88c703976382eea41ec1", checked := Try.checked }
namespace Rows
def none {H : Type} : Left H := { results := [], args := [] }

/-- 'clavigerlaw03.SpanTells': WHATEVER THE INPUT: true; the input reads as it did. -/
def spanTellsSpec : ChangeSpec := { name := "spanTells", fn := fun _ => fun
  | [d1, d2, d3, d4] => { results := [.lit (.bool true)], args := [d1, d2, d3, d4] }
  | _ => none }
def spanTellsRow : OpenClaim := { program := "ytmcpfkgahmdkgaa", sum := "e227d81d632ecc7ac9339c774e67bf614ff86ede7f8d88c703976382eea41ec1", func := "claviger/clavigerlaw03.SpanTells", spec := "spanTells", apart := false }
def SpanTellsSaid : Prop := spanTellsRow.holds Try.pinned (OpenSpec.ofChange spanTellsSpec)

/-- ITS FALSE NEIGHBOUR: 'it returns false'. Refute it at one input. -/
def spanTellsWrong : ChangeSpec := { name := "spanTells", fn := fun _ => fun
  | [d1, d2, d3, d4] => { results := [.lit (.bool false)], args := [d1, d2, d3, d4] }
  | _ => none }
def SpanTellsWrongFalsely : Prop := spanTellsRow.holds Try.pinned (OpenSpec.ofChange spanTellsWrong)

/-- 'clavigerlaw03.SpanPairs': WHATEVER THE INPUT: true; the input reads as it did. -/
def spanPairsSpec : ChangeSpec := { name := "spanPairs", fn := fun _ => fun
  | [d] => { results := [.lit (.bool true)], args := [d] }
  | _ => none }
def spanPairsRow : OpenClaim := { program := "ytmcpfkgahmdkgaa", sum := "e227d81d632ecc7ac9339c774e67bf614ff86ede7f8d88c703976382eea41ec1", func := "claviger/clavigerlaw03.SpanPairs", spec := "spanPairs", apart := false }
def SpanPairsSaid : Prop := spanPairsRow.holds Try.pinned (OpenSpec.ofChange spanPairsSpec)

/-- ITS FALSE NEIGHBOUR: 'it returns false'. Refute it at one input. -/
def spanPairsWrong : ChangeSpec := { name := "spanPairs", fn := fun _ => fun
  | [d] => { results := [.lit (.bool false)], args := [d] }
  | _ => none }
def SpanPairsWrongFalsely : Prop := spanPairsRow.holds Try.pinned (OpenSpec.ofChange spanPairsWrong)

/-- 'clavigerlaw03.SpanBack': WHATEVER THE INPUT: true; the input reads as it did. -/
def spanBackSpec : ChangeSpec := { name := "spanBack", fn := fun _ => fun
  | [d1, d2, d3, d4] => { results := [.lit (.bool true)], args := [d1, d2, d3, d4] }
  | _ => none }
def spanBackRow : OpenClaim := { program := "ytmcpfkgahmdkgaa", sum := "e227d81d632ecc7ac9339c774e67bf614ff86ede7f8d88c703976382eea41ec1", func := "claviger/clavigerlaw03.SpanBack", spec := "spanBack", apart := false }
def SpanBackSaid : Prop := spanBackRow.holds Try.pinned (OpenSpec.ofChange spanBackSpec)

/-- ITS FALSE NEIGHBOUR: 'it returns false'. Refute it at one input. -/
def spanBackWrong : ChangeSpec := { name := "spanBack", fn := fun _ => fun
  | [d1, d2, d3, d4] => { results := [.lit (.bool false)], args := [d1, d2, d3, d4] }
  | _ => none }
def SpanBackWrongFalsely : Prop := spanBackRow.holds Try.pinned (OpenSpec.ofChange spanBackWrong)

/-- 'clavigerlaw04.EqualTurns': WHATEVER THE INPUT: true; the input reads as it did. -/
def equalTurnsSpec : ChangeSpec := { name := "equalTurns", fn := fun _ => fun
  | [d1, d2, d3] => { results := [.lit (.bool true)], args := [d1, d2, d3] }
  | _ => none }
def equalTurnsRow : OpenClaim := { program := "ytmcpfkgahmdkgaa", sum := "e227d81d632ecc7ac9339c774e67bf614ff86ede7f8d88c703976382eea41ec1", func := "claviger/clavigerlaw04.EqualTurns", spec := "equalTurns", unfollowed := true, recurses := true, apart := false }
def EqualTurnsSaid : Prop := equalTurnsRow.holds Try.pinned (OpenSpec.ofChange equalTurnsSpec)

/-- ITS FALSE NEIGHBOUR: 'it returns false'. Refute it at one input. -/
def equalTurnsWrong : ChangeSpec := { name := "equalTurns", fn := fun _ => fun
  | [d1, d2, d3] => { results := [.lit (.bool false)], args := [d1, d2, d3] }
  | _ => none }
def EqualTurnsWrongFalsely : Prop := equalTurnsRow.holds Try.pinned (OpenSpec.ofChange equalTurnsWrong)

/-- 'clavigerlaw04.EqualTells': WHATEVER THE INPUT: true; the input reads as it did. -/
def equalTellsSpec : ChangeSpec := { name := "equalTells", fn := fun _ => fun
  | [d1, d2, d3] => { results := [.lit (.bool true)], args := [d1, d2, d3] }
  | _ => none }
def equalTellsRow : OpenClaim := { program := "ytmcpfkgahmdkgaa", sum := "e227d81d632ecc7ac9339c774e67bf614ff86ede7f8d88c703976382eea41ec1", func := "claviger/clavigerlaw04.EqualTells", spec := "equalTells", unfollowed := true, recurses := true, apart := false }
def EqualTellsSaid : Prop := equalTellsRow.holds Try.pinned (OpenSpec.ofChange equalTellsSpec)

/-- ITS FALSE NEIGHBOUR: 'it returns false'. Refute it at one input. -/
def equalTellsWrong : ChangeSpec := { name := "equalTells", fn := fun _ => fun
  | [d1, d2, d3] => { results := [.lit (.bool false)], args := [d1, d2, d3] }
  | _ => none }
def EqualTellsWrongFalsely : Prop := equalTellsRow.holds Try.pinned (OpenSpec.ofChange equalTellsWrong)

/-- 'clavigerlaw15.HeadBack': WHATEVER THE INPUT: true; the input reads as it did. -/
def headBackSpec : ChangeSpec := { name := "headBack", fn := fun _ => fun
  | [d1, d2, d3] => { results := [.lit (.bool true)], args := [d1, d2, d3] }
  | _ => none }
def headBackRow : OpenClaim := { program := "ytmcpfkgahmdkgaa", sum := "e227d81d632ecc7ac9339c774e67bf614ff86ede7f8d88c703976382eea41ec1", func := "claviger/clavigerlaw15.HeadBack", spec := "headBack", apart := false }
def HeadBackSaid : Prop := headBackRow.holds Try.pinned (OpenSpec.ofChange headBackSpec)

/-- ITS FALSE NEIGHBOUR: 'it returns false'. Refute it at one input. -/
def headBackWrong : ChangeSpec := { name := "headBack", fn := fun _ => fun
  | [d1, d2, d3] => { results := [.lit (.bool false)], args := [d1, d2, d3] }
  | _ => none }
def HeadBackWrongFalsely : Prop := headBackRow.holds Try.pinned (OpenSpec.ofChange headBackWrong)

/-- 'clavigerlaw15.HeadShort': WHATEVER THE INPUT: true; the input reads as it did. -/
def headShortSpec : ChangeSpec := { name := "headShort", fn := fun _ => fun
  | [d1, d2] => { results := [.lit (.bool true)], args := [d1, d2] }
  | _ => none }
def headShortRow : OpenClaim := { program := "ytmcpfkgahmdkgaa", sum := "e227d81d632ecc7ac9339c774e67bf614ff86ede7f8d88c703976382eea41ec1", func := "claviger/clavigerlaw15.HeadShort", spec := "headShort", apart := false }
def HeadShortSaid : Prop := headShortRow.holds Try.pinned (OpenSpec.ofChange headShortSpec)

/-- ITS FALSE NEIGHBOUR: 'it returns false'. Refute it at one input. -/
def headShortWrong : ChangeSpec := { name := "headShort", fn := fun _ => fun
  | [d1, d2] => { results := [.lit (.bool false)], args := [d1, d2] }
  | _ => none }
def HeadShortWrongFalsely : Prop := headShortRow.holds Try.pinned (OpenSpec.ofChange headShortWrong)

/-- 'clavigerlaw15.HeadTells': WHATEVER THE INPUT: true; the input reads as it did. -/
def headTellsSpec : ChangeSpec := { name := "headTells", fn := fun _ => fun
  | [d1, d2] => { results := [.lit (.bool true)], args := [d1, d2] }
  | _ => none }
def headTellsRow : OpenClaim := { program := "ytmcpfkgahmdkgaa", sum := "e227d81d632ecc7ac9339c774e67bf614ff86ede7f8d88c703976382eea41ec1", func := "claviger/clavigerlaw15.HeadTells", spec := "headTells", apart := false }
def HeadTellsSaid : Prop := headTellsRow.holds Try.pinned (OpenSpec.ofChange headTellsSpec)

/-- ITS FALSE NEIGHBOUR: 'it returns false'. Refute it at one input. -/
def headTellsWrong : ChangeSpec := { name := "headTells", fn := fun _ => fun
  | [d1, d2] => { results := [.lit (.bool false)], args := [d1, d2] }
  | _ => none }
def HeadTellsWrongFalsely : Prop := headTellsRow.holds Try.pinned (OpenSpec.ofChange headTellsWrong)

/-- 'clavigerlaw33.TemplTells': WHATEVER THE INPUT: true; the input reads as it did. -/
def templTellsSpec : ChangeSpec := { name := "templTells", fn := fun _ => fun
  | [d1, d2] => { results := [.lit (.bool true)], args := [d1, d2] }
  | _ => none }
def templTellsRow : OpenClaim := { program := "ytmcpfkgahmdkgaa", sum := "e227d81d632ecc7ac9339c774e67bf614ff86ede7f8d88c703976382eea41ec1", func := "claviger/clavigerlaw33.TemplTells", spec := "templTells", inPlace := ["internal/abi.NoEscape", "internal/bytealg.MakeNoZero", "internal/bytealg.IndexByteString"], apart := false }
def TemplTellsSaid : Prop := templTellsRow.holds Try.pinned (OpenSpec.ofChange templTellsSpec)

/-- ITS FALSE NEIGHBOUR: 'it returns false'. Refute it at one input. -/
def templTellsWrong : ChangeSpec := { name := "templTells", fn := fun _ => fun
  | [d1, d2] => { results := [.lit (.bool false)], args := [d1, d2] }
  | _ => none }
def TemplTellsWrongFalsely : Prop := templTellsRow.holds Try.pinned (OpenSpec.ofChange templTellsWrong)

/-- 'clavigerlaw33.TemplOptions': WHATEVER THE INPUT: true; the input reads as it did. -/
def templOptionsSpec : ChangeSpec := { name := "templOptions", fn := fun _ => fun
  | [d1, d2] => { results := [.lit (.bool true)], args := [d1, d2] }
  | _ => none }
def templOptionsRow : OpenClaim := { program := "ytmcpfkgahmdkgaa", sum := "e227d81d632ecc7ac9339c774e67bf614ff86ede7f8d88c703976382eea41ec1", func := "claviger/clavigerlaw33.TemplOptions", spec := "templOptions", inPlace := ["internal/abi.NoEscape", "internal/bytealg.MakeNoZero", "internal/bytealg.IndexByteString"], apart := false }
def TemplOptionsSaid : Prop := templOptionsRow.holds Try.pinned (OpenSpec.ofChange templOptionsSpec)

/-- ITS FALSE NEIGHBOUR: 'it returns false'. Refute it at one input. -/
def templOptionsWrong : ChangeSpec := { name := "templOptions", fn := fun _ => fun
  | [d1, d2] => { results := [.lit (.bool false)], args := [d1, d2] }
  | _ => none }
def TemplOptionsWrongFalsely : Prop := templOptionsRow.holds Try.pinned (OpenSpec.ofChange templOptionsWrong)

/-- 'clavigerlaw33.TemplBack': WHATEVER THE INPUT: true; the input reads as it did. -/
def templBackSpec : ChangeSpec := { name := "templBack", fn := fun _ => fun
  | [d1, d2] => { results := [.lit (.bool true)], args := [d1, d2] }
  | _ => none }
def templBackRow : OpenClaim := { program := "ytmcpfkgahmdkgaa", sum := "e227d81d632ecc7ac9339c774e67bf614ff86ede7f8d88c703976382eea41ec1", func := "claviger/clavigerlaw33.TemplBack", spec := "templBack", inPlace := ["internal/abi.NoEscape", "internal/bytealg.MakeNoZero", "internal/bytealg.IndexByteString"], apart := false }
def TemplBackSaid : Prop := templBackRow.holds Try.pinned (OpenSpec.ofChange templBackSpec)

/-- ITS FALSE NEIGHBOUR: 'it returns false'. Refute it at one input. -/
def templBackWrong : ChangeSpec := { name := "templBack", fn := fun _ => fun
  | [d1, d2] => { results := [.lit (.bool false)], args := [d1, d2] }
  | _ => none }
def TemplBackWrongFalsely : Prop := templBackRow.holds Try.pinned (OpenSpec.ofChange templBackWrong)

/- THE SECOND FORM. 'bulk': how many values and letters a reading holds, each counted each time it is reached (what is shared counts as often as it is met; a slice's spare places count too). A statement '..UptoSaid' is the law's where the arguments, and the package variables that the reading takes, are together of bulk at most 1048576: NARROWER than '..Said'. Prove '..Said' where nothing that the law and all that it calls make is longer than what came in: it says more and counts as full. Else prove '..UptoSaid'. A law counts once. -/
mutual
def uptoBulk {H : Type} : DataW H → Nat
  | .lit (.string bytes) => bytes.length + 1
  | .lit _ => 1
  | .nil => 1
  | .ptr d => uptoBulk d + 1
  | .slice elems spare => uptoBulkAll elems + uptoBulkAll spare + 1
  | .agg parts => uptoBulkAll parts + 1
  | .iface _ d => uptoBulk d + 1
  | .map entries => uptoBulkEntries entries + 1
  | .held _ => 1
def uptoBulkAll {H : Type} : List (DataW H) → Nat
  | [] => 0
  | d :: r => uptoBulk d + uptoBulkAll r
def uptoBulkEntries {H : Type} : List (Lit × DataW H) → Nat
  | [] => 0
  | x :: r => uptoBulkEntry x + uptoBulkEntries r
def uptoBulkEntry {H : Type} : Lit × DataW H → Nat
  | (.string bytes, d) => bytes.length + uptoBulk d + 1
  | (_, d) => uptoBulk d + 1
 end
def uptoSmall : (H : Type) → List (DataW H) → Bool := fun _ ds => decide (uptoBulkAll ds ≤ 1048576)
def OpenSpec.upto (s : _root_.Go.ChangeSpec) : _root_.Go.OpenSpec := { _root_.Go.OpenSpec.ofChange s with cond := some uptoSmall }

/-- 'clavigerlaw03.SpanTells', WHERE WHAT IT READS IS OF BULK AT MOST 1048576: true; the input reads as it did. -/
def spanTellsUptoRow : OpenClaim := { program := "ytmcpfkgahmdkgaa", sum := "e227d81d632ecc7ac9339c774e67bf614ff86ede7f8d88c703976382eea41ec1", func := "claviger/clavigerlaw03.SpanTells", spec := "spanTells", apart := false, narrowed := true }
def SpanTellsUptoSaid : Prop := spanTellsUptoRow.holds Try.pinned (OpenSpec.upto spanTellsSpec)

/-- 'clavigerlaw03.SpanPairs', WHERE WHAT IT READS IS OF BULK AT MOST 1048576: true; the input reads as it did. -/
def spanPairsUptoRow : OpenClaim := { program := "ytmcpfkgahmdkgaa", sum := "e227d81d632ecc7ac9339c774e67bf614ff86ede7f8d88c703976382eea41ec1", func := "claviger/clavigerlaw03.SpanPairs", spec := "spanPairs", apart := false, narrowed := true }
def SpanPairsUptoSaid : Prop := spanPairsUptoRow.holds Try.pinned (OpenSpec.upto spanPairsSpec)

/-- 'clavigerlaw03.SpanBack', WHERE WHAT IT READS IS OF BULK AT MOST 1048576: true; the input reads as it did. -/
def spanBackUptoRow : OpenClaim := { program := "ytmcpfkgahmdkgaa", sum := "e227d81d632ecc7ac9339c774e67bf614ff86ede7f8d88c703976382eea41ec1", func := "claviger/clavigerlaw03.SpanBack", spec := "spanBack", apart := false, narrowed := true }
def SpanBackUptoSaid : Prop := spanBackUptoRow.holds Try.pinned (OpenSpec.upto spanBackSpec)

/-- 'clavigerlaw04.EqualTurns', WHERE WHAT IT READS IS OF BULK AT MOST 1048576: true; the input reads as it did. -/
def equalTurnsUptoRow : OpenClaim := { program := "ytmcpfkgahmdkgaa", sum := "e227d81d632ecc7ac9339c774e67bf614ff86ede7f8d88c703976382eea41ec1", func := "claviger/clavigerlaw04.EqualTurns", spec := "equalTurns", unfollowed := true, recurses := true, apart := false, narrowed := true }
def EqualTurnsUptoSaid : Prop := equalTurnsUptoRow.holds Try.pinned (OpenSpec.upto equalTurnsSpec)

/-- 'clavigerlaw04.EqualTells', WHERE WHAT IT READS IS OF BULK AT MOST 1048576: true; the input reads as it did. -/
def equalTellsUptoRow : OpenClaim := { program := "ytmcpfkgahmdkgaa", sum := "e227d81d632ecc7ac9339c774e67bf614ff86ede7f8d88c703976382eea41ec1", func := "claviger/clavigerlaw04.EqualTells", spec := "equalTells", unfollowed := true, recurses := true, apart := false, narrowed := true }
def EqualTellsUptoSaid : Prop := equalTellsUptoRow.holds Try.pinned (OpenSpec.upto equalTellsSpec)

/-- 'clavigerlaw15.HeadBack', WHERE WHAT IT READS IS OF BULK AT MOST 1048576: true; the input reads as it did. -/
def headBackUptoRow : OpenClaim := { program := "ytmcpfkgahmdkgaa", sum := "e227d81d632ecc7ac9339c774e67bf614ff86ede7f8d88c703976382eea41ec1", func := "claviger/clavigerlaw15.HeadBack", spec := "headBack", apart := false, narrowed := true }
def HeadBackUptoSaid : Prop := headBackUptoRow.holds Try.pinned (OpenSpec.upto headBackSpec)

/-- 'clavigerlaw15.HeadShort', WHERE WHAT IT READS IS OF BULK AT MOST 1048576: true; the input reads as it did. -/
def headShortUptoRow : OpenClaim := { program := "ytmcpfkgahmdkgaa", sum := "e227d81d632ecc7ac9339c774e67bf614ff86ede7f8d88c703976382eea41ec1", func := "claviger/clavigerlaw15.HeadShort", spec := "headShort", apart := false, narrowed := true }
def HeadShortUptoSaid : Prop := headShortUptoRow.holds Try.pinned (OpenSpec.upto headShortSpec)

/-- 'clavigerlaw15.HeadTells', WHERE WHAT IT READS IS OF BULK AT MOST 1048576: true; the input reads as it did. -/
def headTellsUptoRow : OpenClaim := { program := "ytmcpfkgahmdkgaa", sum := "e227d81d632ecc7ac9339c774e67bf614ff86ede7f8d88c703976382eea41ec1", func := "claviger/clavigerlaw15.HeadTells", spec := "headTells", apart := false, narrowed := true }
def HeadTellsUptoSaid : Prop := headTellsUptoRow.holds Try.pinned (OpenSpec.upto headTellsSpec)

/-- 'clavigerlaw33.TemplTells', WHERE WHAT IT READS IS OF BULK AT MOST 1048576: true; the input reads as it did. -/
def templTellsUptoRow : OpenClaim := { program := "ytmcpfkgahmdkgaa", sum := "e227d81d632ecc7ac9339c774e67bf614ff86ede7f8d88c703976382eea41ec1", func := "claviger/clavigerlaw33.TemplTells", spec := "templTells", inPlace := ["internal/abi.NoEscape", "internal/bytealg.MakeNoZero", "internal/bytealg.IndexByteString"], apart := false, narrowed := true }
def TemplTellsUptoSaid : Prop := templTellsUptoRow.holds Try.pinned (OpenSpec.upto templTellsSpec)

/-- 'clavigerlaw33.TemplOptions', WHERE WHAT IT READS IS OF BULK AT MOST 1048576: true; the input reads as it did. -/
def templOptionsUptoRow : OpenClaim := { program := "ytmcpfkgahmdkgaa", sum := "e227d81d632ecc7ac9339c774e67bf614ff86ede7f8d88c703976382eea41ec1", func := "claviger/clavigerlaw33.TemplOptions", spec := "templOptions", inPlace := ["internal/abi.NoEscape", "internal/bytealg.MakeNoZero", "internal/bytealg.IndexByteString"], apart := false, narrowed := true }
def TemplOptionsUptoSaid : Prop := templOptionsUptoRow.holds Try.pinned (OpenSpec.upto templOptionsSpec)

/-- 'clavigerlaw33.TemplBack', WHERE WHAT IT READS IS OF BULK AT MOST 1048576: true; the input reads as it did. -/
def templBackUptoRow : OpenClaim := { program := "ytmcpfkgahmdkgaa", sum := "e227d81d632ecc7ac9339c774e67bf614ff86ede7f8d88c703976382eea41ec1", func := "claviger/clavigerlaw33.TemplBack", spec := "templBack", inPlace := ["internal/abi.NoEscape", "internal/bytealg.MakeNoZero", "internal/bytealg.IndexByteString"], apart := false, narrowed := true }
def TemplBackUptoSaid : Prop := templBackUptoRow.holds Try.pinned (OpenSpec.upto templBackSpec)

end Rows
end Go.Proofs.Ytmcpfkgahmdkgaa
