/-
  No cell of these rows narrows 'for every input' (looked for: loops, veiled, ifaces, maps, wideKeys, modest, calm, conditions, laid).
  DERIVED. THE GIVEN ROWS OF THIS SEAT. 10 by the template 'for every input the law returns true; each argument reads behind the call as it read before'; 0 by the template 'total and deterministic' (their statements: YtacpmijbmllelaaTotals.lean).
  GIVEN WITH THE SEED: the statements are not yours to turn. If you find one false, say at which input.
  Laid BY PROGRAM, IN A SANDBOX (cutbox-rows.mjs): the forced cells as the released guide's own fill.sh prints them over the translation 017df9d624233973… (all of the seat's roots in one cut). By AI agents, Wed Nov 11 2026. No macro, syntax, notation, axiom, sorry.
-/
import Derived.Test.YtacpmijbmllelaaChecked
import GoSem.Claim
import GoSem.ClaimJoined
import GoSem.ClaimMapViews
import Derived.JoinedTies
import Derived.KernelRfl
namespace Go.Proofs.Ytacpmijbmllelaa
/- THE CELL 'sum', in the pinned program and in every row, IS THE sha256 OF THE DUMP (.gsa) THAT YtacpmijbmllelaaProg.lean LOADS. Nothing in Lean hashes anything: it is a label: what it is worth is what the hold of that sum in a sandbox is worth. -/
noncomputable def Try.pinned : Pinned := { name := "ytacpmijbmllelaa", sum := "017df9d624233973b81f86c33aa45abc5942a1ecdc7c6c64ef9933d7ac6a24e8", checked := Try.checked }
namespace Rows
def none {H : Type} : Left H := { results := [], args := [] }

/-- 'humuslaw02.TallyTurns': WHATEVER THE INPUT: true; the input reads as it did. -/
def tallyTurnsSpec : ChangeSpec := { name := "tallyTurns", fn := fun _ => fun
  | [d1, d2, d3] => { results := [.lit (.bool true)], args := [d1, d2, d3] }
  | _ => none }
def tallyTurnsRow : OpenClaim := { program := "ytacpmijbmllelaa", sum := "017df9d624233973b81f86c33aa45abc5942a1ecdc7c6c64ef9933d7ac6a24e8", func := "humus/humuslaw02.TallyTurns", spec := "tallyTurns", apart := false }
def TallyTurnsSaid : Prop := tallyTurnsRow.holds Try.pinned (OpenSpec.ofChange tallyTurnsSpec)

/-- ITS FALSE NEIGHBOUR: 'it returns false'. Refute it at one input. -/
def tallyTurnsWrong : ChangeSpec := { name := "tallyTurns", fn := fun _ => fun
  | [d1, d2, d3] => { results := [.lit (.bool false)], args := [d1, d2, d3] }
  | _ => none }
def TallyTurnsWrongFalsely : Prop := tallyTurnsRow.holds Try.pinned (OpenSpec.ofChange tallyTurnsWrong)

/-- 'humuslaw02.TallySums': WHATEVER THE INPUT: true; the input reads as it did. -/
def tallySumsSpec : ChangeSpec := { name := "tallySums", fn := fun _ => fun
  | [d1, d2] => { results := [.lit (.bool true)], args := [d1, d2] }
  | _ => none }
def tallySumsRow : OpenClaim := { program := "ytacpmijbmllelaa", sum := "017df9d624233973b81f86c33aa45abc5942a1ecdc7c6c64ef9933d7ac6a24e8", func := "humus/humuslaw02.TallySums", spec := "tallySums", apart := false }
def TallySumsSaid : Prop := tallySumsRow.holds Try.pinned (OpenSpec.ofChange tallySumsSpec)

/-- ITS FALSE NEIGHBOUR: 'it returns false'. Refute it at one input. -/
def tallySumsWrong : ChangeSpec := { name := "tallySums", fn := fun _ => fun
  | [d1, d2] => { results := [.lit (.bool false)], args := [d1, d2] }
  | _ => none }
def TallySumsWrongFalsely : Prop := tallySumsRow.holds Try.pinned (OpenSpec.ofChange tallySumsWrong)

/-- 'humuslaw02.TallyOpens': WHATEVER THE INPUT: true; the input reads as it did. -/
def tallyOpensSpec : ChangeSpec := { name := "tallyOpens", fn := fun _ => fun
  | [d] => { results := [.lit (.bool true)], args := [d] }
  | _ => none }
def tallyOpensRow : OpenClaim := { program := "ytacpmijbmllelaa", sum := "017df9d624233973b81f86c33aa45abc5942a1ecdc7c6c64ef9933d7ac6a24e8", func := "humus/humuslaw02.TallyOpens", spec := "tallyOpens", apart := false }
def TallyOpensSaid : Prop := tallyOpensRow.holds Try.pinned (OpenSpec.ofChange tallyOpensSpec)

/-- ITS FALSE NEIGHBOUR: 'it returns false'. Refute it at one input. -/
def tallyOpensWrong : ChangeSpec := { name := "tallyOpens", fn := fun _ => fun
  | [d] => { results := [.lit (.bool false)], args := [d] }
  | _ => none }
def TallyOpensWrongFalsely : Prop := tallyOpensRow.holds Try.pinned (OpenSpec.ofChange tallyOpensWrong)

/-- 'humuslaw02.TallyBursts': WHATEVER THE INPUT: true; the input reads as it did. -/
def tallyBurstsSpec : ChangeSpec := { name := "tallyBursts", fn := fun _ => fun
  | [d1, d2, d3] => { results := [.lit (.bool true)], args := [d1, d2, d3] }
  | _ => none }
def tallyBurstsRow : OpenClaim := { program := "ytacpmijbmllelaa", sum := "017df9d624233973b81f86c33aa45abc5942a1ecdc7c6c64ef9933d7ac6a24e8", func := "humus/humuslaw02.TallyBursts", spec := "tallyBursts", apart := false }
def TallyBurstsSaid : Prop := tallyBurstsRow.holds Try.pinned (OpenSpec.ofChange tallyBurstsSpec)

/-- ITS FALSE NEIGHBOUR: 'it returns false'. Refute it at one input. -/
def tallyBurstsWrong : ChangeSpec := { name := "tallyBursts", fn := fun _ => fun
  | [d1, d2, d3] => { results := [.lit (.bool false)], args := [d1, d2, d3] }
  | _ => none }
def TallyBurstsWrongFalsely : Prop := tallyBurstsRow.holds Try.pinned (OpenSpec.ofChange tallyBurstsWrong)

/-- 'humuslaw01.NumKeys': WHATEVER THE INPUT: true; the input reads as it did. -/
def numKeysSpec : ChangeSpec := { name := "numKeys", fn := fun _ => fun
  | [d] => { results := [.lit (.bool true)], args := [d] }
  | _ => none }
def numKeysRow : OpenClaim := { program := "ytacpmijbmllelaa", sum := "017df9d624233973b81f86c33aa45abc5942a1ecdc7c6c64ef9933d7ac6a24e8", func := "humus/humuslaw01.NumKeys", spec := "numKeys", inPlace := ["math.Float64frombits", "math.Float64bits"], apart := false }
def NumKeysSaid : Prop := numKeysRow.holds Try.pinned (OpenSpec.ofChange numKeysSpec)

/-- ITS FALSE NEIGHBOUR: 'it returns false'. Refute it at one input. -/
def numKeysWrong : ChangeSpec := { name := "numKeys", fn := fun _ => fun
  | [d] => { results := [.lit (.bool false)], args := [d] }
  | _ => none }
def NumKeysWrongFalsely : Prop := numKeysRow.holds Try.pinned (OpenSpec.ofChange numKeysWrong)

/-- 'humuslaw01.NumRanks': WHATEVER THE INPUT: true; the input reads as it did. -/
def numRanksSpec : ChangeSpec := { name := "numRanks", fn := fun _ => fun
  | [d1, d2] => { results := [.lit (.bool true)], args := [d1, d2] }
  | _ => none }
def numRanksRow : OpenClaim := { program := "ytacpmijbmllelaa", sum := "017df9d624233973b81f86c33aa45abc5942a1ecdc7c6c64ef9933d7ac6a24e8", func := "humus/humuslaw01.NumRanks", spec := "numRanks", inPlace := ["math.Float64frombits", "math.Float64bits"], apart := false }
def NumRanksSaid : Prop := numRanksRow.holds Try.pinned (OpenSpec.ofChange numRanksSpec)

/-- ITS FALSE NEIGHBOUR: 'it returns false'. Refute it at one input. -/
def numRanksWrong : ChangeSpec := { name := "numRanks", fn := fun _ => fun
  | [d1, d2] => { results := [.lit (.bool false)], args := [d1, d2] }
  | _ => none }
def NumRanksWrongFalsely : Prop := numRanksRow.holds Try.pinned (OpenSpec.ofChange numRanksWrong)

/-- 'humuslaw01.NumOrders': WHATEVER THE INPUT: true; the input reads as it did. -/
def numOrdersSpec : ChangeSpec := { name := "numOrders", fn := fun _ => fun
  | [d1, d2] => { results := [.lit (.bool true)], args := [d1, d2] }
  | _ => none }
def numOrdersRow : OpenClaim := { program := "ytacpmijbmllelaa", sum := "017df9d624233973b81f86c33aa45abc5942a1ecdc7c6c64ef9933d7ac6a24e8", func := "humus/humuslaw01.NumOrders", spec := "numOrders", inPlace := ["math.Float64frombits", "math.Float64bits"], apart := false }
def NumOrdersSaid : Prop := numOrdersRow.holds Try.pinned (OpenSpec.ofChange numOrdersSpec)

/-- ITS FALSE NEIGHBOUR: 'it returns false'. Refute it at one input. -/
def numOrdersWrong : ChangeSpec := { name := "numOrders", fn := fun _ => fun
  | [d1, d2] => { results := [.lit (.bool false)], args := [d1, d2] }
  | _ => none }
def NumOrdersWrongFalsely : Prop := numOrdersRow.holds Try.pinned (OpenSpec.ofChange numOrdersWrong)

/-- 'humuslaw01.NumAdds': WHATEVER THE INPUT: true; the input reads as it did. -/
def numAddsSpec : ChangeSpec := { name := "numAdds", fn := fun _ => fun
  | [d1, d2, d3] => { results := [.lit (.bool true)], args := [d1, d2, d3] }
  | _ => none }
def numAddsRow : OpenClaim := { program := "ytacpmijbmllelaa", sum := "017df9d624233973b81f86c33aa45abc5942a1ecdc7c6c64ef9933d7ac6a24e8", func := "humus/humuslaw01.NumAdds", spec := "numAdds", inPlace := ["math.Float64bits", "math.Float64frombits"], apart := false }
def NumAddsSaid : Prop := numAddsRow.holds Try.pinned (OpenSpec.ofChange numAddsSpec)

/-- ITS FALSE NEIGHBOUR: 'it returns false'. Refute it at one input. -/
def numAddsWrong : ChangeSpec := { name := "numAdds", fn := fun _ => fun
  | [d1, d2, d3] => { results := [.lit (.bool false)], args := [d1, d2, d3] }
  | _ => none }
def NumAddsWrongFalsely : Prop := numAddsRow.holds Try.pinned (OpenSpec.ofChange numAddsWrong)

/-- 'humuslaw01.NumSums': WHATEVER THE INPUT: true; the input reads as it did. -/
def numSumsSpec : ChangeSpec := { name := "numSums", fn := fun _ => fun
  | [d1, d2, d3] => { results := [.lit (.bool true)], args := [d1, d2, d3] }
  | _ => none }
def numSumsRow : OpenClaim := { program := "ytacpmijbmllelaa", sum := "017df9d624233973b81f86c33aa45abc5942a1ecdc7c6c64ef9933d7ac6a24e8", func := "humus/humuslaw01.NumSums", spec := "numSums", inPlace := ["math.Float64frombits", "math.Float64bits"], apart := false }
def NumSumsSaid : Prop := numSumsRow.holds Try.pinned (OpenSpec.ofChange numSumsSpec)

/-- ITS FALSE NEIGHBOUR: 'it returns false'. Refute it at one input. -/
def numSumsWrong : ChangeSpec := { name := "numSums", fn := fun _ => fun
  | [d1, d2, d3] => { results := [.lit (.bool false)], args := [d1, d2, d3] }
  | _ => none }
def NumSumsWrongFalsely : Prop := numSumsRow.holds Try.pinned (OpenSpec.ofChange numSumsWrong)

/-- 'humuslaw01.NumNext': WHATEVER THE INPUT: true; the input reads as it did. -/
def numNextSpec : ChangeSpec := { name := "numNext", fn := fun _ => fun
  | [d1, d2] => { results := [.lit (.bool true)], args := [d1, d2] }
  | _ => none }
def numNextRow : OpenClaim := { program := "ytacpmijbmllelaa", sum := "017df9d624233973b81f86c33aa45abc5942a1ecdc7c6c64ef9933d7ac6a24e8", func := "humus/humuslaw01.NumNext", spec := "numNext", inPlace := ["math.Float64frombits", "math.Float64bits"], apart := false }
def NumNextSaid : Prop := numNextRow.holds Try.pinned (OpenSpec.ofChange numNextSpec)

/-- ITS FALSE NEIGHBOUR: 'it returns false'. Refute it at one input. -/
def numNextWrong : ChangeSpec := { name := "numNext", fn := fun _ => fun
  | [d1, d2] => { results := [.lit (.bool false)], args := [d1, d2] }
  | _ => none }
def NumNextWrongFalsely : Prop := numNextRow.holds Try.pinned (OpenSpec.ofChange numNextWrong)

/- THE SECOND FORM. 'bulk': how many values and letters a reading holds, each counted each time it is reached (what is shared counts as often as it is met; a slice's spare places count too). A statement '..UptoSaid' is the law's where the arguments, and the package variables that the reading takes, are together of bulk at most 1048576: NARROWER than '..Said'. Prove '..Said' where nothing that the law and all that it calls make is longer than what came in: it says more and counts as full. Else prove '..UptoSaid'. A law counts once. -/
mutual
def uptoBulk {H : Type} : DataW H → Nat
  | .lit (.string bytes) => bytes.length + 1
  | .lit _ => 1
  | .nil => 1
  | .ptr d => uptoBulk d + 1
  | .slice elems spare => uptoBulkAll elems + uptoBulkAll spare + 1
  | .agg parts => uptoBulkAll parts + 1
  | .iface _ d => uptoBulk d + 1
  | .map entries => uptoBulkEntries entries + 1
  | .held _ => 1
def uptoBulkAll {H : Type} : List (DataW H) → Nat
  | [] => 0
  | d :: r => uptoBulk d + uptoBulkAll r
def uptoBulkEntries {H : Type} : List (Lit × DataW H) → Nat
  | [] => 0
  | x :: r => uptoBulkEntry x + uptoBulkEntries r
def uptoBulkEntry {H : Type} : Lit × DataW H → Nat
  | (.string bytes, d) => bytes.length + uptoBulk d + 1
  | (_, d) => uptoBulk d + 1
 end
def uptoSmall : (H : Type) → List (DataW H) → Bool := fun _ ds => decide (uptoBulkAll ds ≤ 1048576)
def OpenSpec.upto (s : _root_.Go.ChangeSpec) : _root_.Go.OpenSpec := { _root_.Go.OpenSpec.ofChange s with cond := some uptoSmall }

/-- 'humuslaw02.TallyTurns', WHERE WHAT IT READS IS OF BULK AT MOST 1048576: true; the input reads as it did. -/
def tallyTurnsUptoRow : OpenClaim := { program := "ytacpmijbmllelaa", sum := "017df9d624233973b81f86c33aa45abc5942a1ecdc7c6c64ef9933d7ac6a24e8", func := "humus/humuslaw02.TallyTurns", spec := "tallyTurns", apart := false, narrowed := true }
def TallyTurnsUptoSaid : Prop := tallyTurnsUptoRow.holds Try.pinned (OpenSpec.upto tallyTurnsSpec)

/-- 'humuslaw02.TallySums', WHERE WHAT IT READS IS OF BULK AT MOST 1048576: true; the input reads as it did. -/
def tallySumsUptoRow : OpenClaim := { program := "ytacpmijbmllelaa", sum := "017df9d624233973b81f86c33aa45abc5942a1ecdc7c6c64ef9933d7ac6a24e8", func := "humus/humuslaw02.TallySums", spec := "tallySums", apart := false, narrowed := true }
def TallySumsUptoSaid : Prop := tallySumsUptoRow.holds Try.pinned (OpenSpec.upto tallySumsSpec)

/-- 'humuslaw02.TallyOpens', WHERE WHAT IT READS IS OF BULK AT MOST 1048576: true; the input reads as it did. -/
def tallyOpensUptoRow : OpenClaim := { program := "ytacpmijbmllelaa", sum := "017df9d624233973b81f86c33aa45abc5942a1ecdc7c6c64ef9933d7ac6a24e8", func := "humus/humuslaw02.TallyOpens", spec := "tallyOpens", apart := false, narrowed := true }
def TallyOpensUptoSaid : Prop := tallyOpensUptoRow.holds Try.pinned (OpenSpec.upto tallyOpensSpec)

/-- 'humuslaw02.TallyBursts', WHERE WHAT IT READS IS OF BULK AT MOST 1048576: true; the input reads as it did. -/
def tallyBurstsUptoRow : OpenClaim := { program := "ytacpmijbmllelaa", sum := "017df9d624233973b81f86c33aa45abc5942a1ecdc7c6c64ef9933d7ac6a24e8", func := "humus/humuslaw02.TallyBursts", spec := "tallyBursts", apart := false, narrowed := true }
def TallyBurstsUptoSaid : Prop := tallyBurstsUptoRow.holds Try.pinned (OpenSpec.upto tallyBurstsSpec)

/-- 'humuslaw01.NumKeys', WHERE WHAT IT READS IS OF BULK AT MOST 1048576: true; the input reads as it did. -/
def numKeysUptoRow : OpenClaim := { program := "ytacpmijbmllelaa", sum := "017df9d624233973b81f86c33aa45abc5942a1ecdc7c6c64ef9933d7ac6a24e8", func := "humus/humuslaw01.NumKeys", spec := "numKeys", inPlace := ["math.Float64frombits", "math.Float64bits"], apart := false, narrowed := true }
def NumKeysUptoSaid : Prop := numKeysUptoRow.holds Try.pinned (OpenSpec.upto numKeysSpec)

/-- 'humuslaw01.NumRanks', WHERE WHAT IT READS IS OF BULK AT MOST 1048576: true; the input reads as it did. -/
def numRanksUptoRow : OpenClaim := { program := "ytacpmijbmllelaa", sum := "017df9d624233973b81f86c33aa45abc5942a1ecdc7c6c64ef9933d7ac6a24e8", func := "humus/humuslaw01.NumRanks", spec := "numRanks", inPlace := ["math.Float64frombits", "math.Float64bits"], apart := false, narrowed := true }
def NumRanksUptoSaid : Prop := numRanksUptoRow.holds Try.pinned (OpenSpec.upto numRanksSpec)

/-- 'humuslaw01.NumOrders', WHERE WHAT IT READS IS OF BULK AT MOST 1048576: true; the input reads as it did. -/
def numOrdersUptoRow : OpenClaim := { program := "ytacpmijbmllelaa", sum := "017df9d624233973b81f86c33aa45abc5942a1ecdc7c6c64ef9933d7ac6a24e8", func := "humus/humuslaw01.NumOrders", spec := "numOrders", inPlace := ["math.Float64frombits", "math.Float64bits"], apart := false, narrowed := true }
def NumOrdersUptoSaid : Prop := numOrdersUptoRow.holds Try.pinned (OpenSpec.upto numOrdersSpec)

/-- 'humuslaw01.NumAdds', WHERE WHAT IT READS IS OF BULK AT MOST 1048576: true; the input reads as it did. -/
def numAddsUptoRow : OpenClaim := { program := "ytacpmijbmllelaa", sum := "017df9d624233973b81f86c33aa45abc5942a1ecdc7c6c64ef9933d7ac6a24e8", func := "humus/humuslaw01.NumAdds", spec := "numAdds", inPlace := ["math.Float64bits", "math.Float64frombits"], apart := false, narrowed := true }
def NumAddsUptoSaid : Prop := numAddsUptoRow.holds Try.pinned (OpenSpec.upto numAddsSpec)

/-- 'humuslaw01.NumSums', WHERE WHAT IT READS IS OF BULK AT MOST 1048576: true; the input reads as it did. -/
def numSumsUptoRow : OpenClaim := { program := "ytacpmijbmllelaa", sum := "017df9d624233973b81f86c33aa45abc5942a1ecdc7c6c64ef9933d7ac6a24e8", func := "humus/humuslaw01.NumSums", spec := "numSums", inPlace := ["math.Float64frombits", "math.Float64bits"], apart := false, narrowed := true }
def NumSumsUptoSaid : Prop := numSumsUptoRow.holds Try.pinned (OpenSpec.upto numSumsSpec)

/-- 'humuslaw01.NumNext', WHERE WHAT IT READS IS OF BULK AT MOST 1048576: true; the input reads as it did. -/
def numNextUptoRow : OpenClaim := { program := "ytacpmijbmllelaa", sum := "017df9d624233973b81f86c33aa45abc5942a1ecdc7c6c64ef9933d7ac6a24e8", func := "humus/humuslaw01.NumNext", spec := "numNext", inPlace := ["math.Float64frombits", "math.Float64bits"], apart := false, narrowed := true }
def NumNextUptoSaid : Prop := numNextUptoRow.holds Try.pinned (OpenSpec.upto numNextSpec)

end Rows
end Go.Proofs.Ytacpmijbmllelaa
