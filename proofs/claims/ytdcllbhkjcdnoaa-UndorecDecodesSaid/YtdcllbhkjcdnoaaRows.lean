/-
  No cell of these rows narrows 'for every input' (looked for: loops, veiled, ifaces, maps, wideKeys, modest, calm, conditions, laid).
  DERIVED. THE GIVEN ROWS OF THIS SEAT. 12 by the template 'for every input the law returns true; each argument reads behind the call as it read before'; 0 by the template 'total and deterministic' (their statements: YtdcllbhkjcdnoaaTotals.lean).
  GIVEN WITH THE SEED: the statements are not yours to turn. If you find one false, say at which input.
  Laid BY PROGRAM, IN A SANDBOX (cutbox-rows.mjs): the forced cells as the released guide's own fill.sh prints them over the translation 81980d84af7ce482… (all of the seat's roots in one cut). By AI agents, Wed Nov 11 2026. No macro, syntax, notation, axiom, sorry.
-/
import Derived.Test.YtdcllbhkjcdnoaaChecked
import GoSem.Claim
import GoSem.ClaimJoined
import GoSem.ClaimMapViews
import Derived.JoinedTies
import Derived.KernelRfl
namespace Go.Proofs.Ytdcllbhkjcdnoaa
/- THE CELL 'sum', in the pinned program and in every row, IS THE sha256 OF THE DUMP (.gsa) THAT YtdcllbhkjcdnoaaProg.lean LOADS. Nothing in Lean hashes anything: it is a label: what it is worth is what the hold of that sum in a sandbox is worth. -/
noncomputable def Try.pinned : Pinned := { name := "ytdcllbhkjcdnoaa", sum := "81980d84af7ce4824fd550de3697acdb06bd1ff651bca094ec0513946b277f77", checked := Try.checked }
namespace Rows
def none {H : Type} : Left H := { results := [], args := [] }

/-- 'humuslaw14.UndoOnce': WHATEVER THE INPUT: true; the input reads as it did. -/
def undoOnceSpec : ChangeSpec := { name := "undoOnce", fn := fun _ => fun
  | [d1, d2] => { results := [.lit (.bool true)], args := [d1, d2] }
  | _ => none }
def undoOnceRow : OpenClaim := { program := "ytdcllbhkjcdnoaa", sum := "81980d84af7ce4824fd550de3697acdb06bd1ff651bca094ec0513946b277f77", func := "humus/humuslaw14.UndoOnce", spec := "undoOnce", inPlace := ["math.Float64bits", "math.Float64frombits"], unfollowed := true, recurses := true, apart := false }
def UndoOnceSaid : Prop := undoOnceRow.holds Try.pinned (OpenSpec.ofChange undoOnceSpec)

/-- ITS FALSE NEIGHBOUR: 'it returns false'. Refute it at one input. -/
def undoOnceWrong : ChangeSpec := { name := "undoOnce", fn := fun _ => fun
  | [d1, d2] => { results := [.lit (.bool false)], args := [d1, d2] }
  | _ => none }
def UndoOnceWrongFalsely : Prop := undoOnceRow.holds Try.pinned (OpenSpec.ofChange undoOnceWrong)

/-- 'humuslaw14.UndoTurns': WHATEVER THE INPUT: true; the input reads as it did. -/
def undoTurnsSpec : ChangeSpec := { name := "undoTurns", fn := fun _ => fun
  | [d1, d2, d3] => { results := [.lit (.bool true)], args := [d1, d2, d3] }
  | _ => none }
def undoTurnsRow : OpenClaim := { program := "ytdcllbhkjcdnoaa", sum := "81980d84af7ce4824fd550de3697acdb06bd1ff651bca094ec0513946b277f77", func := "humus/humuslaw14.UndoTurns", spec := "undoTurns", inPlace := ["math.Float64bits", "math.Float64frombits"], unfollowed := true, recurses := true, apart := false }
def UndoTurnsSaid : Prop := undoTurnsRow.holds Try.pinned (OpenSpec.ofChange undoTurnsSpec)

/-- ITS FALSE NEIGHBOUR: 'it returns false'. Refute it at one input. -/
def undoTurnsWrong : ChangeSpec := { name := "undoTurns", fn := fun _ => fun
  | [d1, d2, d3] => { results := [.lit (.bool false)], args := [d1, d2, d3] }
  | _ => none }
def UndoTurnsWrongFalsely : Prop := undoTurnsRow.holds Try.pinned (OpenSpec.ofChange undoTurnsWrong)

/-- 'humuslaw14.UndoChains': WHATEVER THE INPUT: true; the input reads as it did. -/
def undoChainsSpec : ChangeSpec := { name := "undoChains", fn := fun _ => fun
  | [d1, d2] => { results := [.lit (.bool true)], args := [d1, d2] }
  | _ => none }
def undoChainsRow : OpenClaim := { program := "ytdcllbhkjcdnoaa", sum := "81980d84af7ce4824fd550de3697acdb06bd1ff651bca094ec0513946b277f77", func := "humus/humuslaw14.UndoChains", spec := "undoChains", inPlace := ["math.Float64bits", "math.Float64frombits"], unfollowed := true, recurses := true, apart := false }
def UndoChainsSaid : Prop := undoChainsRow.holds Try.pinned (OpenSpec.ofChange undoChainsSpec)

/-- ITS FALSE NEIGHBOUR: 'it returns false'. Refute it at one input. -/
def undoChainsWrong : ChangeSpec := { name := "undoChains", fn := fun _ => fun
  | [d1, d2] => { results := [.lit (.bool false)], args := [d1, d2] }
  | _ => none }
def UndoChainsWrongFalsely : Prop := undoChainsRow.holds Try.pinned (OpenSpec.ofChange undoChainsWrong)

/-- 'humuslaw04.RowCodes': WHATEVER THE INPUT: true; the input reads as it did. -/
def rowCodesSpec : ChangeSpec := { name := "rowCodes", fn := fun _ => fun
  | [d] => { results := [.lit (.bool true)], args := [d] }
  | _ => none }
def rowCodesRow : OpenClaim := { program := "ytdcllbhkjcdnoaa", sum := "81980d84af7ce4824fd550de3697acdb06bd1ff651bca094ec0513946b277f77", func := "humus/humuslaw04.RowCodes", spec := "rowCodes", inPlace := ["math.Float64frombits", "math.Float64bits"], unfollowed := true, recurses := true, apart := false }
def RowCodesSaid : Prop := rowCodesRow.holds Try.pinned (OpenSpec.ofChange rowCodesSpec)

/-- ITS FALSE NEIGHBOUR: 'it returns false'. Refute it at one input. -/
def rowCodesWrong : ChangeSpec := { name := "rowCodes", fn := fun _ => fun
  | [d] => { results := [.lit (.bool false)], args := [d] }
  | _ => none }
def RowCodesWrongFalsely : Prop := rowCodesRow.holds Try.pinned (OpenSpec.ofChange rowCodesWrong)

/-- 'humuslaw04.RowDecodes': WHATEVER THE INPUT: true; the input reads as it did. -/
def rowDecodesSpec : ChangeSpec := { name := "rowDecodes", fn := fun _ => fun
  | [d] => { results := [.lit (.bool true)], args := [d] }
  | _ => none }
def rowDecodesRow : OpenClaim := { program := "ytdcllbhkjcdnoaa", sum := "81980d84af7ce4824fd550de3697acdb06bd1ff651bca094ec0513946b277f77", func := "humus/humuslaw04.RowDecodes", spec := "rowDecodes", inPlace := ["math.Float64frombits", "math.Float64bits"], unfollowed := true, recurses := true, apart := false }
def RowDecodesSaid : Prop := rowDecodesRow.holds Try.pinned (OpenSpec.ofChange rowDecodesSpec)

/-- ITS FALSE NEIGHBOUR: 'it returns false'. Refute it at one input. -/
def rowDecodesWrong : ChangeSpec := { name := "rowDecodes", fn := fun _ => fun
  | [d] => { results := [.lit (.bool false)], args := [d] }
  | _ => none }
def RowDecodesWrongFalsely : Prop := rowDecodesRow.holds Try.pinned (OpenSpec.ofChange rowDecodesWrong)

/-- 'humuslaw04.RowMakes': WHATEVER THE INPUT: true; the input reads as it did. -/
def rowMakesSpec : ChangeSpec := { name := "rowMakes", fn := fun _ => fun
  | [d1, d2, d3] => { results := [.lit (.bool true)], args := [d1, d2, d3] }
  | _ => none }
def rowMakesRow : OpenClaim := { program := "ytdcllbhkjcdnoaa", sum := "81980d84af7ce4824fd550de3697acdb06bd1ff651bca094ec0513946b277f77", func := "humus/humuslaw04.RowMakes", spec := "rowMakes", inPlace := ["math.Float64frombits", "math.Float64bits"], unfollowed := true, recurses := true, apart := false }
def RowMakesSaid : Prop := rowMakesRow.holds Try.pinned (OpenSpec.ofChange rowMakesSpec)

/-- ITS FALSE NEIGHBOUR: 'it returns false'. Refute it at one input. -/
def rowMakesWrong : ChangeSpec := { name := "rowMakes", fn := fun _ => fun
  | [d1, d2, d3] => { results := [.lit (.bool false)], args := [d1, d2, d3] }
  | _ => none }
def RowMakesWrongFalsely : Prop := rowMakesRow.holds Try.pinned (OpenSpec.ofChange rowMakesWrong)

/-- 'humuslaw04.RowSame': WHATEVER THE INPUT: true; the input reads as it did. -/
def rowSameSpec : ChangeSpec := { name := "rowSame", fn := fun _ => fun
  | [d1, d2, d3] => { results := [.lit (.bool true)], args := [d1, d2, d3] }
  | _ => none }
def rowSameRow : OpenClaim := { program := "ytdcllbhkjcdnoaa", sum := "81980d84af7ce4824fd550de3697acdb06bd1ff651bca094ec0513946b277f77", func := "humus/humuslaw04.RowSame", spec := "rowSame", inPlace := ["math.Float64frombits", "math.Float64bits"], unfollowed := true, recurses := true, apart := false }
def RowSameSaid : Prop := rowSameRow.holds Try.pinned (OpenSpec.ofChange rowSameSpec)

/-- ITS FALSE NEIGHBOUR: 'it returns false'. Refute it at one input. -/
def rowSameWrong : ChangeSpec := { name := "rowSame", fn := fun _ => fun
  | [d1, d2, d3] => { results := [.lit (.bool false)], args := [d1, d2, d3] }
  | _ => none }
def RowSameWrongFalsely : Prop := rowSameRow.holds Try.pinned (OpenSpec.ofChange rowSameWrong)

/-- 'humuslaw04.RowSums': WHATEVER THE INPUT: true; the input reads as it did. -/
def rowSumsSpec : ChangeSpec := { name := "rowSums", fn := fun _ => fun
  | [d1, d2, d3] => { results := [.lit (.bool true)], args := [d1, d2, d3] }
  | _ => none }
def rowSumsRow : OpenClaim := { program := "ytdcllbhkjcdnoaa", sum := "81980d84af7ce4824fd550de3697acdb06bd1ff651bca094ec0513946b277f77", func := "humus/humuslaw04.RowSums", spec := "rowSums", inPlace := ["math.Float64bits", "math.Float64frombits"], unfollowed := true, recurses := true, apart := false }
def RowSumsSaid : Prop := rowSumsRow.holds Try.pinned (OpenSpec.ofChange rowSumsSpec)

/-- ITS FALSE NEIGHBOUR: 'it returns false'. Refute it at one input. -/
def rowSumsWrong : ChangeSpec := { name := "rowSums", fn := fun _ => fun
  | [d1, d2, d3] => { results := [.lit (.bool false)], args := [d1, d2, d3] }
  | _ => none }
def RowSumsWrongFalsely : Prop := rowSumsRow.holds Try.pinned (OpenSpec.ofChange rowSumsWrong)

/-- 'humuslaw09.UndorecCodes': WHATEVER THE INPUT: true; the input reads as it did. -/
def undorecCodesSpec : ChangeSpec := { name := "undorecCodes", fn := fun _ => fun
  | [d] => { results := [.lit (.bool true)], args := [d] }
  | _ => none }
def undorecCodesRow : OpenClaim := { program := "ytdcllbhkjcdnoaa", sum := "81980d84af7ce4824fd550de3697acdb06bd1ff651bca094ec0513946b277f77", func := "humus/humuslaw09.UndorecCodes", spec := "undorecCodes", inPlace := ["math.Float64bits", "math.Float64frombits"], unfollowed := true, recurses := true, apart := false }
def UndorecCodesSaid : Prop := undorecCodesRow.holds Try.pinned (OpenSpec.ofChange undorecCodesSpec)

/-- ITS FALSE NEIGHBOUR: 'it returns false'. Refute it at one input. -/
def undorecCodesWrong : ChangeSpec := { name := "undorecCodes", fn := fun _ => fun
  | [d] => { results := [.lit (.bool false)], args := [d] }
  | _ => none }
def UndorecCodesWrongFalsely : Prop := undorecCodesRow.holds Try.pinned (OpenSpec.ofChange undorecCodesWrong)

/-- 'humuslaw09.UndorecDecodes': WHATEVER THE INPUT: true; the input reads as it did. -/
def undorecDecodesSpec : ChangeSpec := { name := "undorecDecodes", fn := fun _ => fun
  | [d] => { results := [.lit (.bool true)], args := [d] }
  | _ => none }
def undorecDecodesRow : OpenClaim := { program := "ytdcllbhkjcdnoaa", sum := "81980d84af7ce4824fd550de3697acdb06bd1ff651bca094ec0513946b277f77", func := "humus/humuslaw09.UndorecDecodes", spec := "undorecDecodes", inPlace := ["math.Float64bits", "math.Float64frombits"], unfollowed := true, recurses := true, apart := false }
def UndorecDecodesSaid : Prop := undorecDecodesRow.holds Try.pinned (OpenSpec.ofChange undorecDecodesSpec)

/-- ITS FALSE NEIGHBOUR: 'it returns false'. Refute it at one input. -/
def undorecDecodesWrong : ChangeSpec := { name := "undorecDecodes", fn := fun _ => fun
  | [d] => { results := [.lit (.bool false)], args := [d] }
  | _ => none }
def UndorecDecodesWrongFalsely : Prop := undorecDecodesRow.holds Try.pinned (OpenSpec.ofChange undorecDecodesWrong)

/-- 'humuslaw09.UndorecKinds': WHATEVER THE INPUT: true; the input reads as it did. -/
def undorecKindsSpec : ChangeSpec := { name := "undorecKinds", fn := fun _ => fun
  | [d1, d2] => { results := [.lit (.bool true)], args := [d1, d2] }
  | _ => none }
def undorecKindsRow : OpenClaim := { program := "ytdcllbhkjcdnoaa", sum := "81980d84af7ce4824fd550de3697acdb06bd1ff651bca094ec0513946b277f77", func := "humus/humuslaw09.UndorecKinds", spec := "undorecKinds", inPlace := ["math.Float64bits", "math.Float64frombits"], unfollowed := true, recurses := true, apart := false }
def UndorecKindsSaid : Prop := undorecKindsRow.holds Try.pinned (OpenSpec.ofChange undorecKindsSpec)

/-- ITS FALSE NEIGHBOUR: 'it returns false'. Refute it at one input. -/
def undorecKindsWrong : ChangeSpec := { name := "undorecKinds", fn := fun _ => fun
  | [d1, d2] => { results := [.lit (.bool false)], args := [d1, d2] }
  | _ => none }
def UndorecKindsWrongFalsely : Prop := undorecKindsRow.holds Try.pinned (OpenSpec.ofChange undorecKindsWrong)

/-- 'humuslaw09.UndorecSame': WHATEVER THE INPUT: true; the input reads as it did. -/
def undorecSameSpec : ChangeSpec := { name := "undorecSame", fn := fun _ => fun
  | [d1, d2] => { results := [.lit (.bool true)], args := [d1, d2] }
  | _ => none }
def undorecSameRow : OpenClaim := { program := "ytdcllbhkjcdnoaa", sum := "81980d84af7ce4824fd550de3697acdb06bd1ff651bca094ec0513946b277f77", func := "humus/humuslaw09.UndorecSame", spec := "undorecSame", inPlace := ["math.Float64bits", "math.Float64frombits"], unfollowed := true, recurses := true, apart := false }
def UndorecSameSaid : Prop := undorecSameRow.holds Try.pinned (OpenSpec.ofChange undorecSameSpec)

/-- ITS FALSE NEIGHBOUR: 'it returns false'. Refute it at one input. -/
def undorecSameWrong : ChangeSpec := { name := "undorecSame", fn := fun _ => fun
  | [d1, d2] => { results := [.lit (.bool false)], args := [d1, d2] }
  | _ => none }
def UndorecSameWrongFalsely : Prop := undorecSameRow.holds Try.pinned (OpenSpec.ofChange undorecSameWrong)

/- THE SECOND FORM. 'bulk': how many values and letters a reading holds, each counted each time it is reached (what is shared counts as often as it is met; a slice's spare places count too). A statement '..UptoSaid' is the law's where the arguments, and the package variables that the reading takes, are together of bulk at most 1048576: NARROWER than '..Said'. Prove '..Said' where nothing that the law and all that it calls make is longer than what came in: it says more and counts as full. Else prove '..UptoSaid'. A law counts once. -/
mutual
def uptoBulk {H : Type} : DataW H → Nat
  | .lit (.string bytes) => bytes.length + 1
  | .lit _ => 1
  | .nil => 1
  | .ptr d => uptoBulk d + 1
  | .slice elems spare => uptoBulkAll elems + uptoBulkAll spare + 1
  | .agg parts => uptoBulkAll parts + 1
  | .iface _ d => uptoBulk d + 1
  | .map entries => uptoBulkEntries entries + 1
  | .held _ => 1
def uptoBulkAll {H : Type} : List (DataW H) → Nat
  | [] => 0
  | d :: r => uptoBulk d + uptoBulkAll r
def uptoBulkEntries {H : Type} : List (Lit × DataW H) → Nat
  | [] => 0
  | x :: r => uptoBulkEntry x + uptoBulkEntries r
def uptoBulkEntry {H : Type} : Lit × DataW H → Nat
  | (.string bytes, d) => bytes.length + uptoBulk d + 1
  | (_, d) => uptoBulk d + 1
 end
def uptoSmall : (H : Type) → List (DataW H) → Bool := fun _ ds => decide (uptoBulkAll ds ≤ 1048576)
def OpenSpec.upto (s : _root_.Go.ChangeSpec) : _root_.Go.OpenSpec := { _root_.Go.OpenSpec.ofChange s with cond := some uptoSmall }

/-- 'humuslaw14.UndoOnce', WHERE WHAT IT READS IS OF BULK AT MOST 1048576: true; the input reads as it did. -/
def undoOnceUptoRow : OpenClaim := { program := "ytdcllbhkjcdnoaa", sum := "81980d84af7ce4824fd550de3697acdb06bd1ff651bca094ec0513946b277f77", func := "humus/humuslaw14.UndoOnce", spec := "undoOnce", inPlace := ["math.Float64bits", "math.Float64frombits"], unfollowed := true, recurses := true, apart := false, narrowed := true }
def UndoOnceUptoSaid : Prop := undoOnceUptoRow.holds Try.pinned (OpenSpec.upto undoOnceSpec)

/-- 'humuslaw14.UndoTurns', WHERE WHAT IT READS IS OF BULK AT MOST 1048576: true; the input reads as it did. -/
def undoTurnsUptoRow : OpenClaim := { program := "ytdcllbhkjcdnoaa", sum := "81980d84af7ce4824fd550de3697acdb06bd1ff651bca094ec0513946b277f77", func := "humus/humuslaw14.UndoTurns", spec := "undoTurns", inPlace := ["math.Float64bits", "math.Float64frombits"], unfollowed := true, recurses := true, apart := false, narrowed := true }
def UndoTurnsUptoSaid : Prop := undoTurnsUptoRow.holds Try.pinned (OpenSpec.upto undoTurnsSpec)

/-- 'humuslaw14.UndoChains', WHERE WHAT IT READS IS OF BULK AT MOST 1048576: true; the input reads as it did. -/
def undoChainsUptoRow : OpenClaim := { program := "ytdcllbhkjcdnoaa", sum := "81980d84af7ce4824fd550de3697acdb06bd1ff651bca094ec0513946b277f77", func := "humus/humuslaw14.UndoChains", spec := "undoChains", inPlace := ["math.Float64bits", "math.Float64frombits"], unfollowed := true, recurses := true, apart := false, narrowed := true }
def UndoChainsUptoSaid : Prop := undoChainsUptoRow.holds Try.pinned (OpenSpec.upto undoChainsSpec)

/-- 'humuslaw04.RowCodes', WHERE WHAT IT READS IS OF BULK AT MOST 1048576: true; the input reads as it did. -/
def rowCodesUptoRow : OpenClaim := { program := "ytdcllbhkjcdnoaa", sum := "81980d84af7ce4824fd550de3697acdb06bd1ff651bca094ec0513946b277f77", func := "humus/humuslaw04.RowCodes", spec := "rowCodes", inPlace := ["math.Float64frombits", "math.Float64bits"], unfollowed := true, recurses := true, apart := false, narrowed := true }
def RowCodesUptoSaid : Prop := rowCodesUptoRow.holds Try.pinned (OpenSpec.upto rowCodesSpec)

/-- 'humuslaw04.RowDecodes', WHERE WHAT IT READS IS OF BULK AT MOST 1048576: true; the input reads as it did. -/
def rowDecodesUptoRow : OpenClaim := { program := "ytdcllbhkjcdnoaa", sum := "81980d84af7ce4824fd550de3697acdb06bd1ff651bca094ec0513946b277f77", func := "humus/humuslaw04.RowDecodes", spec := "rowDecodes", inPlace := ["math.Float64frombits", "math.Float64bits"], unfollowed := true, recurses := true, apart := false, narrowed := true }
def RowDecodesUptoSaid : Prop := rowDecodesUptoRow.holds Try.pinned (OpenSpec.upto rowDecodesSpec)

/-- 'humuslaw04.RowMakes', WHERE WHAT IT READS IS OF BULK AT MOST 1048576: true; the input reads as it did. -/
def rowMakesUptoRow : OpenClaim := { program := "ytdcllbhkjcdnoaa", sum := "81980d84af7ce4824fd550de3697acdb06bd1ff651bca094ec0513946b277f77", func := "humus/humuslaw04.RowMakes", spec := "rowMakes", inPlace := ["math.Float64frombits", "math.Float64bits"], unfollowed := true, recurses := true, apart := false, narrowed := true }
def RowMakesUptoSaid : Prop := rowMakesUptoRow.holds Try.pinned (OpenSpec.upto rowMakesSpec)

/-- 'humuslaw04.RowSame', WHERE WHAT IT READS IS OF BULK AT MOST 1048576: true; the input reads as it did. -/
def rowSameUptoRow : OpenClaim := { program := "ytdcllbhkjcdnoaa", sum := "81980d84af7ce4824fd550de3697acdb06bd1ff651bca094ec0513946b277f77", func := "humus/humuslaw04.RowSame", spec := "rowSame", inPlace := ["math.Float64frombits", "math.Float64bits"], unfollowed := true, recurses := true, apart := false, narrowed := true }
def RowSameUptoSaid : Prop := rowSameUptoRow.holds Try.pinned (OpenSpec.upto rowSameSpec)

/-- 'humuslaw04.RowSums', WHERE WHAT IT READS IS OF BULK AT MOST 1048576: true; the input reads as it did. -/
def rowSumsUptoRow : OpenClaim := { program := "ytdcllbhkjcdnoaa", sum := "81980d84af7ce4824fd550de3697acdb06bd1ff651bca094ec0513946b277f77", func := "humus/humuslaw04.RowSums", spec := "rowSums", inPlace := ["math.Float64bits", "math.Float64frombits"], unfollowed := true, recurses := true, apart := false, narrowed := true }
def RowSumsUptoSaid : Prop := rowSumsUptoRow.holds Try.pinned (OpenSpec.upto rowSumsSpec)

/-- 'humuslaw09.UndorecCodes', WHERE WHAT IT READS IS OF BULK AT MOST 1048576: true; the input reads as it did. -/
def undorecCodesUptoRow : OpenClaim := { program := "ytdcllbhkjcdnoaa", sum := "81980d84af7ce4824fd550de3697acdb06bd1ff651bca094ec0513946b277f77", func := "humus/humuslaw09.UndorecCodes", spec := "undorecCodes", inPlace := ["math.Float64bits", "math.Float64frombits"], unfollowed := true, recurses := true, apart := false, narrowed := true }
def UndorecCodesUptoSaid : Prop := undorecCodesUptoRow.holds Try.pinned (OpenSpec.upto undorecCodesSpec)

/-- 'humuslaw09.UndorecDecodes', WHERE WHAT IT READS IS OF BULK AT MOST 1048576: true; the input reads as it did. -/
def undorecDecodesUptoRow : OpenClaim := { program := "ytdcllbhkjcdnoaa", sum := "81980d84af7ce4824fd550de3697acdb06bd1ff651bca094ec0513946b277f77", func := "humus/humuslaw09.UndorecDecodes", spec := "undorecDecodes", inPlace := ["math.Float64bits", "math.Float64frombits"], unfollowed := true, recurses := true, apart := false, narrowed := true }
def UndorecDecodesUptoSaid : Prop := undorecDecodesUptoRow.holds Try.pinned (OpenSpec.upto undorecDecodesSpec)

/-- 'humuslaw09.UndorecKinds', WHERE WHAT IT READS IS OF BULK AT MOST 1048576: true; the input reads as it did. -/
def undorecKindsUptoRow : OpenClaim := { program := "ytdcllbhkjcdnoaa", sum := "81980d84af7ce4824fd550de3697acdb06bd1ff651bca094ec0513946b277f77", func := "humus/humuslaw09.UndorecKinds", spec := "undorecKinds", inPlace := ["math.Float64bits", "math.Float64frombits"], unfollowed := true, recurses := true, apart := false, narrowed := true }
def UndorecKindsUptoSaid : Prop := undorecKindsUptoRow.holds Try.pinned (OpenSpec.upto undorecKindsSpec)

/-- 'humuslaw09.UndorecSame', WHERE WHAT IT READS IS OF BULK AT MOST 1048576: true; the input reads as it did. -/
def undorecSameUptoRow : OpenClaim := { program := "ytdcllbhkjcdnoaa", sum := "81980d84af7ce4824fd550de3697acdb06bd1ff651bca094ec0513946b277f77", func := "humus/humuslaw09.UndorecSame", spec := "undorecSame", inPlace := ["math.Float64bits", "math.Float64frombits"], unfollowed := true, recurses := true, apart := false, narrowed := true }
def UndorecSameUptoSaid : Prop := undorecSameUptoRow.holds Try.pinned (OpenSpec.upto undorecSameSpec)

end Rows
end Go.Proofs.Ytdcllbhkjcdnoaa
