/-
  No cell of these rows narrows 'for every input' (looked for: loops, veiled, ifaces, maps, wideKeys, modest, calm, conditions, laid).
  DERIVED. THE GIVEN ROWS OF THIS SEAT. 10 by the template 'for every input the law returns true; each argument reads behind the call as it read before'; 0 by the template 'total and deterministic' (their statements: YtbmcbhpkefjhbaaTotals.lean).
  GIVEN WITH THE SEED: the statements are not yours to turn. If you find one false, say at which input.
  Laid BY PROGRAM, IN A SANDBOX (cutbox-rows.mjs): the forced cells as the released guide's own fill.sh prints them over the translation 629963aa124f6e5a… (all of the seat's roots in one cut). By AI agents, Wed Nov 11 2026. No macro, syntax, notation, axiom, sorry.
-/
import Derived.Test.YtbmcbhpkefjhbaaChecked
import GoSem.Claim
import GoSem.ClaimJoined
import GoSem.ClaimMapViews
import Derived.JoinedTies
import Derived.KernelRfl
namespace Go.Proofs.Ytbmcbhpkefjhbaa
/- THE CELL 'sum', in the pinned program and in every row, IS THE sha256 OF THE DUMP (.gsa) THAT YtbmcbhpkefjhbaaProg.lean LOADS. Nothing in Lean hashes anything: it is a label: what it is worth is what the hold of that sum in a sandbox is worth. -/
noncomputable def Try.pinned : Pinned := { name := "ytbmcbhpkefjhbaa", sum := "629963aa124f6e5aaf581180b6be126fbb3e1e3573bd935c1322e44d7fa90683", checked := Try.checked }
namespace Rows
def none {H : Type} : Left H := { results := [], args := [] }

/-- 'humuslaw26.DsgOrders': WHATEVER THE INPUT: true; the input reads as it did. -/
def dsgOrdersSpec : ChangeSpec := { name := "dsgOrders", fn := fun _ => fun
  | [d1, d2] => { results := [.lit (.bool true)], args := [d1, d2] }
  | _ => none }
def dsgOrdersRow : OpenClaim := { program := "ytbmcbhpkefjhbaa", sum := "629963aa124f6e5aaf581180b6be126fbb3e1e3573bd935c1322e44d7fa90683", func := "humus/humuslaw26.DsgOrders", spec := "dsgOrders", apart := false }
def DsgOrdersSaid : Prop := dsgOrdersRow.holds Try.pinned (OpenSpec.ofChange dsgOrdersSpec)

/-- ITS FALSE NEIGHBOUR: 'it returns false'. Refute it at one input. -/
def dsgOrdersWrong : ChangeSpec := { name := "dsgOrders", fn := fun _ => fun
  | [d1, d2] => { results := [.lit (.bool false)], args := [d1, d2] }
  | _ => none }
def DsgOrdersWrongFalsely : Prop := dsgOrdersRow.holds Try.pinned (OpenSpec.ofChange dsgOrdersWrong)

/-- 'humuslaw26.DsgCircles': WHATEVER THE INPUT: true; the input reads as it did. -/
def dsgCirclesSpec : ChangeSpec := { name := "dsgCircles", fn := fun _ => fun
  | [d1, d2] => { results := [.lit (.bool true)], args := [d1, d2] }
  | _ => none }
def dsgCirclesRow : OpenClaim := { program := "ytbmcbhpkefjhbaa", sum := "629963aa124f6e5aaf581180b6be126fbb3e1e3573bd935c1322e44d7fa90683", func := "humus/humuslaw26.DsgCircles", spec := "dsgCircles", apart := false }
def DsgCirclesSaid : Prop := dsgCirclesRow.holds Try.pinned (OpenSpec.ofChange dsgCirclesSpec)

/-- ITS FALSE NEIGHBOUR: 'it returns false'. Refute it at one input. -/
def dsgCirclesWrong : ChangeSpec := { name := "dsgCircles", fn := fun _ => fun
  | [d1, d2] => { results := [.lit (.bool false)], args := [d1, d2] }
  | _ => none }
def DsgCirclesWrongFalsely : Prop := dsgCirclesRow.holds Try.pinned (OpenSpec.ofChange dsgCirclesWrong)

/-- 'humuslaw26.DsgEdges': WHATEVER THE INPUT: true; the input reads as it did. -/
def dsgEdgesSpec : ChangeSpec := { name := "dsgEdges", fn := fun _ => fun
  | [d1, d2] => { results := [.lit (.bool true)], args := [d1, d2] }
  | _ => none }
def dsgEdgesRow : OpenClaim := { program := "ytbmcbhpkefjhbaa", sum := "629963aa124f6e5aaf581180b6be126fbb3e1e3573bd935c1322e44d7fa90683", func := "humus/humuslaw26.DsgEdges", spec := "dsgEdges", inPlace := ["math.Float64frombits", "math.Float64bits"], unfollowed := true, recurses := true, apart := false }
def DsgEdgesSaid : Prop := dsgEdgesRow.holds Try.pinned (OpenSpec.ofChange dsgEdgesSpec)

/-- ITS FALSE NEIGHBOUR: 'it returns false'. Refute it at one input. -/
def dsgEdgesWrong : ChangeSpec := { name := "dsgEdges", fn := fun _ => fun
  | [d1, d2] => { results := [.lit (.bool false)], args := [d1, d2] }
  | _ => none }
def DsgEdgesWrongFalsely : Prop := dsgEdgesRow.holds Try.pinned (OpenSpec.ofChange dsgEdgesWrong)

/-- 'humuslaw26.DsgAlone': WHATEVER THE INPUT: true; the input reads as it did. -/
def dsgAloneSpec : ChangeSpec := { name := "dsgAlone", fn := fun _ => fun
  | [d] => { results := [.lit (.bool true)], args := [d] }
  | _ => none }
def dsgAloneRow : OpenClaim := { program := "ytbmcbhpkefjhbaa", sum := "629963aa124f6e5aaf581180b6be126fbb3e1e3573bd935c1322e44d7fa90683", func := "humus/humuslaw26.DsgAlone", spec := "dsgAlone", inPlace := ["math.Float64frombits", "math.Float64bits"], unfollowed := true, recurses := true, apart := false }
def DsgAloneSaid : Prop := dsgAloneRow.holds Try.pinned (OpenSpec.ofChange dsgAloneSpec)

/-- ITS FALSE NEIGHBOUR: 'it returns false'. Refute it at one input. -/
def dsgAloneWrong : ChangeSpec := { name := "dsgAlone", fn := fun _ => fun
  | [d] => { results := [.lit (.bool false)], args := [d] }
  | _ => none }
def DsgAloneWrongFalsely : Prop := dsgAloneRow.holds Try.pinned (OpenSpec.ofChange dsgAloneWrong)

/-- 'humuslaw03.PackSame': WHATEVER THE INPUT: true; the input reads as it did. -/
def packSameSpec : ChangeSpec := { name := "packSame", fn := fun _ => fun
  | [d1, d2] => { results := [.lit (.bool true)], args := [d1, d2] }
  | _ => none }
def packSameRow : OpenClaim := { program := "ytbmcbhpkefjhbaa", sum := "629963aa124f6e5aaf581180b6be126fbb3e1e3573bd935c1322e44d7fa90683", func := "humus/humuslaw03.PackSame", spec := "packSame", inPlace := ["math.Float64bits", "math.Float64frombits"], apart := false }
def PackSameSaid : Prop := packSameRow.holds Try.pinned (OpenSpec.ofChange packSameSpec)

/-- ITS FALSE NEIGHBOUR: 'it returns false'. Refute it at one input. -/
def packSameWrong : ChangeSpec := { name := "packSame", fn := fun _ => fun
  | [d1, d2] => { results := [.lit (.bool false)], args := [d1, d2] }
  | _ => none }
def PackSameWrongFalsely : Prop := packSameRow.holds Try.pinned (OpenSpec.ofChange packSameWrong)

/-- 'humuslaw03.PackPuts': WHATEVER THE INPUT: true; the input reads as it did. -/
def packPutsSpec : ChangeSpec := { name := "packPuts", fn := fun _ => fun
  | [d] => { results := [.lit (.bool true)], args := [d] }
  | _ => none }
def packPutsRow : OpenClaim := { program := "ytbmcbhpkefjhbaa", sum := "629963aa124f6e5aaf581180b6be126fbb3e1e3573bd935c1322e44d7fa90683", func := "humus/humuslaw03.PackPuts", spec := "packPuts", inPlace := ["math.Float64bits", "math.Float64frombits"], unfollowed := true, recurses := true, apart := false }
def PackPutsSaid : Prop := packPutsRow.holds Try.pinned (OpenSpec.ofChange packPutsSpec)

/-- ITS FALSE NEIGHBOUR: 'it returns false'. Refute it at one input. -/
def packPutsWrong : ChangeSpec := { name := "packPuts", fn := fun _ => fun
  | [d] => { results := [.lit (.bool false)], args := [d] }
  | _ => none }
def PackPutsWrongFalsely : Prop := packPutsRow.holds Try.pinned (OpenSpec.ofChange packPutsWrong)

/-- 'humuslaw03.PackTakes': WHATEVER THE INPUT: true; the input reads as it did. -/
def packTakesSpec : ChangeSpec := { name := "packTakes", fn := fun _ => fun
  | [d1, d2] => { results := [.lit (.bool true)], args := [d1, d2] }
  | _ => none }
def packTakesRow : OpenClaim := { program := "ytbmcbhpkefjhbaa", sum := "629963aa124f6e5aaf581180b6be126fbb3e1e3573bd935c1322e44d7fa90683", func := "humus/humuslaw03.PackTakes", spec := "packTakes", inPlace := ["math.Float64bits", "math.Float64frombits"], unfollowed := true, recurses := true, apart := false }
def PackTakesSaid : Prop := packTakesRow.holds Try.pinned (OpenSpec.ofChange packTakesSpec)

/-- ITS FALSE NEIGHBOUR: 'it returns false'. Refute it at one input. -/
def packTakesWrong : ChangeSpec := { name := "packTakes", fn := fun _ => fun
  | [d1, d2] => { results := [.lit (.bool false)], args := [d1, d2] }
  | _ => none }
def PackTakesWrongFalsely : Prop := packTakesRow.holds Try.pinned (OpenSpec.ofChange packTakesWrong)

/-- 'humuslaw03.PackJoins': WHATEVER THE INPUT: true; the input reads as it did. -/
def packJoinsSpec : ChangeSpec := { name := "packJoins", fn := fun _ => fun
  | [d1, d2] => { results := [.lit (.bool true)], args := [d1, d2] }
  | _ => none }
def packJoinsRow : OpenClaim := { program := "ytbmcbhpkefjhbaa", sum := "629963aa124f6e5aaf581180b6be126fbb3e1e3573bd935c1322e44d7fa90683", func := "humus/humuslaw03.PackJoins", spec := "packJoins", inPlace := ["math.Float64bits", "math.Float64frombits"], unfollowed := true, recurses := true, apart := false }
def PackJoinsSaid : Prop := packJoinsRow.holds Try.pinned (OpenSpec.ofChange packJoinsSpec)

/-- ITS FALSE NEIGHBOUR: 'it returns false'. Refute it at one input. -/
def packJoinsWrong : ChangeSpec := { name := "packJoins", fn := fun _ => fun
  | [d1, d2] => { results := [.lit (.bool false)], args := [d1, d2] }
  | _ => none }
def PackJoinsWrongFalsely : Prop := packJoinsRow.holds Try.pinned (OpenSpec.ofChange packJoinsWrong)

/-- 'humuslaw11.TableFull': WHATEVER THE INPUT: true; the input reads as it did. -/
def tableFullSpec : ChangeSpec := { name := "tableFull", fn := fun _ => fun
  | [d1, d2] => { results := [.lit (.bool true)], args := [d1, d2] }
  | _ => none }
def tableFullRow : OpenClaim := { program := "ytbmcbhpkefjhbaa", sum := "629963aa124f6e5aaf581180b6be126fbb3e1e3573bd935c1322e44d7fa90683", func := "humus/humuslaw11.TableFull", spec := "tableFull", unfollowed := true, recurses := true, apart := false }
def TableFullSaid : Prop := tableFullRow.holds Try.pinned (OpenSpec.ofChange tableFullSpec)

/-- ITS FALSE NEIGHBOUR: 'it returns false'. Refute it at one input. -/
def tableFullWrong : ChangeSpec := { name := "tableFull", fn := fun _ => fun
  | [d1, d2] => { results := [.lit (.bool false)], args := [d1, d2] }
  | _ => none }
def TableFullWrongFalsely : Prop := tableFullRow.holds Try.pinned (OpenSpec.ofChange tableFullWrong)

/-- 'humuslaw11.TableCounts': WHATEVER THE INPUT: true; the input reads as it did. -/
def tableCountsSpec : ChangeSpec := { name := "tableCounts", fn := fun _ => fun
  | [d] => { results := [.lit (.bool true)], args := [d] }
  | _ => none }
def tableCountsRow : OpenClaim := { program := "ytbmcbhpkefjhbaa", sum := "629963aa124f6e5aaf581180b6be126fbb3e1e3573bd935c1322e44d7fa90683", func := "humus/humuslaw11.TableCounts", spec := "tableCounts", unfollowed := true, recurses := true, apart := false }
def TableCountsSaid : Prop := tableCountsRow.holds Try.pinned (OpenSpec.ofChange tableCountsSpec)

/-- ITS FALSE NEIGHBOUR: 'it returns false'. Refute it at one input. -/
def tableCountsWrong : ChangeSpec := { name := "tableCounts", fn := fun _ => fun
  | [d] => { results := [.lit (.bool false)], args := [d] }
  | _ => none }
def TableCountsWrongFalsely : Prop := tableCountsRow.holds Try.pinned (OpenSpec.ofChange tableCountsWrong)

/- THE SECOND FORM. 'bulk': how many values and letters a reading holds, each counted each time it is reached (what is shared counts as often as it is met; a slice's spare places count too). A statement '..UptoSaid' is the law's where the arguments, and the package variables that the reading takes, are together of bulk at most 1048576: NARROWER than '..Said'. Prove '..Said' where nothing that the law and all that it calls make is longer than what came in: it says more and counts as full. Else prove '..UptoSaid'. A law counts once. -/
mutual
def uptoBulk {H : Type} : DataW H → Nat
  | .lit (.string bytes) => bytes.length + 1
  | .lit _ => 1
  | .nil => 1
  | .ptr d => uptoBulk d + 1
  | .slice elems spare => uptoBulkAll elems + uptoBulkAll spare + 1
  | .agg parts => uptoBulkAll parts + 1
  | .iface _ d => uptoBulk d + 1
  | .map entries => uptoBulkEntries entries + 1
  | .held _ => 1
def uptoBulkAll {H : Type} : List (DataW H) → Nat
  | [] => 0
  | d :: r => uptoBulk d + uptoBulkAll r
def uptoBulkEntries {H : Type} : List (Lit × DataW H) → Nat
  | [] => 0
  | x :: r => uptoBulkEntry x + uptoBulkEntries r
def uptoBulkEntry {H : Type} : Lit × DataW H → Nat
  | (.string bytes, d) => bytes.length + uptoBulk d + 1
  | (_, d) => uptoBulk d + 1
 end
def uptoSmall : (H : Type) → List (DataW H) → Bool := fun _ ds => decide (uptoBulkAll ds ≤ 1048576)
def OpenSpec.upto (s : _root_.Go.ChangeSpec) : _root_.Go.OpenSpec := { _root_.Go.OpenSpec.ofChange s with cond := some uptoSmall }

/-- 'humuslaw26.DsgOrders', WHERE WHAT IT READS IS OF BULK AT MOST 1048576: true; the input reads as it did. -/
def dsgOrdersUptoRow : OpenClaim := { program := "ytbmcbhpkefjhbaa", sum := "629963aa124f6e5aaf581180b6be126fbb3e1e3573bd935c1322e44d7fa90683", func := "humus/humuslaw26.DsgOrders", spec := "dsgOrders", apart := false, narrowed := true }
def DsgOrdersUptoSaid : Prop := dsgOrdersUptoRow.holds Try.pinned (OpenSpec.upto dsgOrdersSpec)

/-- 'humuslaw26.DsgCircles', WHERE WHAT IT READS IS OF BULK AT MOST 1048576: true; the input reads as it did. -/
def dsgCirclesUptoRow : OpenClaim := { program := "ytbmcbhpkefjhbaa", sum := "629963aa124f6e5aaf581180b6be126fbb3e1e3573bd935c1322e44d7fa90683", func := "humus/humuslaw26.DsgCircles", spec := "dsgCircles", apart := false, narrowed := true }
def DsgCirclesUptoSaid : Prop := dsgCirclesUptoRow.holds Try.pinned (OpenSpec.upto dsgCirclesSpec)

/-- 'humuslaw26.DsgEdges', WHERE WHAT IT READS IS OF BULK AT MOST 1048576: true; the input reads as it did. -/
def dsgEdgesUptoRow : OpenClaim := { program := "ytbmcbhpkefjhbaa", sum := "629963aa124f6e5aaf581180b6be126fbb3e1e3573bd935c1322e44d7fa90683", func := "humus/humuslaw26.DsgEdges", spec := "dsgEdges", inPlace := ["math.Float64frombits", "math.Float64bits"], unfollowed := true, recurses := true, apart := false, narrowed := true }
def DsgEdgesUptoSaid : Prop := dsgEdgesUptoRow.holds Try.pinned (OpenSpec.upto dsgEdgesSpec)

/-- 'humuslaw26.DsgAlone', WHERE WHAT IT READS IS OF BULK AT MOST 1048576: true; the input reads as it did. -/
def dsgAloneUptoRow : OpenClaim := { program := "ytbmcbhpkefjhbaa", sum := "629963aa124f6e5aaf581180b6be126fbb3e1e3573bd935c1322e44d7fa90683", func := "humus/humuslaw26.DsgAlone", spec := "dsgAlone", inPlace := ["math.Float64frombits", "math.Float64bits"], unfollowed := true, recurses := true, apart := false, narrowed := true }
def DsgAloneUptoSaid : Prop := dsgAloneUptoRow.holds Try.pinned (OpenSpec.upto dsgAloneSpec)

/-- 'humuslaw03.PackSame', WHERE WHAT IT READS IS OF BULK AT MOST 1048576: true; the input reads as it did. -/
def packSameUptoRow : OpenClaim := { program := "ytbmcbhpkefjhbaa", sum := "629963aa124f6e5aaf581180b6be126fbb3e1e3573bd935c1322e44d7fa90683", func := "humus/humuslaw03.PackSame", spec := "packSame", inPlace := ["math.Float64bits", "math.Float64frombits"], apart := false, narrowed := true }
def PackSameUptoSaid : Prop := packSameUptoRow.holds Try.pinned (OpenSpec.upto packSameSpec)

/-- 'humuslaw03.PackPuts', WHERE WHAT IT READS IS OF BULK AT MOST 1048576: true; the input reads as it did. -/
def packPutsUptoRow : OpenClaim := { program := "ytbmcbhpkefjhbaa", sum := "629963aa124f6e5aaf581180b6be126fbb3e1e3573bd935c1322e44d7fa90683", func := "humus/humuslaw03.PackPuts", spec := "packPuts", inPlace := ["math.Float64bits", "math.Float64frombits"], unfollowed := true, recurses := true, apart := false, narrowed := true }
def PackPutsUptoSaid : Prop := packPutsUptoRow.holds Try.pinned (OpenSpec.upto packPutsSpec)

/-- 'humuslaw03.PackTakes', WHERE WHAT IT READS IS OF BULK AT MOST 1048576: true; the input reads as it did. -/
def packTakesUptoRow : OpenClaim := { program := "ytbmcbhpkefjhbaa", sum := "629963aa124f6e5aaf581180b6be126fbb3e1e3573bd935c1322e44d7fa90683", func := "humus/humuslaw03.PackTakes", spec := "packTakes", inPlace := ["math.Float64bits", "math.Float64frombits"], unfollowed := true, recurses := true, apart := false, narrowed := true }
def PackTakesUptoSaid : Prop := packTakesUptoRow.holds Try.pinned (OpenSpec.upto packTakesSpec)

/-- 'humuslaw03.PackJoins', WHERE WHAT IT READS IS OF BULK AT MOST 1048576: true; the input reads as it did. -/
def packJoinsUptoRow : OpenClaim := { program := "ytbmcbhpkefjhbaa", sum := "629963aa124f6e5aaf581180b6be126fbb3e1e3573bd935c1322e44d7fa90683", func := "humus/humuslaw03.PackJoins", spec := "packJoins", inPlace := ["math.Float64bits", "math.Float64frombits"], unfollowed := true, recurses := true, apart := false, narrowed := true }
def PackJoinsUptoSaid : Prop := packJoinsUptoRow.holds Try.pinned (OpenSpec.upto packJoinsSpec)

/-- 'humuslaw11.TableFull', WHERE WHAT IT READS IS OF BULK AT MOST 1048576: true; the input reads as it did. -/
def tableFullUptoRow : OpenClaim := { program := "ytbmcbhpkefjhbaa", sum := "629963aa124f6e5aaf581180b6be126fbb3e1e3573bd935c1322e44d7fa90683", func := "humus/humuslaw11.TableFull", spec := "tableFull", unfollowed := true, recurses := true, apart := false, narrowed := true }
def TableFullUptoSaid : Prop := tableFullUptoRow.holds Try.pinned (OpenSpec.upto tableFullSpec)

/-- 'humuslaw11.TableCounts', WHERE WHAT IT READS IS OF BULK AT MOST 1048576: true; the input reads as it did. -/
def tableCountsUptoRow : OpenClaim := { program := "ytbmcbhpkefjhbaa", sum := "629963aa124f6e5aaf581180b6be126fbb3e1e3573bd935c1322e44d7fa90683", func := "humus/humuslaw11.TableCounts", spec := "tableCounts", unfollowed := true, recurses := true, apart := false, narrowed := true }
def TableCountsUptoSaid : Prop := tableCountsUptoRow.holds Try.pinned (OpenSpec.upto tableCountsSpec)

end Rows
end Go.Proofs.Ytbmcbhpkefjhbaa
