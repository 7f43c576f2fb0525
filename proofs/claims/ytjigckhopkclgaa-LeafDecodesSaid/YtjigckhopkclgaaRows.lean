/-
  No cell of these rows narrows 'for every input' (looked for: loops, veiled, ifaces, maps, wideKeys, modest, calm, conditions, laid).
  DERIVED. THE GIVEN ROWS OF THIS SEAT. 5 by the template 'for every input the law returns true; each argument reads behind the call as it read before'; 0 by the template 'total and deterministic' (their statements: YtjigckhopkclgaaTotals.lean).
  GIVEN WITH THE SEED: the statements are not yours to turn. If you find one false, say at which input.
  Laid BY PROGRAM, IN A SANDBOX (cutbox-rows.mjs): the forced cells as the released guide's own fill.sh prints them over the translation 32127bed37089de9… (all of the seat's roots in one cut). By AI agents, Wed Nov 11 2026. No macro, syntax, notation, axiom, sorry.
-/
import Derived.Test.YtjigckhopkclgaaChecked
import GoSem.Claim
import GoSem.ClaimJoined
import GoSem.ClaimMapViews
import Derived.JoinedTies
import Derived.KernelRfl
namespace Go.Proofs.Ytjigckhopkclgaa
/- THE CELL 'sum', in the pinned program and in every row, IS THE sha256 OF THE DUMP (.gsa) THAT YtjigckhopkclgaaProg.lean LOADS. Nothing in Lean hashes anything: it is a label: what it is worth is what the hold of that sum in a sandbox is worth. -/
noncomputable def Try.pinned : Pinned := { name := "ytjigckhopkclgaa", sum := "32127bed37089de95aa8342ddf6180a609f693f54847f8619f1ff2682d7013c8", checked := Try.checked }
namespace Rows
def none {H : Type} : Left H := { results := [], args := [] }

/-- 'humuslaw08.LeafDecodes': WHATEVER THE INPUT: true; the input reads as it did. -/
def leafDecodesSpec : ChangeSpec := { name := "leafDecodes", fn := fun _ => fun
  | [d] => { results := [.lit (.bool true)], args := [d] }
  | _ => none }
def leafDecodesRow : OpenClaim := { program := "ytjigckhopkclgaa", sum := "32127bed37089de95aa8342ddf6180a609f693f54847f8619f1ff2682d7013c8", func := "humus/humuslaw08.LeafDecodes", spec := "leafDecodes", inPlace := ["math.Float64frombits", "math.Float64bits"], unfollowed := true, recurses := true, apart := false }
def LeafDecodesSaid : Prop := leafDecodesRow.holds Try.pinned (OpenSpec.ofChange leafDecodesSpec)

/-- ITS FALSE NEIGHBOUR: 'it returns false'. Refute it at one input. -/
def leafDecodesWrong : ChangeSpec := { name := "leafDecodes", fn := fun _ => fun
  | [d] => { results := [.lit (.bool false)], args := [d] }
  | _ => none }
def LeafDecodesWrongFalsely : Prop := leafDecodesRow.holds Try.pinned (OpenSpec.ofChange leafDecodesWrong)

/-- 'humuslaw08.LeafOthers': WHATEVER THE INPUT: true; the input reads as it did. -/
def leafOthersSpec : ChangeSpec := { name := "leafOthers", fn := fun _ => fun
  | [d1, d2, d3] => { results := [.lit (.bool true)], args := [d1, d2, d3] }
  | _ => none }
def leafOthersRow : OpenClaim := { program := "ytjigckhopkclgaa", sum := "32127bed37089de95aa8342ddf6180a609f693f54847f8619f1ff2682d7013c8", func := "humus/humuslaw08.LeafOthers", spec := "leafOthers", inPlace := ["math.Float64frombits", "math.Float64bits"], unfollowed := true, recurses := true, apart := false }
def LeafOthersSaid : Prop := leafOthersRow.holds Try.pinned (OpenSpec.ofChange leafOthersSpec)

/-- ITS FALSE NEIGHBOUR: 'it returns false'. Refute it at one input. -/
def leafOthersWrong : ChangeSpec := { name := "leafOthers", fn := fun _ => fun
  | [d1, d2, d3] => { results := [.lit (.bool false)], args := [d1, d2, d3] }
  | _ => none }
def LeafOthersWrongFalsely : Prop := leafOthersRow.holds Try.pinned (OpenSpec.ofChange leafOthersWrong)

/-- 'humuslaw08.LeafJoins': WHATEVER THE INPUT: true; the input reads as it did. -/
def leafJoinsSpec : ChangeSpec := { name := "leafJoins", fn := fun _ => fun
  | [d1, d2, d3] => { results := [.lit (.bool true)], args := [d1, d2, d3] }
  | _ => none }
def leafJoinsRow : OpenClaim := { program := "ytjigckhopkclgaa", sum := "32127bed37089de95aa8342ddf6180a609f693f54847f8619f1ff2682d7013c8", func := "humus/humuslaw08.LeafJoins", spec := "leafJoins", inPlace := ["math.Float64frombits", "math.Float64bits"], unfollowed := true, recurses := true, apart := false }
def LeafJoinsSaid : Prop := leafJoinsRow.holds Try.pinned (OpenSpec.ofChange leafJoinsSpec)

/-- ITS FALSE NEIGHBOUR: 'it returns false'. Refute it at one input. -/
def leafJoinsWrong : ChangeSpec := { name := "leafJoins", fn := fun _ => fun
  | [d1, d2, d3] => { results := [.lit (.bool false)], args := [d1, d2, d3] }
  | _ => none }
def LeafJoinsWrongFalsely : Prop := leafJoinsRow.holds Try.pinned (OpenSpec.ofChange leafJoinsWrong)

/-- 'humuslaw08.LeafFour': WHATEVER THE INPUT: true; the input reads as it did. -/
def leafFourSpec : ChangeSpec := { name := "leafFour", fn := fun _ => fun
  | [d1, d2] => { results := [.lit (.bool true)], args := [d1, d2] }
  | _ => none }
def leafFourRow : OpenClaim := { program := "ytjigckhopkclgaa", sum := "32127bed37089de95aa8342ddf6180a609f693f54847f8619f1ff2682d7013c8", func := "humus/humuslaw08.LeafFour", spec := "leafFour", inPlace := ["math.Float64frombits", "math.Float64bits"], unfollowed := true, recurses := true, apart := false }
def LeafFourSaid : Prop := leafFourRow.holds Try.pinned (OpenSpec.ofChange leafFourSpec)

/-- ITS FALSE NEIGHBOUR: 'it returns false'. Refute it at one input. -/
def leafFourWrong : ChangeSpec := { name := "leafFour", fn := fun _ => fun
  | [d1, d2] => { results := [.lit (.bool false)], args := [d1, d2] }
  | _ => none }
def LeafFourWrongFalsely : Prop := leafFourRow.holds Try.pinned (OpenSpec.ofChange leafFourWrong)

/-- 'humuslaw08.LeafCodes': WHATEVER THE INPUT: true; the input reads as it did. -/
def leafCodesSpec : ChangeSpec := { name := "leafCodes", fn := fun _ => fun
  | [d] => { results := [.lit (.bool true)], args := [d] }
  | _ => none }
def leafCodesRow : OpenClaim := { program := "ytjigckhopkclgaa", sum := "32127bed37089de95aa8342ddf6180a609f693f54847f8619f1ff2682d7013c8", func := "humus/humuslaw08.LeafCodes", spec := "leafCodes", inPlace := ["math.Float64frombits", "math.Float64bits"], unfollowed := true, recurses := true, apart := false }
def LeafCodesSaid : Prop := leafCodesRow.holds Try.pinned (OpenSpec.ofChange leafCodesSpec)

/-- ITS FALSE NEIGHBOUR: 'it returns false'. Refute it at one input. -/
def leafCodesWrong : ChangeSpec := { name := "leafCodes", fn := fun _ => fun
  | [d] => { results := [.lit (.bool false)], args := [d] }
  | _ => none }
def LeafCodesWrongFalsely : Prop := leafCodesRow.holds Try.pinned (OpenSpec.ofChange leafCodesWrong)

/- THE SECOND FORM. 'bulk': how many values and letters a reading holds, each counted each time it is reached (what is shared counts as often as it is met; a slice's spare places count too). A statement '..UptoSaid' is the law's where the arguments, and the package variables that the reading takes, are together of bulk at most 1048576: NARROWER than '..Said'. Prove '..Said' where nothing that the law and all that it calls make is longer than what came in: it says more and counts as full. Else prove '..UptoSaid'. A law counts once. -/
mutual
def uptoBulk {H : Type} : DataW H → Nat
  | .lit (.string bytes) => bytes.length + 1
  | .lit _ => 1
  | .nil => 1
  | .ptr d => uptoBulk d + 1
  | .slice elems spare => uptoBulkAll elems + uptoBulkAll spare + 1
  | .agg parts => uptoBulkAll parts + 1
  | .iface _ d => uptoBulk d + 1
  | .map entries => uptoBulkEntries entries + 1
  | .held _ => 1
def uptoBulkAll {H : Type} : List (DataW H) → Nat
  | [] => 0
  | d :: r => uptoBulk d + uptoBulkAll r
def uptoBulkEntries {H : Type} : List (Lit × DataW H) → Nat
  | [] => 0
  | x :: r => uptoBulkEntry x + uptoBulkEntries r
def uptoBulkEntry {H : Type} : Lit × DataW H → Nat
  | (.string bytes, d) => bytes.length + uptoBulk d + 1
  | (_, d) => uptoBulk d + 1
 end
def uptoSmall : (H : Type) → List (DataW H) → Bool := fun _ ds => decide (uptoBulkAll ds ≤ 1048576)
def OpenSpec.upto (s : _root_.Go.ChangeSpec) : _root_.Go.OpenSpec := { _root_.Go.OpenSpec.ofChange s with cond := some uptoSmall }

/-- 'humuslaw08.LeafDecodes', WHERE WHAT IT READS IS OF BULK AT MOST 1048576: true; the input reads as it did. -/
def leafDecodesUptoRow : OpenClaim := { program := "ytjigckhopkclgaa", sum := "32127bed37089de95aa8342ddf6180a609f693f54847f8619f1ff2682d7013c8", func := "humus/humuslaw08.LeafDecodes", spec := "leafDecodes", inPlace := ["math.Float64frombits", "math.Float64bits"], unfollowed := true, recurses := true, apart := false, narrowed := true }
def LeafDecodesUptoSaid : Prop := leafDecodesUptoRow.holds Try.pinned (OpenSpec.upto leafDecodesSpec)

/-- 'humuslaw08.LeafOthers', WHERE WHAT IT READS IS OF BULK AT MOST 1048576: true; the input reads as it did. -/
def leafOthersUptoRow : OpenClaim := { program := "ytjigckhopkclgaa", sum := "32127bed37089de95aa8342ddf6180a609f693f54847f8619f1ff2682d7013c8", func := "humus/humuslaw08.LeafOthers", spec := "leafOthers", inPlace := ["math.Float64frombits", "math.Float64bits"], unfollowed := true, recurses := true, apart := false, narrowed := true }
def LeafOthersUptoSaid : Prop := leafOthersUptoRow.holds Try.pinned (OpenSpec.upto leafOthersSpec)

/-- 'humuslaw08.LeafJoins', WHERE WHAT IT READS IS OF BULK AT MOST 1048576: true; the input reads as it did. -/
def leafJoinsUptoRow : OpenClaim := { program := "ytjigckhopkclgaa", sum := "32127bed37089de95aa8342ddf6180a609f693f54847f8619f1ff2682d7013c8", func := "humus/humuslaw08.LeafJoins", spec := "leafJoins", inPlace := ["math.Float64frombits", "math.Float64bits"], unfollowed := true, recurses := true, apart := false, narrowed := true }
def LeafJoinsUptoSaid : Prop := leafJoinsUptoRow.holds Try.pinned (OpenSpec.upto leafJoinsSpec)

/-- 'humuslaw08.LeafFour', WHERE WHAT IT READS IS OF BULK AT MOST 1048576: true; the input reads as it did. -/
def leafFourUptoRow : OpenClaim := { program := "ytjigckhopkclgaa", sum := "32127bed37089de95aa8342ddf6180a609f693f54847f8619f1ff2682d7013c8", func := "humus/humuslaw08.LeafFour", spec := "leafFour", inPlace := ["math.Float64frombits", "math.Float64bits"], unfollowed := true, recurses := true, apart := false, narrowed := true }
def LeafFourUptoSaid : Prop := leafFourUptoRow.holds Try.pinned (OpenSpec.upto leafFourSpec)

/-- 'humuslaw08.LeafCodes', WHERE WHAT IT READS IS OF BULK AT MOST 1048576: true; the input reads as it did. -/
def leafCodesUptoRow : OpenClaim := { program := "ytjigckhopkclgaa", sum := "32127bed37089de95aa8342ddf6180a609f693f54847f8619f1ff2682d7013c8", func := "humus/humuslaw08.LeafCodes", spec := "leafCodes", inPlace := ["math.Float64frombits", "math.Float64bits"], unfollowed := true, recurses := true, apart := false, narrowed := true }
def LeafCodesUptoSaid : Prop := leafCodesUptoRow.holds Try.pinned (OpenSpec.upto leafCodesSpec)

end Rows
end Go.Proofs.Ytjigckhopkclgaa
