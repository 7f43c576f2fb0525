/- Put together by wip/prune.py out of this claim's texts. -/
import Derived.Deep.LoopGhost
import Derived.Laws.CopyOwn
import Derived.Outline
import Derived.Test.YtdcllbhkjcdnoaaMUndoOnce2
import Derived.Test.YtdcllbhkjcdnoaaMUndoOnce7
import Derived.Test.YtdcllbhkjcdnoaaMUndoOnce8
set_option linter.unusedVariables false
set_option linter.unusedSimpArgs false
namespace Go.Proofs.Ytdcllbhkjcdnoaa.P
open Go.RowKit Go.Proofs.Ytdcllbhkjcdnoaa Go.Proofs.Ytdcllbhkjcdnoaa.Mem Go.Proofs.YtdcllbhkjcdnoaaW.PrintWords Go.Proofs.YtdcllbhkjcdnoaaW.PrintLast Go.Proofs.YtdcllbhkjcdnoaaW.PrintMore
def Rep9.T : Bool × List (List Nat × List Nat) := (true, [([], []), ([], []), ([], []), ([1, 2], [1, 2]), ([], []), ([], []), ([4, 5], [4, 5]), ([3, 6], [3, 6]), ([0, 7], [0, 7]), ([8, 7, 0, 1, 2, 3, 4, 5, 6, 7, 8], [0, 2, 5, 8])])
def Rep9.B : List Nat := [0, 0, 0, 6, 0, 0, 48, 126, 255, 511]
theorem Rep9.tab : rtab .any (opsOf Try.f74 9) = Rep9.T := by kernel_rfl
theorem Rep9.bits : waitsOk Rep9.T.2 Rep9.B = true := by kernel_rfl
end Go.Proofs.Ytdcllbhkjcdnoaa.P
