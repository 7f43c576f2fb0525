/- Layer 3: contracts of pack and humusref03. -/
import Derived.Test.YtbmcbhpkefjhbaaNumWalks
import Derived.Test.YtbmcbhpkefjhbaaMem
import Derived.Test.YtbmcbhpkefjhbaaWTab
import Derived.WalkKit
import Derived.WalkLawsBesides
import Derived.Deep.LoopGhost
import Derived.Deep.QuietTactic
import Derived.BigQuiet
import Derived.Outline
import Derived.Lib.Hide
set_option linter.unusedVariables false
set_option linter.unusedSimpArgs false
namespace Go.Proofs.Ytbmcbhpkefjhbaa.Pac
open Go.RowKit Go.Proofs.Ytbmcbhpkefjhbaa Go.Proofs.Ytbmcbhpkefjhbaa.Mem Go.Proofs.YtbmcbhpkefjhbaaW.PrintWords Go.Proofs.YtbmcbhpkefjhbaaW.PrintLast Go.Proofs.YtbmcbhpkefjhbaaW.PrintMore
structure It where
  k : Int
  n : Int
  x : Nat
  s : ByteArray
abbrev It.v (a : It) : Value := .agg #[.int .i64 a.k, .int .i64 a.n, .float .f64 a.x, .string a.s]
def same (a b : It) : Bool := a.k == b.k && a.n == b.n && (a.s.toList == b.s.toList) && ((a.x : Int) == (b.x : Int))
set_option maxRecDepth 100000 in
theorem pSame_any (a b : It) (w : World) : Calls Try.prog 23 #[a.v, b.v] w fun e w' => e = .returned (.bool (same a b)) ∧ Below w.heap.size w w' := by
  have HB := Lib.hid (Below.refl w.heap.size w)
  go_enter Try.func23, Try.ntmps23
  go_wp2
  all_goals go_ret
  all_goals exact ⟨ret_bool (by unfold same; simp [*]), (by repeat (first | (with_reducible first | exact HB.out | apply below_alloc | apply pw_below_drewN | apply below_drew1) | exact HB.out))⟩
set_option maxRecDepth 100000 in
theorem rSame_it (a b : It) (w : World) : Calls Try.prog 24 #[a.v, b.v] w fun e w' => e = .returned (.bool (same a b)) ∧ Below w.heap.size w w' := by
  have HB := Lib.hid (Below.refl w.heap.size w)
  go_enter Try.func24, Try.ntmps24
  go_wp2
  all_goals go_ret
  all_goals exact ⟨ret_bool (by unfold same; simp [*]), (by repeat (first | (with_reducible first | exact HB.out | apply below_alloc | apply pw_below_drewN | apply below_drew1) | exact HB.out))⟩
end Go.Proofs.Ytbmcbhpkefjhbaa.Pac
