/- Put together by wip/prune.py out of this claim's texts. -/
import Derived.Maps.OwnOps
import Derived.Test.YtdcllbhkjcdnoaaMUndoOnce9
import Derived.Test.YtdcllbhkjcdnoaaMUndoOnce14
set_option linter.unusedVariables false
set_option linter.unusedSimpArgs false
namespace Go.Proofs.Ytdcllbhkjcdnoaa.P
open Go.RowKit Go.Proofs.Ytdcllbhkjcdnoaa Go.Proofs.Ytdcllbhkjcdnoaa.Mem Go.Proofs.YtdcllbhkjcdnoaaW.PrintWords Go.Proofs.YtdcllbhkjcdnoaaW.PrintLast Go.Proofs.YtdcllbhkjcdnoaaW.PrintMore
abbrev Und := S32
def emptyU (e : Und) : Bool := sameU e.f0 e.f1 e.f2 e.f3 e.f4 e.f5 e.f6.f0 e.f6.f1 e.f6.f2 e.f6.f3 e.f6.f4.f0 e.f6.f4.f1 0 0 0 0 0 0 0 false [] 0 0 0
def mayUs (e : Und) : Bool := mayU e.f0 e.f1 e.f2 e.f3 e.f4 e.f5 e.f6.f0 e.f6.f1 e.f6.f2 e.f6.f3 e.f6.f4.f0 e.f6.f4.f1
abbrev shortU (l : List Und) : Prop := ∀ e ∈ l, e.f6.f2.length ≤ 1000000
theorem empty_ev {e : Und} (h : e.f6.f2.length ≤ 1000000) : undo_empty.f e.f0 e.f1 e.f2 e.f3 e.f4 e.f5 e.f6.f0 e.f6.f1 e.f6.f2 e.f6.f3 e.f6.f4.f0 e.f6.f4.f1 = some (emptyU e) := by
  unfold undo_empty.f
  rw [uSame_ev h]; rfl
def indexFunc_undo_empty.f (l0 : List Und) : Option Int := if shortU l0 ∧ l0.length ≤ 1000000 then some (ixOf (l0.findIdx? emptyU)) else none
theorem indexFunc_undo_empty.calls (A0 : Option Addr) (c0 : Nat) (l0 : List Und) (r : Int) (w : World) (hr0 : Kd.C k32 w A0 l0.length l0) (hc0 : l0.length ≤ c0) (h : indexFunc_undo_empty.f l0 = some r) :
    Calls Try.prog 61 #[.slice A0 l0.length c0, .func (.func 58) #[] #[]] w fun e w' => e = .returned (.int .i64 r) ∧ Below w.heap.size w w' := by
  unfold indexFunc_undo_empty.f at h
  split at h
  rotate_left
  · cases h
  rename_i hh
  obtain ⟨hs, hl⟩ := hh
  injection h with h; subst h
  exact IndexFunc_U A0 c0 l0 58 #[] emptyU w hr0 hl (enters_ Try.func58 (by kernel_rfl) rfl) (fun e he wx A8 c8 _ h1 h2 => undo_empty.calls e.f0 e.f1 e.f2 e.f3 e.f4 e.f5 e.f6.f0 e.f6.f1 A8 c8 e.f6.f2 e.f6.f3 e.f6.f4.f0 e.f6.f4.f1 (emptyU e) wx h2 h1 (empty_ev (hs e he)))
set_option maxRecDepth 100000 in
theorem put1_any (g : Nat) (no : Int) (e : Und) (A8 : Option Addr) (c8 : Nat) (w : World) (h : w.cell? ⟨g, 1, none⟩ = some (.int .i64 no)) :
    Calls Try.prog 56 (#[.agg #[.int .i64 e.f0, .int .i64 e.f1, .int .i64 e.f2, .int .i64 e.f3, .int .i64 e.f4, .int .i64 e.f5, .float .f64 e.f6.f0, .bool e.f6.f1, .slice A8 e.f6.f2.length c8, .int .i64 e.f6.f3, .int .i64 e.f6.f4.f0, .int .i64 e.f6.f4.f1]] ++ #[.pointer (some ⟨g, 0, none⟩)]) w fun r w' => r = .returned (.bool (e.f1 == no)) ∧ Below w.heap.size w w' := by
  have hb := below_alloc (Below.refl w.heap.size w) (.cells #[.int .i64 e.f0, .int .i64 e.f1, .int .i64 e.f2, .int .i64 e.f3, .int .i64 e.f4, .int .i64 e.f5, .float .f64 e.f6.f0, .bool e.f6.f1, .slice A8 e.f6.f2.length c8, .int .i64 e.f6.f3, .int .i64 e.f6.f4.f0, .int .i64 e.f6.f4.f1] 32 (0, 0))
  have HB := Lib.hid hb
  have hy := (hb.cell (World.block_lt_of_cell? w _ h)).trans h
  clear hb h
  go_enter Try.func56, Try.ntmps56
  go_wp2
  go_ret
  exact ⟨rfl, HB.out⟩
def containsFunc_undo_Put_1.f (l0 : List Und) (a0 a1 a2 a3 a4 a5 : Int) (a6 : Nat) (a7 : Bool) (l8 : List Nat) (a9 a10 a11 : Int) : Option Bool := if l0.length ≤ 1000000 then some (l0.any fun e => e.f1 == a1) else none
theorem containsFunc_undo_Put_1.calls (A0 : Option Addr) (c0 : Nat) (l0 : List Und) (a0 a1 a2 a3 a4 a5 : Int) (a6 : Nat) (a7 : Bool) (A8 : Option Addr) (c8 : Nat) (l8 : List Nat) (a9 a10 a11 : Int) (r : Bool) (w : World) {g : Nat}
    (hr0 : Kd.C k32 w A0 l0.length l0) (hc0 : l0.length ≤ c0) (hr1 : Kd.C Kd.f64 w A8 l8.length l8) (hc1 : l8.length ≤ c8) (hg : w.heap[g]? = some (.cells #[.int .i64 a0, .int .i64 a1, .int .i64 a2, .int .i64 a3, .int .i64 a4, .int .i64 a5, .float .f64 a6, .bool a7, .slice A8 l8.length c8, .int .i64 a9, .int .i64 a10, .int .i64 a11] 32 (0, 0))) (h : containsFunc_undo_Put_1.f l0 a0 a1 a2 a3 a4 a5 a6 a7 l8 a9 a10 a11 = some r) :
    Calls Try.prog 55 #[.slice A0 l0.length c0, .func (.func 56) #[] #[.pointer (some ⟨g, 0, none⟩)]] w fun e w' => e = .returned (.bool r) ∧ Below w.heap.size w w' := by
  unfold containsFunc_undo_Put_1.f at h
  split at h
  rotate_left
  · cases h
  rename_i hl
  injection h with h; subst h
  exact ContainsFunc_U A0 c0 l0 56 #[.pointer (some ⟨g, 0, none⟩)] _ w hr0 hl (enters_ Try.func56 (by kernel_rfl) rfl) (fun e he wx B8 d8 hb h1 h2 => put1_any g a1 e B8 d8 wx ((hb.cell (World.block_lt_of_cell? w _ (blk_cell hg 1))).trans (blk_cell hg 1)))
end Go.Proofs.Ytdcllbhkjcdnoaa.P
