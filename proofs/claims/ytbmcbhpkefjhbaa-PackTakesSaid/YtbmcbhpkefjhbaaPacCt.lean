/- Layer 3: what pack.Take defers. -/
import Derived.Test.YtbmcbhpkefjhbaaPacIt
set_option linter.unusedVariables false
set_option linter.unusedSimpArgs false
namespace Go.Proofs.Ytbmcbhpkefjhbaa.Pac
open Go.RowKit Go.Proofs.Ytbmcbhpkefjhbaa Go.Proofs.Ytbmcbhpkefjhbaa.Mem Go.Proofs.YtbmcbhpkefjhbaaW.PrintWords Go.Proofs.YtbmcbhpkefjhbaaW.PrintLast Go.Proofs.YtbmcbhpkefjhbaaW.PrintMore
theorem ta_nil (w : World) : (Instr.typeAssert Value.nilIface 20 103 true).run Try.prog w = .ok (.tuple #[.agg #[.int .i64 0], .bool false]) w := by kernel_rfl
theorem ta_short (x : Int) (w : World) : (Instr.typeAssert (Value.iface 103 (.agg #[.int .i64 x])) 20 103 true).run Try.prog w = .ok (.tuple #[.agg #[.int .i64 x], .bool true]) w := by kernel_rfl
set_option maxRecDepth 100000 in
theorem tk_idle (p q r : Addr) (w : World) :
    CallsD Try.prog 62 #[.pointer (some p), .pointer (some q), .pointer (some r)] .returning w fun e u' w' => e = .returned (.tuple #[]) ∧ u' = .returning ∧ Below w.heap.size w w' := by
  refine callsD_of_wpS Try.func62 rfl fun c₀ cs hu => ?_
  rw [show (#[Value.pointer (some p), .pointer (some q), .pointer (some r)] ++ Array.replicate (Try.f62.ntmps - (#[Value.pointer (some p), .pointer (some q), .pointer (some r)]).size) undef) = #[Value.pointer (some p), .pointer (some q), .pointer (some r), undef, undef, undef, undef, undef, undef, undef, undef] from rfl]
  apply wpS_seq
  apply wpS_region
  simp [wpOpsS, go_sem, recoverD, hu, Exit.thenS, ta_nil]
  apply wpS_seq
  apply wpS_region
  simp [wpOpsS, go_sem, recoverD, hu, Exit.thenS]
  refine wpS_cond (t := false) (by simp [Act.eval]) ?_
  simp only [Bool.false_eq_true, if_false]
  refine wpS_of_wp (wp_skip ?_)
  cases c₀
  simp_all [bodyPostS, results, Try.results62]
  exact below_alloc (Below.refl _ _) _
/-- the three results of Take behind a panic -/
abbrev caught (w : World) (h : Nat) (x : Int) : World := (((w.alloc (.cells #[.int .i64 x] 103)).setCell ⟨h, 0, none⟩ (.slice none 0 0)).setCell ⟨h + 1, 0, none⟩ (.int .i64 0)).setCell ⟨h + 2, 0, none⟩ (.int .i64 4)
set_option maxRecDepth 100000 in
theorem tk_catch (h : Nat) (x : Int) (older : List PanicEntry) (w : World) (v4 v5 v6 : Value) (h4 : w.cell? ⟨h, 0, none⟩ = some v4) (h5 : w.cell? ⟨h + 1, 0, none⟩ = some v5) (h6 : w.cell? ⟨h + 2, 0, none⟩ = some v6) (f4 : w.frozen? ⟨h, 0, none⟩ = false) (f5 : w.frozen? ⟨h + 1, 0, none⟩ = false) (f6 : w.frozen? ⟨h + 2, 0, none⟩ = false) :
    CallsD Try.prog 62 #[.pointer (some ⟨h, 0, none⟩), .pointer (some ⟨h + 1, 0, none⟩), .pointer (some ⟨h + 2, 0, none⟩)] (.panicking ({ v := .iface 103 (.agg #[.int .i64 x]), recovered := false } :: older)) w fun e u' w' => e = .returned (.tuple #[]) ∧ u' = .panicking ({ v := .iface 103 (.agg #[.int .i64 x]), recovered := true } :: older) ∧ w' = caught w h x := by
  have hlt := World.block_lt_of_cell? w _ h6
  simp only at hlt
  have c4 : (w.alloc (.cells #[.int .i64 x] 103)).cell? ⟨h, 0, none⟩ = some v4 := (World.cell?_alloc_lt _ _ _ (by simp only; omega)).trans h4
  have c5 : (w.alloc (.cells #[.int .i64 x] 103)).cell? ⟨h + 1, 0, none⟩ = some v5 := (World.cell?_alloc_lt _ _ _ (by simp only; omega)).trans h5
  have c6 : (w.alloc (.cells #[.int .i64 x] 103)).cell? ⟨h + 2, 0, none⟩ = some v6 := (World.cell?_alloc_lt _ _ _ (by simp only; omega)).trans h6
  have g4 : (w.alloc (.cells #[.int .i64 x] 103)).frozen? ⟨h, 0, none⟩ = false := (World.frozen?_alloc_past _ _ _ (by omega)).trans f4
  have g5 : (w.alloc (.cells #[.int .i64 x] 103)).frozen? ⟨h + 1, 0, none⟩ = false := (World.frozen?_alloc_past _ _ _ (by omega)).trans f5
  have g6 : (w.alloc (.cells #[.int .i64 x] 103)).frozen? ⟨h + 2, 0, none⟩ = false := (World.frozen?_alloc_past _ _ _ (by omega)).trans f6
  clear h4 h5 h6 f4 f5 f6
  unfold caught
  refine callsD_of_wpS Try.func62 rfl fun c₀ cs hu => ?_
  rw [show (#[Value.pointer (some ⟨h, 0, none⟩), .pointer (some ⟨h + 1, 0, none⟩), .pointer (some ⟨h + 2, 0, none⟩)] ++ Array.replicate (Try.f62.ntmps - (#[Value.pointer (some (⟨h, 0, none⟩ : Addr)), .pointer (some ⟨h + 1, 0, none⟩), .pointer (some ⟨h + 2, 0, none⟩)]).size) undef) = #[Value.pointer (some ⟨h, 0, none⟩), .pointer (some ⟨h + 1, 0, none⟩), .pointer (some ⟨h + 2, 0, none⟩), undef, undef, undef, undef, undef, undef, undef, undef] from rfl]
  apply wpS_seq
  apply wpS_region
  simp [wpOpsS, go_sem, recoverD, hu, Exit.thenS, ta_short]
  generalize w.alloc (.cells #[.int .i64 x] 103) = wa at *
  apply wpS_seq
  apply wpS_region
  simp [wpOpsS, go_sem, recoverD, hu, Exit.thenS]
  refine wpS_cond (t := true) (by simp [Act.eval]) ?_
  simp only [if_true]
  apply wpS_region
  simp [wpOpsS, go_sem, c4, c5, c6, g4, g5, g6, bodyPostS, results, Try.results62]
end Go.Proofs.Ytbmcbhpkefjhbaa.Pac
