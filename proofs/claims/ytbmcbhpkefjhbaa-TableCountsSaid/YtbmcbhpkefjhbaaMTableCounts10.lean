/- Put together by wip/prune.py out of this claim's texts. -/
import Derived.ChangeOld
import Derived.Deep.Slices
import Derived.Laws.Cover2
import Derived.OpenShut
import Derived.ProofKit
import Derived.ShutString
import Derived.WalkKit
import Derived.Test.YtbmcbhpkefjhbaaMTableCounts4
import Derived.Test.YtbmcbhpkefjhbaaMTableCounts5
set_option linter.unusedVariables false
set_option linter.unusedSimpArgs false
namespace Go.Proofs.Ytbmcbhpkefjhbaa.Op
open Go.RowKit Go.ChangeShapes Go.WideShapes Go.Proofs.YtbmcbhpkefjhbaaW.PrintWords
def Opens {α : Type} (P : Program) (d : Kd α) (t : TypeId) (good : α → Prop) : Prop :=
  ∀ {H : Type} {enc : TypeId × Value → H} {w : World} {base : Nat} {sp : Nat → Bool} {held : Bool} {fuel : Nat} {cs : List Value} {x : DataW H × List MemPlace}, DataW.trod enc P w base sp held fuel t cs = some x → ∃ a, d.K w a cs ∧ good a
theorem opens_slice {α : Type} {P : Program} {d : Kd α} {t e : TypeId} {good : α → Prop} (hu : P.underlying t = some (.slice e)) (hc : P.cellsOf e = d.sz) (h1 : 0 < d.sz) (ho : Opens P d e good) (hi : Inhabited α) : Opens P (Kd.slice e d) t (fun l => (∀ x ∈ l, good x) ∧ l.length ≤ maxLen) := by
  intro H enc w base sp held fuel cs x h
  rcases Deep.open_slice hu h with ⟨hcs, _⟩ | ⟨a, len, cap, m, n, D, Pl, hcs, hb, hl, hm, hmm, _, hx⟩
  · exact ⟨[], ⟨none, 0, hcs, Nat.le_refl _, ⟨rfl, Nat.zero_le _, fun hp => absurd hp (Nat.lt_irrefl _)⟩⟩, ⟨(fun x hx => by cases hx), Nat.zero_le _⟩⟩
  · have hlm : len ≤ m := by rw [hmm]; split <;> omega
    have each : ∀ i, i < len → ∃ q : α, good q ∧ ∃ c : List Value, c.length = d.sz ∧ d.K w q c ∧ ∀ j u, c[j]? = some u → w.cell? (a.add (i * d.sz + j)) = some u := by
      intro i hi
      obtain ⟨cs', h2, h3⟩ := hx i (by omega)
      rw [hc] at h2
      obtain ⟨_, hlen, hcell⟩ := World.cells?_some h2
      obtain ⟨q, hq, hg⟩ := ho h3
      refine ⟨q, hg, cs', hlen, hq, fun j u hj => ?_⟩
      have hjl := (List.getElem?_eq_some_iff.1 hj).1
      have := hcell j (by omega)
      rw [add_add] at this
      rw [this, ← hj]
    obtain ⟨q, hq⟩ := Deep.choose_lt each
    have hll : ((List.range len).map q).length = len := by simp
    refine ⟨(List.range len).map q, ⟨some a, cap, by rw [hll]; exact hcs, by rw [hll]; exact hl, ⟨rfl, by rw [hll]; unfold maxLen at hm; omega, fun hp => ⟨a, rfl, fun j p hj => ?_⟩⟩⟩, ?_, by rw [hll]; omega⟩
    · obtain ⟨hj1, hj2⟩ := List.getElem?_eq_some_iff.1 hj
      rw [hll] at hj1
      simp at hj2
      subst hj2
      exact (hq j hj1).2
    · intro x hx
      obtain ⟨i, hi, rfl⟩ := List.mem_map.1 hx
      exact (hq i (List.mem_range.1 hi)).1
end Go.Proofs.Ytbmcbhpkefjhbaa.Op
set_option linter.unusedVariables false
set_option linter.unusedSimpArgs false
namespace Go.Proofs.Ytbmcbhpkefjhbaa.P
open Go.RowKit Go.ChangeShapes Go.WideShapes Go.Proofs.Ytbmcbhpkefjhbaa.Op Go.Proofs.YtbmcbhpkefjhbaaW.PrintWords
def good_pr8 (x : S32) : Prop := (Lit.int .u8 x.f0).wf = true ∧ (Lit.int .u8 x.f1).wf = true
set_option maxRecDepth 100000 in
theorem opens_pr8 : Opens Try.prog k32 32 good_pr8 := by
  intro H enc w base sp held fuel cs x h
  obtain ⟨ys, m, _, _, hlen, hl, hfld⟩ := DataW.trod_array Try.underlying32 h
  rw [show Try.prog.cellsOf 5 = 1 by kernel_rfl] at hfld
  have hl' : ys.length = 2 := hl
  have hlen' : cs.length = 2 := by
    first | exact hlen | (have := hlen; rw [show Try.prog.cellsOf 5 = 1 by kernel_rfl] at this; exact this) | (rw [hlen]; kernel_rfl)
  have h0 := hfld 0 (by decide)
  have h1 := hfld 1 (by decide)
  rw [List.getElem?_eq_getElem (by omega)] at h0 h1
  obtain ⟨n0, e0, _, w0⟩ := DataW.trod_int Try.underlying5 h0
  obtain ⟨n1, e1, _, w1⟩ := DataW.trod_int Try.underlying5 h1
  refine ⟨⟨n0, n1⟩, ?_, w0, w1⟩
  match cs, hlen' with
  | [v0, v1], _ =>
    simp at e0 e1
    subst e0 e1
    exact ⟨[.int .u8 n0], [.int .u8 n1], rfl, rfl, rfl⟩
set_option maxRecDepth 100000 in
theorem open_pr8 {H : Type} {enc : TypeId × Value → H} {W : World} {r : Reach} {b0 base : Nat} {sp : Nat → Bool} {held : Bool} {v : Value} {x : DataW H} {ps : List MemPlace} (hval : Value.okWide Try.prog W r b0 29 v) (hd : DataW.Trod enc Try.prog W base sp held 29 v x ps) :
    ∃ (l : List S32) (A : Option Addr) (c : Nat), v = .slice A l.length c ∧ l.length ≤ c ∧ Kd.C k32 W A l.length l ∧ (∀ x ∈ l, good_pr8 x) ∧ l.length ≤ maxLen := by
  obtain ⟨a, len, cap, rfl⟩ := okWide_slice Try.underlying29 hval
  obtain ⟨fuel, hf⟩ := hd
  obtain ⟨l, ⟨A, c, e, h1, h2⟩, hg⟩ := (opens_slice Try.underlying29 (by kernel_rfl) (by decide) opens_pr8 ⟨⟨0, 0⟩⟩) hf
  refine ⟨l, A, c, ?_, h1, h2, hg.1, hg.2⟩
  simp [Value.cells] at e
  obtain ⟨rfl, rfl, rfl⟩ := e
  rfl
end Go.Proofs.Ytbmcbhpkefjhbaa.P
