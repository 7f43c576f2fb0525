/- A slice of pairs of bytes that came in, and the walk of DsgCircles. -/
import Derived.Test.YtbmcbhpkefjhbaaDsgCiW
import Derived.WalkKit
import Derived.ProofKit
import Derived.OpenShut
import Derived.ShutString
import Derived.ChangeOld
import Derived.Laws.Cover2
import Derived.Deep.Slices
set_option linter.unusedVariables false
set_option linter.unusedSimpArgs false
namespace Go.Proofs.Ytbmcbhpkefjhbaa.Dsg
open Go.RowKit Go.ChangeShapes Go.WideShapes
set_option maxRecDepth 100000
theorem u8_wf {x : Int} (h : (Lit.int .u8 x).wf = true) : 0 ≤ x ∧ x ≤ 255 := by
  have : ([x] : List Int).length = 1 := rfl
  exact Mem.wf_bytes (l := [x]) (fun y hy => by rw [List.mem_singleton.1 hy]; exact h) x (List.mem_singleton.2 rfl)
theorem open_pairs8 {H : Type} {enc : TypeId × Value → H} {W : World} {b0 base : Nat} {r : Reach} {sp : Nat → Bool} {held : Bool} {v : Value} {d : DataW H} {ps : List MemPlace} (hval : Value.okWide Try.prog W r b0 29 v) (hd : DataW.Trod enc Try.prog W base sp held 29 v d ps) : ∃ A c, ∃ l : List (Int × Int), v = .slice A l.length c ∧ RdQ W A l := by
  obtain ⟨a, len, cap, rfl⟩ := okWide_slice Try.underlying29 hval
  obtain ⟨fuel, hf⟩ := hd
  rcases Deep.open_slice Try.underlying29 hf with ⟨hcs, _⟩ | ⟨x, len', cap', m, n, D, Pl, hcs, hb, hl, hm, hmm, _, hx⟩
  · simp [Value.cells] at hcs
    obtain ⟨rfl, rfl, rfl⟩ := hcs
    exact ⟨none, 0, [], rfl, fun j p hj => by simp at hj⟩
  · simp [Value.cells] at hcs
    obtain ⟨rfl, rfl, rfl⟩ := hcs
    have hlm : len ≤ m := by rw [hmm]; split <;> omega
    have ce : Try.prog.cellsOf 32 = 2 := by kernel_rfl
    have c1 : Try.prog.cellsOf 5 = 1 := by kernel_rfl
    have each : ∀ i, i < len → ∃ q : Int × Int, W.cell? (x.add (i * 2)) = some (.int .u8 q.1) ∧ W.cell? ⟨(x.add (i * 2)).block, (x.add (i * 2)).off + 1, none⟩ = some (.int .u8 q.2) ∧ (0 ≤ q.1 ∧ q.1 ≤ 255) ∧ (0 ≤ q.2 ∧ q.2 ≤ 255) := by
      intro i hi
      obtain ⟨cs', h1, h2⟩ := hx i (by omega)
      rw [ce] at h1
      obtain ⟨_, hlen, hcell⟩ := World.cells?_some h1
      obtain ⟨xs, k, hk, hxy, _, hxl, hfx⟩ := DataW.trod_array Try.underlying32 h2
      match xs, hxl, cs', hlen with
      | [y0, y1], _, [v0, v1], _ =>
        have g0 := hfx 0 (by decide)
        have g1 := hfx 1 (by decide)
        rw [c1] at g0 g1
        obtain ⟨n0, e0, _, wf0⟩ := DataW.trod_int Try.underlying5 g0
        obtain ⟨n1, e1, _, wf1⟩ := DataW.trod_int Try.underlying5 g1
        simp at e0 e1
        have z0 := hcell 0 (by omega)
        have z1 := hcell 1 (by omega)
        rw [Addr.add_zero'] at z0
        rw [Addr.add_succ'] at z1
        refine ⟨(n0, n1), ?_, ?_, u8_wf wf0, u8_wf wf1⟩
        · rw [z0, e0]; rfl
        · rw [← e1]; exact z1
    obtain ⟨q, hq⟩ := Deep.choose_lt each
    have hll : ((List.range len).map q).length = len := by simp
    refine ⟨some x, cap, (List.range len).map q, by rw [hll], fun j p hj => ?_⟩
    obtain ⟨hj1, hj2⟩ := List.getElem?_eq_some_iff.1 hj
    rw [hll] at hj1
    simp at hj2
    subst hj2
    exact ⟨x, rfl, (hq j hj1).1, (hq j hj1).2.1, (hq j hj1).2.2.1, (hq j hj1).2.2.2⟩
theorem DsgCircles_walk (w : World) (x : Int) (hx : (Lit.int .u8 x).wf = true) (A : Option Addr) (c : Nat) (l : List (Int × Int)) (hr : RdQ w A l) : Calls Try.prog 4 #[.int .u8 x, .slice A l.length c] w fun e w' => e = .returned (.bool true) ∧ Below w.heap.size w w' := Circ_test x (u8_wf hx) A c l w hr
end Go.Proofs.Ytbmcbhpkefjhbaa.Dsg
