/- A slice of items that came in. -/
import Derived.Test.YtbmcbhpkefjhbaaPacPuts
import Derived.Test.YtbmcbhpkefjhbaaPacOpen
import Derived.Deep.Slices
set_option linter.unusedVariables false
set_option linter.unusedSimpArgs false
namespace Go.Proofs.Ytbmcbhpkefjhbaa.Pac
open Go.RowKit Go.ChangeShapes Go.WideShapes Go.Proofs.YtbmcbhpkefjhbaaW.PrintWords
theorem trod_flt_wf {H : Type} {enc : TypeId × Value → H} {P : Program} {w : World} {base : Nat} {spare : Nat → Bool} {held : Bool} {fuel : Nat} {t : TypeId} {cs : List Value} {x : DataW H × List MemPlace} (ht : P.underlying t = some (.float .f64)) (h : DataW.trod enc P w base spare held fuel t cs = some x) : ∃ n, cs = [.float .f64 n] ∧ n < 18446744073709551616 := by
  obtain ⟨n, rfl⟩ := trod_flt ht h
  cases fuel with
  | zero => simp [DataW.trod] at h
  | succ m =>
    unfold DataW.trod at h
    rw [ht] at h
    simp only at h
    split at h
    · rename_i h1
      exact ⟨n, rfl, of_decide_eq_true h1.2⟩
    · cases h
set_option maxRecDepth 100000
theorem open_items {H : Type} {enc : TypeId × Value → H} {W : World} {b0 base : Nat} {r : Reach} {sp : Nat → Bool} {held : Bool} {v : Value} {d : DataW H} {ps : List MemPlace} (hval : Value.okWide Try.prog W r b0 50 v) (hd : DataW.Trod enc Try.prog W base sp held 50 v d ps) : ∃ A c, ∃ l : List It, v = .slice A l.length c ∧ RdT W A l := by
  obtain ⟨a, len, cap, rfl⟩ := okWide_slice Try.underlying50 hval
  obtain ⟨fuel, hf⟩ := hd
  rcases Deep.open_slice Try.underlying50 hf with ⟨hcs, _⟩ | ⟨x, len', cap', m, n, D, Pl, hcs, hb, hl, hm, hmm, _, hx⟩
  · simp [Value.cells] at hcs
    obtain ⟨rfl, rfl, rfl⟩ := hcs
    exact ⟨none, 0, [], rfl, fun j p hj => by simp at hj⟩
  · simp [Value.cells] at hcs
    obtain ⟨rfl, rfl, rfl⟩ := hcs
    have hlm : len ≤ m := by rw [hmm]; split <;> omega
    have ce : Try.prog.cellsOf 48 = 4 := by kernel_rfl
    have hc1 : Try.prog.cellsOf 3 = 1 := by kernel_rfl
    have hc2 : Try.prog.cellsOf 37 = 1 := by kernel_rfl
    have hc3 : Try.prog.cellsOf 9 = 1 := by kernel_rfl
    have each : ∀ i, i < len → ∃ a : It, ItAt W (x.add (i * 4)) a ∧ a.x < 18446744073709551616 := by
      intro i hi
      obtain ⟨cs', h1, h2⟩ := hx i (by omega)
      rw [ce] at h1
      obtain ⟨_, hlen, hcell⟩ := World.cells?_some h1
      obtain ⟨ys, m2, _, _, _, hl4, hfld⟩ := DataW.trod_struct Try.underlying48 h2
      have g0 : DataW.trod enc Try.prog W base sp held m2 3 ((cs'.drop 0).take (Try.prog.cellsOf 3)) = ys[0]? := hfld 0 _ rfl
      have g1 : DataW.trod enc Try.prog W base sp held m2 3 ((cs'.drop 1).take (Try.prog.cellsOf 3)) = ys[1]? := hfld 1 _ rfl
      have g2 : DataW.trod enc Try.prog W base sp held m2 37 ((cs'.drop 2).take (Try.prog.cellsOf 37)) = ys[2]? := hfld 2 _ rfl
      have g3 : DataW.trod enc Try.prog W base sp held m2 9 ((cs'.drop 3).take (Try.prog.cellsOf 9)) = ys[3]? := hfld 3 _ rfl
      rw [hc1] at g0 g1
      rw [hc2] at g2
      rw [hc3] at g3
      have hl4' : ys.length = 4 := hl4
      have hls : cs'.length = 4 := hlen
      clear hfld h2
      match ys, hl4' with
      | [y0, y1, y2, y3], _ =>
        match cs', hls with
        | [v0, v1, v2, v3], _ =>
          obtain ⟨n0, e0, _, _⟩ := DataW.trod_int Try.underlying3 g0
          obtain ⟨n1, e1, _, _⟩ := DataW.trod_int Try.underlying3 g1
          obtain ⟨n2, e2, hn2⟩ := trod_flt_wf Try.underlying37 g2
          obtain ⟨s3, e3, _, _⟩ := DataW.trod_string Try.underlying9 g3
          simp at e0 e1 e2 e3
          subst e0 e1 e2 e3
          have z0 := hcell 0 (by omega)
          have z1 := hcell 1 (by omega)
          have z2 := hcell 2 (by omega)
          have z3 := hcell 3 (by omega)
          rw [add_add] at z0 z1 z2 z3
          rw [Nat.add_zero] at z0
          rw [add4 _ _ _ (by omega)] at z1 z2 z3
          exact ⟨⟨n0, n1, n2, s3⟩, ⟨z0, z1, z2, z3⟩, hn2⟩
    have : Inhabited It := ⟨⟨0, 0, 0, ⟨#[]⟩⟩⟩
    obtain ⟨q, hq⟩ := Deep.choose_lt each
    have hll : ((List.range len).map q).length = len := by simp
    refine ⟨some x, cap, (List.range len).map q, by rw [hll], fun j p hj => ?_⟩
    obtain ⟨hj1, hj2⟩ := List.getElem?_eq_some_iff.1 hj
    rw [hll] at hj1
    simp at hj2
    subst hj2
    exact ⟨x, rfl, (hq j hj1).1, (hq j hj1).2⟩
theorem PackPuts_walk (w : World) (A : Option Addr) (c : Nat) (l : List It) (hr : RdT w A l) : Calls Try.prog 8 #[.slice A l.length c] w fun e w' => e = .returned (.bool true) ∧ Below w.heap.size w w' := PackPuts_any A c l w hr
end Go.Proofs.Ytbmcbhpkefjhbaa.Pac
