/- Layer 3: an item that came in. -/
import Derived.Test.YtbmcbhpkefjhbaaPacSame
import Derived.WalkKit
import Derived.ProofKit
import Derived.OpenShut
import Derived.ShutString
import Derived.ChangeOld
import Derived.Laws.Cover2
set_option linter.unusedVariables false
set_option linter.unusedSimpArgs false
namespace Go.Proofs.Ytbmcbhpkefjhbaa.Pac
open Go.RowKit Go.ChangeShapes Go.WideShapes
theorem trod_flt {H : Type} {enc : TypeId × Value → H} {P : Program} {w : World} {base : Nat} {spare : Nat → Bool} {held : Bool} {fuel : Nat} {t : TypeId} {cs : List Value} {x : DataW H × List MemPlace} {k : FloatKind} (ht : P.underlying t = some (.float k)) (h : DataW.trod enc P w base spare held fuel t cs = some x) : ∃ n, cs = [.float k n] := by
  cases fuel with
  | zero => simp [DataW.trod] at h
  | succ n =>
    unfold DataW.trod at h
    rw [ht] at h
    split at h <;> simp_all
set_option maxRecDepth 100000
theorem open_it {H : Type} {enc : TypeId × Value → H} {W : World} {r : Reach} {b0 base : Nat} {sp : Nat → Bool} {held : Bool} {v : Value} {d : DataW H} {ps : List MemPlace} (hval : Value.okWide Try.prog W r b0 48 v) (hd : DataW.Trod enc Try.prog W base sp held 48 v d ps) : ∃ a : It, v = a.v := by
  have hu := Try.underlying48
  unfold Value.okWide at hval
  simp only [hu] at hval
  obtain ⟨cs, rfl, hsz, _⟩ := hval
  obtain ⟨fuel, hf⟩ := hd
  obtain ⟨ys, m, _, _, hlen, hl, hfld⟩ := DataW.trod_struct hu hf
  have hc1 : Try.prog.cellsOf 3 = 1 := by kernel_rfl
  have hc2 : Try.prog.cellsOf 37 = 1 := by kernel_rfl
  have hc3 : Try.prog.cellsOf 9 = 1 := by kernel_rfl
  have hc4 : Try.prog.cellsOf 48 = 4 := by kernel_rfl
  rw [hc4] at hsz
  have h0 : DataW.trod enc Try.prog W base sp held m 3 ((cs.toList.drop 0).take (Try.prog.cellsOf 3)) = ys[0]? := hfld 0 _ rfl
  have h1 : DataW.trod enc Try.prog W base sp held m 3 ((cs.toList.drop 1).take (Try.prog.cellsOf 3)) = ys[1]? := hfld 1 _ rfl
  have h2 : DataW.trod enc Try.prog W base sp held m 37 ((cs.toList.drop 2).take (Try.prog.cellsOf 37)) = ys[2]? := hfld 2 _ rfl
  have h3 : DataW.trod enc Try.prog W base sp held m 9 ((cs.toList.drop 3).take (Try.prog.cellsOf 9)) = ys[3]? := hfld 3 _ rfl
  rw [hc1] at h0 h1
  rw [hc2] at h2
  rw [hc3] at h3
  clear hfld hc1 hc2 hc3 hc4 hlen hf hu
  have hl4 : ys.length = 4 := hl
  obtain ⟨l⟩ := cs
  match ys, hl4 with
  | [y0, y1, y2, y3], _ =>
    have hls : l.length = 4 := hsz
    match l, hls with
    | [c0, c1, c2, c3], _ =>
      obtain ⟨n0, e0, _, _⟩ := DataW.trod_int Try.underlying3 h0
      obtain ⟨n1, e1, _, _⟩ := DataW.trod_int Try.underlying3 h1
      obtain ⟨n2, e2⟩ := trod_flt Try.underlying37 h2
      obtain ⟨s3, e3, _, _⟩ := DataW.trod_string Try.underlying9 h3
      simp at e0 e1 e2 e3
      subst e0 e1 e2 e3
      exact ⟨⟨n0, n1, n2, s3⟩, rfl⟩
theorem PackSame_walk (w : World) (a b : It) : Calls Try.prog 7 #[a.v, b.v] w fun e w' => e = .returned (.bool true) ∧ Below w.heap.size w w' := PackSame_it a b w
end Go.Proofs.Ytbmcbhpkefjhbaa.Pac
