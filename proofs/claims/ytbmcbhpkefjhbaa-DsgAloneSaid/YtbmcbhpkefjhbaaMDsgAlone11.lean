/- Put together by wip/prune.py out of this claim's texts. -/
import Derived.ChangeOld
import Derived.Deep.Slices
import Derived.Laws.Cover2
import Derived.OpenShut
import Derived.ProofKit
import Derived.ShutString
import Derived.WalkKit
import Derived.Test.YtbmcbhpkefjhbaaMDsgAlone3
import Derived.Test.YtbmcbhpkefjhbaaMDsgAlone4
set_option linter.unusedVariables false
set_option linter.unusedSimpArgs false
namespace Go.Proofs.Ytbmcbhpkefjhbaa.Op
open Go.RowKit Go.ChangeShapes Go.WideShapes Go.Proofs.YtbmcbhpkefjhbaaW.PrintWords
def Opens {α : Type} (P : Program) (d : Kd α) (t : TypeId) (good : α → Prop) : Prop :=
  ∀ {H : Type} {enc : TypeId × Value → H} {w : World} {base : Nat} {sp : Nat → Bool} {held : Bool} {fuel : Nat} {cs : List Value} {x : DataW H × List MemPlace}, DataW.trod enc P w base sp held fuel t cs = some x → ∃ a, d.K w a cs ∧ good a
theorem opens_int {P : Program} {t : TypeId} {k : IntKind} (hu : P.underlying t = some (.int k)) : Opens P (Kd.int k) t (fun n => (Lit.int k n).wf = true) := by
  intro H enc w base sp held fuel cs x h
  obtain ⟨n, e, _, hw⟩ := DataW.trod_int hu h
  exact ⟨n, e, hw⟩
theorem opens_bool {P : Program} {t : TypeId} (hu : P.underlying t = some .bool) : Opens P Kd.bool t (fun _ => True) := by
  intro H enc w base sp held fuel cs x h
  obtain ⟨n, e, _⟩ := DataW.trod_bool hu h
  exact ⟨n, e, trivial⟩
theorem trod_fl {H : Type} {enc : TypeId × Value → H} {P : Program} {w : World} {base : Nat} {spare : Nat → Bool} {held : Bool} {fuel : Nat} {t : TypeId} {cs : List Value} {x : DataW H × List MemPlace} {k : FloatKind} (ht : P.underlying t = some (.float k)) (h : DataW.trod enc P w base spare held fuel t cs = some x) : ∃ n, cs = [.float k n] := by
  cases fuel with
  | zero => simp [DataW.trod] at h
  | succ n =>
    unfold DataW.trod at h
    rw [ht] at h
    split at h <;> simp_all
theorem opens_f64 {P : Program} {t : TypeId} (hu : P.underlying t = some (.float .f64)) : Opens P Kd.f64 t (fun n => n < 18446744073709551616) := by
  intro H enc w base sp held fuel cs x h
  obtain ⟨n, rfl⟩ := trod_fl hu h
  cases fuel with
  | zero => simp [DataW.trod] at h
  | succ m =>
    unfold DataW.trod at h
    rw [hu] at h
    simp only at h
    split at h
    · rename_i h1
      exact ⟨n, rfl, of_decide_eq_true h1.2⟩
    · cases h
theorem opens_slice {α : Type} {P : Program} {d : Kd α} {t e : TypeId} {good : α → Prop} (hu : P.underlying t = some (.slice e)) (hc : P.cellsOf e = d.sz) (h1 : 0 < d.sz) (ho : Opens P d e good) (hi : Inhabited α) : Opens P (Kd.slice e d) t (fun l => (∀ x ∈ l, good x) ∧ l.length ≤ maxLen) := by
  intro H enc w base sp held fuel cs x h
  rcases Deep.open_slice hu h with ⟨hcs, _⟩ | ⟨a, len, cap, m, n, D, Pl, hcs, hb, hl, hm, hmm, _, hx⟩
  · exact ⟨[], ⟨none, 0, hcs, Nat.le_refl _, ⟨rfl, Nat.zero_le _, fun hp => absurd hp (Nat.lt_irrefl _)⟩⟩, ⟨(fun x hx => by cases hx), Nat.zero_le _⟩⟩
  · have hlm : len ≤ m := by rw [hmm]; split <;> omega
    have each : ∀ i, i < len → ∃ q : α, good q ∧ ∃ c : List Value, c.length = d.sz ∧ d.K w q c ∧ ∀ j u, c[j]? = some u → w.cell? (a.add (i * d.sz + j)) = some u := by
      intro i hi
      obtain ⟨cs', h2, h3⟩ := hx i (by omega)
      rw [hc] at h2
      obtain ⟨_, hlen, hcell⟩ := World.cells?_some h2
      obtain ⟨q, hq, hg⟩ := ho h3
      refine ⟨q, hg, cs', hlen, hq, fun j u hj => ?_⟩
      have hjl := (List.getElem?_eq_some_iff.1 hj).1
      have := hcell j (by omega)
      rw [add_add] at this
      rw [this, ← hj]
    obtain ⟨q, hq⟩ := Deep.choose_lt each
    have hll : ((List.range len).map q).length = len := by simp
    refine ⟨(List.range len).map q, ⟨some a, cap, by rw [hll]; exact hcs, by rw [hll]; exact hl, ⟨rfl, by rw [hll]; unfold maxLen at hm; omega, fun hp => ⟨a, rfl, fun j p hj => ?_⟩⟩⟩, ?_, by rw [hll]; omega⟩
    · obtain ⟨hj1, hj2⟩ := List.getElem?_eq_some_iff.1 hj
      rw [hll] at hj1
      simp at hj2
      subst hj2
      exact (hq j hj1).2
    · intro x hx
      obtain ⟨i, hi, rfl⟩ := List.mem_map.1 hx
      exact (hq i (List.mem_range.1 hi)).1
theorem pair_step {α β : Type} {a : Kd α} {b : Kd β} {w : World} {x : α} {y : β} {cs : List Value} (o s : Nat) (ha : a.K w x ((cs.drop o).take s)) (hb : b.K w y (cs.drop (o + s))) : (Kd.pair a b).K w (x, y) (cs.drop o) :=
  ⟨(cs.drop o).take s, cs.drop (o + s), by rw [← List.drop_drop, List.take_append_drop], ha, hb⟩
theorem last_step {α : Type} {a : Kd α} {w : World} {x : α} {cs : List Value} (o s : Nat) (hl : cs.length ≤ o + s) (ha : a.K w x ((cs.drop o).take s)) : a.K w x (cs.drop o) := by
  rwa [List.take_of_length_le (by rw [List.length_drop]; omega)] at ha
end Go.Proofs.Ytbmcbhpkefjhbaa.Op
set_option linter.unusedVariables false
set_option linter.unusedSimpArgs false
namespace Go.Proofs.Ytbmcbhpkefjhbaa.P
open Go.RowKit Go.ChangeShapes Go.WideShapes Go.Proofs.YtbmcbhpkefjhbaaW.PrintWords Go.Proofs.Ytbmcbhpkefjhbaa.Op
def good_roll (x : S122) : Prop := (Lit.int .i64 x.f0).wf = true ∧ (Lit.int .i64 x.f1).wf = true
set_option maxRecDepth 100000 in
theorem opens_roll : Opens Try.prog k122 122 good_roll := by
  intro H enc w base sp held fuel cs x h
  obtain ⟨ys, m, _, _, hlen, hl, hfld⟩ := DataW.trod_struct Try.underlying122 h
  rw [show Try.prog.cellsOf 122 = 2 by kernel_rfl] at hlen
  have hl' : ys.length = 2 := hl
  have h0 : DataW.trod enc Try.prog w base sp held m 3 ((cs.drop 0).take (Try.prog.cellsOf 3)) = ys[0]? := hfld 0 _ rfl
  rw [show Try.prog.cellsOf 3 = 1 by kernel_rfl, List.getElem?_eq_getElem (by omega)] at h0
  obtain ⟨x0, k0, g0⟩ := (opens_int Try.underlying3) h0
  have h1 : DataW.trod enc Try.prog w base sp held m 3 ((cs.drop 1).take (Try.prog.cellsOf 3)) = ys[1]? := hfld 1 _ rfl
  rw [show Try.prog.cellsOf 3 = 1 by kernel_rfl, List.getElem?_eq_getElem (by omega)] at h1
  obtain ⟨x1, k1, g1⟩ := (opens_int Try.underlying3) h1
  refine ⟨⟨x0, x1⟩, ?_, ⟨g0, g1⟩⟩
  have hk := pair_step 0 1 k0 (last_step 1 1 (by omega) k1)
  rw [List.drop_zero] at hk
  exact hk
def good_row (x : S124) : Prop := x.f0 < 18446744073709551616 ∧ ((∀ z ∈ x.f2, z < 18446744073709551616) ∧ x.f2.length ≤ maxLen) ∧ (Lit.int .i64 x.f3).wf = true ∧ good_roll x.f4
set_option maxRecDepth 100000 in
theorem opens_row : Opens Try.prog k124 124 good_row := by
  intro H enc w base sp held fuel cs x h
  obtain ⟨ys, m, _, _, hlen, hl, hfld⟩ := DataW.trod_struct Try.underlying124 h
  rw [show Try.prog.cellsOf 124 = 6 by kernel_rfl] at hlen
  have hl' : ys.length = 5 := hl
  have h0 : DataW.trod enc Try.prog w base sp held m 37 ((cs.drop 0).take (Try.prog.cellsOf 37)) = ys[0]? := hfld 0 _ rfl
  rw [show Try.prog.cellsOf 37 = 1 by kernel_rfl, List.getElem?_eq_getElem (by omega)] at h0
  obtain ⟨x0, k0, g0⟩ := (opens_f64 Try.underlying37) h0
  have h1 : DataW.trod enc Try.prog w base sp held m 4 ((cs.drop 1).take (Try.prog.cellsOf 4)) = ys[1]? := hfld 1 _ rfl
  rw [show Try.prog.cellsOf 4 = 1 by kernel_rfl, List.getElem?_eq_getElem (by omega)] at h1
  obtain ⟨x1, k1, g1⟩ := (opens_bool Try.underlying4) h1
  have h2 : DataW.trod enc Try.prog w base sp held m 83 ((cs.drop 2).take (Try.prog.cellsOf 83)) = ys[2]? := hfld 2 _ rfl
  rw [show Try.prog.cellsOf 83 = 1 by kernel_rfl, List.getElem?_eq_getElem (by omega)] at h2
  obtain ⟨x2, k2, g2⟩ := (opens_slice Try.underlying83 (by kernel_rfl) (by decide) (opens_f64 Try.underlying37) ⟨0⟩) h2
  have h3 : DataW.trod enc Try.prog w base sp held m 3 ((cs.drop 3).take (Try.prog.cellsOf 3)) = ys[3]? := hfld 3 _ rfl
  rw [show Try.prog.cellsOf 3 = 1 by kernel_rfl, List.getElem?_eq_getElem (by omega)] at h3
  obtain ⟨x3, k3, g3⟩ := (opens_int Try.underlying3) h3
  have h4 : DataW.trod enc Try.prog w base sp held m 122 ((cs.drop 4).take (Try.prog.cellsOf 122)) = ys[4]? := hfld 4 _ rfl
  rw [show Try.prog.cellsOf 122 = 2 by kernel_rfl, List.getElem?_eq_getElem (by omega)] at h4
  obtain ⟨x4, k4, g4⟩ := opens_roll h4
  refine ⟨⟨x0, x1, x2, x3, x4⟩, ?_, ⟨g0, g2, g3, g4⟩⟩
  have hk := pair_step 0 1 k0 (pair_step 1 1 k1 (pair_step 2 1 k2 (pair_step 3 1 k3 (last_step 4 2 (by omega) k4))))
  rw [List.drop_zero] at hk
  exact hk
end Go.Proofs.Ytbmcbhpkefjhbaa.P
set_option linter.unusedVariables false
set_option linter.unusedSimpArgs false
namespace Go.Proofs.Ytbmcbhpkefjhbaa.P
open Go.RowKit Go.ChangeShapes Go.WideShapes Go.Proofs.YtbmcbhpkefjhbaaW.PrintWords Go.Proofs.Ytbmcbhpkefjhbaa.Op
def good_deed (x : S85) : Prop := (Lit.int .i64 x.f0).wf = true ∧ (Lit.int .i64 x.f1).wf = true ∧ x.f2 < 18446744073709551616 ∧ x.f3 < 18446744073709551616 ∧ (Lit.int .i64 x.f5).wf = true
set_option maxRecDepth 100000 in
theorem opens_deed : Opens Try.prog k85 85 good_deed := by
  intro H enc w base sp held fuel cs x h
  obtain ⟨ys, m, _, _, hlen, hl, hfld⟩ := DataW.trod_struct Try.underlying85 h
  rw [show Try.prog.cellsOf 85 = 7 by kernel_rfl] at hlen
  have hl' : ys.length = 7 := hl
  have h0 : DataW.trod enc Try.prog w base sp held m 3 ((cs.drop 0).take (Try.prog.cellsOf 3)) = ys[0]? := hfld 0 _ rfl
  rw [show Try.prog.cellsOf 3 = 1 by kernel_rfl, List.getElem?_eq_getElem (by omega)] at h0
  obtain ⟨x0, k0, g0⟩ := (opens_int Try.underlying3) h0
  have h1 : DataW.trod enc Try.prog w base sp held m 3 ((cs.drop 1).take (Try.prog.cellsOf 3)) = ys[1]? := hfld 1 _ rfl
  rw [show Try.prog.cellsOf 3 = 1 by kernel_rfl, List.getElem?_eq_getElem (by omega)] at h1
  obtain ⟨x1, k1, g1⟩ := (opens_int Try.underlying3) h1
  have h2 : DataW.trod enc Try.prog w base sp held m 37 ((cs.drop 2).take (Try.prog.cellsOf 37)) = ys[2]? := hfld 2 _ rfl
  rw [show Try.prog.cellsOf 37 = 1 by kernel_rfl, List.getElem?_eq_getElem (by omega)] at h2
  obtain ⟨x2, k2, g2⟩ := (opens_f64 Try.underlying37) h2
  have h3 : DataW.trod enc Try.prog w base sp held m 37 ((cs.drop 3).take (Try.prog.cellsOf 37)) = ys[3]? := hfld 3 _ rfl
  rw [show Try.prog.cellsOf 37 = 1 by kernel_rfl, List.getElem?_eq_getElem (by omega)] at h3
  obtain ⟨x3, k3, g3⟩ := (opens_f64 Try.underlying37) h3
  have h4 : DataW.trod enc Try.prog w base sp held m 83 ((cs.drop 4).take (Try.prog.cellsOf 83)) = ys[4]? := hfld 4 _ rfl
  rw [show Try.prog.cellsOf 83 = 1 by kernel_rfl, List.getElem?_eq_getElem (by omega)] at h4
  obtain ⟨x4, k4, g4⟩ := (opens_slice Try.underlying83 (by kernel_rfl) (by decide) (opens_f64 Try.underlying37) ⟨0⟩) h4
  have h5 : DataW.trod enc Try.prog w base sp held m 3 ((cs.drop 5).take (Try.prog.cellsOf 3)) = ys[5]? := hfld 5 _ rfl
  rw [show Try.prog.cellsOf 3 = 1 by kernel_rfl, List.getElem?_eq_getElem (by omega)] at h5
  obtain ⟨x5, k5, g5⟩ := (opens_int Try.underlying3) h5
  have h6 : DataW.trod enc Try.prog w base sp held m 81 ((cs.drop 6).take (Try.prog.cellsOf 81)) = ys[6]? := hfld 6 _ rfl
  rw [show Try.prog.cellsOf 81 = 1 by kernel_rfl, List.getElem?_eq_getElem (by omega)] at h6
  obtain ⟨x6, k6, g6⟩ := (opens_slice Try.underlying81 (by kernel_rfl) (by decide) (opens_bool Try.underlying4) ⟨false⟩) h6
  refine ⟨⟨x0, x1, x2, x3, x4, x5, x6⟩, ?_, ⟨g0, g1, g2, g3, g5⟩⟩
  have hk := pair_step 0 1 k0 (pair_step 1 1 k1 (pair_step 2 1 k2 (pair_step 3 1 k3 (pair_step 4 1 k4 (pair_step 5 1 k5 (last_step 6 1 (by omega) k6))))))
  rw [List.drop_zero] at hk
  exact hk
def good_reply (x : S87) : Prop := (Lit.int .i64 x.f3).wf = true
set_option maxRecDepth 100000 in
theorem opens_reply : Opens Try.prog k87 87 good_reply := by
  intro H enc w base sp held fuel cs x h
  obtain ⟨ys, m, _, _, hlen, hl, hfld⟩ := DataW.trod_struct Try.underlying87 h
  rw [show Try.prog.cellsOf 87 = 4 by kernel_rfl] at hlen
  have hl' : ys.length = 4 := hl
  have h0 : DataW.trod enc Try.prog w base sp held m 53 ((cs.drop 0).take (Try.prog.cellsOf 53)) = ys[0]? := hfld 0 _ rfl
  rw [show Try.prog.cellsOf 53 = 1 by kernel_rfl, List.getElem?_eq_getElem (by omega)] at h0
  obtain ⟨x0, k0, g0⟩ := (opens_int Try.underlying53) h0
  have h1 : DataW.trod enc Try.prog w base sp held m 4 ((cs.drop 1).take (Try.prog.cellsOf 4)) = ys[1]? := hfld 1 _ rfl
  rw [show Try.prog.cellsOf 4 = 1 by kernel_rfl, List.getElem?_eq_getElem (by omega)] at h1
  obtain ⟨x1, k1, g1⟩ := (opens_bool Try.underlying4) h1
  have h2 : DataW.trod enc Try.prog w base sp held m 41 ((cs.drop 2).take (Try.prog.cellsOf 41)) = ys[2]? := hfld 2 _ rfl
  rw [show Try.prog.cellsOf 41 = 1 by kernel_rfl, List.getElem?_eq_getElem (by omega)] at h2
  obtain ⟨x2, k2, g2⟩ := (opens_slice Try.underlying41 (by kernel_rfl) (by decide) opens_row ⟨z124⟩) h2
  have h3 : DataW.trod enc Try.prog w base sp held m 3 ((cs.drop 3).take (Try.prog.cellsOf 3)) = ys[3]? := hfld 3 _ rfl
  rw [show Try.prog.cellsOf 3 = 1 by kernel_rfl, List.getElem?_eq_getElem (by omega)] at h3
  obtain ⟨x3, k3, g3⟩ := (opens_int Try.underlying3) h3
  refine ⟨⟨x0, x1, x2, x3⟩, ?_, g3⟩
  have hk := pair_step 0 1 k0 (pair_step 1 1 k1 (pair_step 2 1 k2 (last_step 3 1 (by omega) k3)))
  rw [List.drop_zero] at hk
  exact hk
def good_event (x : S89) : Prop := good_deed x.f0
set_option maxRecDepth 100000 in
theorem opens_event : Opens Try.prog k89 89 good_event := by
  intro H enc w base sp held fuel cs x h
  obtain ⟨ys, m, _, _, hlen, hl, hfld⟩ := DataW.trod_struct Try.underlying89 h
  rw [show Try.prog.cellsOf 89 = 11 by kernel_rfl] at hlen
  have hl' : ys.length = 2 := hl
  have h0 : DataW.trod enc Try.prog w base sp held m 85 ((cs.drop 0).take (Try.prog.cellsOf 85)) = ys[0]? := hfld 0 _ rfl
  rw [show Try.prog.cellsOf 85 = 7 by kernel_rfl, List.getElem?_eq_getElem (by omega)] at h0
  obtain ⟨x0, k0, g0⟩ := opens_deed h0
  have h1 : DataW.trod enc Try.prog w base sp held m 87 ((cs.drop 7).take (Try.prog.cellsOf 87)) = ys[1]? := hfld 1 _ rfl
  rw [show Try.prog.cellsOf 87 = 4 by kernel_rfl, List.getElem?_eq_getElem (by omega)] at h1
  obtain ⟨x1, k1, g1⟩ := opens_reply h1
  refine ⟨⟨x0, x1⟩, ?_, g0⟩
  have hk := pair_step 0 7 k0 (last_step 7 4 (by omega) k1)
  rw [List.drop_zero] at hk
  exact hk
def good_story (x : S43) : Prop := (Lit.int .i64 x.f0).wf = true ∧ (Lit.int .i64 x.f1).wf = true ∧ ((∀ z ∈ x.f2, good_event z) ∧ x.f2.length ≤ maxLen) ∧ ((∀ z ∈ x.f3, good_row z) ∧ x.f3.length ≤ maxLen)
set_option maxRecDepth 100000 in
theorem opens_story : Opens Try.prog k43 43 good_story := by
  intro H enc w base sp held fuel cs x h
  obtain ⟨ys, m, _, _, hlen, hl, hfld⟩ := DataW.trod_struct Try.underlying43 h
  rw [show Try.prog.cellsOf 43 = 5 by kernel_rfl] at hlen
  have hl' : ys.length = 5 := hl
  have h0 : DataW.trod enc Try.prog w base sp held m 3 ((cs.drop 0).take (Try.prog.cellsOf 3)) = ys[0]? := hfld 0 _ rfl
  rw [show Try.prog.cellsOf 3 = 1 by kernel_rfl, List.getElem?_eq_getElem (by omega)] at h0
  obtain ⟨x0, k0, g0⟩ := (opens_int Try.underlying3) h0
  have h1 : DataW.trod enc Try.prog w base sp held m 3 ((cs.drop 1).take (Try.prog.cellsOf 3)) = ys[1]? := hfld 1 _ rfl
  rw [show Try.prog.cellsOf 3 = 1 by kernel_rfl, List.getElem?_eq_getElem (by omega)] at h1
  obtain ⟨x1, k1, g1⟩ := (opens_int Try.underlying3) h1
  have h2 : DataW.trod enc Try.prog w base sp held m 40 ((cs.drop 2).take (Try.prog.cellsOf 40)) = ys[2]? := hfld 2 _ rfl
  rw [show Try.prog.cellsOf 40 = 1 by kernel_rfl, List.getElem?_eq_getElem (by omega)] at h2
  obtain ⟨x2, k2, g2⟩ := (opens_slice Try.underlying40 (by kernel_rfl) (by decide) opens_event ⟨z89⟩) h2
  have h3 : DataW.trod enc Try.prog w base sp held m 41 ((cs.drop 3).take (Try.prog.cellsOf 41)) = ys[3]? := hfld 3 _ rfl
  rw [show Try.prog.cellsOf 41 = 1 by kernel_rfl, List.getElem?_eq_getElem (by omega)] at h3
  obtain ⟨x3, k3, g3⟩ := (opens_slice Try.underlying41 (by kernel_rfl) (by decide) opens_row ⟨z124⟩) h3
  have h4 : DataW.trod enc Try.prog w base sp held m 24 ((cs.drop 4).take (Try.prog.cellsOf 24)) = ys[4]? := hfld 4 _ rfl
  rw [show Try.prog.cellsOf 24 = 1 by kernel_rfl, List.getElem?_eq_getElem (by omega)] at h4
  obtain ⟨x4, k4, g4⟩ := (opens_slice Try.underlying24 (by kernel_rfl) (by decide) (opens_int Try.underlying3) ⟨0⟩) h4
  refine ⟨⟨x0, x1, x2, x3, x4⟩, ?_, ⟨g0, g1, g2, g3⟩⟩
  have hk := pair_step 0 1 k0 (pair_step 1 1 k1 (pair_step 2 1 k2 (pair_step 3 1 k3 (last_step 4 1 (by omega) k4))))
  rw [List.drop_zero] at hk
  exact hk
set_option maxRecDepth 100000 in
theorem open_stories {H : Type} {enc : TypeId × Value → H} {W : World} {r : Reach} {b0 base : Nat} {sp : Nat → Bool} {held : Bool} {v : Value} {x : DataW H} {ps : List MemPlace} (hval : Value.okWide Try.prog W r b0 36 v) (hd : DataW.Trod enc Try.prog W base sp held 36 v x ps) :
    ∃ (l : List S43) (A : Option Addr) (c : Nat), v = .slice A l.length c ∧ l.length ≤ c ∧ Kd.C k43 W A l.length l ∧ (∀ x ∈ l, good_story x) ∧ l.length ≤ maxLen := by
  obtain ⟨a, len, cap, rfl⟩ := okWide_slice Try.underlying36 hval
  obtain ⟨fuel, hf⟩ := hd
  obtain ⟨l, ⟨A, c, e, h1, h2⟩, hg⟩ := (opens_slice Try.underlying36 (by kernel_rfl) (by decide) opens_story ⟨z43⟩) hf
  refine ⟨l, A, c, ?_, h1, h2, hg.1, hg.2⟩
  simp [Value.cells] at e
  obtain ⟨rfl, rfl, rfl⟩ := e
  rfl
end Go.Proofs.Ytbmcbhpkefjhbaa.P
