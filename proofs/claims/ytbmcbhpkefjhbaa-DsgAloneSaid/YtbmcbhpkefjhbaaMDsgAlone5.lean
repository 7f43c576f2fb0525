/- Put together by wip/prune.py out of this claim's texts. -/
import Derived.Lib.Bytes
import Derived.Lib.Hide
import Derived.Test.YtbmcbhpkefjhbaaChecked
import Derived.WalkKit
import Derived.WalkLawsBesides
import Derived.Test.YtbmcbhpkefjhbaaMDsgAlone3
namespace Go.Proofs.Ytbmcbhpkefjhbaa.Mem
open Go.RowKit Go.Proofs.YtbmcbhpkefjhbaaW.PrintWords Go.Proofs.YtbmcbhpkefjhbaaW.PrintLast Go.Proofs.YtbmcbhpkefjhbaaW.PrintMore
theorem ret_int {k : IntKind} {a b : Int} (h : a = b) : Ending.returned (.int k a) = .returned (.int k b) := by rw [h]
theorem ret_bool {a b : Bool} (h : a = b) : Ending.returned (.bool a) = .returned (.bool b) := by rw [h]
def Bytes (l : List Int) : Prop := ∀ x ∈ l, 0 ≤ x ∧ x ≤ 255
theorem Bytes.at_ {l : List Int} (h : Bytes l) (i : Nat) (hi : i < l.length) : 0 ≤ rd l i ∧ rd l i ≤ 255 := by
  have : rd l i = l[i] := by unfold rd; simp [List.getD_eq_getElem?_getD, hi]
  rw [this]; exact h _ (List.getElem_mem hi)
theorem Bytes.drop {l : List Int} (h : Bytes l) (n : Nat) : Bytes (l.drop n) := fun x hx => h x (List.mem_of_mem_drop hx)
theorem Bytes.take {l : List Int} (h : Bytes l) (n : Nat) : Bytes (l.take n) := fun x hx => h x (List.mem_of_mem_take hx)
theorem Bytes.append {l m : List Int} (h : Bytes l) (k : Bytes m) : Bytes (l ++ m) := fun x hx => (List.mem_append.1 hx).elim (h x) (k x)
theorem Bytes.nil : Bytes [] := fun x hx => by cases hx
theorem Bytes.cons {x : Int} {l : List Int} (h0 : 0 ≤ x) (h1 : x ≤ 255) (h : Bytes l) : Bytes (x :: l) := fun y hy => by
  rcases List.mem_cons.1 hy with rfl | hy
  · exact ⟨h0, h1⟩
  · exact h y hy
abbrev RdB (w : World) (A : Option Addr) (l : List Int) : Prop := Kd.C (Kd.int .u8) w A l.length l
def GotB (w : World) (v : Value) (l : List Int) : Prop := ∃ A c, v = .slice A l.length c ∧ l.length ≤ c ∧ RdB w A l
theorem GotB.nil (w : World) : GotB w (.slice none 0 0) [] := ⟨none, 0, rfl, Nat.le_refl _, (Kd.R_reads' (Kd.R_nil (Kd.int .u8) 5 w 0 (fun _ => True))).2.2⟩
end Go.Proofs.Ytbmcbhpkefjhbaa.Mem
