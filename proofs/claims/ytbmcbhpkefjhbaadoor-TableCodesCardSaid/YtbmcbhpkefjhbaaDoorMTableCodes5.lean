/- Put together by wip/prune.py out of this claim's texts. -/
import Derived.Lib.Bytes
import Derived.Lib.Hide
import Derived.Test.YtbmcbhpkefjhbaaDoorChecked
import Derived.WalkKit
import Derived.WalkLawsBesides
import Derived.Test.YtbmcbhpkefjhbaaDoorMTableCodes4
namespace Go.Proofs.YtbmcbhpkefjhbaaDoor.Mem
open Go.RowKit Go.Proofs.YtbmcbhpkefjhbaaDoorW.PrintWords Go.Proofs.YtbmcbhpkefjhbaaDoorW.PrintLast Go.Proofs.YtbmcbhpkefjhbaaDoorW.PrintMore
theorem ret_int {k : IntKind} {a b : Int} (h : a = b) : Ending.returned (.int k a) = .returned (.int k b) := by rw [h]
theorem ret_bool {a b : Bool} (h : a = b) : Ending.returned (.bool a) = .returned (.bool b) := by rw [h]
def Bytes (l : List Int) : Prop := ∀ x ∈ l, 0 ≤ x ∧ x ≤ 255
theorem Bytes.at_ {l : List Int} (h : Bytes l) (i : Nat) (hi : i < l.length) : 0 ≤ rd l i ∧ rd l i ≤ 255 := by
  have : rd l i = l[i] := by unfold rd; simp [List.getD_eq_getElem?_getD, hi]
  rw [this]; exact h _ (List.getElem_mem hi)
theorem Bytes.drop {l : List Int} (h : Bytes l) (n : Nat) : Bytes (l.drop n) := fun x hx => h x (List.mem_of_mem_drop hx)
theorem Bytes.take {l : List Int} (h : Bytes l) (n : Nat) : Bytes (l.take n) := fun x hx => h x (List.mem_of_mem_take hx)
theorem Bytes.append {l m : List Int} (h : Bytes l) (k : Bytes m) : Bytes (l ++ m) := fun x hx => (List.mem_append.1 hx).elim (h x) (k x)
theorem Bytes.nil : Bytes [] := fun x hx => by cases hx
theorem Bytes.cons {x : Int} {l : List Int} (h0 : 0 ≤ x) (h1 : x ≤ 255) (h : Bytes l) : Bytes (x :: l) := fun y hy => by
  rcases List.mem_cons.1 hy with rfl | hy
  · exact ⟨h0, h1⟩
  · exact h y hy
theorem take_snoc (l : List Int) (i : Nat) (hi : i < l.length) : l.take (i + 1) = l.take i ++ [rd l i] := by
  have : rd l i = l[i] := by unfold rd; simp [List.getD_eq_getElem?_getD, hi]
  rw [this, List.take_succ_eq_append_getElem hi]
theorem info8 : (Tryd.prog.info? 5).map (fun i => (i.zero, i.size, i.bytes)) = some (some (.int .u8 0), 1, 1) := by kernel_rfl
abbrev RdB (w : World) (A : Option Addr) (l : List Int) : Prop := Kd.C (Kd.int .u8) w A l.length l
def GotB (w : World) (v : Value) (l : List Int) : Prop := ∃ A c, v = .slice A l.length c ∧ l.length ≤ c ∧ RdB w A l
theorem GotB.nil (w : World) : GotB w (.slice none 0 0) [] := ⟨none, 0, rfl, Nat.le_refl _, (Kd.R_reads' (Kd.R_nil (Kd.int .u8) 5 w 0 (fun _ => True))).2.2⟩
theorem conv_str {w : World} {A : Option Addr} {l : List Int} (c : Nat) (h : RdB w A l) : (convert 22 9 (.slice A l.length c)).run Tryd.prog w = .ok (.string (strOfNums l)) w :=
  Kd.C_string (P := Tryd.prog) (A := A) (c := c) Tryd.underlying22 Tryd.underlying5 Tryd.underlying9 h
theorem str_inj {l m : List Int} (hl : Bytes l) (hm : Bytes m) (h : (strOfNums l).toList = (strOfNums m).toList) : l = m := by
  rw [Lib.strOfNums_toList, Lib.strOfNums_toList] at h
  have key : ∀ (l m : List Int), Bytes l → Bytes m → l.map (fun n => UInt8.ofNat n.toNat) = m.map (fun n => UInt8.ofNat n.toNat) → l = m := by
    intro l
    induction l with
    | nil => intro m _ _ h; cases m with
      | nil => rfl
      | cons y m => simp at h
    | cons x l ih => intro m hl hm h; cases m with
      | nil => simp at h
      | cons y m =>
        simp only [List.map_cons, List.cons.injEq] at h
        have hx := hl x List.mem_cons_self
        have hy := hm y List.mem_cons_self
        have h1 := congrArg UInt8.toNat h.1
        simp only [UInt8.toNat_ofNat'] at h1
        rw [ih m (fun z hz => hl z (List.mem_cons_of_mem _ hz)) (fun z hz => hm z (List.mem_cons_of_mem _ hz)) h.2, show x = y by omega]
  exact key l m hl hm h
theorem str_eq {l m : List Int} (hl : Bytes l) (hm : Bytes m) : ((strOfNums l).toList == (strOfNums m).toList) = decide (l = m) := by
  by_cases h : l = m
  · subst h; simp
  · rw [decide_eq_false h, beq_eq_false_iff_ne]; exact fun e => h (str_inj hl hm e)
end Go.Proofs.YtbmcbhpkefjhbaaDoor.Mem
