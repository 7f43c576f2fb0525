/- Put together by wip/prune.py out of this claim's texts. -/
import Derived.Test.YtbmcbhpkefjhbaaMDsgEdges4
import Derived.Test.YtbmcbhpkefjhbaaMDsgEdges9
import Derived.Test.YtbmcbhpkefjhbaaMDsgEdges10
import Derived.Test.YtbmcbhpkefjhbaaMDsgEdges11
import Derived.Test.YtbmcbhpkefjhbaaMDsgEdges12
import Derived.Test.YtbmcbhpkefjhbaaMDsgEdges13
namespace Go.Proofs.Ytbmcbhpkefjhbaa.P
open Go.RowKit Go.Proofs.YtbmcbhpkefjhbaaW.PrintWords Go.Proofs.YtbmcbhpkefjhbaaW.PrintLast Go.Proofs.YtbmcbhpkefjhbaaW.PrintMore
attribute [local go_sem] max2_int min2_int max_two min_two max_three min_three max_four min_four   -- for this text's walks alone
attribute [local go_sem] run_store_float
set_option linter.unusedVariables false
set_option linter.unusedSimpArgs false
def slices_Index_int_int.l0 : Nat → List Int → Int → Int → Int → Option (Int)
 | 0,_,_,_,_ => none
 | k + 1,x0,x1,x7,x8 => if x8 < x7 then (if 0 ≤ x8 then (if x8 < (x0.length : Int) then (if x1 = (rd x0 x8) then (some x8) else (slices_Index_int_int.l0 k x0 x1 x7 (wrap64 (x8 + 1)))) else (none)) else (none)) else (some (-1))
def slices_Index_int_int.f (k : Nat) (l0 : List Int) (a1 : Int) : Option (Int):=slices_Index_int_int.l0 k l0 a1 (l0.length : Int) 0
theorem slices_Index_int_int.mono_l : ∀ k,(∀ y0 y1 y2 y3,LeO (slices_Index_int_int.l0 k y0 y1 y2 y3) (slices_Index_int_int.l0 (k + 1) y0 y1 y2 y3))
 | 0 => fun _ _ _ _ r h => by simp [slices_Index_int_int.l0] at h
 | k + 1 => by
  have ih0:=slices_Index_int_int.mono_l k
  ·intro y0 y1 y2 y3
   unfold slices_Index_int_int.l0
   repeat' first
   | (with_reducible exact ih0 _ _ _ _)
   | (with_reducible exact LeO.refl _)
   | (with_reducible exact LeO.none _)
   | (with_reducible refine LeO.ite ?_ ?_)
   | (with_reducible refine LeO.bind ?_ (fun _ => ?_))
   | exact ih0 _ _ _ _
   | exact LeO.none _
   | refine LeO.ite ?_ ?_
   | refine LeO.bind ?_ (fun _ => ?_)
theorem slices_Index_int_int.mono : ∀ a0 a1 k,LeO (slices_Index_int_int.f k a0 a1) (slices_Index_int_int.f (k + 1) a0 a1):=by
 intro a0 a1 k
 have ih0:=slices_Index_int_int.mono_l k
 unfold slices_Index_int_int.f
 repeat' first
   | (with_reducible exact ih0 _ _ _ _)
   | (with_reducible exact LeO.refl _)
   | (with_reducible exact LeO.none _)
   | (with_reducible refine LeO.ite ?_ ?_)
   | (with_reducible refine LeO.bind ?_ (fun _ => ?_))
   | exact ih0 _ _ _ _
   | exact LeO.none _
   | refine LeO.ite ?_ ?_
   | refine LeO.bind ?_ (fun _ => ?_)
set_option maxHeartbeats 8000000 in
set_option maxRecDepth 100000 in
theorem slices_Index_int_int.calls (k : Nat) (A0 : Option Addr) (c0 : Nat) (l0 : List Int) (a1 : Int) (r : Int) (w : World) (hr0 : Kd.C (Kd.int .i64) w A0 l0.length l0) (hc0 : l0.length ≤ c0) (h : slices_Index_int_int.f k l0 a1 = some r) :
  Calls Try.prog 44 #[.slice A0 l0.length c0,.int .i64 a1] w fun e w' => e = .returned (.int .i64 r) ∧ Drawn0 w w':=by
 have HR0:=Aside0.mk hr0
 have HC0:=Aside0.mk hc0
 clear hr0 hc0
 have H : (slices_Index_int_int.l0 k l0 a1 (l0.length : Int) 0) = some r:=h
 clear h
 have H':=Aside0.mk H
 clear H
 go_enter Try.func44,Try.ntmps44
 go_wp2
 go_loopg [8] k (fun kq v8 w' => ∃ (x8_1 : Int),v8 = .int .i64 x8_1 ∧ Aside0 (slices_Index_int_int.l0 kq l0 a1 (l0.length : Int) x8_1 = some r) ∧ Aside0 (kq ≤ k) ∧ Drawn0 w w')
 case atStart => exact ⟨(0),(by first | rfl | (simp;done) | (simp [*];done)),H',⟨Nat.le_refl _⟩,by repeat (first | exact Drawn0.refl _ | apply Drawn0.step)⟩
 case round =>
  clear H'
  try clear p2
  obtain ⟨x8_1,rfl,HA,HK1,⟨m1,rfl⟩⟩:=hrel
  cases gk with
  | zero => exact absurd HA.out (by simp [slices_Index_int_int.l0])
  | succ k1 =>
   have H:=HA.out
   clear HA
   simp only [slices_Index_int_int.l0] at H
   by_cases c3 : x8_1 < (l0.length : Int)
   ·rw [if_pos c3] at H
    have c3b0 : decide (x8_1 < (l0.length : Int)) = true:=decide_eq_true c3
    clear c3
    by_cases c4 : 0 ≤ x8_1
    ·rw [if_pos c4] at H
     have c4b0 : decide (0 ≤ x8_1) = true:=decide_eq_true c4
     clear c4
     by_cases c5 : x8_1 < (l0.length : Int)
     ·rw [if_pos c5] at H
      have c5b0 : decide (x8_1 < (l0.length : Int)) = true:=decide_eq_true c5
      clear c5
      by_cases c6 : a1 = (rd l0 x8_1)
      ·rw [if_pos c6] at H
       have c6b0 : (a1 == (rd l0 x8_1)) = true:=beq_iff_eq.mpr c6
       have c6b1 : (a1 != (rd l0 x8_1)) = false:=bne_eq_false_iff_eq.mpr c6
       clear c6
       obtain rfl:=Option.some.inj H
       have p101 : 0 ≤ (x8_1 : Int):=of_decide_eq_true (by first | (with_reducible assumption) | assumption)
       have q101 : x8_1 < (l0.length : Int):=of_decide_eq_true (by first | (with_reducible assumption) | assumption)
       obtain ⟨ad101,e101,hx101_0⟩:=Kd.at_int HR0.out x8_1 p101 q101
       cases e101
       replace p101:=eq_true p101
       replace q101:=eq_true q101
       go_wp2
       go_ret
       exact ⟨by first | rfl | (simp;done) | (simp [*];done),by repeat (first | exact Drawn0.refl _ | apply Drawn0.step)⟩
      ·rw [if_neg c6] at H
       have c6b0 : (a1 == (rd l0 x8_1)) = false:=beq_eq_false_iff_ne.mpr c6
       have c6b1 : (a1 != (rd l0 x8_1)) = true:=bne_iff_ne.mpr c6
       have H':=Aside0.mk H
       clear H
       have p101 : 0 ≤ (x8_1 : Int):=of_decide_eq_true (by first | (with_reducible assumption) | assumption)
       have q101 : x8_1 < (l0.length : Int):=of_decide_eq_true (by first | (with_reducible assumption) | assumption)
       obtain ⟨ad101,e101,hx101_0⟩:=Kd.at_int HR0.out x8_1 p101 q101
       cases e101
       replace p101:=eq_true p101
       replace q101:=eq_true q101
       go_wp2
       go_roundg k1
       case measure => have:=HK1.out;omega
       case rel => exact ⟨(wrap64 (x8_1 + 1)),(by first | rfl | (simp;done) | (simp [*];done)),H',⟨by have:=HK1.out;omega⟩,by repeat (first | exact Drawn0.refl _ | apply Drawn0.step)⟩
     ·rw [if_neg c5] at H
      exact absurd H (by simp)
    ·rw [if_neg c4] at H
     exact absurd H (by simp)
   ·rw [if_neg c3] at H
    have c3b0 : decide (x8_1 < (l0.length : Int)) = false:=decide_eq_false c3
    clear c3
    obtain rfl:=Option.some.inj H
    go_wp2
    go_ret
    exact ⟨by first | rfl | (simp;done) | (simp [*];done),by repeat (first | exact Drawn0.refl _ | apply Drawn0.step)⟩
end Go.Proofs.Ytbmcbhpkefjhbaa.P
namespace Go.Proofs.Ytbmcbhpkefjhbaa.P
open Go.RowKit Go.Proofs.YtbmcbhpkefjhbaaW.PrintWords Go.Proofs.YtbmcbhpkefjhbaaW.PrintLast Go.Proofs.YtbmcbhpkefjhbaaW.PrintMore
attribute [local go_sem] max2_int min2_int max_two min_two max_three min_three max_four min_four   -- for this text's walks alone
attribute [local go_sem] run_store_float
set_option linter.unusedVariables false
set_option linter.unusedSimpArgs false
mutual
def dsg_Order.j0 : Nat → Int → List (S33) → Bool → Option (List Int × Bool)
 | 0,_,_,_ => none
 | k + 1,x0,x1,x18 => if x18 = true then (some (([] : List Int),false)) else (if 0 ≤ x0 then (if (x0 : Int).toNat ≤ 35184372088832 then (dsg_Order.l0 k x0 x1 (List.replicate (x0 : Int).toNat 0) x1 (x1.length : Int) 0) else (none)) else (none))
def dsg_Order.l0 : Nat → Int → List (S33) → List Int → List (S33) → Int → Int → Option (List Int × Bool)
 | 0,_,_,_,_,_,_ => none
 | k + 1,x0,x1,x6,x21,x22,x23 => if x23 < x22 then (if 0 ≤ x23 then (if x23 < (x21.length : Int) then (if ((rd_T33 x21 x23).f0) < 0 then (some (([] : List Int),false)) else (if ((rd_T33 x21 x23).f0) ≥ x0 then (some (([] : List Int),false)) else (if ((rd_T33 x21 x23).f1) < 0 then (some (([] : List Int),false)) else (if ((rd_T33 x21 x23).f1) ≥ x0 then (some (([] : List Int),false)) else (if ((rd_T33 x21 x23).f0) = ((rd_T33 x21 x23).f1) then (some (([] : List Int),false)) else (if 0 ≤ ((rd_T33 x21 x23).f1) then (if ((rd_T33 x21 x23).f1) < (x6.length : Int) then (dsg_Order.l0 k x0 x1 (x6.set (((rd_T33 x21 x23).f1) : Int).toNat (wrap64 ((rd x6 ((rd_T33 x21 x23).f1)) + 1))) x21 x22 (wrap64 (x23 + 1))) else (none)) else (none))))))) else (none)) else (none)) else (dsg_Order.l1 k x1 x6 ([] : List Int) x0 0)
def dsg_Order.l1 : Nat → List (S33) → List Int → List Int → Int → Int → Option (List Int × Bool)
 | 0,_,_,_,_,_ => none
 | k + 1,x1,x6,x9,x62,x63 => if x63 < x62 then ((slices_Index_int_int.f k x6 0).bind fun t109 => (dsg_Order.j3 k x1 x6 x9 t109 x62 x63 (decide (t109 < 0)))) else (some (x9,true))
def dsg_Order.j3 : Nat → List (S33) → List Int → List Int → Int → Int → Int → Bool → Option (List Int × Bool)
 | 0,_,_,_,_,_,_,_ => none
 | k + 1,x1,x6,x9,x10,x62,x63,x68 => if x68 = true then (some (([] : List Int),false)) else (if 0 ≤ x10 then (if x10 < (x6.length : Int) then (dsg_Order.l2 k x1 (x6.set (x10 : Int).toNat (-1)) x9 x10 x62 x63 x1 (x1.length : Int) 0) else (none)) else (none))
def dsg_Order.l2 : Nat → List (S33) → List Int → List Int → Int → Int → Int → List (S33) → Int → Int → Option (List Int × Bool)
 | 0,_,_,_,_,_,_,_,_,_ => none
 | k + 1,x1,x6,x9,x10,x62,x63,x72,x73,x74 => if x74 < x73 then (if 0 ≤ x74 then (if x74 < (x72.length : Int) then (if ((rd_T33 x72 x74).f0) = x10 then (if 0 ≤ ((rd_T33 x72 x74).f1) then (if ((rd_T33 x72 x74).f1) < (x6.length : Int) then (dsg_Order.l2 k x1 (x6.set (((rd_T33 x72 x74).f1) : Int).toNat (wrap64 ((rd x6 ((rd_T33 x72 x74).f1)) - 1))) x9 x10 x62 x63 x72 x73 (wrap64 (x74 + 1))) else (none)) else (none)) else (dsg_Order.l2 k x1 x6 x9 x10 x62 x63 x72 x73 (wrap64 (x74 + 1)))) else (none)) else (none)) else (if x9.length < 17592186044416 then (dsg_Order.l1 k x1 x6 (x9 ++ [x10]) x62 (wrap64 (x63 + 1))) else (none))
end
def dsg_Order.f (k : Nat) (a0 : Int) (l1 : List (S33)) : Option (List Int × Bool):=if a0 < 0 then (dsg_Order.j0 k a0 l1 true) else (dsg_Order.j0 k a0 l1 (decide (a0 > 200)))
theorem dsg_Order.mono_l : ∀ k,(∀ y0 y1 y2,LeO (dsg_Order.j0 k y0 y1 y2) (dsg_Order.j0 (k + 1) y0 y1 y2)) ∧ (∀ y0 y1 y2 y3 y4 y5,LeO (dsg_Order.l0 k y0 y1 y2 y3 y4 y5) (dsg_Order.l0 (k + 1) y0 y1 y2 y3 y4 y5)) ∧ (∀ y0 y1 y2 y3 y4,LeO (dsg_Order.l1 k y0 y1 y2 y3 y4) (dsg_Order.l1 (k + 1) y0 y1 y2 y3 y4)) ∧ (∀ y0 y1 y2 y3 y4 y5 y6,LeO (dsg_Order.j3 k y0 y1 y2 y3 y4 y5 y6) (dsg_Order.j3 (k + 1) y0 y1 y2 y3 y4 y5 y6)) ∧ (∀ y0 y1 y2 y3 y4 y5 y6 y7 y8,LeO (dsg_Order.l2 k y0 y1 y2 y3 y4 y5 y6 y7 y8) (dsg_Order.l2 (k + 1) y0 y1 y2 y3 y4 y5 y6 y7 y8))
 | 0 => ⟨fun _ _ _ r h => by simp [dsg_Order.j0] at h,fun _ _ _ _ _ _ r h => by simp [dsg_Order.l0] at h,fun _ _ _ _ _ r h => by simp [dsg_Order.l1] at h,fun _ _ _ _ _ _ _ r h => by simp [dsg_Order.j3] at h,fun _ _ _ _ _ _ _ _ _ r h => by simp [dsg_Order.l2] at h⟩
 | k + 1 => by
  obtain ⟨ih0,ih1,ih2,ih3,ih4⟩:=dsg_Order.mono_l k
  refine ⟨?_,?_,?_,?_,?_⟩
  ·intro y0 y1 y2
   unfold dsg_Order.j0
   repeat' first
   | (with_reducible exact ih0 _ _ _)
   | (with_reducible exact ih1 _ _ _ _ _ _)
   | (with_reducible exact ih2 _ _ _ _ _)
   | (with_reducible exact ih3 _ _ _ _ _ _ _)
   | (with_reducible exact ih4 _ _ _ _ _ _ _ _ _)
   | (with_reducible exact slices_Index_int_int.mono _ _ _)
   | (with_reducible exact LeO.refl _)
   | (with_reducible exact LeO.none _)
   | (with_reducible refine LeO.ite ?_ ?_)
   | (with_reducible refine LeO.bind ?_ (fun _ => ?_))
   | exact ih0 _ _ _
   | exact ih1 _ _ _ _ _ _
   | exact ih2 _ _ _ _ _
   | exact ih3 _ _ _ _ _ _ _
   | exact ih4 _ _ _ _ _ _ _ _ _
   | exact slices_Index_int_int.mono _ _ _
   | exact LeO.none _
   | refine LeO.ite ?_ ?_
   | refine LeO.bind ?_ (fun _ => ?_)
  ·intro y0 y1 y2 y3 y4 y5
   unfold dsg_Order.l0
   repeat' first
   | (with_reducible exact ih0 _ _ _)
   | (with_reducible exact ih1 _ _ _ _ _ _)
   | (with_reducible exact ih2 _ _ _ _ _)
   | (with_reducible exact ih3 _ _ _ _ _ _ _)
   | (with_reducible exact ih4 _ _ _ _ _ _ _ _ _)
   | (with_reducible exact slices_Index_int_int.mono _ _ _)
   | (with_reducible exact LeO.refl _)
   | (with_reducible exact LeO.none _)
   | (with_reducible refine LeO.ite ?_ ?_)
   | (with_reducible refine LeO.bind ?_ (fun _ => ?_))
   | exact ih0 _ _ _
   | exact ih1 _ _ _ _ _ _
   | exact ih2 _ _ _ _ _
   | exact ih3 _ _ _ _ _ _ _
   | exact ih4 _ _ _ _ _ _ _ _ _
   | exact slices_Index_int_int.mono _ _ _
   | exact LeO.none _
   | refine LeO.ite ?_ ?_
   | refine LeO.bind ?_ (fun _ => ?_)
  ·intro y0 y1 y2 y3 y4
   unfold dsg_Order.l1
   repeat' first
   | (with_reducible exact ih0 _ _ _)
   | (with_reducible exact ih1 _ _ _ _ _ _)
   | (with_reducible exact ih2 _ _ _ _ _)
   | (with_reducible exact ih3 _ _ _ _ _ _ _)
   | (with_reducible exact ih4 _ _ _ _ _ _ _ _ _)
   | (with_reducible exact slices_Index_int_int.mono _ _ _)
   | (with_reducible exact LeO.refl _)
   | (with_reducible exact LeO.none _)
   | (with_reducible refine LeO.ite ?_ ?_)
   | (with_reducible refine LeO.bind ?_ (fun _ => ?_))
   | exact ih0 _ _ _
   | exact ih1 _ _ _ _ _ _
   | exact ih2 _ _ _ _ _
   | exact ih3 _ _ _ _ _ _ _
   | exact ih4 _ _ _ _ _ _ _ _ _
   | exact slices_Index_int_int.mono _ _ _
   | exact LeO.none _
   | refine LeO.ite ?_ ?_
   | refine LeO.bind ?_ (fun _ => ?_)
  ·intro y0 y1 y2 y3 y4 y5 y6
   unfold dsg_Order.j3
   repeat' first
   | (with_reducible exact ih0 _ _ _)
   | (with_reducible exact ih1 _ _ _ _ _ _)
   | (with_reducible exact ih2 _ _ _ _ _)
   | (with_reducible exact ih3 _ _ _ _ _ _ _)
   | (with_reducible exact ih4 _ _ _ _ _ _ _ _ _)
   | (with_reducible exact slices_Index_int_int.mono _ _ _)
   | (with_reducible exact LeO.refl _)
   | (with_reducible exact LeO.none _)
   | (with_reducible refine LeO.ite ?_ ?_)
   | (with_reducible refine LeO.bind ?_ (fun _ => ?_))
   | exact ih0 _ _ _
   | exact ih1 _ _ _ _ _ _
   | exact ih2 _ _ _ _ _
   | exact ih3 _ _ _ _ _ _ _
   | exact ih4 _ _ _ _ _ _ _ _ _
   | exact slices_Index_int_int.mono _ _ _
   | exact LeO.none _
   | refine LeO.ite ?_ ?_
   | refine LeO.bind ?_ (fun _ => ?_)
  ·intro y0 y1 y2 y3 y4 y5 y6 y7 y8
   unfold dsg_Order.l2
   repeat' first
   | (with_reducible exact ih0 _ _ _)
   | (with_reducible exact ih1 _ _ _ _ _ _)
   | (with_reducible exact ih2 _ _ _ _ _)
   | (with_reducible exact ih3 _ _ _ _ _ _ _)
   | (with_reducible exact ih4 _ _ _ _ _ _ _ _ _)
   | (with_reducible exact slices_Index_int_int.mono _ _ _)
   | (with_reducible exact LeO.refl _)
   | (with_reducible exact LeO.none _)
   | (with_reducible refine LeO.ite ?_ ?_)
   | (with_reducible refine LeO.bind ?_ (fun _ => ?_))
   | exact ih0 _ _ _
   | exact ih1 _ _ _ _ _ _
   | exact ih2 _ _ _ _ _
   | exact ih3 _ _ _ _ _ _ _
   | exact ih4 _ _ _ _ _ _ _ _ _
   | exact slices_Index_int_int.mono _ _ _
   | exact LeO.none _
   | refine LeO.ite ?_ ?_
   | refine LeO.bind ?_ (fun _ => ?_)
theorem dsg_Order.mono : ∀ a0 a1 k,LeO (dsg_Order.f k a0 a1) (dsg_Order.f (k + 1) a0 a1):=by
 intro a0 a1 k
 obtain ⟨ih0,ih1,ih2,ih3,ih4⟩:=dsg_Order.mono_l k
 unfold dsg_Order.f
 repeat' first
   | (with_reducible exact ih0 _ _ _)
   | (with_reducible exact ih1 _ _ _ _ _ _)
   | (with_reducible exact ih2 _ _ _ _ _)
   | (with_reducible exact ih3 _ _ _ _ _ _ _)
   | (with_reducible exact ih4 _ _ _ _ _ _ _ _ _)
   | (with_reducible exact slices_Index_int_int.mono _ _ _)
   | (with_reducible exact LeO.refl _)
   | (with_reducible exact LeO.none _)
   | (with_reducible refine LeO.ite ?_ ?_)
   | (with_reducible refine LeO.bind ?_ (fun _ => ?_))
   | exact ih0 _ _ _
   | exact ih1 _ _ _ _ _ _
   | exact ih2 _ _ _ _ _
   | exact ih3 _ _ _ _ _ _ _
   | exact ih4 _ _ _ _ _ _ _ _ _
   | exact slices_Index_int_int.mono _ _ _
   | exact LeO.none _
   | refine LeO.ite ?_ ?_
   | refine LeO.bind ?_ (fun _ => ?_)
set_option maxHeartbeats 8000000 in
set_option maxRecDepth 100000 in
theorem dsg_Order.calls (k : Nat) (a0 : Int) (A1 : Option Addr) (c1 : Nat) (l1 : List (S33)) (r1 : List Int) (r2 : Bool) (w : World) (hr1 : Kd.C k33 w A1 l1.length l1) (hc1 : l1.length ≤ c1) (h : dsg_Order.f k a0 l1 = some (r1,r2)) :
  Calls Try.prog 14 #[.int .i64 a0,.slice A1 l1.length c1] w fun e w' => ∃ v0_ : Value,e = .returned (.tuple #[v0_,.bool r2]) ∧ Kd.R (Kd.int .i64) 3 w' w.heap.size (fun _ => True) v0_ r1 ∧ Below w.heap.size w w':=by
 have hu33:=Try.underlying33
 have HR1:=Aside0.mk hr1
 have HC1:=Aside0.mk hc1
 clear hr1 hc1
 have HB:=Aside0.mk (Below.refl w.heap.size w)
 have H : (if a0 < 0 then (dsg_Order.j0 k a0 l1 true) else (dsg_Order.j0 k a0 l1 (decide (a0 > 200)))) = some (r1,r2):=h
 clear h
 have HC3:=Aside0.mk H
 clear H
 go_enter Try.func14,Try.ntmps14
 go_upto_region 1 with (fail)
 go_cut [18] (fun v18 wc => ∃ (kq : Nat) (x18_2 : Bool),v18 = .bool x18_2 ∧ Aside0 (dsg_Order.j0 kq a0 l1 x18_2 = some (r1,r2)) ∧ Aside0 (kq ≤ k) ∧ Aside0 (Below w.heap.size w wc))
 case first =>
  have H:=HC3.out
  clear HC3
  by_cases c4 : a0 < 0
  ·rw [if_pos c4] at H
   have c4b0 : decide (a0 < 0) = true:=decide_eq_true c4
   clear c4
   (first | rw [c4b0] | (simp only [i64_w,i32_w];rw [c4b0]) | skip)
   have H':=Aside0.mk H
   clear H
   go_wp2
   go_meet
   case rel => exact ⟨_,(true),(by first | rfl | (simp;done) | (simp [*];done)),H',⟨by first | omega | exact Nat.le_refl _⟩,⟨by repeat (first | (with_reducible first | exact HB.out | apply below_alloc | apply pw_below_drewN | apply below_drew1) | exact HB.out)⟩⟩
  ·rw [if_neg c4] at H
   have c4b0 : decide (a0 < 0) = false:=decide_eq_false c4
   clear c4
   (first | rw [c4b0] | (simp only [i64_w,i32_w];rw [c4b0]) | skip)
   have H':=Aside0.mk H
   clear H
   go_wp2
   go_meet
   case rel => exact ⟨_,(decide (a0 > 200)),(by first | rfl | (simp;done) | (simp [*];done)),H',⟨by first | omega | exact Nat.le_refl _⟩,⟨by repeat (first | (with_reducible first | exact HB.out | apply below_alloc | apply pw_below_drewN | apply below_drew1) | exact HB.out)⟩⟩
 case rest =>
  clear HC3
  try clear c1
  try clear p2
  try clear c4
  try clear c4b0
  obtain ⟨kq,x18_2,rfl,HA,HJ2,HB⟩:=hcut
  cases kq with
  | zero => exact absurd HA.out (by simp [dsg_Order.j0])
  | succ kj2 =>
   have H:=HA.out
   clear HA
   simp only [dsg_Order.j0] at H
   by_cases c5 : x18_2 = true
   ·subst c5
    have H1 : (some (([] : List Int),false)) = some (r1,r2):=by rw [if_pos rfl] at H;exact H
    clear H
    have H:=H1
    clear H1
    simp only [Option.some.injEq,Prod.mk.injEq] at H
    obtain ⟨rfl,rfl⟩:=H
    go_wp2
    go_ret2
    exact ⟨_,by first | rfl | (simp [errW_none,errW_some] <;> rfl) | (simp [*,errW_none,errW_some] <;> rfl),by first | exact Kd.R_nil _ _ _ _ _ | exact Kd.N_nil _ _ _ _ _ | exact Kd.V_nil _ _ _ _ _ | exact Kd.Q_nil _ _ _ _ _ | exact Kd.S_nil _ _ _ _ _,by repeat (first | (with_reducible first | exact HB.out | apply below_alloc | apply pw_below_drewN | apply below_drew1) | exact HB.out)⟩
   ·replace c5:=Bool.eq_false_iff.mpr c5
    subst c5
    have H1 : (if 0 ≤ a0 then (if (a0 : Int).toNat ≤ 35184372088832 then (dsg_Order.l0 kj2 a0 l1 (List.replicate (a0 : Int).toNat 0) l1 (l1.length : Int) 0) else (none)) else (none)) = some (r1,r2):=by rw [if_neg (show ¬ (false = true) by decide)] at H;exact H
    clear H
    have H:=H1
    clear H1
    by_cases c6 : 0 ≤ a0
    ·rw [if_pos c6] at H
     have c6b0:=eq_true c6
     have c6b1 : decide (0 ≤ a0) = true:=decide_eq_true c6
     clear c6
     by_cases c7 : (a0 : Int).toNat ≤ 35184372088832
     ·rw [if_pos c7] at H
      have c7b0:=eq_true c7
      have c7b1 : decide ((a0 : Int).toNat ≤ 35184372088832) = true:=decide_eq_true c7
      clear c7
      obtain ⟨y102,hy102⟩ : ∃ y_ : List Int,y_ = (List.replicate (a0 : Int).toNat 0):=⟨_,rfl⟩
      replace H : (dsg_Order.l0 kj2 a0 l1 y102 l1 (l1.length : Int) 0) = some (r1,r2):=by first | (rw [hy102];with_reducible exact H) | (have H2_:=(Option.bind_some _ _).symm.trans H;rw [hy102];with_reducible exact H2_) | (have H2_:=(Option.bind_some _ _).symm.trans H;with_reducible exact H2_) | with_reducible exact H | (rw [hy102];exact H) | exact H
      have Ny102:=Aside0.mk hy102
      clear hy102
      have H':=Aside0.mk H
      clear H
      go_wp2_with (first | ((with_reducible refine gate_dst (N:=20) rfl ?_);refine Kd.R_make (Kd.int .i64) _ 3 rfl (N:=20) rfl 24 _ _ rfl a0 rfl rfl Try.underlying24 (.int .i64 0) 8 info3 rfl (by decide) (by omega) 0 (ok:=fun _ => True) (okp:=fun _ => True) rfl (fun _ hk => hk) trivial (of_decide_eq_true (by first | (with_reducible assumption) | assumption)) (Nat.le_trans (Nat.mul_le_mul_right _ (of_decide_eq_true (by first | (with_reducible assumption) | assumption) : a0.toNat ≤ 35184372088832)) (by omega)) (Below.refl _ _) (Nat.le_refl _) ?_;intro v103 w8 ho9 hb hg_ hnew_;clear hg_ hnew_;(first | rw [← Ny102.out] at ho9 | (simp only [Int.reduceToNat] at ho9;rw [← Ny102.out] at ho9));have n0_:=Aside0.mk (Kd.R_lower ho9 (below_size (by repeat (first | (with_reducible first | exact HB.out | apply below_alloc | apply pw_below_drewN | apply below_drew1) | exact HB.out))));have n1_:=Aside0.mk (below_step (by repeat (first | (with_reducible first | exact HB.out | apply below_alloc | apply pw_below_drewN | apply below_drew1) | exact HB.out)) hb);clear HB;have HO104:=n0_;have HB:=n1_;clear n0_ n1_;clear hb ho9))
      go_loopg [23] kj2 (fun kq v23 w' => ∃ (x6_2 : List Int) (x23_2 : Int),v23 = .int .i64 x23_2 ∧ Aside0 (dsg_Order.l0 kq a0 l1 x6_2 l1 (l1.length : Int) x23_2 = some (r1,r2)) ∧ Aside0 (kq ≤ kj2) ∧ Aside0 (Kd.R (Kd.int .i64) 3 w' w.heap.size (fun _ => True) v103 x6_2) ∧ Aside0 (Below w.heap.size w w'))
      case atStart => exact ⟨(y102),(0),(by first | rfl | (simp;done) | (simp [*];done)),H',⟨Nat.le_refl _⟩,⟨by (with_reducible repeat (first | apply Kd.R_alloc | apply Kd.R_drewN | apply Kd.R_drew));exact HO104.out⟩,⟨by repeat (first | (with_reducible first | exact HB.out | apply below_alloc | apply pw_below_drewN | apply below_drew1) | exact HB.out)⟩⟩
      case round =>
       clear H'
       try clear c1
       try clear p2
       try clear c4
       try clear c4b0
       try clear c5
       try clear c6
       try clear c6b0
       try clear c6b1
       try clear c7
       try clear c7b0
       try clear c7b1
       try clear p2
       obtain ⟨x6_2,x23_2,rfl,HA,HK2,HO_6,HB⟩:=hrel
       cases gk with
       | zero => exact absurd HA.out (by simp [dsg_Order.l0])
       | succ k2 =>
        have H:=HA.out
        clear HA
        simp only [dsg_Order.l0] at H
        by_cases c10 : x23_2 < (l1.length : Int)
        ·rw [if_pos c10] at H
         have c10b0 : decide (x23_2 < (l1.length : Int)) = true:=decide_eq_true c10
         clear c10
         by_cases c11 : 0 ≤ x23_2
         ·rw [if_pos c11] at H
          have c11b0 : decide (0 ≤ x23_2) = true:=decide_eq_true c11
          clear c11
          by_cases c12 : x23_2 < (l1.length : Int)
          ·rw [if_pos c12] at H
           have c12b0 : decide (x23_2 < (l1.length : Int)) = true:=decide_eq_true c12
           clear c12
           by_cases c13 : ((rd_T33 l1 x23_2).f0) < 0
           ·rw [if_pos c13] at H
            have c13b0 : decide (((rd_T33 l1 x23_2).f0) < 0) = true:=decide_eq_true c13
            clear c13
            simp only [Option.some.injEq,Prod.mk.injEq] at H
            obtain ⟨rfl,rfl⟩:=H
            have p105 : 0 ≤ (x23_2 : Int):=of_decide_eq_true (by first | (with_reducible assumption) | assumption)
            have q105 : x23_2 < (l1.length : Int):=of_decide_eq_true (by first | (with_reducible assumption) | assumption)
            obtain ⟨ad105,e105,hx105_0,hx105_1⟩:=at_T33 HR1.out x23_2 p105 q105
            cases e105
            replace hx105_0:=(HB.out.cell (World.block_lt_of_cell? w _ hx105_0)).trans hx105_0
            replace hx105_1:=(HB.out.cell (World.block_lt_of_cell? w _ hx105_1)).trans hx105_1
            replace p105:=eq_true p105
            replace q105:=eq_true q105
            go_wp2_with (first | ((with_reducible refine gate_dst (N:=8) rfl ?_);refine box_event ?hg (N:=8) ?hd (cs:=#[.int .i64 0,.int .i64 0]) (t:=33) ?hr ?_;(case hd => rfl);(case hg => rfl);(case hr => first | (go_simp;done) | (go_simp;rfl));intro gb106 hg w14 hbox hb;have n0_:=Aside0.mk (Kd.R_below (by (with_reducible repeat (first | apply Kd.R_alloc | apply Kd.R_drewN | apply Kd.R_drew));exact HO_6.out) hb);have n1_:=Aside0.mk (below_step (by repeat (first | (with_reducible first | exact HB.out | apply below_alloc | apply pw_below_drewN | apply below_drew1) | exact HB.out)) hb);have n2_:=Aside0.mk (hbox);have n3_:=Aside0.mk ((by rw [hg];exact (below_size (by repeat (first | (with_reducible first | exact HB.out | apply below_alloc | apply pw_below_drewN | apply below_drew1) | exact HB.out))) : w.heap.size ≤ gb106));have n4_:=Aside0.mk ((by rw [hg];exact (below_size (by repeat (first | (with_reducible first | exact HB.out | apply below_alloc | apply pw_below_drewN | apply below_drew1) | exact HB.out))) : w.heap.size ≤ gb106));clear HO_6;clear HB;have HO_6:=n0_;have HB:=n1_;have BK106:=n2_;have GW106:=n3_;have GE106:=n4_;clear n0_ n1_ n2_ n3_ n4_;clear hb hbox hg;have hcz15_0 : w14.cell? ⟨gb106,0,none⟩ = some (.int .i64 0):=(blk_cell BK106.out 0).trans rfl;have hcz15_1 : w14.cell? ⟨gb106,1,none⟩ = some (.int .i64 0):=(blk_cell BK106.out 1).trans rfl;have hfz15_0:=blk_frozen BK106.out 0;have hfz15_1:=blk_frozen BK106.out 1))
            go_ret2
            exact ⟨_,by first | rfl | (simp [errW_none,errW_some] <;> rfl) | (simp [*,errW_none,errW_some] <;> rfl),by first | exact Kd.R_nil _ _ _ _ _ | exact Kd.N_nil _ _ _ _ _ | exact Kd.V_nil _ _ _ _ _ | exact Kd.Q_nil _ _ _ _ _ | exact Kd.S_nil _ _ _ _ _,by repeat (first | (with_reducible first | exact HB.out | apply below_alloc | apply pw_below_drewN | apply below_drew1 | refine below_set ?_ GE106.out) | exact HB.out)⟩
           ·rw [if_neg c13] at H
            have c13b0 : decide (((rd_T33 l1 x23_2).f0) < 0) = false:=decide_eq_false c13
            clear c13
            by_cases c16 : ((rd_T33 l1 x23_2).f0) ≥ a0
            ·rw [if_pos c16] at H
             have c16b0 : decide (a0 ≤ ((rd_T33 l1 x23_2).f0)) = true:=decide_eq_true c16
             clear c16
             simp only [Option.some.injEq,Prod.mk.injEq] at H
             obtain ⟨rfl,rfl⟩:=H
             have p105 : 0 ≤ (x23_2 : Int):=of_decide_eq_true (by first | (with_reducible assumption) | assumption)
             have q105 : x23_2 < (l1.length : Int):=of_decide_eq_true (by first | (with_reducible assumption) | assumption)
             obtain ⟨ad105,e105,hx105_0,hx105_1⟩:=at_T33 HR1.out x23_2 p105 q105
             cases e105
             replace hx105_0:=(HB.out.cell (World.block_lt_of_cell? w _ hx105_0)).trans hx105_0
             replace hx105_1:=(HB.out.cell (World.block_lt_of_cell? w _ hx105_1)).trans hx105_1
             replace p105:=eq_true p105
             replace q105:=eq_true q105
             go_wp2_with (first | ((with_reducible refine gate_dst (N:=8) rfl ?_);refine box_event ?hg (N:=8) ?hd (cs:=#[.int .i64 0,.int .i64 0]) (t:=33) ?hr ?_;(case hd => rfl);(case hg => rfl);(case hr => first | (go_simp;done) | (go_simp;rfl));intro gb106 hg w17 hbox hb;have n0_:=Aside0.mk (Kd.R_below (by (with_reducible repeat (first | apply Kd.R_alloc | apply Kd.R_drewN | apply Kd.R_drew));exact HO_6.out) hb);have n1_:=Aside0.mk (below_step (by repeat (first | (with_reducible first | exact HB.out | apply below_alloc | apply pw_below_drewN | apply below_drew1) | exact HB.out)) hb);have n2_:=Aside0.mk (hbox);have n3_:=Aside0.mk ((by rw [hg];exact (below_size (by repeat (first | (with_reducible first | exact HB.out | apply below_alloc | apply pw_below_drewN | apply below_drew1) | exact HB.out))) : w.heap.size ≤ gb106));have n4_:=Aside0.mk ((by rw [hg];exact (below_size (by repeat (first | (with_reducible first | exact HB.out | apply below_alloc | apply pw_below_drewN | apply below_drew1) | exact HB.out))) : w.heap.size ≤ gb106));clear HO_6;clear HB;have HO_6:=n0_;have HB:=n1_;have BK106:=n2_;have GW106:=n3_;have GE106:=n4_;clear n0_ n1_ n2_ n3_ n4_;clear hb hbox hg;have hcz18_0 : w17.cell? ⟨gb106,0,none⟩ = some (.int .i64 0):=(blk_cell BK106.out 0).trans rfl;have hcz18_1 : w17.cell? ⟨gb106,1,none⟩ = some (.int .i64 0):=(blk_cell BK106.out 1).trans rfl;have hfz18_0:=blk_frozen BK106.out 0;have hfz18_1:=blk_frozen BK106.out 1))
             go_ret2
             exact ⟨_,by first | rfl | (simp [errW_none,errW_some] <;> rfl) | (simp [*,errW_none,errW_some] <;> rfl),by first | exact Kd.R_nil _ _ _ _ _ | exact Kd.N_nil _ _ _ _ _ | exact Kd.V_nil _ _ _ _ _ | exact Kd.Q_nil _ _ _ _ _ | exact Kd.S_nil _ _ _ _ _,by repeat (first | (with_reducible first | exact HB.out | apply below_alloc | apply pw_below_drewN | apply below_drew1 | refine below_set ?_ GE106.out) | exact HB.out)⟩
            ·rw [if_neg c16] at H
             have c16b0 : decide (a0 ≤ ((rd_T33 l1 x23_2).f0)) = false:=decide_eq_false c16
             clear c16
             by_cases c19 : ((rd_T33 l1 x23_2).f1) < 0
             ·rw [if_pos c19] at H
              have c19b0 : decide (((rd_T33 l1 x23_2).f1) < 0) = true:=decide_eq_true c19
              clear c19
              simp only [Option.some.injEq,Prod.mk.injEq] at H
              obtain ⟨rfl,rfl⟩:=H
              have p105 : 0 ≤ (x23_2 : Int):=of_decide_eq_true (by first | (with_reducible assumption) | assumption)
              have q105 : x23_2 < (l1.length : Int):=of_decide_eq_true (by first | (with_reducible assumption) | assumption)
              obtain ⟨ad105,e105,hx105_0,hx105_1⟩:=at_T33 HR1.out x23_2 p105 q105
              cases e105
              replace hx105_0:=(HB.out.cell (World.block_lt_of_cell? w _ hx105_0)).trans hx105_0
              replace hx105_1:=(HB.out.cell (World.block_lt_of_cell? w _ hx105_1)).trans hx105_1
              replace p105:=eq_true p105
              replace q105:=eq_true q105
              go_wp2_with (first | ((with_reducible refine gate_dst (N:=8) rfl ?_);refine box_event ?hg (N:=8) ?hd (cs:=#[.int .i64 0,.int .i64 0]) (t:=33) ?hr ?_;(case hd => rfl);(case hg => rfl);(case hr => first | (go_simp;done) | (go_simp;rfl));intro gb106 hg w20 hbox hb;have n0_:=Aside0.mk (Kd.R_below (by (with_reducible repeat (first | apply Kd.R_alloc | apply Kd.R_drewN | apply Kd.R_drew));exact HO_6.out) hb);have n1_:=Aside0.mk (below_step (by repeat (first | (with_reducible first | exact HB.out | apply below_alloc | apply pw_below_drewN | apply below_drew1) | exact HB.out)) hb);have n2_:=Aside0.mk (hbox);have n3_:=Aside0.mk ((by rw [hg];exact (below_size (by repeat (first | (with_reducible first | exact HB.out | apply below_alloc | apply pw_below_drewN | apply below_drew1) | exact HB.out))) : w.heap.size ≤ gb106));have n4_:=Aside0.mk ((by rw [hg];exact (below_size (by repeat (first | (with_reducible first | exact HB.out | apply below_alloc | apply pw_below_drewN | apply below_drew1) | exact HB.out))) : w.heap.size ≤ gb106));clear HO_6;clear HB;have HO_6:=n0_;have HB:=n1_;have BK106:=n2_;have GW106:=n3_;have GE106:=n4_;clear n0_ n1_ n2_ n3_ n4_;clear hb hbox hg;have hcz21_0 : w20.cell? ⟨gb106,0,none⟩ = some (.int .i64 0):=(blk_cell BK106.out 0).trans rfl;have hcz21_1 : w20.cell? ⟨gb106,1,none⟩ = some (.int .i64 0):=(blk_cell BK106.out 1).trans rfl;have hfz21_0:=blk_frozen BK106.out 0;have hfz21_1:=blk_frozen BK106.out 1))
              go_ret2
              exact ⟨_,by first | rfl | (simp [errW_none,errW_some] <;> rfl) | (simp [*,errW_none,errW_some] <;> rfl),by first | exact Kd.R_nil _ _ _ _ _ | exact Kd.N_nil _ _ _ _ _ | exact Kd.V_nil _ _ _ _ _ | exact Kd.Q_nil _ _ _ _ _ | exact Kd.S_nil _ _ _ _ _,by repeat (first | (with_reducible first | exact HB.out | apply below_alloc | apply pw_below_drewN | apply below_drew1 | refine below_set ?_ GE106.out) | exact HB.out)⟩
             ·rw [if_neg c19] at H
              have c19b0 : decide (((rd_T33 l1 x23_2).f1) < 0) = false:=decide_eq_false c19
              clear c19
              by_cases c22 : ((rd_T33 l1 x23_2).f1) ≥ a0
              ·rw [if_pos c22] at H
               have c22b0 : decide (a0 ≤ ((rd_T33 l1 x23_2).f1)) = true:=decide_eq_true c22
               clear c22
               simp only [Option.some.injEq,Prod.mk.injEq] at H
               obtain ⟨rfl,rfl⟩:=H
               have p105 : 0 ≤ (x23_2 : Int):=of_decide_eq_true (by first | (with_reducible assumption) | assumption)
               have q105 : x23_2 < (l1.length : Int):=of_decide_eq_true (by first | (with_reducible assumption) | assumption)
               obtain ⟨ad105,e105,hx105_0,hx105_1⟩:=at_T33 HR1.out x23_2 p105 q105
               cases e105
               replace hx105_0:=(HB.out.cell (World.block_lt_of_cell? w _ hx105_0)).trans hx105_0
               replace hx105_1:=(HB.out.cell (World.block_lt_of_cell? w _ hx105_1)).trans hx105_1
               replace p105:=eq_true p105
               replace q105:=eq_true q105
               go_wp2_with (first | ((with_reducible refine gate_dst (N:=8) rfl ?_);refine box_event ?hg (N:=8) ?hd (cs:=#[.int .i64 0,.int .i64 0]) (t:=33) ?hr ?_;(case hd => rfl);(case hg => rfl);(case hr => first | (go_simp;done) | (go_simp;rfl));intro gb106 hg w23 hbox hb;have n0_:=Aside0.mk (Kd.R_below (by (with_reducible repeat (first | apply Kd.R_alloc | apply Kd.R_drewN | apply Kd.R_drew));exact HO_6.out) hb);have n1_:=Aside0.mk (below_step (by repeat (first | (with_reducible first | exact HB.out | apply below_alloc | apply pw_below_drewN | apply below_drew1) | exact HB.out)) hb);have n2_:=Aside0.mk (hbox);have n3_:=Aside0.mk ((by rw [hg];exact (below_size (by repeat (first | (with_reducible first | exact HB.out | apply below_alloc | apply pw_below_drewN | apply below_drew1) | exact HB.out))) : w.heap.size ≤ gb106));have n4_:=Aside0.mk ((by rw [hg];exact (below_size (by repeat (first | (with_reducible first | exact HB.out | apply below_alloc | apply pw_below_drewN | apply below_drew1) | exact HB.out))) : w.heap.size ≤ gb106));clear HO_6;clear HB;have HO_6:=n0_;have HB:=n1_;have BK106:=n2_;have GW106:=n3_;have GE106:=n4_;clear n0_ n1_ n2_ n3_ n4_;clear hb hbox hg;have hcz24_0 : w23.cell? ⟨gb106,0,none⟩ = some (.int .i64 0):=(blk_cell BK106.out 0).trans rfl;have hcz24_1 : w23.cell? ⟨gb106,1,none⟩ = some (.int .i64 0):=(blk_cell BK106.out 1).trans rfl;have hfz24_0:=blk_frozen BK106.out 0;have hfz24_1:=blk_frozen BK106.out 1))
               go_ret2
               exact ⟨_,by first | rfl | (simp [errW_none,errW_some] <;> rfl) | (simp [*,errW_none,errW_some] <;> rfl),by first | exact Kd.R_nil _ _ _ _ _ | exact Kd.N_nil _ _ _ _ _ | exact Kd.V_nil _ _ _ _ _ | exact Kd.Q_nil _ _ _ _ _ | exact Kd.S_nil _ _ _ _ _,by repeat (first | (with_reducible first | exact HB.out | apply below_alloc | apply pw_below_drewN | apply below_drew1 | refine below_set ?_ GE106.out) | exact HB.out)⟩
              ·rw [if_neg c22] at H
               have c22b0 : decide (a0 ≤ ((rd_T33 l1 x23_2).f1)) = false:=decide_eq_false c22
               clear c22
               by_cases c25 : ((rd_T33 l1 x23_2).f0) = ((rd_T33 l1 x23_2).f1)
               ·rw [if_pos c25] at H
                have c25b0 : (((rd_T33 l1 x23_2).f0) == ((rd_T33 l1 x23_2).f1)) = true:=beq_iff_eq.mpr c25
                have c25b1 : (((rd_T33 l1 x23_2).f0) != ((rd_T33 l1 x23_2).f1)) = false:=bne_eq_false_iff_eq.mpr c25
                clear c25
                simp only [Option.some.injEq,Prod.mk.injEq] at H
                obtain ⟨rfl,rfl⟩:=H
                have p105 : 0 ≤ (x23_2 : Int):=of_decide_eq_true (by first | (with_reducible assumption) | assumption)
                have q105 : x23_2 < (l1.length : Int):=of_decide_eq_true (by first | (with_reducible assumption) | assumption)
                obtain ⟨ad105,e105,hx105_0,hx105_1⟩:=at_T33 HR1.out x23_2 p105 q105
                cases e105
                replace hx105_0:=(HB.out.cell (World.block_lt_of_cell? w _ hx105_0)).trans hx105_0
                replace hx105_1:=(HB.out.cell (World.block_lt_of_cell? w _ hx105_1)).trans hx105_1
                replace p105:=eq_true p105
                replace q105:=eq_true q105
                go_wp2_with (first | ((with_reducible refine gate_dst (N:=8) rfl ?_);refine box_event ?hg (N:=8) ?hd (cs:=#[.int .i64 0,.int .i64 0]) (t:=33) ?hr ?_;(case hd => rfl);(case hg => rfl);(case hr => first | (go_simp;done) | (go_simp;rfl));intro gb106 hg w26 hbox hb;have n0_:=Aside0.mk (Kd.R_below (by (with_reducible repeat (first | apply Kd.R_alloc | apply Kd.R_drewN | apply Kd.R_drew));exact HO_6.out) hb);have n1_:=Aside0.mk (below_step (by repeat (first | (with_reducible first | exact HB.out | apply below_alloc | apply pw_below_drewN | apply below_drew1) | exact HB.out)) hb);have n2_:=Aside0.mk (hbox);have n3_:=Aside0.mk ((by rw [hg];exact (below_size (by repeat (first | (with_reducible first | exact HB.out | apply below_alloc | apply pw_below_drewN | apply below_drew1) | exact HB.out))) : w.heap.size ≤ gb106));have n4_:=Aside0.mk ((by rw [hg];exact (below_size (by repeat (first | (with_reducible first | exact HB.out | apply below_alloc | apply pw_below_drewN | apply below_drew1) | exact HB.out))) : w.heap.size ≤ gb106));clear HO_6;clear HB;have HO_6:=n0_;have HB:=n1_;have BK106:=n2_;have GW106:=n3_;have GE106:=n4_;clear n0_ n1_ n2_ n3_ n4_;clear hb hbox hg;have hcz27_0 : w26.cell? ⟨gb106,0,none⟩ = some (.int .i64 0):=(blk_cell BK106.out 0).trans rfl;have hcz27_1 : w26.cell? ⟨gb106,1,none⟩ = some (.int .i64 0):=(blk_cell BK106.out 1).trans rfl;have hfz27_0:=blk_frozen BK106.out 0;have hfz27_1:=blk_frozen BK106.out 1))
                go_ret2
                exact ⟨_,by first | rfl | (simp [errW_none,errW_some] <;> rfl) | (simp [*,errW_none,errW_some] <;> rfl),by first | exact Kd.R_nil _ _ _ _ _ | exact Kd.N_nil _ _ _ _ _ | exact Kd.V_nil _ _ _ _ _ | exact Kd.Q_nil _ _ _ _ _ | exact Kd.S_nil _ _ _ _ _,by repeat (first | (with_reducible first | exact HB.out | apply below_alloc | apply pw_below_drewN | apply below_drew1 | refine below_set ?_ GE106.out) | exact HB.out)⟩
               ·rw [if_neg c25] at H
                have c25b0 : (((rd_T33 l1 x23_2).f0) == ((rd_T33 l1 x23_2).f1)) = false:=beq_eq_false_iff_ne.mpr c25
                have c25b1 : (((rd_T33 l1 x23_2).f0) != ((rd_T33 l1 x23_2).f1)) = true:=bne_iff_ne.mpr c25
                by_cases c28 : 0 ≤ ((rd_T33 l1 x23_2).f1)
                ·rw [if_pos c28] at H
                 have c28b0 : decide (0 ≤ ((rd_T33 l1 x23_2).f1)) = true:=decide_eq_true c28
                 clear c28
                 by_cases c29 : ((rd_T33 l1 x23_2).f1) < (x6_2.length : Int)
                 ·rw [if_pos c29] at H
                  have c29b0 : decide (((rd_T33 l1 x23_2).f1) < (x6_2.length : Int)) = true:=decide_eq_true c29
                  clear c29
                  obtain ⟨y108,hy108⟩ : ∃ y_ : List Int,y_ = (x6_2.set (((rd_T33 l1 x23_2).f1) : Int).toNat (wrap64 ((rd x6_2 ((rd_T33 l1 x23_2).f1)) + 1))):=⟨_,rfl⟩
                  replace H : (dsg_Order.l0 k2 a0 l1 y108 l1 (l1.length : Int) (wrap64 (x23_2 + 1))) = some (r1,r2):=by first | (rw [hy108];with_reducible exact H) | (have H2_:=(Option.bind_some _ _).symm.trans H;rw [hy108];with_reducible exact H2_) | (have H2_:=(Option.bind_some _ _).symm.trans H;with_reducible exact H2_) | with_reducible exact H | (rw [hy108];exact H) | exact H
                  have Ny108:=Aside0.mk hy108
                  clear hy108
                  have H':=Aside0.mk H
                  clear H
                  have p105 : 0 ≤ (x23_2 : Int):=of_decide_eq_true (by first | (with_reducible assumption) | assumption)
                  have q105 : x23_2 < (l1.length : Int):=of_decide_eq_true (by first | (with_reducible assumption) | assumption)
                  obtain ⟨ad105,e105,hx105_0,hx105_1⟩:=at_T33 HR1.out x23_2 p105 q105
                  cases e105
                  replace hx105_0:=(HB.out.cell (World.block_lt_of_cell? w _ hx105_0)).trans hx105_0
                  replace hx105_1:=(HB.out.cell (World.block_lt_of_cell? w _ hx105_1)).trans hx105_1
                  replace p105:=eq_true p105
                  replace q105:=eq_true q105
                  go_wp2_with (first | ((with_reducible refine gate_dst (N:=8) rfl ?_);refine box_event ?hg (N:=8) ?hd (cs:=#[.int .i64 0,.int .i64 0]) (t:=33) ?hr ?_;(case hd => rfl);(case hg => rfl);(case hr => first | (go_simp;done) | (go_simp;rfl));intro gb106 hg w31 hbox hb;have n0_:=Aside0.mk (Kd.R_below (by (with_reducible repeat (first | apply Kd.R_alloc | apply Kd.R_drewN | apply Kd.R_drew));exact HO_6.out) hb);have n1_:=Aside0.mk (below_step (by repeat (first | (with_reducible first | exact HB.out | apply below_alloc | apply pw_below_drewN | apply below_drew1) | exact HB.out)) hb);have n2_:=Aside0.mk (hbox);have n3_:=Aside0.mk ((by rw [hg];exact (below_size (by repeat (first | (with_reducible first | exact HB.out | apply below_alloc | apply pw_below_drewN | apply below_drew1) | exact HB.out))) : w.heap.size ≤ gb106));have n4_:=Aside0.mk ((by rw [hg];exact (below_size (by repeat (first | (with_reducible first | exact HB.out | apply below_alloc | apply pw_below_drewN | apply below_drew1) | exact HB.out))) : w.heap.size ≤ gb106));clear HO_6;clear HB;have HO_6:=n0_;have HB:=n1_;have BK106:=n2_;have GW106:=n3_;have GE106:=n4_;clear n0_ n1_ n2_ n3_ n4_;clear hb hbox hg;have hcz32_0 : w31.cell? ⟨gb106,0,none⟩ = some (.int .i64 0):=(blk_cell BK106.out 0).trans rfl;have hcz32_1 : w31.cell? ⟨gb106,1,none⟩ = some (.int .i64 0):=(blk_cell BK106.out 1).trans rfl;have hfz32_0:=blk_frozen BK106.out 0;have hfz32_1:=blk_frozen BK106.out 1) | ((with_reducible refine gate_store (t:=33) (p:=8) rfl ?_);refine store_event (t:=33) (p:=8) (v:=?vo_w33) (w1:=((w31.setCell ⟨gb106,0,none⟩ (.int .i64 ((rd_T33 l1 x23_2).f0))).setCell ⟨gb106,1,none⟩ (.int .i64 ((rd_T33 l1 x23_2).f1)))) ?hg ?ho ?hn ?hr ?_;(case ho => rfl);(case hg => rfl);(case hn => rfl);(case hr => first | (go_simp;done) | (go_simp;rfl));intro w33 hw;have n0_ : Aside0 (Kd.R (Kd.int .i64) 3 w33 w.heap.size (fun _ => True) v103 x6_2):=⟨(by rw [hw];exact (by (with_reducible repeat (first | apply Kd.R_alloc | apply Kd.R_drewN | apply Kd.R_drew));exact Kd.R_mono (Kd.R_far (p:=⟨gb106,1,none⟩) (Kd.R_far (p:=⟨gb106,0,none⟩) (Kd.R_types HO_6.out BK106.out (by decide)) (fun _ hk => hk.2) (.int .i64 ((rd_T33 l1 x23_2).f0))) (fun _ hk => hk.2) (.int .i64 ((rd_T33 l1 x23_2).f1))) (fun _ hk => trivial)))⟩;have n1_ : Aside0 (w33.heap[gb106]? = some (.cells #[.int .i64 ((rd_T33 l1 x23_2).f0),.int .i64 ((rd_T33 l1 x23_2).f1)] 33 (0,0))):=⟨(by rw [hw];exact (by (with_reducible repeat (first | refine blk_drewN ?_ _ | refine blk_drew ?_ | refine blk_alloc ?_ _));refine blk_put (cs:=#[.int .i64 ((rd_T33 l1 x23_2).f0),.int .i64 0]) ?_ 1 _ rfl;(with_reducible repeat (first | refine blk_drewN ?_ _ | refine blk_drew ?_ | refine blk_alloc ?_ _));refine blk_put (cs:=#[.int .i64 0,.int .i64 0]) ?_ 0 _ rfl;(with_reducible repeat (first | refine blk_drewN ?_ _ | refine blk_drew ?_ | refine blk_alloc ?_ _));exact BK106.out))⟩;have n2_ : Aside0 (Below w.heap.size w w33):=⟨(by rw [hw];exact (by repeat (first | (with_reducible first | exact HB.out | apply below_alloc | apply pw_below_drewN | apply below_drew1 | refine below_set ?_ GE106.out) | exact HB.out)))⟩;clear hw;clear HO_6;clear BK106;clear HB;have HO_6:=n0_;have BK106:=n1_;have HB:=n2_;clear n0_ n1_ n2_;have hcz34_0 : w33.cell? ⟨gb106,0,none⟩ = some (.int .i64 ((rd_T33 l1 x23_2).f0)):=(blk_cell BK106.out 0).trans rfl;have hcz34_1 : w33.cell? ⟨gb106,1,none⟩ = some (.int .i64 ((rd_T33 l1 x23_2).f1)):=(blk_cell BK106.out 1).trans rfl;have hfz34_0:=blk_frozen BK106.out 0;have hfz34_1:=blk_frozen BK106.out 1;obtain ⟨Ao35,co35,eo35⟩:=Kd.R_slice HO_6.out;subst eo35;have p107 : 0 ≤ (((rd_T33 l1 x23_2).f1) : Int):=of_decide_eq_true (by first | (with_reducible assumption) | assumption);have q107 : ((rd_T33 l1 x23_2).f1) < (x6_2.length : Int):=of_decide_eq_true (by first | (with_reducible assumption) | assumption);obtain ⟨ad107,e107,hx107_0⟩:=Kd.at_int (Kd.R_reads' HO_6.out).2.2 ((rd_T33 l1 x23_2).f1) p107 q107;cases e107;replace p107:=eq_true p107;replace q107:=eq_true q107;have p30 : 0 ≤ (((rd_T33 l1 x23_2).f1) : Int):=of_decide_eq_true (by first | (with_reducible assumption) | assumption);have q30 : (((rd_T33 l1 x23_2).f1) : Int) < ((x6_2.length : Int) : Int):=of_decide_eq_true (by first | (with_reducible assumption) | assumption);obtain ⟨go30,co30,eo30,gb30,gl30,cl30,HG30⟩:=Kd.R_form HO_6.out (by omega);(first | cases eo30 | (injection eo30 with ea_ en_ ec_;(first | subst ea_ | (injection ea_ with ea_;subst ea_));subst ec_;clear en_));have GB30:=Aside0.mk gb30;have GG30:=Aside0.mk HG30;clear gb30 gl30 HG30;(first | simp only [add_plain] at hx107_0 | skip);obtain ⟨hx30_0,hf30_0⟩:=Kd.R_celln 0 HO_6.out (((rd_T33 l1 x23_2).f1) : Int) p30 q30;replace p30:=eq_true p30;replace q30:=eq_true q30;obtain ⟨hy36_,hz36_⟩:=Kd.R_celln 0 HO_6.out (((rd_T33 l1 x23_2).f1) : Int) (of_decide_eq_true (by first | (with_reducible assumption) | assumption)) (of_decide_eq_true (by first | (with_reducible assumption) | assumption));have HP36:=Kd.R_putg HO_6.out (((rd_T33 l1 x23_2).f1) : Int) (wrap64 ((rd x6_2 ((rd_T33 l1 x23_2).f1)) + 1))) | ((with_reducible refine gate_store (t:=3) (p:=60) rfl ?_);refine store_event (t:=3) (p:=60) (v:=?vo_w37) (w1:=(w33.setCell ⟨go30,(((rd_T33 l1 x23_2).f1) : Int).toNat,none⟩ (.int .i64 (wrap64 ((rd x6_2 ((rd_T33 l1 x23_2).f1)) + 1))))) ?hg ?ho ?hn ?hr ?_;(case ho => rfl);(case hg => rfl);(case hn => rfl);(case hr => first | (go_simp;done) | (go_simp;rfl));intro w37 hw;have hg : w33.grownBy w37 (some go30):=(by rw [hw];exact HP36.2);have hp_ : Kd.R (Kd.int .i64) 3 w37 w.heap.size (fun _ => True) (.slice (some ⟨go30,0,none⟩) x6_2.length co35) y108:=(by rw [hw,Ny108.out];exact HP36.1);clear HP36;have n0_:=Aside0.mk (hp_);have n1_:=Aside0.mk (blk_grown (g:=gb106) (o:=.cells #[.int .i64 ((rd_T33 l1 x23_2).f0),.int .i64 ((rd_T33 l1 x23_2).f1)] 33 (0,0)) (by (with_reducible repeat (first | refine blk_drewN ?_ _ | refine blk_drew ?_ | refine blk_alloc ?_ _));exact BK106.out) hg (Kd.R_ne HO_6.out BK106.out (by decide)));have n2_:=Aside0.mk ((by rw [hw];exact below_set (HB.out) GB30.out : Below w.heap.size w w37));clear HO_6;clear BK106;clear HB;have HO_6:=n0_;have BK106:=n1_;have HB:=n2_;clear n0_ n1_ n2_;clear hg hw hp_))
                  go_roundg k2
                  case measure => have:=HJ2.out;have:=HK2.out;omega
                  case rel => exact ⟨(y108),(wrap64 (x23_2 + 1)),(by first | rfl | (simp;done) | (simp [*];done)),H',⟨by have:=HJ2.out;have:=HK2.out;omega⟩,⟨by (with_reducible repeat (first | apply Kd.R_alloc | apply Kd.R_drewN | apply Kd.R_drew));exact HO_6.out⟩,⟨by repeat (first | (with_reducible first | exact HB.out | apply below_alloc | apply pw_below_drewN | apply below_drew1 | refine below_set ?_ GE106.out) | exact HB.out)⟩⟩
                 ·rw [if_neg c29] at H
                  exact absurd H (by simp)
                ·rw [if_neg c28] at H
                 exact absurd H (by simp)
          ·rw [if_neg c12] at H
           exact absurd H (by simp)
         ·rw [if_neg c11] at H
          exact absurd H (by simp)
        ·rw [if_neg c10] at H
         have c10b0 : decide (x23_2 < (l1.length : Int)) = false:=decide_eq_false c10
         clear c10
         have H':=Aside0.mk H
         clear H
         go_wp2
         go_loopg [9,63] k2 (fun kq v9 v63 w' => ∃ (x6_3 : List Int) (x9_3 : List Int) (x63_3 : Int),v63 = .int .i64 x63_3 ∧ Aside0 (dsg_Order.l1 kq l1 x6_3 x9_3 a0 x63_3 = some (r1,r2)) ∧ Aside0 (kq ≤ k2) ∧ Aside0 (Kd.R (Kd.int .i64) 3 w' w.heap.size (fun k_ => some k_ ≠ (v9 : Value).ownBlock) v103 x6_3) ∧ Aside0 (Kd.R (Kd.int .i64) 3 w' w.heap.size (fun k_ => some k_ ≠ (v103 : Value).ownBlock) v9 x9_3) ∧ Aside0 (Below w.heap.size w w'))
         case atStart => exact ⟨(x6_2),(([] : List Int)),(0),(by first | rfl | (simp;done) | (simp [*];done)),H',⟨Nat.le_refl _⟩,⟨by (with_reducible repeat (first | apply Kd.R_alloc | apply Kd.R_drewN | apply Kd.R_drew));exact Kd.R_mono HO_6.out (fun _ hk => (by simp [Value.ownBlock]))⟩,⟨by first | exact Kd.R_nil _ _ _ _ _ | exact Kd.N_nil _ _ _ _ _ | exact Kd.V_nil _ _ _ _ _ | exact Kd.Q_nil _ _ _ _ _ | exact Kd.S_nil _ _ _ _ _⟩,⟨by repeat (first | (with_reducible first | exact HB.out | apply below_alloc | apply pw_below_drewN | apply below_drew1) | exact HB.out)⟩⟩
         case round =>
          clear H'
          try clear c1
          try clear p1
          try clear q1
          try clear hx1
          try clear c2
          try clear p2
          try clear p3
          try clear q3
          try clear hx3
          try clear hf3
          try clear c4
          try clear c4b0
          try clear c5
          try clear c6
          try clear c6b0
          try clear c6b1
          try clear p6
          try clear c7
          try clear c7b0
          try clear c7b1
          try clear c10
          try clear c10b0
          try clear p10
          try clear q10
          try clear hx10
          try clear c11
          try clear c11b0
          try clear c12
          try clear c12b0
          try clear c13
          try clear c13b0
          try clear c14
          try clear c16
          try clear c16b0
          try clear c19
          try clear c19b0
          try clear c22
          try clear c22b0
          try clear c25
          try clear c25b0
          try clear c25b1
          try clear c28
          try clear c28b0
          try clear c29
          try clear c29b0
          try clear p30
          try clear q30
          try clear hx30
          try clear hf30
          try clear hcz15_0
          try clear hcz15_1
          try clear hcz18_0
          try clear hcz18_1
          try clear hcz21_0
          try clear hcz21_1
          try clear hcz24_0
          try clear hcz24_1
          try clear hcz27_0
          try clear hcz27_1
          try clear hcz32_0
          try clear hcz32_1
          try clear hcz34_0
          try clear hcz34_1
          try clear hfz15_0
          try clear hfz15_1
          try clear hfz18_0
          try clear hfz18_1
          try clear hfz21_0
          try clear hfz21_1
          try clear hfz24_0
          try clear hfz24_1
          try clear hfz27_0
          try clear hfz27_1
          try clear hfz32_0
          try clear hfz32_1
          try clear hfz34_0
          try clear hfz34_1
          try clear hx105_0
          try clear hx105_1
          try clear hx107_0
          try clear hx30_0
          try clear p105
          try clear p107
          try clear p2
          try clear p30
          try clear q105
          try clear q107
          try clear q30
          obtain ⟨x6_3,x9_3,x63_3,rfl,HA,HK3,HO_6,HO_9,HB⟩:=hrel
          cases gk with
          | zero => exact absurd HA.out (by simp [dsg_Order.l1])
          | succ k3 =>
           have H:=HA.out
           clear HA
           simp only [dsg_Order.l1] at H
           by_cases c38 : x63_3 < a0
           ·rw [if_pos c38] at H
            have c38b0 : decide (x63_3 < a0) = true:=decide_eq_true c38
            clear c38
            replace H:=Option.bind_eq_some_iff.mp H
            obtain ⟨t109,A390,H⟩:=H
            replace H : (dsg_Order.j3 k3 l1 x6_3 x9_3 t109 a0 x63_3 (decide (t109 < 0))) = some (r1,r2):=H
            have A39:=Aside0.mk A390
            clear A390
            have HC40:=Aside0.mk H
            clear H
            obtain ⟨Ao41,co41,eo41⟩:=Kd.R_slice HO_6.out
            subst eo41
            go_upto_region 15 with (first | ((with_reducible refine gate_callee (f:=44) rfl ?_);refine goesL_ (some 66) rfl rfl Try.func44 (by kernel_rfl) rfl #[.slice Ao41 x6_3.length co41,.int .i64 0] rfl (by (try simp only [List.map_toArray,List.map_cons,List.map_nil]);first | done | rfl | (simp only [List.length_drop,List.length_take];rfl)) ?_;(with_reducible refine (slices_Index_int_int.calls k3 _ _ x6_3 0 t109 _ ?side1 ?side2 A39.out).mono ?_);(case side1 => repeat (first | exact (Kd.R_reads' HO_6.out).2.2 | (with_reducible refine Kd.C_alloc ?_ _) | (with_reducible refine Kd.C_drewN ?_ _) | (with_reducible refine Kd.C_drew ?_)));(case side2 => exact (Kd.R_reads' HO_6.out).2.1);rintro e w' ⟨rfl,⟨nd,rfl⟩⟩;refine ⟨_,rfl,?_⟩))
            (try simp only [Act.put,List.setIfInBounds_toArray,List.set_cons_zero,List.set_cons_succ])
            go_cut [68] (fun v68 wc => ∃ (kq : Nat) (x68_39 : Bool),v68 = .bool x68_39 ∧ Aside0 (dsg_Order.j3 kq l1 x6_3 x9_3 t109 a0 x63_3 x68_39 = some (r1,r2)) ∧ Aside0 (kq ≤ k3) ∧ Aside0 (Kd.R (Kd.int .i64) 3 wc w.heap.size (fun k_ => some k_ ≠ (u9 : Value).ownBlock) (.slice Ao41 x6_3.length co41) x6_3) ∧ Aside0 (Kd.R (Kd.int .i64) 3 wc w.heap.size (fun k_ => some k_ ≠ ((.slice Ao41 x6_3.length co41) : Value).ownBlock) u9 x9_3) ∧ Aside0 (Below w.heap.size w wc))
            case first =>
             have H:=HC40.out
             clear HC40
             have H':=Aside0.mk H
             clear H
             go_wp2
             go_meet
             case rel => exact ⟨_,(decide (t109 < 0)),(by first | rfl | (simp;done) | (simp [*];done)),H',⟨by have:=HJ2.out;have:=HK2.out;have:=HK3.out;first | omega | exact Nat.le_refl _⟩,⟨by (with_reducible repeat (first | apply Kd.R_alloc | apply Kd.R_drewN | apply Kd.R_drew));exact HO_6.out⟩,⟨by (with_reducible repeat (first | apply Kd.R_alloc | apply Kd.R_drewN | apply Kd.R_drew));exact HO_9.out⟩,⟨by repeat (first | (with_reducible first | exact HB.out | apply below_alloc | apply pw_below_drewN | apply below_drew1) | exact HB.out)⟩⟩
            case rest =>
             clear HC40
             try clear c1
             try clear p1
             try clear q1
             try clear hx1
             try clear c2
             try clear p2
             try clear c3
             try clear p3
             try clear q3
             try clear hx3
             try clear hf3
             try clear c4
             try clear c4b0
             try clear c5
             try clear c6
             try clear c6b0
             try clear c6b1
             try clear p6
             try clear c7
             try clear c7b0
             try clear c7b1
             try clear c10
             try clear c10b0
             try clear p10
             try clear q10
             try clear hx10
             try clear c11
             try clear c11b0
             try clear c12
             try clear c12b0
             try clear c13
             try clear c13b0
             try clear c14
             try clear c16
             try clear c16b0
             try clear c19
             try clear c19b0
             try clear c22
             try clear c22b0
             try clear c25
             try clear c25b0
             try clear c25b1
             try clear c28
             try clear c28b0
             try clear c29
             try clear c29b0
             try clear p30
             try clear q30
             try clear hx30
             try clear hf30
             try clear c38
             try clear c38b0
             try clear hcz15_0
             try clear hcz15_1
             try clear hcz18_0
             try clear hcz18_1
             try clear hcz21_0
             try clear hcz21_1
             try clear hcz24_0
             try clear hcz24_1
             try clear hcz27_0
             try clear hcz27_1
             try clear hcz32_0
             try clear hcz32_1
             try clear hcz34_0
             try clear hcz34_1
             try clear hfz15_0
             try clear hfz15_1
             try clear hfz18_0
             try clear hfz18_1
             try clear hfz21_0
             try clear hfz21_1
             try clear hfz24_0
             try clear hfz24_1
             try clear hfz27_0
             try clear hfz27_1
             try clear hfz32_0
             try clear hfz32_1
             try clear hfz34_0
             try clear hfz34_1
             try clear hx105_0
             try clear hx105_1
             try clear hx107_0
             try clear hx30_0
             try clear p1
             try clear p10
             try clear p105
             try clear p107
             try clear p2
             try clear p3
             try clear p30
             try clear p6
             try clear q1
             try clear q10
             try clear q105
             try clear q107
             try clear q3
             try clear q30
             obtain ⟨kq,x68_39,rfl,HA,HJ39,HO_6,HO_9,HB⟩:=hcut
             cases kq with
             | zero => exact absurd HA.out (by simp [dsg_Order.j3])
             | succ kj39 =>
              have H:=HA.out
              clear HA
              simp only [dsg_Order.j3] at H
              by_cases c42 : x68_39 = true
              ·subst c42
               have H1 : (some (([] : List Int),false)) = some (r1,r2):=by rw [if_pos rfl] at H;exact H
               clear H
               have H:=H1
               clear H1
               simp only [Option.some.injEq,Prod.mk.injEq] at H
               obtain ⟨rfl,rfl⟩:=H
               go_wp2
               go_ret2
               exact ⟨_,by first | rfl | (simp [errW_none,errW_some] <;> rfl) | (simp [*,errW_none,errW_some] <;> rfl),by first | exact Kd.R_nil _ _ _ _ _ | exact Kd.N_nil _ _ _ _ _ | exact Kd.V_nil _ _ _ _ _ | exact Kd.Q_nil _ _ _ _ _ | exact Kd.S_nil _ _ _ _ _,by repeat (first | (with_reducible first | exact HB.out | apply below_alloc | apply pw_below_drewN | apply below_drew1) | exact HB.out)⟩
              ·replace c42:=Bool.eq_false_iff.mpr c42
               subst c42
               have H1 : (if 0 ≤ t109 then (if t109 < (x6_3.length : Int) then (dsg_Order.l2 kj39 l1 (x6_3.set (t109 : Int).toNat (-1)) x9_3 t109 a0 x63_3 l1 (l1.length : Int) 0) else (none)) else (none)) = some (r1,r2):=by rw [if_neg (show ¬ (false = true) by decide)] at H;exact H
               clear H
               have H:=H1
               clear H1
               by_cases c43 : 0 ≤ t109
               ·rw [if_pos c43] at H
                have c43b0 : decide (0 ≤ t109) = true:=decide_eq_true c43
                clear c43
                by_cases c44 : t109 < (x6_3.length : Int)
                ·rw [if_pos c44] at H
                 have c44b0 : decide (t109 < (x6_3.length : Int)) = true:=decide_eq_true c44
                 clear c44
                 obtain ⟨y110,hy110⟩ : ∃ y_ : List Int,y_ = (x6_3.set (t109 : Int).toNat (-1)):=⟨_,rfl⟩
                 replace H : (dsg_Order.l2 kj39 l1 y110 x9_3 t109 a0 x63_3 l1 (l1.length : Int) 0) = some (r1,r2):=by first | (rw [hy110];with_reducible exact H) | (have H2_:=(Option.bind_some _ _).symm.trans H;rw [hy110];with_reducible exact H2_) | (have H2_:=(Option.bind_some _ _).symm.trans H;with_reducible exact H2_) | with_reducible exact H | (rw [hy110];exact H) | exact H
                 have Ny110:=Aside0.mk hy110
                 clear hy110
                 have H':=Aside0.mk H
                 clear H
                 have p45 : 0 ≤ (t109 : Int):=of_decide_eq_true (by first | (with_reducible assumption) | assumption)
                 have q45 : (t109 : Int) < ((x6_3.length : Int) : Int):=of_decide_eq_true (by first | (with_reducible assumption) | assumption)
                 obtain ⟨go45,co45,eo45,gb45,gl45,cl45,HG45⟩:=Kd.R_form HO_6.out (by omega)
                 (first | cases eo45 | (injection eo45 with ea_ en_ ec_;(first | subst ea_ | (injection ea_ with ea_;subst ea_));subst ec_;clear en_))
                 have GB45:=Aside0.mk gb45
                 have GG45:=Aside0.mk HG45
                 clear gb45 gl45 HG45
                 obtain ⟨hx45_0,hf45_0⟩:=Kd.R_celln 0 HO_6.out (t109 : Int) p45 q45
                 replace p45:=eq_true p45
                 replace q45:=eq_true q45
                 have HP46:=Kd.R_putg HO_6.out (t109 : Int) (-1)
                 go_wp2_with (first | ((with_reducible refine gate_store (t:=3) (p:=71) rfl ?_);refine store_event (t:=3) (p:=71) (v:=?vo_w47) (w1:=(wc.setCell ⟨go45,(t109 : Int).toNat,none⟩ (.int .i64 (-1)))) ?hg ?ho ?hn ?hr ?_;(case ho => rfl);(case hg => rfl);(case hn => rfl);(case hr => first | (go_simp;done) | (go_simp;rfl));intro w47 hw;have hg : wc.grownBy w47 (some go45):=(by rw [hw];exact HP46.2);have hp_ : Kd.R (Kd.int .i64) 3 w47 w.heap.size (fun k_ => some k_ ≠ (u9 : Value).ownBlock) (.slice (some ⟨go45,0,none⟩) x6_3.length co41) y110:=(by rw [hw,Ny110.out];exact HP46.1);clear HP46;have n0_:=Aside0.mk (hp_);have n1_:=Aside0.mk (Kd.R_after (v:=(.slice (some ⟨go45,0,none⟩) x6_3.length co41)) (v1:=(.slice (some ⟨go45,0,none⟩) x6_3.length co41)) (ok:=(fun _ => True)) (by (with_reducible repeat (first | apply Kd.R_alloc | apply Kd.R_drewN | apply Kd.R_drew));exact Kd.R_mono HO_9.out (fun _ hk => ⟨trivial,hk⟩)) hg (.inl rfl));have n2_:=Aside0.mk ((by rw [hw];exact below_set (HB.out) GB45.out : Below w.heap.size w w47));clear HO_6;clear HO_9;clear HB;have HO_6:=n0_;have HO_9:=n1_;have HB:=n2_;clear n0_ n1_ n2_;clear hg hw hp_))
                 go_loopg [74] kj39 (fun kq v74 w' => ∃ (x6_5 : List Int) (x74_5 : Int),v74 = .int .i64 x74_5 ∧ Aside0 (dsg_Order.l2 kq l1 x6_5 x9_3 t109 a0 x63_3 l1 (l1.length : Int) x74_5 = some (r1,r2)) ∧ Aside0 (kq ≤ kj39) ∧ Aside0 (Kd.R (Kd.int .i64) 3 w' w.heap.size (fun k_ => some k_ ≠ (u9 : Value).ownBlock) (.slice (some ⟨go45,0,none⟩) x6_3.length co41) x6_5) ∧ Aside0 (Kd.R (Kd.int .i64) 3 w' w.heap.size (fun k_ => some k_ ≠ ((.slice (some ⟨go45,0,none⟩) x6_3.length co41) : Value).ownBlock) u9 x9_3) ∧ Aside0 (Below w.heap.size w w'))
                 case atStart => exact ⟨(y110),(0),(by first | rfl | (simp;done) | (simp [*];done)),H',⟨Nat.le_refl _⟩,⟨by (with_reducible repeat (first | apply Kd.R_alloc | apply Kd.R_drewN | apply Kd.R_drew));exact HO_6.out⟩,⟨by (with_reducible repeat (first | apply Kd.R_alloc | apply Kd.R_drewN | apply Kd.R_drew));exact Kd.R_mono HO_9.out (fun _ hk => hk.2)⟩,⟨by repeat (first | (with_reducible first | exact HB.out | apply below_alloc | apply pw_below_drewN | apply below_drew1) | exact HB.out)⟩⟩
                 case round =>
                  clear H'
                  try clear c1
                  try clear p1
                  try clear q1
                  try clear hx1
                  try clear c2
                  try clear p2
                  try clear c3
                  try clear p3
                  try clear q3
                  try clear hx3
                  try clear hf3
                  try clear c4
                  try clear c4b0
                  try clear p4
                  try clear q4
                  try clear hx4
                  try clear hf4
                  try clear c5
                  try clear c6
                  try clear c6b0
                  try clear c6b1
                  try clear p6
                  try clear c7
                  try clear c7b0
                  try clear c7b1
                  try clear c10
                  try clear c10b0
                  try clear p10
                  try clear q10
                  try clear hx10
                  try clear c11
                  try clear c11b0
                  try clear c12
                  try clear c12b0
                  try clear c13
                  try clear c13b0
                  try clear c14
                  try clear c16
                  try clear c16b0
                  try clear c19
                  try clear c19b0
                  try clear c22
                  try clear c22b0
                  try clear c25
                  try clear c25b0
                  try clear c25b1
                  try clear c28
                  try clear c28b0
                  try clear c29
                  try clear c29b0
                  try clear p30
                  try clear q30
                  try clear hx30
                  try clear hf30
                  try clear c38
                  try clear c38b0
                  try clear c42
                  try clear c43
                  try clear c43b0
                  try clear c44
                  try clear c44b0
                  try clear p45
                  try clear q45
                  try clear hx45
                  try clear hf45
                  try clear hcz15_0
                  try clear hcz15_1
                  try clear hcz18_0
                  try clear hcz18_1
                  try clear hcz21_0
                  try clear hcz21_1
                  try clear hcz24_0
                  try clear hcz24_1
                  try clear hcz27_0
                  try clear hcz27_1
                  try clear hcz32_0
                  try clear hcz32_1
                  try clear hcz34_0
                  try clear hcz34_1
                  try clear hfz15_0
                  try clear hfz15_1
                  try clear hfz18_0
                  try clear hfz18_1
                  try clear hfz21_0
                  try clear hfz21_1
                  try clear hfz24_0
                  try clear hfz24_1
                  try clear hfz27_0
                  try clear hfz27_1
                  try clear hfz32_0
                  try clear hfz32_1
                  try clear hfz34_0
                  try clear hfz34_1
                  try clear hx105_0
                  try clear hx105_1
                  try clear hx107_0
                  try clear hx30_0
                  try clear hx45_0
                  try clear p1
                  try clear p10
                  try clear p105
                  try clear p107
                  try clear p2
                  try clear p3
                  try clear p30
                  try clear p45
                  try clear p6
                  try clear q1
                  try clear q10
                  try clear q105
                  try clear q107
                  try clear q3
                  try clear q30
                  try clear q45
                  obtain ⟨x6_5,x74_5,rfl,HA,HK5,HO_6,HO_9,HB⟩:=hrel
                  have hl6_5:=(Kd.R_reads' HO_6.out).1
                  rw [hl6_5] at HO_6
                  (try simp only [hl6_5])
                  (try simp only [hl6_5] at HO_9)
                  cases gk with
                  | zero => exact absurd HA.out (by simp [dsg_Order.l2])
                  | succ k5 =>
                   have H:=HA.out
                   clear HA
                   simp only [dsg_Order.l2] at H
                   by_cases c48 : x74_5 < (l1.length : Int)
                   ·rw [if_pos c48] at H
                    have c48b0 : decide (x74_5 < (l1.length : Int)) = true:=decide_eq_true c48
                    (try (have c48b0h := c48b0; simp only [hl6_5] at c48b0h))
                    clear c48
                    by_cases c49 : 0 ≤ x74_5
                    ·rw [if_pos c49] at H
                     have c49b0 : decide (0 ≤ x74_5) = true:=decide_eq_true c49
                     clear c49
                     by_cases c50 : x74_5 < (l1.length : Int)
                     ·rw [if_pos c50] at H
                      have c50b0 : decide (x74_5 < (l1.length : Int)) = true:=decide_eq_true c50
                      (try (have c50b0h := c50b0; simp only [hl6_5] at c50b0h))
                      clear c50
                      by_cases c51 : ((rd_T33 l1 x74_5).f0) = t109
                      ·rw [if_pos c51] at H
                       have c51b0 : (((rd_T33 l1 x74_5).f0) == t109) = true:=beq_iff_eq.mpr c51
                       have c51b1 : (((rd_T33 l1 x74_5).f0) != t109) = false:=bne_eq_false_iff_eq.mpr c51
                       clear c51
                       by_cases c52 : 0 ≤ ((rd_T33 l1 x74_5).f1)
                       ·rw [if_pos c52] at H
                        have c52b0 : decide (0 ≤ ((rd_T33 l1 x74_5).f1)) = true:=decide_eq_true c52
                        clear c52
                        by_cases c53 : ((rd_T33 l1 x74_5).f1) < (x6_5.length : Int)
                        ·rw [if_pos c53] at H
                         have c53b0 : decide (((rd_T33 l1 x74_5).f1) < (x6_5.length : Int)) = true:=decide_eq_true c53
                         (try (have c53b0h := c53b0; simp only [hl6_5] at c53b0h))
                         clear c53
                         obtain ⟨y114,hy114⟩ : ∃ y_ : List Int,y_ = (x6_5.set (((rd_T33 l1 x74_5).f1) : Int).toNat (wrap64 ((rd x6_5 ((rd_T33 l1 x74_5).f1)) - 1))):=⟨_,rfl⟩
                         replace H : (dsg_Order.l2 k5 l1 y114 x9_3 t109 a0 x63_3 l1 (l1.length : Int) (wrap64 (x74_5 + 1))) = some (r1,r2):=by first | (rw [hy114];with_reducible exact H) | (have H2_:=(Option.bind_some _ _).symm.trans H;rw [hy114];with_reducible exact H2_) | (have H2_:=(Option.bind_some _ _).symm.trans H;with_reducible exact H2_) | with_reducible exact H | (rw [hy114];exact H) | exact H
                         have Ny114:=Aside0.mk hy114
                         clear hy114
                         have H':=Aside0.mk H
                         clear H
                         have p111 : 0 ≤ (x74_5 : Int):=of_decide_eq_true (by first | (with_reducible assumption) | assumption)
                         have q111 : x74_5 < (l1.length : Int):=of_decide_eq_true (by first | (with_reducible assumption) | assumption)
                         obtain ⟨ad111,e111,hx111_0,hx111_1⟩:=at_T33 HR1.out x74_5 p111 q111
                         cases e111
                         replace hx111_0:=(HB.out.cell (World.block_lt_of_cell? w _ hx111_0)).trans hx111_0
                         replace hx111_1:=(HB.out.cell (World.block_lt_of_cell? w _ hx111_1)).trans hx111_1
                         replace p111:=eq_true p111
                         replace q111:=eq_true q111
                         go_wp2_with (first | ((with_reducible refine gate_dst (N:=12) rfl ?_);refine box_event ?hg (N:=12) ?hd (cs:=#[.int .i64 0,.int .i64 0]) (t:=33) ?hr ?_;(case hd => rfl);(case hg => rfl);(case hr => first | (go_simp;done) | (go_simp;rfl));intro gb112 hg w55 hbox hb;have n0_:=Aside0.mk (Kd.R_below (by (with_reducible repeat (first | apply Kd.R_alloc | apply Kd.R_drewN | apply Kd.R_drew));exact HO_6.out) hb);have n1_:=Aside0.mk (Kd.R_below (by (with_reducible repeat (first | apply Kd.R_alloc | apply Kd.R_drewN | apply Kd.R_drew));exact HO_9.out) hb);have n2_:=Aside0.mk (below_step (by repeat (first | (with_reducible first | exact HB.out | apply below_alloc | apply pw_below_drewN | apply below_drew1) | exact HB.out)) hb);have n3_:=Aside0.mk (hbox);have n4_:=Aside0.mk ((by rw [hg];exact (below_size (by repeat (first | (with_reducible first | exact HB.out | apply below_alloc | apply pw_below_drewN | apply below_drew1) | exact HB.out))) : w.heap.size ≤ gb112));have n5_:=Aside0.mk ((by rw [hg];exact (below_size (by repeat (first | (with_reducible first | exact HB.out | apply below_alloc | apply pw_below_drewN | apply below_drew1) | exact HB.out))) : w.heap.size ≤ gb112));clear HO_6;clear HO_9;clear HB;have HO_6:=n0_;have HO_9:=n1_;have HB:=n2_;have BK112:=n3_;have GW112:=n4_;have GE112:=n5_;clear n0_ n1_ n2_ n3_ n4_ n5_;clear hb hbox hg;have hcz56_0 : w55.cell? ⟨gb112,0,none⟩ = some (.int .i64 0):=(blk_cell BK112.out 0).trans rfl;have hcz56_1 : w55.cell? ⟨gb112,1,none⟩ = some (.int .i64 0):=(blk_cell BK112.out 1).trans rfl;have hfz56_0:=blk_frozen BK112.out 0;have hfz56_1:=blk_frozen BK112.out 1) | ((with_reducible refine gate_store (t:=33) (p:=12) rfl ?_);refine store_event (t:=33) (p:=12) (v:=?vo_w57) (w1:=((w55.setCell ⟨gb112,0,none⟩ (.int .i64 ((rd_T33 l1 x74_5).f0))).setCell ⟨gb112,1,none⟩ (.int .i64 ((rd_T33 l1 x74_5).f1)))) ?hg ?ho ?hn ?hr ?_;(case ho => rfl);(case hg => rfl);(case hn => rfl);(case hr => first | (go_simp;done) | (go_simp;rfl));intro w57 hw;have n0_ : Aside0 (Kd.R (Kd.int .i64) 3 w57 w.heap.size (fun k_ => some k_ ≠ (u9 : Value).ownBlock) (.slice (some ⟨go45,0,none⟩) x6_5.length co41) x6_5):=⟨(by rw [hw];exact (by (with_reducible repeat (first | apply Kd.R_alloc | apply Kd.R_drewN | apply Kd.R_drew));exact Kd.R_mono (Kd.R_far (p:=⟨gb112,1,none⟩) (Kd.R_far (p:=⟨gb112,0,none⟩) (Kd.R_types HO_6.out BK112.out (by decide)) (fun _ hk => hk.2) (.int .i64 ((rd_T33 l1 x74_5).f0))) (fun _ hk => hk.2) (.int .i64 ((rd_T33 l1 x74_5).f1))) (fun _ hk => hk.1)))⟩;have n1_ : Aside0 (Kd.R (Kd.int .i64) 3 w57 w.heap.size (fun k_ => some k_ ≠ (.slice (some ⟨go45,0,none⟩) x6_5.length co41 : Value).ownBlock) u9 x9_3):=⟨(by rw [hw];exact (by (with_reducible repeat (first | apply Kd.R_alloc | apply Kd.R_drewN | apply Kd.R_drew));exact Kd.R_mono (Kd.R_far (p:=⟨gb112,1,none⟩) (Kd.R_far (p:=⟨gb112,0,none⟩) (Kd.R_types HO_9.out BK112.out (by decide)) (fun _ hk => hk.2) (.int .i64 ((rd_T33 l1 x74_5).f0))) (fun _ hk => hk.2) (.int .i64 ((rd_T33 l1 x74_5).f1))) (fun _ hk => hk.1)))⟩;have n2_ : Aside0 (w57.heap[gb112]? = some (.cells #[.int .i64 ((rd_T33 l1 x74_5).f0),.int .i64 ((rd_T33 l1 x74_5).f1)] 33 (0,0))):=⟨(by rw [hw];exact (by (with_reducible repeat (first | refine blk_drewN ?_ _ | refine blk_drew ?_ | refine blk_alloc ?_ _));refine blk_put (cs:=#[.int .i64 ((rd_T33 l1 x74_5).f0),.int .i64 0]) ?_ 1 _ rfl;(with_reducible repeat (first | refine blk_drewN ?_ _ | refine blk_drew ?_ | refine blk_alloc ?_ _));refine blk_put (cs:=#[.int .i64 0,.int .i64 0]) ?_ 0 _ rfl;(with_reducible repeat (first | refine blk_drewN ?_ _ | refine blk_drew ?_ | refine blk_alloc ?_ _));exact BK112.out))⟩;have n3_ : Aside0 (Below w.heap.size w w57):=⟨(by rw [hw];exact (by repeat (first | (with_reducible first | exact HB.out | apply below_alloc | apply pw_below_drewN | apply below_drew1 | refine below_set ?_ GE112.out) | exact HB.out)))⟩;clear hw;clear HO_6;clear HO_9;clear BK112;clear HB;have HO_6:=n0_;have HO_9:=n1_;have BK112:=n2_;have HB:=n3_;clear n0_ n1_ n2_ n3_;have hcz58_0 : w57.cell? ⟨gb112,0,none⟩ = some (.int .i64 ((rd_T33 l1 x74_5).f0)):=(blk_cell BK112.out 0).trans rfl;have hcz58_1 : w57.cell? ⟨gb112,1,none⟩ = some (.int .i64 ((rd_T33 l1 x74_5).f1)):=(blk_cell BK112.out 1).trans rfl;have hfz58_0:=blk_frozen BK112.out 0;have hfz58_1:=blk_frozen BK112.out 1;have p113 : 0 ≤ (((rd_T33 l1 x74_5).f1) : Int):=of_decide_eq_true (by first | (with_reducible assumption) | assumption);have q113 : ((rd_T33 l1 x74_5).f1) < (x6_5.length : Int):=of_decide_eq_true (by first | (with_reducible assumption) | assumption);obtain ⟨ad113,e113,hx113_0⟩:=Kd.at_int (Kd.R_reads' HO_6.out).2.2 ((rd_T33 l1 x74_5).f1) p113 q113;obtain rfl : (⟨go45,0,none⟩ : Addr) = ad113:=(by injection e113);(first | simp only [add_plain] at hx113_0 | simp only [add_at] at hx113_0 | simp only [Addr.add,Nat.zero_add] at hx113_0 | skip);replace p113:=eq_true p113;replace q113:=eq_true q113;have p54 : 0 ≤ (((rd_T33 l1 x74_5).f1) : Int):=of_decide_eq_true (by first | (with_reducible assumption) | assumption);have q54 : (((rd_T33 l1 x74_5).f1) : Int) < ((x6_5.length : Int) : Int):=of_decide_eq_true (by first | (with_reducible assumption) | assumption);obtain ⟨hx54_0,hf54_0⟩:=Kd.R_celln 0 HO_6.out (((rd_T33 l1 x74_5).f1) : Int) p54 q54;replace p54:=eq_true p54;replace q54:=eq_true q54;obtain ⟨hy59_,hz59_⟩:=Kd.R_celln 0 HO_6.out (((rd_T33 l1 x74_5).f1) : Int) (of_decide_eq_true (by first | (with_reducible assumption) | assumption)) (of_decide_eq_true (by first | (with_reducible assumption) | assumption));have HP59:=Kd.R_putg HO_6.out (((rd_T33 l1 x74_5).f1) : Int) (wrap64 ((rd x6_5 ((rd_T33 l1 x74_5).f1)) - 1))) | ((with_reducible refine gate_store (t:=3) (p:=88) rfl ?_);refine store_event (t:=3) (p:=88) (v:=?vo_w60) (w1:=(w57.setCell ⟨go45,(((rd_T33 l1 x74_5).f1) : Int).toNat,none⟩ (.int .i64 (wrap64 ((rd x6_5 ((rd_T33 l1 x74_5).f1)) - 1))))) ?hg ?ho ?hn ?hr ?_;(case ho => rfl);(case hg => rfl);(case hn => rfl);(case hr => first | (go_simp;done) | (go_simp;rfl));intro w60 hw;have hg : w57.grownBy w60 (some go45):=(by rw [hw];exact HP59.2);have hp_ : Kd.R (Kd.int .i64) 3 w60 w.heap.size (fun k_ => some k_ ≠ (u9 : Value).ownBlock) (.slice (some ⟨go45,0,none⟩) x6_5.length co41) y114:=(by rw [hw,Ny114.out];exact HP59.1);clear HP59;have n0_:=Aside0.mk (hp_);have n1_:=Aside0.mk (Kd.R_after (v:=(.slice (some ⟨go45,0,none⟩) x6_5.length co41)) (v1:=(.slice (some ⟨go45,0,none⟩) x6_5.length co41)) (ok:=(fun _ => True)) (by (with_reducible repeat (first | apply Kd.R_alloc | apply Kd.R_drewN | apply Kd.R_drew));exact Kd.R_mono HO_9.out (fun _ hk => ⟨trivial,hk⟩)) hg (.inl rfl));have n2_:=Aside0.mk (blk_grown (g:=gb112) (o:=.cells #[.int .i64 ((rd_T33 l1 x74_5).f0),.int .i64 ((rd_T33 l1 x74_5).f1)] 33 (0,0)) (by (with_reducible repeat (first | refine blk_drewN ?_ _ | refine blk_drew ?_ | refine blk_alloc ?_ _));exact BK112.out) hg (Kd.R_ne HO_6.out BK112.out (by decide)));have n3_:=Aside0.mk ((by rw [hw];exact below_set (HB.out) GB45.out : Below w.heap.size w w60));clear HO_6;clear HO_9;clear BK112;clear HB;have HO_6:=n0_;have HO_9:=n1_;have BK112:=n2_;have HB:=n3_;clear n0_ n1_ n2_ n3_;clear hg hw hp_))
                         (try simp only [← hl6_5])
                         go_roundg k5
                         case measure => have:=HJ2.out;have:=HK2.out;have:=HK3.out;have:=HJ39.out;have:=HK5.out;omega
                         case rel => exact ⟨(y114),(wrap64 (x74_5 + 1)),(by first | rfl | (simp;done) | (simp [*];done)),H',⟨by have:=HJ2.out;have:=HK2.out;have:=HK3.out;have:=HJ39.out;have:=HK5.out;omega⟩,⟨by (try simp only [hl6_5]);(with_reducible repeat (first | apply Kd.R_alloc | apply Kd.R_drewN | apply Kd.R_drew));exact HO_6.out⟩,⟨by (try simp only [hl6_5]);(with_reducible repeat (first | apply Kd.R_alloc | apply Kd.R_drewN | apply Kd.R_drew));exact Kd.R_mono HO_9.out (fun _ hk => hk.2)⟩,⟨by repeat (first | (with_reducible first | exact HB.out | apply below_alloc | apply pw_below_drewN | apply below_drew1 | refine below_set ?_ GE112.out) | exact HB.out)⟩⟩
                        ·rw [if_neg c53] at H
                         exact absurd H (by simp)
                       ·rw [if_neg c52] at H
                        exact absurd H (by simp)
                      ·rw [if_neg c51] at H
                       have c51b0 : (((rd_T33 l1 x74_5).f0) == t109) = false:=beq_eq_false_iff_ne.mpr c51
                       have c51b1 : (((rd_T33 l1 x74_5).f0) != t109) = true:=bne_iff_ne.mpr c51
                       have H':=Aside0.mk H
                       clear H
                       have p111 : 0 ≤ (x74_5 : Int):=of_decide_eq_true (by first | (with_reducible assumption) | assumption)
                       have q111 : x74_5 < (l1.length : Int):=of_decide_eq_true (by first | (with_reducible assumption) | assumption)
                       obtain ⟨ad111,e111,hx111_0,hx111_1⟩:=at_T33 HR1.out x74_5 p111 q111
                       cases e111
                       replace hx111_0:=(HB.out.cell (World.block_lt_of_cell? w _ hx111_0)).trans hx111_0
                       replace hx111_1:=(HB.out.cell (World.block_lt_of_cell? w _ hx111_1)).trans hx111_1
                       replace p111:=eq_true p111
                       replace q111:=eq_true q111
                       go_wp2_with (first | ((with_reducible refine gate_dst (N:=12) rfl ?_);refine box_event ?hg (N:=12) ?hd (cs:=#[.int .i64 0,.int .i64 0]) (t:=33) ?hr ?_;(case hd => rfl);(case hg => rfl);(case hr => first | (go_simp;done) | (go_simp;rfl));intro gb112 hg w61 hbox hb;have n0_:=Aside0.mk (Kd.R_below (by (with_reducible repeat (first | apply Kd.R_alloc | apply Kd.R_drewN | apply Kd.R_drew));exact HO_6.out) hb);have n1_:=Aside0.mk (Kd.R_below (by (with_reducible repeat (first | apply Kd.R_alloc | apply Kd.R_drewN | apply Kd.R_drew));exact HO_9.out) hb);have n2_:=Aside0.mk (below_step (by repeat (first | (with_reducible first | exact HB.out | apply below_alloc | apply pw_below_drewN | apply below_drew1) | exact HB.out)) hb);have n3_:=Aside0.mk (hbox);have n4_:=Aside0.mk ((by rw [hg];exact (below_size (by repeat (first | (with_reducible first | exact HB.out | apply below_alloc | apply pw_below_drewN | apply below_drew1) | exact HB.out))) : w.heap.size ≤ gb112));have n5_:=Aside0.mk ((by rw [hg];exact (below_size (by repeat (first | (with_reducible first | exact HB.out | apply below_alloc | apply pw_below_drewN | apply below_drew1) | exact HB.out))) : w.heap.size ≤ gb112));clear HO_6;clear HO_9;clear HB;have HO_6:=n0_;have HO_9:=n1_;have HB:=n2_;have BK112:=n3_;have GW112:=n4_;have GE112:=n5_;clear n0_ n1_ n2_ n3_ n4_ n5_;clear hb hbox hg;have hcz62_0 : w61.cell? ⟨gb112,0,none⟩ = some (.int .i64 0):=(blk_cell BK112.out 0).trans rfl;have hcz62_1 : w61.cell? ⟨gb112,1,none⟩ = some (.int .i64 0):=(blk_cell BK112.out 1).trans rfl;have hfz62_0:=blk_frozen BK112.out 0;have hfz62_1:=blk_frozen BK112.out 1))
                       (try simp only [← hl6_5])
                       go_roundg k5
                       case measure => have:=HJ2.out;have:=HK2.out;have:=HK3.out;have:=HJ39.out;have:=HK5.out;omega
                       case rel => exact ⟨(x6_5),(wrap64 (x74_5 + 1)),(by first | rfl | (simp;done) | (simp [*];done)),H',⟨by have:=HJ2.out;have:=HK2.out;have:=HK3.out;have:=HJ39.out;have:=HK5.out;omega⟩,⟨by (try simp only [hl6_5]);(with_reducible repeat (first | apply Kd.R_alloc | apply Kd.R_drewN | apply Kd.R_drew));exact Kd.R_mono (Kd.R_far (p:=⟨gb112,1,none⟩) (Kd.R_far (p:=⟨gb112,0,none⟩) (Kd.R_types HO_6.out BK112.out (by decide)) (fun _ hk => hk.2) (.int .i64 ((rd_T33 l1 x74_5).f0))) (fun _ hk => hk.2) (.int .i64 ((rd_T33 l1 x74_5).f1))) (fun _ hk => hk.1)⟩,⟨by (try simp only [hl6_5]);(with_reducible repeat (first | apply Kd.R_alloc | apply Kd.R_drewN | apply Kd.R_drew));exact Kd.R_mono (Kd.R_far (p:=⟨gb112,1,none⟩) (Kd.R_far (p:=⟨gb112,0,none⟩) (Kd.R_types HO_9.out BK112.out (by decide)) (fun _ hk => hk.2) (.int .i64 ((rd_T33 l1 x74_5).f0))) (fun _ hk => hk.2) (.int .i64 ((rd_T33 l1 x74_5).f1))) (fun _ hk => hk.1)⟩,⟨by repeat (first | (with_reducible first | exact HB.out | apply below_alloc | apply pw_below_drewN | apply below_drew1 | refine below_set ?_ GE112.out) | exact HB.out)⟩⟩
                     ·rw [if_neg c50] at H
                      exact absurd H (by simp)
                    ·rw [if_neg c49] at H
                     exact absurd H (by simp)
                   ·rw [if_neg c48] at H
                    have c48b0 : decide (x74_5 < (l1.length : Int)) = false:=decide_eq_false c48
                    (try (have c48b0h := c48b0; simp only [hl6_5] at c48b0h))
                    clear c48
                    by_cases c63 : x9_3.length < 17592186044416
                    ·rw [if_pos c63] at H
                     have LMc63:=Aside0.mk c63
                     clear c63
                     obtain ⟨y115,hy115⟩ : ∃ y_ : List Int,y_ = (x9_3 ++ [t109]):=⟨_,rfl⟩
                     replace H : (dsg_Order.l1 k5 l1 x6_5 y115 a0 (wrap64 (x63_3 + 1))) = some (r1,r2):=by first | (rw [hy115];with_reducible exact H) | (have H2_:=(Option.bind_some _ _).symm.trans H;rw [hy115];with_reducible exact H2_) | (have H2_:=(Option.bind_some _ _).symm.trans H;with_reducible exact H2_) | with_reducible exact H | (rw [hy115];exact H) | exact H
                     have Ny115:=Aside0.mk hy115
                     clear hy115
                     have H':=Aside0.mk H
                     clear H
                     go_wp2_with (first | ((with_reducible refine gate_builtin (b:=.append) (xs:=#[.tmp 90,.tmp 92]) rfl ?_);at_builtin;refine Kd.R_append (Kd.int .i64) (w0:=w) w.heap.size rfl (.tmp 90) (.tmp 92) 24 3 (.int .i64 0) 8 rfl Try.underlying24 info3 rfl (by decide) (by omega) u9 x9_3 t109 [.int .i64 t109] (fun k_ => some k_ ≠ (.slice (some ⟨go45,0,none⟩) x6_5.length co41 : Value).ownBlock) (fun _ => False) rfl rfl ?aP (fun _ hk => hk.elim) ?aF ?aO ?aB ?aS ?aL ?_;(case aP => exact rfl);(case aB => exact (by repeat (first | (with_reducible first | exact HB.out | apply below_alloc | apply pw_below_drewN | apply below_drew1) | exact HB.out)));(case aF => exact (fun k_ hk => Kd.fresh' (Kd.R_lt (by (with_reducible repeat (first | apply Kd.R_alloc | apply Kd.R_drewN | apply Kd.R_drew));exact HO_6.out)) k_ hk));(case aO => exact (by (with_reducible repeat (first | apply Kd.R_alloc | apply Kd.R_drewN | apply Kd.R_drew));exact HO_9.out));(case aS => exact (below_size (by repeat (first | (with_reducible first | exact HB.out | apply below_alloc | apply pw_below_drewN | apply below_drew1) | exact HB.out))));(case aL => have:=LMc63.out;omega);intro v116 w64 ho hb hg hat;rw [← Ny115.out] at ho;have n0_:=Aside0.mk (Kd.R_after (ok:=(fun _ => True)) (by (with_reducible repeat (first | apply Kd.R_alloc | apply Kd.R_drewN | apply Kd.R_drew));exact Kd.R_mono HO_6.out (fun _ hk => ⟨trivial,hk⟩)) hg hat);have n1_:=Aside0.mk (hb);have n2_:=Aside0.mk (ho);clear HO_6;clear HB;clear HO_9;have HO_6:=n0_;have HB:=n1_;have HO117:=n2_;clear n0_ n1_ n2_;clear ho hb hg hat))
                     (try simp only [← hl6_5])
                     go_roundg k5
                     case measure => have:=HJ2.out;have:=HK2.out;have:=HK3.out;have:=HJ39.out;have:=HK5.out;omega
                     case rel => exact ⟨(x6_5),(y115),(wrap64 (x63_3 + 1)),(by first | rfl | (simp;done) | (simp [*];done)),H',⟨by have:=HJ2.out;have:=HK2.out;have:=HK3.out;have:=HJ39.out;have:=HK5.out;omega⟩,⟨by (try simp only [hl6_5]);(with_reducible repeat (first | apply Kd.R_alloc | apply Kd.R_drewN | apply Kd.R_drew));exact Kd.R_mono HO_6.out (fun _ hk => hk.2)⟩,⟨by (try simp only [hl6_5]);(with_reducible repeat (first | apply Kd.R_alloc | apply Kd.R_drewN | apply Kd.R_drew));exact HO117.out⟩,⟨by repeat (first | (with_reducible first | exact HB.out | apply below_alloc | apply pw_below_drewN | apply below_drew1) | exact HB.out)⟩⟩
                    ·rw [if_neg c63] at H
                     exact absurd H (by simp)
                ·rw [if_neg c44] at H
                 exact absurd H (by simp)
               ·rw [if_neg c43] at H
                exact absurd H (by simp)
           ·rw [if_neg c38] at H
            have c38b0 : decide (x63_3 < a0) = false:=decide_eq_false c38
            clear c38
            simp only [Option.some.injEq,Prod.mk.injEq] at H
            obtain ⟨rfl,rfl⟩:=H
            go_wp2
            go_ret2
            exact ⟨_,by first | rfl | (simp [errW_none,errW_some] <;> rfl) | (simp [*,errW_none,errW_some] <;> rfl),by (with_reducible repeat (first | apply Kd.R_alloc | apply Kd.R_drewN | apply Kd.R_drew));exact Kd.R_mono HO_9.out (fun _ hk => trivial),by repeat (first | (with_reducible first | exact HB.out | apply below_alloc | apply pw_below_drewN | apply below_drew1) | exact HB.out)⟩
     ·rw [if_neg c7] at H
      exact absurd H (by simp)
    ·rw [if_neg c6] at H
     exact absurd H (by simp)
end Go.Proofs.Ytbmcbhpkefjhbaa.P
namespace Go.Proofs.Ytbmcbhpkefjhbaa.P
open Go.RowKit Go.Proofs.YtbmcbhpkefjhbaaW.PrintWords Go.Proofs.YtbmcbhpkefjhbaaW.PrintLast Go.Proofs.YtbmcbhpkefjhbaaW.PrintMore
attribute [local go_sem] max2_int min2_int max_two min_two max_three min_three max_four min_four   -- for this text's walks alone
attribute [local go_sem] run_store_float
set_option linter.unusedVariables false
set_option linter.unusedSimpArgs false
def humusref11_Ints.l0 : Nat → List Int → List Int → Int → Option (Bool)
 | 0,_,_,_ => none
 | k + 1,x0,x1,x5 => if x5 < (x0.length : Int) then (if 0 ≤ x5 then (if x5 < (x1.length : Int) then (if (rd x0 x5) = (rd x1 x5) then (humusref11_Ints.l0 k x0 x1 (wrap64 (x5 + 1))) else (some false)) else (none)) else (none)) else (some true)
def humusref11_Ints.f (k : Nat) (l0 : List Int) (l1 : List Int) : Option (Bool):=if (l0.length : Int) = (l1.length : Int) then (humusref11_Ints.l0 k l0 l1 0) else (some false)
theorem humusref11_Ints.mono_l : ∀ k,(∀ y0 y1 y2,LeO (humusref11_Ints.l0 k y0 y1 y2) (humusref11_Ints.l0 (k + 1) y0 y1 y2))
 | 0 => fun _ _ _ r h => by simp [humusref11_Ints.l0] at h
 | k + 1 => by
  have ih0:=humusref11_Ints.mono_l k
  ·intro y0 y1 y2
   unfold humusref11_Ints.l0
   repeat' first
   | (with_reducible exact ih0 _ _ _)
   | (with_reducible exact LeO.refl _)
   | (with_reducible exact LeO.none _)
   | (with_reducible refine LeO.ite ?_ ?_)
   | (with_reducible refine LeO.bind ?_ (fun _ => ?_))
   | exact ih0 _ _ _
   | exact LeO.none _
   | refine LeO.ite ?_ ?_
   | refine LeO.bind ?_ (fun _ => ?_)
theorem humusref11_Ints.mono : ∀ a0 a1 k,LeO (humusref11_Ints.f k a0 a1) (humusref11_Ints.f (k + 1) a0 a1):=by
 intro a0 a1 k
 have ih0:=humusref11_Ints.mono_l k
 unfold humusref11_Ints.f
 repeat' first
   | (with_reducible exact ih0 _ _ _)
   | (with_reducible exact LeO.refl _)
   | (with_reducible exact LeO.none _)
   | (with_reducible refine LeO.ite ?_ ?_)
   | (with_reducible refine LeO.bind ?_ (fun _ => ?_))
   | exact ih0 _ _ _
   | exact LeO.none _
   | refine LeO.ite ?_ ?_
   | refine LeO.bind ?_ (fun _ => ?_)
set_option maxHeartbeats 8000000 in
set_option maxRecDepth 100000 in
theorem humusref11_Ints.calls (k : Nat) (A0 : Option Addr) (c0 : Nat) (l0 : List Int) (A1 : Option Addr) (c1 : Nat) (l1 : List Int) (r : Bool) (w : World) (hr0 : Kd.C (Kd.int .i64) w A0 l0.length l0) (hc0 : l0.length ≤ c0) (hr1 : Kd.C (Kd.int .i64) w A1 l1.length l1) (hc1 : l1.length ≤ c1) (h : humusref11_Ints.f k l0 l1 = some r) :
  Calls Try.prog 16 #[.slice A0 l0.length c0,.slice A1 l1.length c1] w fun e w' => e = .returned (.bool r) ∧ Drawn0 w w':=by
 have HR0:=Aside0.mk hr0
 have HC0:=Aside0.mk hc0
 clear hr0 hc0
 have HR1:=Aside0.mk hr1
 have HC1:=Aside0.mk hc1
 clear hr1 hc1
 have H : (if (l0.length : Int) = (l1.length : Int) then (humusref11_Ints.l0 k l0 l1 0) else (some false)) = some r:=h
 clear h
 by_cases c3 : (l0.length : Int) = (l1.length : Int)
 ·rw [if_pos c3] at H
  have c3b0 : ((l0.length : Int) == (l1.length : Int)) = true:=beq_iff_eq.mpr c3
  have c3b1 : ((l0.length : Int) != (l1.length : Int)) = false:=bne_eq_false_iff_eq.mpr c3
  have c3b2 : (l0.length == l1.length) = true:=by first | simpa using c3 | (simp at c3 ⊢;omega)
  clear c3
  have H':=Aside0.mk H
  clear H
  go_enter Try.func16,Try.ntmps16
  go_wp2
  repeat (go_quiet (fail);try go_wp2)
  go_loopg [5] k (fun kq v5 w' => ∃ (x5_1 : Int),v5 = .int .i64 x5_1 ∧ Aside0 (humusref11_Ints.l0 kq l0 l1 x5_1 = some r) ∧ Aside0 (kq ≤ k) ∧ Drawn0 w w')
  case atStart => exact ⟨(0),(by first | rfl | (simp;done) | (simp [*];done)),H',⟨Nat.le_refl _⟩,by repeat (first | exact Drawn0.refl _ | apply Drawn0.step)⟩
  case round =>
   clear H'
   try clear c1
   try clear p2
   try clear c3
   try clear c3b0
   try clear c3b1
   try clear c3b2
   obtain ⟨x5_1,rfl,HA,HK1,⟨m1,rfl⟩⟩:=hrel
   cases gk with
   | zero => exact absurd HA.out (by simp [humusref11_Ints.l0])
   | succ k1 =>
    have H:=HA.out
    clear HA
    simp only [humusref11_Ints.l0] at H
    by_cases c4 : x5_1 < (l0.length : Int)
    ·rw [if_pos c4] at H
     have c4b0 : decide (x5_1 < (l0.length : Int)) = true:=decide_eq_true c4
     clear c4
     by_cases c5 : 0 ≤ x5_1
     ·rw [if_pos c5] at H
      have c5b0 : decide (0 ≤ x5_1) = true:=decide_eq_true c5
      clear c5
      by_cases c6 : x5_1 < (l1.length : Int)
      ·rw [if_pos c6] at H
       have c6b0 : decide (x5_1 < (l1.length : Int)) = true:=decide_eq_true c6
       clear c6
       by_cases c7 : (rd l0 x5_1) = (rd l1 x5_1)
       ·rw [if_pos c7] at H
        have c7b0 : ((rd l0 x5_1) == (rd l1 x5_1)) = true:=beq_iff_eq.mpr c7
        have c7b1 : ((rd l0 x5_1) != (rd l1 x5_1)) = false:=bne_eq_false_iff_eq.mpr c7
        clear c7
        have H':=Aside0.mk H
        clear H
        have p118 : 0 ≤ (x5_1 : Int):=of_decide_eq_true (by first | (with_reducible assumption) | assumption)
        have q118 : x5_1 < (l0.length : Int):=of_decide_eq_true (by first | (with_reducible assumption) | assumption)
        obtain ⟨ad118,e118,hx118_0⟩:=Kd.at_int HR0.out x5_1 p118 q118
        cases e118
        replace p118:=eq_true p118
        replace q118:=eq_true q118
        have p119 : 0 ≤ (x5_1 : Int):=of_decide_eq_true (by first | (with_reducible assumption) | assumption)
        have q119 : x5_1 < (l1.length : Int):=of_decide_eq_true (by first | (with_reducible assumption) | assumption)
        obtain ⟨ad119,e119,hx119_0⟩:=Kd.at_int HR1.out x5_1 p119 q119
        cases e119
        replace p119:=eq_true p119
        replace q119:=eq_true q119
        go_wp2
        repeat (go_quiet (fail);try go_wp2)
        go_roundg k1
        case measure => have:=HK1.out;omega
        case rel => exact ⟨(wrap64 (x5_1 + 1)),(by first | rfl | (simp;done) | (simp [*];done)),H',⟨by have:=HK1.out;omega⟩,by repeat (first | exact Drawn0.refl _ | apply Drawn0.step)⟩
       ·rw [if_neg c7] at H
        have c7b0 : ((rd l0 x5_1) == (rd l1 x5_1)) = false:=beq_eq_false_iff_ne.mpr c7
        have c7b1 : ((rd l0 x5_1) != (rd l1 x5_1)) = true:=bne_iff_ne.mpr c7
        obtain rfl:=Option.some.inj H
        have p118 : 0 ≤ (x5_1 : Int):=of_decide_eq_true (by first | (with_reducible assumption) | assumption)
        have q118 : x5_1 < (l0.length : Int):=of_decide_eq_true (by first | (with_reducible assumption) | assumption)
        obtain ⟨ad118,e118,hx118_0⟩:=Kd.at_int HR0.out x5_1 p118 q118
        cases e118
        replace p118:=eq_true p118
        replace q118:=eq_true q118
        have p119 : 0 ≤ (x5_1 : Int):=of_decide_eq_true (by first | (with_reducible assumption) | assumption)
        have q119 : x5_1 < (l1.length : Int):=of_decide_eq_true (by first | (with_reducible assumption) | assumption)
        obtain ⟨ad119,e119,hx119_0⟩:=Kd.at_int HR1.out x5_1 p119 q119
        cases e119
        replace p119:=eq_true p119
        replace q119:=eq_true q119
        go_wp2
        repeat (go_quiet (fail);try go_wp2)
        go_ret
        exact ⟨by first | rfl | (simp;done) | (simp [*];done),by repeat (first | exact Drawn0.refl _ | apply Drawn0.step)⟩
      ·rw [if_neg c6] at H
       exact absurd H (by simp)
     ·rw [if_neg c5] at H
      exact absurd H (by simp)
    ·rw [if_neg c4] at H
     have c4b0 : decide (x5_1 < (l0.length : Int)) = false:=decide_eq_false c4
     clear c4
     obtain rfl:=Option.some.inj H
     go_wp2
     repeat (go_quiet (fail);try go_wp2)
     go_ret
     exact ⟨by first | rfl | (simp;done) | (simp [*];done),by repeat (first | exact Drawn0.refl _ | apply Drawn0.step)⟩
 ·rw [if_neg c3] at H
  have c3b0 : ((l0.length : Int) == (l1.length : Int)) = false:=beq_eq_false_iff_ne.mpr c3
  have c3b1 : ((l0.length : Int) != (l1.length : Int)) = true:=bne_iff_ne.mpr c3
  have c3b2 : (l0.length == l1.length) = false:=by first | simpa using c3 | (simp at c3 ⊢;omega)
  obtain rfl:=Option.some.inj H
  go_enter Try.func16,Try.ntmps16
  go_wp2
  repeat (go_quiet (fail);try go_wp2)
  go_ret
  exact ⟨by first | rfl | (simp;done) | (simp [*];done),by repeat (first | exact Drawn0.refl _ | apply Drawn0.step)⟩
end Go.Proofs.Ytbmcbhpkefjhbaa.P
namespace Go.Proofs.Ytbmcbhpkefjhbaa.P
open Go.RowKit Go.Proofs.YtbmcbhpkefjhbaaW.PrintWords Go.Proofs.YtbmcbhpkefjhbaaW.PrintLast Go.Proofs.YtbmcbhpkefjhbaaW.PrintMore
attribute [local go_sem] max2_int min2_int max_two min_two max_three min_three max_four min_four   -- for this text's walks alone
attribute [local go_sem] run_store_float
set_option linter.unusedVariables false
set_option linter.unusedSimpArgs false
def humuslaw26_awake.j0 : Nat → Bool → Option (Bool)
 | 0,_ => none
 | k + 1,x0 => some x0
def humuslaw26_awake.f (k : Nat)  : Option (Bool):=(dsg_Order.f k 3 (([(⟨2,0⟩ : S33)] : List (S33)))).bind fun bt123 => (if bt123.2 = true then ((humusref11_Ints.f k bt123.1 (([1,2,0] : List Int))).bind fun t130 => (humuslaw26_awake.j0 k t130)) else (humuslaw26_awake.j0 k false))
theorem humuslaw26_awake.mono_l : ∀ k,(∀ y0,LeO (humuslaw26_awake.j0 k y0) (humuslaw26_awake.j0 (k + 1) y0))
 | 0 => fun _ r h => by simp [humuslaw26_awake.j0] at h
 | k + 1 => by
  have ih0:=humuslaw26_awake.mono_l k
  ·intro y0
   unfold humuslaw26_awake.j0
   repeat' first
   | (with_reducible exact ih0 _)
   | (with_reducible exact dsg_Order.mono _ _ _)
   | (with_reducible exact humusref11_Ints.mono _ _ _)
   | (with_reducible exact LeO.refl _)
   | (with_reducible exact LeO.none _)
   | (with_reducible refine LeO.ite ?_ ?_)
   | (with_reducible refine LeO.bind ?_ (fun _ => ?_))
   | exact ih0 _
   | exact dsg_Order.mono _ _ _
   | exact humusref11_Ints.mono _ _ _
   | exact LeO.none _
   | refine LeO.ite ?_ ?_
   | refine LeO.bind ?_ (fun _ => ?_)
theorem humuslaw26_awake.mono : ∀ k,LeO (humuslaw26_awake.f k ) (humuslaw26_awake.f (k + 1) ):=by
 intro  k
 have ih0:=humuslaw26_awake.mono_l k
 unfold humuslaw26_awake.f
 repeat' first
   | (with_reducible exact ih0 _)
   | (with_reducible exact dsg_Order.mono _ _ _)
   | (with_reducible exact humusref11_Ints.mono _ _ _)
   | (with_reducible exact LeO.refl _)
   | (with_reducible exact LeO.none _)
   | (with_reducible refine LeO.ite ?_ ?_)
   | (with_reducible refine LeO.bind ?_ (fun _ => ?_))
   | exact ih0 _
   | exact dsg_Order.mono _ _ _
   | exact humusref11_Ints.mono _ _ _
   | exact LeO.none _
   | refine LeO.ite ?_ ?_
   | refine LeO.bind ?_ (fun _ => ?_)
set_option maxHeartbeats 8000000 in
set_option maxRecDepth 100000 in
theorem humuslaw26_awake.calls (k : Nat)  (r : Bool) (w : World) (h : humuslaw26_awake.f k  = some r) :
  Calls Try.prog 13 #[] w fun e w' => e = .returned (.bool r) ∧ Below w.heap.size w w':=by
 have hu33:=Try.underlying33
 have HB:=Aside0.mk (Below.refl w.heap.size w)
 have H : ((dsg_Order.f k 3 (([(⟨2,0⟩ : S33)] : List (S33)))).bind fun bt123 => (if bt123.2 = true then ((humusref11_Ints.f k bt123.1 (([1,2,0] : List Int))).bind fun t130 => (humuslaw26_awake.j0 k t130)) else (humuslaw26_awake.j0 k false))) = some r:=h
 clear h
 obtain ⟨y120,hy120⟩ : ∃ y_ : List (S33),y_ = (([(⟨2,0⟩ : S33)] : List (S33))):=⟨_,rfl⟩
 replace H : ((dsg_Order.f k 3 y120).bind fun bt123 => (if bt123.2 = true then ((humusref11_Ints.f k bt123.1 (([1,2,0] : List Int))).bind fun t130 => (humuslaw26_awake.j0 k t130)) else (humuslaw26_awake.j0 k false))) = some r:=by first | (rw [hy120];with_reducible exact H) | (have H2_:=(Option.bind_some _ _).symm.trans H;rw [hy120];with_reducible exact H2_) | (have H2_:=(Option.bind_some _ _).symm.trans H;with_reducible exact H2_) | with_reducible exact H | (rw [hy120];exact H) | exact H
 have Ny120:=Aside0.mk hy120
 clear hy120
 replace H:=Option.bind_eq_some_iff.mp H
 obtain ⟨⟨t123,t124⟩,A10,H⟩:=H
 replace H : (if t124 = true then ((humusref11_Ints.f k t123 (([1,2,0] : List Int))).bind fun t130 => (humuslaw26_awake.j0 k t130)) else (humuslaw26_awake.j0 k false)) = some r:=H
 have A1:=Aside0.mk A10
 clear A10
 have HC2:=Aside0.mk H
 clear H
 go_enter Try.func13,Try.ntmps13
 go_upto_region 2 with (first | ((with_reducible refine gate_dst (N:=5) rfl ?_);(try (refine gate_guard (by rfl) ?_;dsimp only));refine Kd.R_lit k33 _ 33 ?hg (N:=5) ?hd (xs:=([(⟨2,0⟩ : S33)] : List (S33))) (inner:=[.int .i64 2,.int .i64 0]) (ok:=fun _ => True) (okp:=fun _ => True) ?hr ?hp (fun _ hk => hk) trivial (Below.refl _ _) (Nat.le_refl _) (by simp) ?_;(case hd => rfl);(case hg => rfl);(case hr => first | (go_simp;done) | (go_simp;rfl));(case hp => exact (Reps.c2 (show Kd.M k33 _ _ _ (⟨2,0⟩ : S33) [.int .i64 2,.int .i64 0] from (k33_mkM _ _ _ (⟨2,0⟩ : S33) )) (Reps.none _ _)));intro v121 w3 ho4 hb hg_ hnew_;clear hg_ hnew_;(first | rw [← Ny120.out] at ho4 | (simp only [Int.reduceToNat] at ho4;rw [← Ny120.out] at ho4));have n0_:=Aside0.mk (Kd.R_lower ho4 (below_size (by repeat (first | (with_reducible first | exact HB.out | apply below_alloc | apply pw_below_drewN | apply below_drew1) | exact HB.out))));have n1_:=Aside0.mk (below_step (by repeat (first | (with_reducible first | exact HB.out | apply below_alloc | apply pw_below_drewN | apply below_drew1) | exact HB.out)) hb);clear HB;have HO122:=n0_;have HB:=n1_;clear n0_ n1_;clear hb ho4;obtain ⟨Ao5,co5,eo5⟩:=Kd.R_slice HO122.out;subst eo5) | ((with_reducible refine gate_callee (f:=14) rfl ?_);refine goesL_ (some 6) rfl rfl Try.func14 (by kernel_rfl) rfl #[.int .i64 3,.slice Ao5 y120.length co5] rfl (by (try simp only [List.map_toArray,List.map_cons,List.map_nil]);first | done | rfl | (simp only [List.length_drop,List.length_take];rfl)) ?_;(with_reducible refine (dsg_Order.calls k 3 _ _ y120 t123 t124 _ ?side1 ?side2 A1.out).mono ?_);(case side1 => repeat (first | exact (Kd.R_reads' HO122.out).2.2 | (with_reducible refine Kd.C_alloc ?_ _) | (with_reducible refine Kd.C_drewN ?_ _) | (with_reducible refine Kd.C_drew ?_)));(case side2 => exact (Kd.R_reads' HO122.out).2.1);rintro e w6 ⟨v125,rfl,ho0,hb⟩;refine ⟨_,rfl,?_⟩;have n0_:=Aside0.mk (Kd.R_below (by (with_reducible repeat (first | apply Kd.R_alloc | apply Kd.R_drewN | apply Kd.R_drew));exact HO122.out) hb);have n1_:=Aside0.mk (Kd.R_lower ho0 (below_size (by repeat (first | (with_reducible first | exact HB.out | apply below_alloc | apply pw_below_drewN | apply below_drew1) | exact HB.out))));have n2_:=Aside0.mk (below_step (by repeat (first | (with_reducible first | exact HB.out | apply below_alloc | apply pw_below_drewN | apply below_drew1) | exact HB.out)) hb);clear HO122;clear HB;have HO122:=n0_;have HO126:=n1_;have HB:=n2_;clear n0_ n1_ n2_;(try clear hb);(try clear hb2);(try clear hk);(try clear hi);(try clear ho0)))
 (try simp only [Act.put,List.setIfInBounds_toArray,List.set_cons_zero,List.set_cons_succ])
 go_cut [0] (fun v0 wc => ∃ (kq : Nat) (x0_1 : Bool),v0 = .bool x0_1 ∧ Aside0 (humuslaw26_awake.j0 kq x0_1 = some r) ∧ Aside0 (kq ≤ k) ∧ Aside0 (Below w.heap.size w wc))
 case first =>
  have H:=HC2.out
  clear HC2
  by_cases c7 : t124 = true
  ·subst c7
   have H1 : ((humusref11_Ints.f k t123 (([1,2,0] : List Int))).bind fun t130 => (humuslaw26_awake.j0 k t130)) = some r:=by rw [if_pos rfl] at H;exact H
   clear H
   have H:=H1
   clear H1
   obtain ⟨y127,hy127⟩ : ∃ y_ : List Int,y_ = (([1,2,0] : List Int)):=⟨_,rfl⟩
   replace H : ((humusref11_Ints.f k t123 y127).bind fun t130 => (humuslaw26_awake.j0 k t130)) = some r:=by first | (rw [hy127];with_reducible exact H) | (have H2_:=(Option.bind_some _ _).symm.trans H;rw [hy127];with_reducible exact H2_) | (have H2_:=(Option.bind_some _ _).symm.trans H;with_reducible exact H2_) | with_reducible exact H | (rw [hy127];exact H) | exact H
   have Ny127:=Aside0.mk hy127
   clear hy127
   replace H:=Option.bind_eq_some_iff.mp H
   obtain ⟨t130,A80,H⟩:=H
   replace H : (humuslaw26_awake.j0 k t130) = some r:=H
   have A8:=Aside0.mk A80
   clear A80
   have H':=Aside0.mk H
   clear H
   go_wp2_with (first | ((with_reducible refine gate_dst (N:=12) rfl ?_);(try (refine gate_guard (by rfl) ?_;dsimp only));refine Kd.R_lit (Kd.int .i64) _ 3 ?hg (N:=12) ?hd (xs:=([1,2,0] : List Int)) (inner:=[.int .i64 1,.int .i64 2,.int .i64 0]) (ok:=fun _ => True) (okp:=fun _ => True) ?hr ?hp (fun _ hk => hk) trivial (Below.refl _ _) (Nat.le_refl _) (by simp) ?_;(case hd => rfl);(case hg => rfl);(case hr => first | (go_simp;done) | (go_simp;rfl));(case hp => exact (Reps.one (show Kd.M (Kd.int .i64) _ _ _ 1 [.int .i64 1] from rfl) (Reps.one (show Kd.M (Kd.int .i64) _ _ _ 2 [.int .i64 2] from rfl) (Reps.one (show Kd.M (Kd.int .i64) _ _ _ 0 [.int .i64 0] from rfl) (Reps.none _ _)))));intro v128 w9 ho10 hb hg_ hnew_;clear hg_ hnew_;(first | rw [← Ny127.out] at ho10 | (simp only [Int.reduceToNat] at ho10;rw [← Ny127.out] at ho10));have n0_:=Aside0.mk (Kd.R_below (by (with_reducible repeat (first | apply Kd.R_alloc | apply Kd.R_drewN | apply Kd.R_drew));exact HO122.out) hb);have n1_:=Aside0.mk (Kd.R_elder' (by (with_reducible repeat (first | apply Kd.R_alloc | apply Kd.R_drewN | apply Kd.R_drew));exact HO126.out) (Kd.R_base ho10) hb);have n2_:=Aside0.mk (Kd.R_lower (Kd.R_new' ho10 (Kd.R_lt (by (with_reducible repeat (first | apply Kd.R_alloc | apply Kd.R_drewN | apply Kd.R_drew));exact HO126.out))) (below_size (by repeat (first | (with_reducible first | exact HB.out | apply below_alloc | apply pw_below_drewN | apply below_drew1) | exact HB.out))));have n3_:=Aside0.mk (below_step (by repeat (first | (with_reducible first | exact HB.out | apply below_alloc | apply pw_below_drewN | apply below_drew1) | exact HB.out)) hb);clear HO122;clear HO126;clear HB;have HO122:=n0_;have HO126:=n1_;have HO129:=n2_;have HB:=n3_;clear n0_ n1_ n2_ n3_;clear hb ho10;obtain ⟨Ao11,co11,eo11⟩:=Kd.R_slice HO126.out;subst eo11;obtain ⟨Ao12,co12,eo12⟩:=Kd.R_slice HO129.out;subst eo12) | (go_at_call 16;(with_reducible refine (humusref11_Ints.calls k _ _ t123 _ _ y127 t130 _ ?side1 ?side2 ?side3 ?side4 A8.out).mono ?_);(case side1 => repeat (first | exact (Kd.R_reads' HO126.out).2.2 | (with_reducible refine Kd.C_alloc ?_ _) | (with_reducible refine Kd.C_drewN ?_ _) | (with_reducible refine Kd.C_drew ?_)));(case side2 => exact (Kd.R_reads' HO126.out).2.1);(case side3 => repeat (first | exact (Kd.R_reads' HO129.out).2.2 | (with_reducible refine Kd.C_alloc ?_ _) | (with_reducible refine Kd.C_drewN ?_ _) | (with_reducible refine Kd.C_drew ?_)));(case side4 => exact (Kd.R_reads' HO129.out).2.1);rintro e w' ⟨rfl,⟨nd,rfl⟩⟩))
   go_meet
   case rel => exact ⟨_,(t130),(by first | rfl | (simp;done) | (simp [*];done)),H',⟨by first | omega | exact Nat.le_refl _⟩,⟨by repeat (first | (with_reducible first | exact HB.out | apply below_alloc | apply pw_below_drewN | apply below_drew1) | exact HB.out)⟩⟩
  ·replace c7:=Bool.eq_false_iff.mpr c7
   subst c7
   have H1 : (humuslaw26_awake.j0 k false) = some r:=by rw [if_neg (show ¬ (false = true) by decide)] at H;exact H
   clear H
   have H:=H1
   clear H1
   have H':=Aside0.mk H
   clear H
   go_wp2
   go_meet
   case rel => exact ⟨_,(false),(by first | rfl | (simp;done) | (simp [*];done)),H',⟨by first | omega | exact Nat.le_refl _⟩,⟨by repeat (first | (with_reducible first | exact HB.out | apply below_alloc | apply pw_below_drewN | apply below_drew1) | exact HB.out)⟩⟩
 case rest =>
  clear HC2
  try clear c1
  try clear c2
  try clear p2
  try clear c7
  obtain ⟨kq,x0_1,rfl,HA,HJ1,HB⟩:=hcut
  cases kq with
  | zero => exact absurd HA.out (by simp [humuslaw26_awake.j0])
  | succ kj1 =>
   have H:=HA.out
   clear HA
   simp only [humuslaw26_awake.j0] at H
   obtain rfl:=Option.some.inj H
   go_wp2
   go_ret
   exact ⟨by first | rfl | (simp [errW_none,errW_some] <;> rfl) | (simp [*,errW_none,errW_some] <;> rfl),by repeat (first | (with_reducible first | exact HB.out | apply below_alloc | apply pw_below_drewN | apply below_drew1) | exact HB.out)⟩
mutual
def humuslaw26_Light.l0 : Nat → List (S43) → Int → Option (Bool)
 | 0,_,_ => none
 | k + 1,x0,x3 => if x3 < (x0.length : Int) then (humuslaw26_Light.j1 k x0 x3 (decide (x3 < 15))) else (humuslaw26_Light.j1 k x0 x3 false)
def humuslaw26_Light.j1 : Nat → List (S43) → Int → Bool → Option (Bool)
 | 0,_,_,_ => none
 | k + 1,x0,x3,x11 => if x11 = true then (if 0 ≤ x3 then (if x3 < (x0.length : Int) then (if (((rd_T43 x0 x3).f2).length : Int) > 20 then (some false) else (if (((rd_T43 x0 x3).f3).length : Int) > 20 then (some false) else (humuslaw26_Light.l0 k x0 (wrap64 (x3 + 1))))) else (none)) else (none)) else (some (decide ((x0.length : Int) ≤ 15)))
end
def humuslaw26_Light.f (k : Nat) (l0 : List (S43)) : Option (Bool):=humuslaw26_Light.l0 k l0 0
set_option maxHeartbeats 8000000 in
set_option maxRecDepth 100000 in
theorem humuslaw26_Light.calls (k : Nat) (A0 : Option Addr) (c0 : Nat) (l0 : List (S43)) (r : Bool) (w : World) (hr0 : Kd.C k43 w A0 l0.length l0) (hc0 : l0.length ≤ c0) (h : humuslaw26_Light.f k l0 = some r) :
  Calls Try.prog 17 #[.slice A0 l0.length c0] w fun e w' => e = .returned (.bool r) ∧ Drawn0 w w':=by
 have HR0:=Aside0.mk hr0
 have HC0:=Aside0.mk hc0
 clear hr0 hc0
 have H : (humuslaw26_Light.l0 k l0 0) = some r:=h
 clear h
 have H':=Aside0.mk H
 clear H
 go_enter Try.func17,Try.ntmps17
 go_wp2
 go_loopg [3] k (fun kq v3 w' => ∃ (x3_1 : Int),v3 = .int .i64 x3_1 ∧ Aside0 (humuslaw26_Light.l0 kq l0 x3_1 = some r) ∧ Aside0 (kq ≤ k) ∧ Drawn0 w w')
 case atStart => exact ⟨(0),(by first | rfl | (simp;done) | (simp [*];done)),H',⟨Nat.le_refl _⟩,by repeat (first | exact Drawn0.refl _ | apply Drawn0.step)⟩
 case round =>
  clear H'
  try clear c1
  obtain ⟨x3_1,rfl,HA,HK1,⟨m1,rfl⟩⟩:=hrel
  cases gk with
  | zero => exact absurd HA.out (by simp [humuslaw26_Light.l0])
  | succ k1 =>
   have H:=HA.out
   clear HA
   simp only [humuslaw26_Light.l0] at H
   have HC2:=Aside0.mk H
   clear H
   go_upto_region 2 with (fail)
   go_cut [11] (fun v11 wc => ∃ (kq : Nat) (x11_1 : Bool),v11 = .bool x11_1 ∧ Aside0 (humuslaw26_Light.j1 kq l0 x3_1 x11_1 = some r) ∧ Aside0 (kq ≤ k1) ∧ Drawn0 w wc)
   case first =>
    have H:=HC2.out
    clear HC2
    by_cases c3 : x3_1 < (l0.length : Int)
    ·rw [if_pos c3] at H
     have c3b0 : decide (x3_1 < (l0.length : Int)) = true:=decide_eq_true c3
     clear c3
     (first | rw [c3b0] | (simp only [i64_w,i32_w];rw [c3b0]) | skip)
     have H':=Aside0.mk H
     clear H
     go_wp2
     go_meet
     case rel => exact ⟨_,(decide (x3_1 < 15)),(by first | rfl | (simp;done) | (simp [*];done)),H',⟨by have:=HK1.out;first | omega | exact Nat.le_refl _⟩,by repeat (first | exact Drawn0.refl _ | apply Drawn0.step)⟩
    ·rw [if_neg c3] at H
     have c3b0 : decide (x3_1 < (l0.length : Int)) = false:=decide_eq_false c3
     clear c3
     (first | rw [c3b0] | (simp only [i64_w,i32_w];rw [c3b0]) | skip)
     have H':=Aside0.mk H
     clear H
     go_wp2
     go_meet
     case rel => exact ⟨_,(false),(by first | rfl | (simp;done) | (simp [*];done)),H',⟨by have:=HK1.out;first | omega | exact Nat.le_refl _⟩,by repeat (first | exact Drawn0.refl _ | apply Drawn0.step)⟩
   case rest =>
    clear HC2
    try clear c1
    try clear p2
    try clear c3
    try clear c3b0
    obtain ⟨kq,x11_1,rfl,HA,HJ1,⟨mc1,rfl⟩⟩:=hcut
    cases kq with
    | zero => exact absurd HA.out (by simp [humuslaw26_Light.j1])
    | succ kj1 =>
     have H:=HA.out
     clear HA
     simp only [humuslaw26_Light.j1] at H
     by_cases c4 : x11_1 = true
     ·subst c4
      have H1 : (if 0 ≤ x3_1 then (if x3_1 < (l0.length : Int) then (if (((rd_T43 l0 x3_1).f2).length : Int) > 20 then (some false) else (if (((rd_T43 l0 x3_1).f3).length : Int) > 20 then (some false) else (humuslaw26_Light.l0 kj1 l0 (wrap64 (x3_1 + 1))))) else (none)) else (none)) = some r:=by rw [if_pos rfl] at H;exact H
      clear H
      have H:=H1
      clear H1
      by_cases c5 : 0 ≤ x3_1
      ·rw [if_pos c5] at H
       have c5b0 : decide (0 ≤ x3_1) = true:=decide_eq_true c5
       clear c5
       by_cases c6 : x3_1 < (l0.length : Int)
       ·rw [if_pos c6] at H
        have c6b0 : decide (x3_1 < (l0.length : Int)) = true:=decide_eq_true c6
        clear c6
        by_cases c7 : (((rd_T43 l0 x3_1).f2).length : Int) > 20
        ·rw [if_pos c7] at H
         have c7b0 : decide (20 < (((rd_T43 l0 x3_1).f2).length : Int)) = true:=decide_eq_true c7
         have c7b1 : decide (20 < ((rd_T43 l0 x3_1).f2).length) = true:=decide_eq_true (by omega)
         clear c7
         obtain rfl:=Option.some.inj H
         have p131 : 0 ≤ (x3_1 : Int):=of_decide_eq_true (by first | (with_reducible assumption) | assumption)
         have q131 : x3_1 < (l0.length : Int):=of_decide_eq_true (by first | (with_reducible assumption) | assumption)
         obtain ⟨ad131,A131_2,c131_2,A131_3,c131_3,A131_4,c131_4,e131,hx131_0,hx131_1,hx131_2,hx131_3,hx131_4,hl131_2,hi131_2,hl131_3,hi131_3,hl131_4,hi131_4⟩:=at_T43 HR0.out x3_1 p131 q131
         cases e131
         have HR131_2:=Aside0.mk hi131_2
         have HC131_2:=Aside0.mk hl131_2
         clear hi131_2 hl131_2
         have HR131_3:=Aside0.mk hi131_3
         have HC131_3:=Aside0.mk hl131_3
         clear hi131_3 hl131_3
         have HR131_4:=Aside0.mk hi131_4
         have HC131_4:=Aside0.mk hl131_4
         clear hi131_4 hl131_4
         replace p131:=eq_true p131
         replace q131:=eq_true q131
         go_wp2
         go_ret
         exact ⟨by first | rfl | (simp;done) | (simp [*];done),by repeat (first | exact Drawn0.refl _ | apply Drawn0.step)⟩
        ·rw [if_neg c7] at H
         have c7b0 : decide (20 < (((rd_T43 l0 x3_1).f2).length : Int)) = false:=decide_eq_false c7
         have c7b1 : decide (20 < ((rd_T43 l0 x3_1).f2).length) = false:=decide_eq_false (by omega)
         clear c7
         by_cases c8 : (((rd_T43 l0 x3_1).f3).length : Int) > 20
         ·rw [if_pos c8] at H
          have c8b0 : decide (20 < (((rd_T43 l0 x3_1).f3).length : Int)) = true:=decide_eq_true c8
          have c8b1 : decide (20 < ((rd_T43 l0 x3_1).f3).length) = true:=decide_eq_true (by omega)
          clear c8
          obtain rfl:=Option.some.inj H
          have p131 : 0 ≤ (x3_1 : Int):=of_decide_eq_true (by first | (with_reducible assumption) | assumption)
          have q131 : x3_1 < (l0.length : Int):=of_decide_eq_true (by first | (with_reducible assumption) | assumption)
          obtain ⟨ad131,A131_2,c131_2,A131_3,c131_3,A131_4,c131_4,e131,hx131_0,hx131_1,hx131_2,hx131_3,hx131_4,hl131_2,hi131_2,hl131_3,hi131_3,hl131_4,hi131_4⟩:=at_T43 HR0.out x3_1 p131 q131
          cases e131
          have HR131_2:=Aside0.mk hi131_2
          have HC131_2:=Aside0.mk hl131_2
          clear hi131_2 hl131_2
          have HR131_3:=Aside0.mk hi131_3
          have HC131_3:=Aside0.mk hl131_3
          clear hi131_3 hl131_3
          have HR131_4:=Aside0.mk hi131_4
          have HC131_4:=Aside0.mk hl131_4
          clear hi131_4 hl131_4
          replace p131:=eq_true p131
          replace q131:=eq_true q131
          have p132 : 0 ≤ (x3_1 : Int):=of_decide_eq_true (by first | (with_reducible assumption) | assumption)
          have q132 : x3_1 < (l0.length : Int):=of_decide_eq_true (by first | (with_reducible assumption) | assumption)
          obtain ⟨ad132,A132_2,c132_2,A132_3,c132_3,A132_4,c132_4,e132,hx132_0,hx132_1,hx132_2,hx132_3,hx132_4,hl132_2,hi132_2,hl132_3,hi132_3,hl132_4,hi132_4⟩:=at_T43 HR0.out x3_1 p132 q132
          obtain rfl : ad131 = ad132:=(by injection e132)
          have HR132_2:=Aside0.mk hi132_2
          have HC132_2:=Aside0.mk hl132_2
          clear hi132_2 hl132_2
          have HR132_3:=Aside0.mk hi132_3
          have HC132_3:=Aside0.mk hl132_3
          clear hi132_3 hl132_3
          have HR132_4:=Aside0.mk hi132_4
          have HC132_4:=Aside0.mk hl132_4
          clear hi132_4 hl132_4
          replace p132:=eq_true p132
          replace q132:=eq_true q132
          have ea_:=Option.some.inj (hx131_2.symm.trans hx132_2)
          injection ea_ with ea_ en_ ec_
          subst ea_
          subst ec_
          clear en_
          have ea_:=Option.some.inj (hx131_3.symm.trans hx132_3)
          injection ea_ with ea_ en_ ec_
          subst ea_
          subst ec_
          clear en_
          have ea_:=Option.some.inj (hx131_4.symm.trans hx132_4)
          injection ea_ with ea_ en_ ec_
          subst ea_
          subst ec_
          clear en_
          go_wp2
          go_ret
          exact ⟨by first | rfl | (simp;done) | (simp [*];done),by repeat (first | exact Drawn0.refl _ | apply Drawn0.step)⟩
         ·rw [if_neg c8] at H
          have c8b0 : decide (20 < (((rd_T43 l0 x3_1).f3).length : Int)) = false:=decide_eq_false c8
          have c8b1 : decide (20 < ((rd_T43 l0 x3_1).f3).length) = false:=decide_eq_false (by omega)
          clear c8
          have H':=Aside0.mk H
          clear H
          have p131 : 0 ≤ (x3_1 : Int):=of_decide_eq_true (by first | (with_reducible assumption) | assumption)
          have q131 : x3_1 < (l0.length : Int):=of_decide_eq_true (by first | (with_reducible assumption) | assumption)
          obtain ⟨ad131,A131_2,c131_2,A131_3,c131_3,A131_4,c131_4,e131,hx131_0,hx131_1,hx131_2,hx131_3,hx131_4,hl131_2,hi131_2,hl131_3,hi131_3,hl131_4,hi131_4⟩:=at_T43 HR0.out x3_1 p131 q131
          cases e131
          have HR131_2:=Aside0.mk hi131_2
          have HC131_2:=Aside0.mk hl131_2
          clear hi131_2 hl131_2
          have HR131_3:=Aside0.mk hi131_3
          have HC131_3:=Aside0.mk hl131_3
          clear hi131_3 hl131_3
          have HR131_4:=Aside0.mk hi131_4
          have HC131_4:=Aside0.mk hl131_4
          clear hi131_4 hl131_4
          replace p131:=eq_true p131
          replace q131:=eq_true q131
          have p132 : 0 ≤ (x3_1 : Int):=of_decide_eq_true (by first | (with_reducible assumption) | assumption)
          have q132 : x3_1 < (l0.length : Int):=of_decide_eq_true (by first | (with_reducible assumption) | assumption)
          obtain ⟨ad132,A132_2,c132_2,A132_3,c132_3,A132_4,c132_4,e132,hx132_0,hx132_1,hx132_2,hx132_3,hx132_4,hl132_2,hi132_2,hl132_3,hi132_3,hl132_4,hi132_4⟩:=at_T43 HR0.out x3_1 p132 q132
          obtain rfl : ad131 = ad132:=(by injection e132)
          have HR132_2:=Aside0.mk hi132_2
          have HC132_2:=Aside0.mk hl132_2
          clear hi132_2 hl132_2
          have HR132_3:=Aside0.mk hi132_3
          have HC132_3:=Aside0.mk hl132_3
          clear hi132_3 hl132_3
          have HR132_4:=Aside0.mk hi132_4
          have HC132_4:=Aside0.mk hl132_4
          clear hi132_4 hl132_4
          replace p132:=eq_true p132
          replace q132:=eq_true q132
          have ea_:=Option.some.inj (hx131_2.symm.trans hx132_2)
          injection ea_ with ea_ en_ ec_
          subst ea_
          subst ec_
          clear en_
          have ea_:=Option.some.inj (hx131_3.symm.trans hx132_3)
          injection ea_ with ea_ en_ ec_
          subst ea_
          subst ec_
          clear en_
          have ea_:=Option.some.inj (hx131_4.symm.trans hx132_4)
          injection ea_ with ea_ en_ ec_
          subst ea_
          subst ec_
          clear en_
          go_wp2
          go_roundg kj1
          case measure => have:=HK1.out;have:=HJ1.out;omega
          case rel => exact ⟨(wrap64 (x3_1 + 1)),(by first | rfl | (simp;done) | (simp [*];done)),H',⟨by have:=HK1.out;have:=HJ1.out;omega⟩,by repeat (first | exact Drawn0.refl _ | apply Drawn0.step)⟩
       ·rw [if_neg c6] at H
        exact absurd H (by simp)
      ·rw [if_neg c5] at H
       exact absurd H (by simp)
     ·replace c4:=Bool.eq_false_iff.mpr c4
      subst c4
      have H1 : (some (decide ((l0.length : Int) ≤ 15))) = some r:=by rw [if_neg (show ¬ (false = true) by decide)] at H;exact H
      clear H
      have H:=H1
      clear H1
      obtain rfl:=Option.some.inj H
      go_wp2
      go_ret
      exact ⟨by first | rfl | (simp;done) | (simp [*];done),by repeat (first | exact Drawn0.refl _ | apply Drawn0.step)⟩
end Go.Proofs.Ytbmcbhpkefjhbaa.P
namespace Go.Proofs.Ytbmcbhpkefjhbaa.P
open Go.RowKit Go.Proofs.YtbmcbhpkefjhbaaW.PrintWords Go.Proofs.YtbmcbhpkefjhbaaW.PrintLast Go.Proofs.YtbmcbhpkefjhbaaW.PrintMore
attribute [local go_sem] max2_int min2_int max_two min_two max_three min_three max_four min_four   -- for this text's walks alone
attribute [local go_sem] run_store_float
set_option linter.unusedVariables false
set_option linter.unusedSimpArgs false
mutual
def humuslaw26_DsgEdges.l0 : Nat → List (S43) → Nat → Int → Option (Bool)
 | 0,_,_,_ => none
 | k + 1,x0,x1,x5 => if x5 < (x0.length : Int) then (if 0 ≤ x5 then ((dsg_Reads.f ((rd_T43 x0 x5).f0) ((rd_T43 x0 x5).f1) ((rd_T43 x0 x5).f2) ((rd_T43 x0 x5).f3) ((rd_T43 x0 x5).f4) x1).bind fun t188 => ((humusref26_Reads.f k ((rd_T43 x0 x5).f0) ((rd_T43 x0 x5).f1) ((rd_T43 x0 x5).f2) ((rd_T43 x0 x5).f3) ((rd_T43 x0 x5).f4) x1).bind fun t190 => (if (t188 != t190) = true then (none) else (humuslaw26_DsgEdges.l0 k x0 x1 (wrap64 (x5 + 1)))))) else (none)) else ((dsg_Edges.f k x0).bind fun t191 => ((humusref26_Edges.f k x0).bind fun t194 => ((humusref26_Pairs.f t191 t194).bind fun t197 => (if t197 = true then ((humuslaw26_awake.f k).bind fun t198 => (humuslaw26_DsgEdges.j1 k t198)) else (none)))))
def humuslaw26_DsgEdges.j1 : Nat → Bool → Option (Bool)
 | 0,_ => none
 | k + 1,x4 => some x4
end
def humuslaw26_DsgEdges.f (k : Nat) (l0 : List (S43)) (a1 : Nat) : Option (Bool):=(humuslaw26_Light.f k l0).bind fun t185 => (if t185 = true then (humuslaw26_DsgEdges.l0 k l0 a1 0) else ((humuslaw26_awake.f k).bind fun t186 => (some t186)))
def humuslaw26_DsgEdges.T6 : Bool × List (List Nat × List Nat):=(true,[([],[]),([],[]),([0,1],[0,1]),([2],[2]),([],[]),([3,4],[3,4]),([],[]),([],[]),([6,7],[6,7]),([8],[8]),([],[]),([9,10,5],[9,10]),([5,11],[5,11])])
def humuslaw26_DsgEdges.B6 : List Nat:=[0,0,3,7,0,31,0,0,192,448,0,2047,4095]
theorem humuslaw26_DsgEdges.tab6 : rtab .any (opsOf Try.f5 6) = humuslaw26_DsgEdges.T6:=by kernel_rfl
theorem humuslaw26_DsgEdges.bits6 : waitsOk humuslaw26_DsgEdges.T6.2 humuslaw26_DsgEdges.B6 = true:=by kernel_rfl
set_option maxHeartbeats 8000000 in
set_option maxRecDepth 100000 in
theorem humuslaw26_DsgEdges.calls (k : Nat) (A0 : Option Addr) (c0 : Nat) (l0 : List (S43)) (a1 : Nat) (r : Bool) (w : World) (hr0 : Kd.C k43 w A0 l0.length l0) (hc0 : l0.length ≤ c0) (h : humuslaw26_DsgEdges.f k l0 a1 = some r) :
  Calls Try.prog 5 #[.slice A0 l0.length c0,.float .f64 a1] w fun e w' => e = .returned (.bool r) ∧ Below w.heap.size w w':=by
 have hu43:=Try.underlying43
 have HR0:=Aside0.mk hr0
 have HC0:=Aside0.mk hc0
 clear hr0 hc0
 have HB:=Aside0.mk (Below.refl w.heap.size w)
 have H : ((humuslaw26_Light.f k l0).bind fun t185 => (if t185 = true then (humuslaw26_DsgEdges.l0 k l0 a1 0) else ((humuslaw26_awake.f k).bind fun t186 => (some t186)))) = some r:=h
 clear h
 replace H:=Option.bind_eq_some_iff.mp H
 obtain ⟨t185,A30,H⟩:=H
 replace H : (if t185 = true then (humuslaw26_DsgEdges.l0 k l0 a1 0) else ((humuslaw26_awake.f k).bind fun t186 => (some t186))) = some r:=H
 have A3:=Aside0.mk A30
 clear A30
 by_cases c4 : t185 = true
 ·subst c4
  have H1 : (humuslaw26_DsgEdges.l0 k l0 a1 0) = some r:=by rw [if_pos rfl] at H;exact H
  clear H
  have H:=H1
  clear H1
  have H':=Aside0.mk H
  clear H
  go_enter Try.func5,Try.ntmps5
  go_wp2_with (first | ((with_reducible refine gate_callee (f:=17) rfl ?_);refine goesL_ (some 7) rfl rfl Try.func17 (by kernel_rfl) rfl #[.slice A0 l0.length c0] rfl (by (try simp only [List.map_toArray,List.map_cons,List.map_nil]);first | done | rfl | (simp only [List.length_drop,List.length_take];rfl)) ?_;(with_reducible refine (humuslaw26_Light.calls k _ _ l0 true _ ?side1 ?side2 A3.out).mono ?_);(case side1 => repeat (first | exact HR0.out | (with_reducible refine Kd.C_alloc ?_ _) | (with_reducible refine Kd.C_drewN ?_ _) | (with_reducible refine Kd.C_drew ?_)));(case side2 => exact HC0.out);rintro e w' ⟨rfl,⟨nd,rfl⟩⟩;refine ⟨_,rfl,?_⟩))
  go_loopg [5] k (fun kq v5 w' => ∃ (x5_1 : Int),v5 = .int .i64 x5_1 ∧ Aside0 (humuslaw26_DsgEdges.l0 kq l0 a1 x5_1 = some r) ∧ Aside0 (kq ≤ k) ∧ Aside0 (Below w.heap.size w w'))
  case atStart => exact ⟨(0),(by first | rfl | (simp;done) | (simp [*];done)),H',⟨Nat.le_refl _⟩,⟨by repeat (first | (with_reducible first | exact HB.out | apply below_alloc | apply pw_below_drewN | apply below_drew1) | exact HB.out)⟩⟩
  case round =>
   clear H'
   try clear c1
   try clear p2
   try clear c4
   obtain ⟨x5_1,rfl,HA,HK1,HB⟩:=hrel
   cases gk with
   | zero => exact absurd HA.out (by simp [humuslaw26_DsgEdges.l0])
   | succ k1 =>
    have H:=HA.out
    clear HA
    simp only [humuslaw26_DsgEdges.l0] at H
    by_cases c5 : x5_1 < (l0.length : Int)
    ·rw [if_pos c5] at H
     have c5b0 : decide (x5_1 < (l0.length : Int)) = true:=decide_eq_true c5
     clear c5
     by_cases c6 : 0 ≤ x5_1
     ·rw [if_pos c6] at H
      have c6b0 : decide (0 ≤ x5_1) = true:=decide_eq_true c6
      clear c6
      replace H:=Option.bind_eq_some_iff.mp H
      obtain ⟨t188,A70,H⟩:=H
      replace H : ((humusref26_Reads.f k1 ((rd_T43 l0 x5_1).f0) ((rd_T43 l0 x5_1).f1) ((rd_T43 l0 x5_1).f2) ((rd_T43 l0 x5_1).f3) ((rd_T43 l0 x5_1).f4) a1).bind fun t190 => (if (t188 != t190) = true then (none) else (humuslaw26_DsgEdges.l0 k1 l0 a1 (wrap64 (x5_1 + 1))))) = some r:=H
      have A7:=Aside0.mk A70
      clear A70
      replace H:=Option.bind_eq_some_iff.mp H
      obtain ⟨t190,A80,H⟩:=H
      replace H : (if (t188 != t190) = true then (none) else (humuslaw26_DsgEdges.l0 k1 l0 a1 (wrap64 (x5_1 + 1)))) = some r:=H
      have A8:=Aside0.mk A80
      clear A80
      by_cases c9 : (t188 != t190) = true
      ·rw [if_pos c9] at H
       exact absurd H (by simp)
      ·rw [if_neg c9] at H
       have c9b0 : (t188 != t190) = false:=by simpa using c9
       (try (have c9b1 : decide (t188 = t190) = true:=by simpa using c9))
       (try (have c9b2 : (t188 == t190) = true:=by simpa using c9))
       clear c9
       have H':=Aside0.mk H
       clear H
       try go_wp2
       have n0_:=Aside0.mk (below_drew1 HB.out)
       clear HB
       have HB:=n0_
       clear n0_
       have p187 : 0 ≤ (x5_1 : Int):=of_decide_eq_true (by first | (with_reducible assumption) | assumption)
       have q187 : x5_1 < (l0.length : Int):=of_decide_eq_true (by first | (with_reducible assumption) | assumption)
       obtain ⟨ad187,A187_2,c187_2,A187_3,c187_3,A187_4,c187_4,e187,hx187_0,hx187_1,hx187_2,hx187_3,hx187_4,hl187_2,hi187_2,hl187_3,hi187_3,hl187_4,hi187_4⟩:=at_T43 HR0.out x5_1 p187 q187
       have hw187_4:=hx187_4
       have hw187_3:=hx187_3
       have hw187_2:=hx187_2
       have hw187_1:=hx187_1
       have hw187_0:=hx187_0
       cases e187
       replace hx187_0:=(HB.out.cell (World.block_lt_of_cell? w _ hx187_0)).trans hx187_0
       replace hx187_1:=(HB.out.cell (World.block_lt_of_cell? w _ hx187_1)).trans hx187_1
       replace hx187_2:=(HB.out.cell (World.block_lt_of_cell? w _ hx187_2)).trans hx187_2
       replace hx187_3:=(HB.out.cell (World.block_lt_of_cell? w _ hx187_3)).trans hx187_3
       replace hx187_4:=(HB.out.cell (World.block_lt_of_cell? w _ hx187_4)).trans hx187_4
       have HR187_2:=Aside0.mk hi187_2
       have HC187_2:=Aside0.mk hl187_2
       clear hi187_2 hl187_2
       have HR187_3:=Aside0.mk hi187_3
       have HC187_3:=Aside0.mk hl187_3
       clear hi187_3 hl187_3
       have HR187_4:=Aside0.mk hi187_4
       have HC187_4:=Aside0.mk hl187_4
       clear hi187_4 hl187_4
       replace p187:=eq_true p187
       replace q187:=eq_true q187
       have p189 : 0 ≤ (x5_1 : Int):=of_decide_eq_true (by first | (with_reducible assumption) | assumption)
       have q189 : x5_1 < (l0.length : Int):=of_decide_eq_true (by first | (with_reducible assumption) | assumption)
       obtain ⟨ad189,A189_2,c189_2,A189_3,c189_3,A189_4,c189_4,e189,hx189_0,hx189_1,hx189_2,hx189_3,hx189_4,hl189_2,hi189_2,hl189_3,hi189_3,hl189_4,hi189_4⟩:=at_T43 HR0.out x5_1 p189 q189
       have hw189_4:=hx189_4
       have hw189_3:=hx189_3
       have hw189_2:=hx189_2
       have hw189_1:=hx189_1
       have hw189_0:=hx189_0
       obtain rfl : ad187 = ad189:=(by injection e189)
       replace hx189_0:=(HB.out.cell (World.block_lt_of_cell? w _ hx189_0)).trans hx189_0
       replace hx189_1:=(HB.out.cell (World.block_lt_of_cell? w _ hx189_1)).trans hx189_1
       replace hx189_2:=(HB.out.cell (World.block_lt_of_cell? w _ hx189_2)).trans hx189_2
       replace hx189_3:=(HB.out.cell (World.block_lt_of_cell? w _ hx189_3)).trans hx189_3
       replace hx189_4:=(HB.out.cell (World.block_lt_of_cell? w _ hx189_4)).trans hx189_4
       have HR189_2:=Aside0.mk hi189_2
       have HC189_2:=Aside0.mk hl189_2
       clear hi189_2 hl189_2
       have HR189_3:=Aside0.mk hi189_3
       have HC189_3:=Aside0.mk hl189_3
       clear hi189_3 hl189_3
       have HR189_4:=Aside0.mk hi189_4
       have HC189_4:=Aside0.mk hl189_4
       clear hi189_4 hl189_4
       replace p189:=eq_true p189
       replace q189:=eq_true q189
       have ea_:=Option.some.inj (hx187_2.symm.trans hx189_2)
       injection ea_ with ea_ en_ ec_
       subst ea_
       subst ec_
       clear en_
       have ea_:=Option.some.inj (hx187_3.symm.trans hx189_3)
       injection ea_ with ea_ en_ ec_
       subst ea_
       subst ec_
       clear en_
       have ea_:=Option.some.inj (hx187_4.symm.trans hx189_4)
       injection ea_ with ea_ en_ ec_
       subst ea_
       subst ec_
       clear en_
       refine start_ (n:=13) (S:=fun w' => w'.cell? (ad187.add ((x5_1).toNat * 5)) = some (.int .i64 ((rd_T43 l0 x5_1).f0)) ∧ w'.cell? ⟨(ad187.add ((x5_1).toNat * 5)).block,(ad187.add ((x5_1).toNat * 5)).off + 1,none⟩ = some (.int .i64 ((rd_T43 l0 x5_1).f1)) ∧ w'.cell? ⟨(ad187.add ((x5_1).toNat * 5)).block,(ad187.add ((x5_1).toNat * 5)).off + 2,none⟩ = some (.slice A187_2 ((rd_T43 l0 x5_1).f2).length c187_2) ∧ w'.cell? ⟨(ad187.add ((x5_1).toNat * 5)).block,(ad187.add ((x5_1).toNat * 5)).off + 3,none⟩ = some (.slice A187_3 ((rd_T43 l0 x5_1).f3).length c187_3) ∧ w'.cell? ⟨(ad187.add ((x5_1).toNat * 5)).block,(ad187.add ((x5_1).toNat * 5)).off + 4,none⟩ = some (.slice A187_4 ((rd_T43 l0 x5_1).f4).length c187_4) ∧ w'.cell? (ad187.add ((x5_1).toNat * 5)) = some (.int .i64 ((rd_T43 l0 x5_1).f0)) ∧ w'.cell? ⟨(ad187.add ((x5_1).toNat * 5)).block,(ad187.add ((x5_1).toNat * 5)).off + 1,none⟩ = some (.int .i64 ((rd_T43 l0 x5_1).f1)) ∧ w'.cell? ⟨(ad187.add ((x5_1).toNat * 5)).block,(ad187.add ((x5_1).toNat * 5)).off + 2,none⟩ = some (.slice A187_2 ((rd_T43 l0 x5_1).f2).length c187_2) ∧ w'.cell? ⟨(ad187.add ((x5_1).toNat * 5)).block,(ad187.add ((x5_1).toNat * 5)).off + 3,none⟩ = some (.slice A187_3 ((rd_T43 l0 x5_1).f3).length c187_3) ∧ w'.cell? ⟨(ad187.add ((x5_1).toNat * 5)).block,(ad187.add ((x5_1).toNat * 5)).off + 4,none⟩ = some (.slice A187_4 ((rd_T43 l0 x5_1).f4).length c187_4)) (ds:=[11]) #[ff,ff,ff,ff,ff,ff,ff,ff,ff,ff,ff,ff,ff] (by kernel_rfl) rfl rfl ⟨((HB.out.cell (World.block_lt_of_cell? w _ hw187_0)).trans hw187_0),((HB.out.cell (World.block_lt_of_cell? w _ hw187_1)).trans hw187_1),((HB.out.cell (World.block_lt_of_cell? w _ hw187_2)).trans hw187_2),((HB.out.cell (World.block_lt_of_cell? w _ hw187_3)).trans hw187_3),((HB.out.cell (World.block_lt_of_cell? w _ hw187_4)).trans hw187_4),((HB.out.cell (World.block_lt_of_cell? w _ hw189_0)).trans hw189_0),((HB.out.cell (World.block_lt_of_cell? w _ hw189_1)).trans hw189_1),((HB.out.cell (World.block_lt_of_cell? w _ hw189_2)).trans hw189_2),((HB.out.cell (World.block_lt_of_cell? w _ hw189_3)).trans hw189_3),((HB.out.cell (World.block_lt_of_cell? w _ hw189_4)).trans hw189_4)⟩ (fun hHeld => ?_);refine with_tabW humuslaw26_DsgEdges.tab6 humuslaw26_DsgEdges.bits6 (fun HT_ HW_ => ?_)
       generalize wr.drew = w10 at HB HR187_2 HR187_3 HR187_4 HR189_2 HR189_3 HR189_4 hx187_0 hx187_1 hx187_2 hx187_3 hx187_4 hx189_0 hx189_1 hx189_2 hx189_3 hx189_4 hHeld ⊢
       refine pure_ (i:=0) (N:=some 16) (v:=?_) (a':=?_) #[tt,ff,ff,ff,ff,ff,ff,ff,ff,ff,ff,ff,ff] rfl rfl (any_of HT_.out (by kernel_rfl)) (fun _ _ _ h => h) (Or.inl ⟨by rfl,?_⟩) ?_ ?_
       rotate_left
       ·intro w'
        go_simp
        with_reducible rfl
       rotate_left
       ·simp only [Act.put,q1_,q2_,q3_,i64_w,i32_w]
        rfl
       refine pure_ (i:=1) (N:=some 17) (v:=?_) (a':=?_) #[tt,tt,ff,ff,ff,ff,ff,ff,ff,ff,ff,ff,ff] rfl rfl (any_of HT_.out (by kernel_rfl)) (fun _ _ _ h => h) (Or.inl ⟨by rfl,?_⟩) ?_ ?_
       rotate_left
       ·intro w'
        go_simp
        with_reducible rfl
       rotate_left
       ·simp only [Act.put,q1_,q2_,q3_,i64_w,i32_w]
        rfl
       refine pure_ (i:=2) (N:=some 18) (v:=?_) (a':=?_) #[tt,tt,tt,ff,ff,ff,ff,ff,ff,ff,ff,ff,ff] rfl rfl (any_of HT_.out (by kernel_rfl)) (fun _ _ _ h => h) (Or.inl ⟨by rfl,?_⟩) ?_ ?_
       rotate_left
       ·intro w'
        go_simp
        with_reducible rfl
       rotate_left
       ·simp only [Act.put,q1_,q2_,q3_,i64_w,i32_w]
        rfl
       refine pure_ (i:=4) (N:=some 20) (v:=?_) (a':=?_) #[tt,tt,tt,ff,tt,ff,ff,ff,ff,ff,ff,ff,ff] rfl rfl (any_of HT_.out (by kernel_rfl)) (fun _ _ _ h => h) (Or.inl ⟨by rfl,?_⟩) ?_ ?_
       rotate_left
       ·intro w'
        go_simp
        with_reducible rfl
       rotate_left
       ·simp only [Act.put,q1_,q2_,q3_,i64_w,i32_w]
        rfl
       refine pure_ (i:=6) (N:=some 22) (v:=?_) (a':=?_) #[tt,tt,tt,ff,tt,ff,tt,ff,ff,ff,ff,ff,ff] rfl rfl (any_of HT_.out (by kernel_rfl)) (fun _ _ _ h => h) (Or.inl ⟨by rfl,?_⟩) ?_ ?_
       rotate_left
       ·intro w'
        go_simp
        with_reducible rfl
       rotate_left
       ·simp only [Act.put,q1_,q2_,q3_,i64_w,i32_w]
        rfl
       refine pure_ (i:=7) (N:=some 23) (v:=?_) (a':=?_) #[tt,tt,tt,ff,tt,ff,tt,tt,ff,ff,ff,ff,ff] rfl rfl (any_of HT_.out (by kernel_rfl)) (fun _ _ _ h => h) (Or.inl ⟨by rfl,?_⟩) ?_ ?_
       rotate_left
       ·intro w'
        go_simp
        with_reducible rfl
       rotate_left
       ·simp only [Act.put,q1_,q2_,q3_,i64_w,i32_w]
        rfl
       refine pure_ (i:=8) (N:=some 24) (v:=?_) (a':=?_) #[tt,tt,tt,ff,tt,ff,tt,tt,tt,ff,ff,ff,ff] rfl rfl (any_of HT_.out (by kernel_rfl)) (fun _ _ _ h => h) (Or.inl ⟨by rfl,?_⟩) ?_ ?_
       rotate_left
       ·intro w'
        go_simp
        with_reducible rfl
       rotate_left
       ·simp only [Act.put,q1_,q2_,q3_,i64_w,i32_w]
        rfl
       refine pure_ (i:=10) (N:=some 26) (v:=?_) (a':=?_) #[tt,tt,tt,ff,tt,ff,tt,tt,tt,ff,tt,ff,ff] rfl rfl (any_of HT_.out (by kernel_rfl)) (fun _ _ _ h => h) (Or.inl ⟨by rfl,?_⟩) ?_ ?_
       rotate_left
       ·intro w'
        go_simp
        with_reducible rfl
       rotate_left
       ·simp only [Act.put,q1_,q2_,q3_,i64_w,i32_w]
        rfl
       refine take_ (i:=3) (N:=some 19) (v:=?_) (a':=?_) #[tt,tt,tt,tt,tt,ff,tt,tt,tt,ff,tt,ff,ff] rfl rfl (take_ofW HT_.out HW_.out (by kernel_rfl)) (fun _ _ _ h => h) (Or.inl ⟨by rfl,?_⟩) hHeld ?_ ?_
       rotate_left
       ·rintro w' ⟨s0,s1,s2,s3,s4,s5,s6,s7,s8,s9⟩
        go_simp
        with_reducible rfl
       rotate_left
       ·simp only [Act.put,q1_,q2_,q3_,i64_w,i32_w]
        rfl
       refine take_ (i:=9) (N:=some 25) (v:=?_) (a':=?_) #[tt,tt,tt,tt,tt,ff,tt,tt,tt,tt,tt,ff,ff] rfl rfl (take_ofW HT_.out HW_.out (by kernel_rfl)) (fun _ _ _ h => h) (Or.inl ⟨by rfl,?_⟩) hHeld ?_ ?_
       rotate_left
       ·rintro w' ⟨s0,s1,s2,s3,s4,s5,s6,s7,s8,s9⟩
        go_simp
        with_reducible rfl
       rotate_left
       ·simp only [Act.put,q1_,q2_,q3_,i64_w,i32_w]
        rfl
       refine one_ (i:=5) (N:=some 21) #[tt,tt,tt,tt,tt,tt,tt,tt,tt,tt,tt,ff,ff] rfl rfl (one_of HT_.out (by kernel_rfl)) (by decide) (fun K hK => ?_)
       refine goes_ Try.func18 (by kernel_rfl) rfl #[.agg #[.int .i64 ((rd_T43 l0 x5_1).f0),.int .i64 ((rd_T43 l0 x5_1).f1),.slice A187_2 ((rd_T43 l0 x5_1).f2).length c187_2,.slice A187_3 ((rd_T43 l0 x5_1).f3).length c187_3,.slice A187_4 ((rd_T43 l0 x5_1).f4).length c187_4],.float .f64 a1] (by rfl) rfl rfl (by (try simp only [List.map_toArray,List.map_cons,List.map_nil]);first | done | rfl | (simp only [List.length_drop,List.length_take];rfl)) ?_
       with_reducible refine (dsg_Reads.calls ((rd_T43 l0 x5_1).f0) ((rd_T43 l0 x5_1).f1) _ _ ((rd_T43 l0 x5_1).f2) _ _ ((rd_T43 l0 x5_1).f3) _ _ ((rd_T43 l0 x5_1).f4) a1 t188 _ ?side1 ?side2 ?side3 ?side4 ?side5 ?side6 A7.out).mono ?_
       (case side1 => repeat (first | exact (Kd.C_below HR187_2.out HB.out) | (with_reducible refine Kd.C_alloc ?_ _) | (with_reducible refine Kd.C_drewN ?_ _) | (with_reducible refine Kd.C_drew ?_)))
       (case side2 => exact HC187_2.out)
       (case side3 => repeat (first | exact (Kd.C_below HR187_3.out HB.out) | (with_reducible refine Kd.C_alloc ?_ _) | (with_reducible refine Kd.C_drewN ?_ _) | (with_reducible refine Kd.C_drew ?_)))
       (case side4 => exact HC187_3.out)
       (case side5 => repeat (first | exact (Kd.C_below HR187_4.out HB.out) | (with_reducible refine Kd.C_alloc ?_ _) | (with_reducible refine Kd.C_drewN ?_ _) | (with_reducible refine Kd.C_drew ?_)))
       (case side6 => exact HC187_4.out)
       rintro e w11 ⟨rfl,hb⟩
       refine ⟨_,rfl,?_⟩
       have n0_:=Aside0.mk (below_step (by repeat (first | (with_reducible first | exact HB.out | apply below_alloc | apply pw_below_drewN | apply below_drew1) | exact HB.out)) hb)
       clear HB
       have HB:=n0_
       clear n0_
       (try clear hb)
       (try clear hb2)
       (try clear hk)
       (try clear hi)
       refine hK.out _ _ ⟨((HB.out.cell (World.block_lt_of_cell? w _ hw187_0)).trans hw187_0),((HB.out.cell (World.block_lt_of_cell? w _ hw187_1)).trans hw187_1),((HB.out.cell (World.block_lt_of_cell? w _ hw187_2)).trans hw187_2),((HB.out.cell (World.block_lt_of_cell? w _ hw187_3)).trans hw187_3),((HB.out.cell (World.block_lt_of_cell? w _ hw187_4)).trans hw187_4),((HB.out.cell (World.block_lt_of_cell? w _ hw189_0)).trans hw189_0),((HB.out.cell (World.block_lt_of_cell? w _ hw189_1)).trans hw189_1),((HB.out.cell (World.block_lt_of_cell? w _ hw189_2)).trans hw189_2),((HB.out.cell (World.block_lt_of_cell? w _ hw189_3)).trans hw189_3),((HB.out.cell (World.block_lt_of_cell? w _ hw189_4)).trans hw189_4)⟩ (fun hHeld => ?_)
       clear hK K
       refine norm_ (a':=?_) ?_ ?_
       rotate_left
       ·show Act.put _ (some 21) _ = _
        simp only [Act.put,q1_,q2_,q3_,i64_w,i32_w]
        rfl
       refine last_ (i:=11) (N:=some 27) #[tt,tt,tt,tt,tt,tt,tt,tt,tt,tt,tt,tt,ff] rfl rfl (one_of HT_.out (by kernel_rfl)) (by decide) (fun K hK => ?_)
       refine goes_ Try.func19 (by kernel_rfl) rfl #[.agg #[.int .i64 ((rd_T43 l0 x5_1).f0),.int .i64 ((rd_T43 l0 x5_1).f1),.slice A187_2 ((rd_T43 l0 x5_1).f2).length c187_2,.slice A187_3 ((rd_T43 l0 x5_1).f3).length c187_3,.slice A187_4 ((rd_T43 l0 x5_1).f4).length c187_4],.float .f64 a1] (by rfl) rfl rfl (by (try simp only [List.map_toArray,List.map_cons,List.map_nil]);first | done | rfl | (simp only [List.length_drop,List.length_take];rfl)) ?_
       with_reducible refine (humusref26_Reads.calls k1 ((rd_T43 l0 x5_1).f0) ((rd_T43 l0 x5_1).f1) _ _ ((rd_T43 l0 x5_1).f2) _ _ ((rd_T43 l0 x5_1).f3) _ _ ((rd_T43 l0 x5_1).f4) a1 t190 _ ?side1 ?side2 ?side3 ?side4 ?side5 ?side6 A8.out).mono ?_
       (case side1 => repeat (first | exact (Kd.C_below HR189_2.out HB.out) | (with_reducible refine Kd.C_alloc ?_ _) | (with_reducible refine Kd.C_drewN ?_ _) | (with_reducible refine Kd.C_drew ?_)))
       (case side2 => exact HC189_2.out)
       (case side3 => repeat (first | exact (Kd.C_below HR189_3.out HB.out) | (with_reducible refine Kd.C_alloc ?_ _) | (with_reducible refine Kd.C_drewN ?_ _) | (with_reducible refine Kd.C_drew ?_)))
       (case side4 => exact HC189_3.out)
       (case side5 => repeat (first | exact (Kd.C_below HR189_4.out HB.out) | (with_reducible refine Kd.C_alloc ?_ _) | (with_reducible refine Kd.C_drewN ?_ _) | (with_reducible refine Kd.C_drew ?_)))
       (case side6 => exact HC189_4.out)
       rintro e w12 ⟨rfl,hb⟩
       refine ⟨_,rfl,?_⟩
       have n0_:=Aside0.mk (below_step (by repeat (first | (with_reducible first | exact HB.out | apply below_alloc | apply pw_below_drewN | apply below_drew1) | exact HB.out)) hb)
       clear HB
       have HB:=n0_
       clear n0_
       (try clear hb)
       (try clear hb2)
       (try clear hk)
       (try clear hi)
       refine hK.out _ _ ?_
       clear hK K
       refine norm_ (a':=?_) ?_ ?_
       rotate_left
       ·show Act.put _ (some 27) _ = _
        simp only [Act.put,q1_,q2_,q3_,i64_w,i32_w]
        rfl
       refine pure_ (i:=12) (N:=some 28) (v:=?_) (a':=?_) #[tt,tt,tt,tt,tt,tt,tt,tt,tt,tt,tt,tt,tt] rfl rfl (any_of HT_.out (by kernel_rfl)) (fun _ _ _ h => h) (Or.inl ⟨by rfl,?_⟩) ?_ ?_
       rotate_left
       ·intro w'
        go_simp
        with_reducible rfl
       rotate_left
       ·simp only [Act.put,q1_,q2_,q3_,i64_w,i32_w]
        rfl
       refine done_ (done_of HT_.out (by kernel_rfl)) ?_
       try go_wp2
       go_roundg k1
       case measure => have:=HK1.out;omega
       case rel => exact ⟨(wrap64 (x5_1 + 1)),(by first | rfl | (simp;done) | (simp [*];done)),H',⟨by have:=HK1.out;omega⟩,⟨by repeat (first | (with_reducible first | exact HB.out | apply below_alloc | apply pw_below_drewN | apply below_drew1) | exact HB.out)⟩⟩
     ·rw [if_neg c6] at H
      exact absurd H (by simp)
    ·rw [if_neg c5] at H
     have c5b0 : decide (x5_1 < (l0.length : Int)) = false:=decide_eq_false c5
     clear c5
     have HC13:=Aside0.mk H
     clear H
     go_upto_region 8 with (fail)
     go_cut [4] (fun v4 wc => ∃ (kq : Nat) (x4_12 : Bool),v4 = .bool x4_12 ∧ Aside0 (humuslaw26_DsgEdges.j1 kq x4_12 = some r) ∧ Aside0 (kq ≤ k1) ∧ Aside0 (Below w.heap.size w wc))
     case first =>
      have H:=HC13.out
      clear HC13
      replace H:=Option.bind_eq_some_iff.mp H
      obtain ⟨t191,A140,H⟩:=H
      replace H : ((humusref26_Edges.f k1 l0).bind fun t194 => ((humusref26_Pairs.f t191 t194).bind fun t197 => (if t197 = true then ((humuslaw26_awake.f k1).bind fun t198 => (humuslaw26_DsgEdges.j1 k1 t198)) else (none)))) = some r:=H
      have A14:=Aside0.mk A140
      clear A140
      replace H:=Option.bind_eq_some_iff.mp H
      obtain ⟨t194,A150,H⟩:=H
      replace H : ((humusref26_Pairs.f t191 t194).bind fun t197 => (if t197 = true then ((humuslaw26_awake.f k1).bind fun t198 => (humuslaw26_DsgEdges.j1 k1 t198)) else (none))) = some r:=H
      have A15:=Aside0.mk A150
      clear A150
      replace H:=Option.bind_eq_some_iff.mp H
      obtain ⟨t197,A160,H⟩:=H
      replace H : (if t197 = true then ((humuslaw26_awake.f k1).bind fun t198 => (humuslaw26_DsgEdges.j1 k1 t198)) else (none)) = some r:=H
      have A16:=Aside0.mk A160
      clear A160
      by_cases c17 : t197 = true
      ·subst c17
       have H1 : ((humuslaw26_awake.f k1).bind fun t198 => (humuslaw26_DsgEdges.j1 k1 t198)) = some r:=by rw [if_pos rfl] at H;exact H
       clear H
       have H:=H1
       clear H1
       replace H:=Option.bind_eq_some_iff.mp H
       obtain ⟨t198,A180,H⟩:=H
       replace H : (humuslaw26_DsgEdges.j1 k1 t198) = some r:=H
       have A18:=Aside0.mk A180
       clear A180
       have H':=Aside0.mk H
       clear H
       go_wp2_with (first | ((with_reducible refine gate_callee (f:=21) rfl ?_);refine goesL_ (some 30) rfl rfl Try.func21 (by kernel_rfl) rfl #[.slice A0 l0.length c0] rfl (by (try simp only [List.map_toArray,List.map_cons,List.map_nil]);first | done | rfl | (simp only [List.length_drop,List.length_take];rfl)) ?_;(with_reducible refine (dsg_Edges.calls k1 _ _ l0 t191 _ ?side1 ?side2 A14.out).mono ?_);(case side1 => repeat (first | exact (Kd.C_below HR0.out HB.out) | (with_reducible refine Kd.C_alloc ?_ _) | (with_reducible refine Kd.C_drewN ?_ _) | (with_reducible refine Kd.C_drew ?_)));(case side2 => exact HC0.out);rintro e w19 ⟨v192,rfl,ho0,hb⟩;refine ⟨_,rfl,?_⟩;have n0_:=Aside0.mk (Kd.R_lower ho0 (below_size (by repeat (first | (with_reducible first | exact HB.out | apply below_alloc | apply pw_below_drewN | apply below_drew1) | exact HB.out))));have n1_:=Aside0.mk (below_step (by repeat (first | (with_reducible first | exact HB.out | apply below_alloc | apply pw_below_drewN | apply below_drew1) | exact HB.out)) hb);clear HB;have HO193:=n0_;have HB:=n1_;clear n0_ n1_;(try clear hb);(try clear hb2);(try clear hk);(try clear hi);(try clear ho0)) | ((with_reducible refine gate_callee (f:=22) rfl ?_);refine goesL_ (some 32) rfl rfl Try.func22 (by kernel_rfl) rfl #[.slice A0 l0.length c0] rfl (by (try simp only [List.map_toArray,List.map_cons,List.map_nil]);first | done | rfl | (simp only [List.length_drop,List.length_take];rfl)) ?_;(with_reducible refine (humusref26_Edges.calls k1 _ _ l0 t194 _ ?side1 ?side2 A15.out).mono ?_);(case side1 => repeat (first | exact (Kd.C_below HR0.out HB.out) | (with_reducible refine Kd.C_alloc ?_ _) | (with_reducible refine Kd.C_drewN ?_ _) | (with_reducible refine Kd.C_drew ?_)));(case side2 => exact HC0.out);rintro e w20 ⟨v195,rfl,ho0,hb⟩;refine ⟨_,rfl,?_⟩;have n0_:=Aside0.mk (Kd.R_elder' (by (with_reducible repeat (first | apply Kd.R_alloc | apply Kd.R_drewN | apply Kd.R_drew));exact HO193.out) (Kd.R_base ho0) hb);have n1_:=Aside0.mk (Kd.R_lower (Kd.R_new' ho0 (Kd.R_lt (by (with_reducible repeat (first | apply Kd.R_alloc | apply Kd.R_drewN | apply Kd.R_drew));exact HO193.out))) (below_size (by repeat (first | (with_reducible first | exact HB.out | apply below_alloc | apply pw_below_drewN | apply below_drew1) | exact HB.out))));have n2_:=Aside0.mk (below_step (by repeat (first | (with_reducible first | exact HB.out | apply below_alloc | apply pw_below_drewN | apply below_drew1) | exact HB.out)) hb);clear HO193;clear HB;have HO193:=n0_;have HO196:=n1_;have HB:=n2_;clear n0_ n1_ n2_;(try clear hb);(try clear hb2);(try clear hk);(try clear hi);(try clear ho0);obtain ⟨Ao21,co21,eo21⟩:=Kd.R_slice HO193.out;subst eo21;obtain ⟨Ao22,co22,eo22⟩:=Kd.R_slice HO196.out;subst eo22) | ((with_reducible refine gate_callee (f:=20) rfl ?_);refine goesL_ (some 33) rfl rfl Try.func20 (by kernel_rfl) rfl #[.slice Ao21 t191.length co21,.slice Ao22 t194.length co22] rfl (by (try simp only [List.map_toArray,List.map_cons,List.map_nil]);first | done | rfl | (simp only [List.length_drop,List.length_take];rfl)) ?_;(with_reducible refine (humusref26_Pairs.calls _ _ t191 _ _ t194 true _ ?side1 ?side2 ?side3 ?side4 A16.out).mono ?_);(case side1 => repeat (first | exact (Kd.R_reads' HO193.out).2.2 | (with_reducible refine Kd.C_alloc ?_ _) | (with_reducible refine Kd.C_drewN ?_ _) | (with_reducible refine Kd.C_drew ?_)));(case side2 => exact (Kd.R_reads' HO193.out).2.1);(case side3 => repeat (first | exact (Kd.R_reads' HO196.out).2.2 | (with_reducible refine Kd.C_alloc ?_ _) | (with_reducible refine Kd.C_drewN ?_ _) | (with_reducible refine Kd.C_drew ?_)));(case side4 => exact (Kd.R_reads' HO196.out).2.1);rintro e w' ⟨rfl,⟨nd,rfl⟩⟩;refine ⟨_,rfl,?_⟩) | (go_at_call 13;(with_reducible refine (humuslaw26_awake.calls k1  t198 _ A18.out).mono ?_);rintro e w23 ⟨rfl,hb⟩;have n0_:=Aside0.mk (Kd.R_below (by (with_reducible repeat (first | apply Kd.R_alloc | apply Kd.R_drewN | apply Kd.R_drew));exact HO193.out) hb);have n1_:=Aside0.mk (Kd.R_below (by (with_reducible repeat (first | apply Kd.R_alloc | apply Kd.R_drewN | apply Kd.R_drew));exact HO196.out) hb);have n2_:=Aside0.mk (below_step (by repeat (first | (with_reducible first | exact HB.out | apply below_alloc | apply pw_below_drewN | apply below_drew1) | exact HB.out)) hb);clear HO193;clear HO196;clear HB;have HO193:=n0_;have HO196:=n1_;have HB:=n2_;clear n0_ n1_ n2_;(try clear hb);(try clear hb2);(try clear hk);(try clear hi)))
       go_meet
       case rel => exact ⟨_,(t198),(by first | rfl | (simp;done) | (simp [*];done)),H',⟨by have:=HK1.out;first | omega | exact Nat.le_refl _⟩,⟨by repeat (first | (with_reducible first | exact HB.out | apply below_alloc | apply pw_below_drewN | apply below_drew1) | exact HB.out)⟩⟩
      ·replace c17:=Bool.eq_false_iff.mpr c17
       subst c17
       have H1 : (none) = some r:=by rw [if_neg (show ¬ (false = true) by decide)] at H;exact H
       clear H
       have H:=H1
       clear H1
       exact absurd H (by simp)
     case rest =>
      clear HC13
      try clear c1
      try clear p1
      try clear q1
      try clear hx1
      try clear c2
      try clear p2
      try clear c4
      try clear c5
      try clear c5b0
      try clear c6
      try clear c6b0
      try clear p6
      try clear c9
      try clear c9b0
      try clear c9b1
      try clear c9b2
      try clear c17
      try clear c18
      try clear p18
      try clear q18
      try clear hx18
      try clear c19
      try clear c20
      try clear c21
      try clear c22
      try clear hx187_0
      try clear hx187_1
      try clear hx187_2
      try clear hx187_3
      try clear hx187_4
      try clear hx189_0
      try clear hx189_1
      try clear hx189_2
      try clear hx189_3
      try clear hx189_4
      try clear p187
      try clear p189
      try clear p2
      try clear q187
      try clear q189
      obtain ⟨kq,x4_12,rfl,HA,HJ12,HB⟩:=hcut
      cases kq with
      | zero => exact absurd HA.out (by simp [humuslaw26_DsgEdges.j1])
      | succ kj12 =>
       have H:=HA.out
       clear HA
       simp only [humuslaw26_DsgEdges.j1] at H
       obtain rfl:=Option.some.inj H
       go_wp2
       go_ret
       exact ⟨by first | rfl | (simp [errW_none,errW_some] <;> rfl) | (simp [*,errW_none,errW_some] <;> rfl),by repeat (first | (with_reducible first | exact HB.out | apply below_alloc | apply pw_below_drewN | apply below_drew1) | exact HB.out)⟩
 ·replace c4:=Bool.eq_false_iff.mpr c4
  subst c4
  have H1 : ((humuslaw26_awake.f k).bind fun t186 => (some t186)) = some r:=by rw [if_neg (show ¬ (false = true) by decide)] at H;exact H
  clear H
  have H:=H1
  clear H1
  replace H:=Option.bind_eq_some_iff.mp H
  obtain ⟨t186,A240,H⟩:=H
  replace H : (some t186) = some r:=H
  have A24:=Aside0.mk A240
  clear A240
  obtain rfl:=Option.some.inj H
  go_enter Try.func5,Try.ntmps5
  go_wp2_with (first | ((with_reducible refine gate_callee (f:=17) rfl ?_);refine goesL_ (some 7) rfl rfl Try.func17 (by kernel_rfl) rfl #[.slice A0 l0.length c0] rfl (by (try simp only [List.map_toArray,List.map_cons,List.map_nil]);first | done | rfl | (simp only [List.length_drop,List.length_take];rfl)) ?_;(with_reducible refine (humuslaw26_Light.calls k _ _ l0 false _ ?side1 ?side2 A3.out).mono ?_);(case side1 => repeat (first | exact HR0.out | (with_reducible refine Kd.C_alloc ?_ _) | (with_reducible refine Kd.C_drewN ?_ _) | (with_reducible refine Kd.C_drew ?_)));(case side2 => exact HC0.out);rintro e w' ⟨rfl,⟨nd,rfl⟩⟩;refine ⟨_,rfl,?_⟩) | ((with_reducible refine gate_callee (f:=13) rfl ?_);refine goesL_ (some 9) rfl rfl Try.func13 (by kernel_rfl) rfl #[] rfl (by (try simp only [List.map_toArray,List.map_cons,List.map_nil]);first | done | rfl | (simp only [List.length_drop,List.length_take];rfl)) ?_;(with_reducible refine (humuslaw26_awake.calls k  t186 _ A24.out).mono ?_);rintro e w25 ⟨rfl,hb⟩;refine ⟨_,rfl,?_⟩;have n0_:=Aside0.mk (below_step (by repeat (first | (with_reducible first | exact HB.out | apply below_alloc | apply pw_below_drewN | apply below_drew1) | exact HB.out)) hb);clear HB;have HB:=n0_;clear n0_;(try clear hb);(try clear hb2);(try clear hk);(try clear hi)))
  go_ret
  exact ⟨by first | rfl | (simp [errW_none,errW_some] <;> rfl) | (simp [*,errW_none,errW_some] <;> rfl),by repeat (first | (with_reducible first | exact HB.out | apply below_alloc | apply pw_below_drewN | apply below_drew1) | exact HB.out)⟩
end Go.Proofs.Ytbmcbhpkefjhbaa.P
set_option linter.unusedVariables false
set_option linter.unusedSimpArgs false
namespace Go.Proofs.Ytbmcbhpkefjhbaa.P
open Go.RowKit Go.Proofs.Ytbmcbhpkefjhbaa Go.Proofs.Ytbmcbhpkefjhbaa.Mem Go.Proofs.YtbmcbhpkefjhbaaW.PrintWords Go.Proofs.YtbmcbhpkefjhbaaW.PrintLast Go.Proofs.YtbmcbhpkefjhbaaW.PrintMore
theorem Light26_l0 {l : List SSt} (hl : l.length ≤ maxLen) : ∀ (n i k : Nat), n = 15 - i → i ≤ 15 → 2 * n + 2 ≤ k → (∀ j, j < i → j < l.length → (rdS l (j : Int)).f2.length ≤ 20 ∧ (rdS l (j : Int)).f3.length ≤ 20) → ∃ b, humuslaw26_Light.l0 k l (i : Int) = some b ∧ (b = true → (∀ s ∈ l, s.f2.length ≤ 20 ∧ s.f3.length ≤ 20) ∧ l.length ≤ 15) := by
  have fin : ∀ (i k : Nat), 1 ≤ k → (l.length ≤ i ∨ 15 ≤ i) → (∀ j, j < i → j < l.length → (rdS l (j : Int)).f2.length ≤ 20 ∧ (rdS l (j : Int)).f3.length ≤ 20) → ∃ b, humuslaw26_Light.j1 k l (i : Int) false = some b ∧ (b = true → (∀ s ∈ l, s.f2.length ≤ 20 ∧ s.f3.length ≤ 20) ∧ l.length ≤ 15) := by
    intro i k hk hi hh
    obtain ⟨k, rfl⟩ : ∃ m, k = m + 1 := ⟨k - 1, by omega⟩
    rw [humuslaw26_Light.j1, if_neg (by decide)]
    refine ⟨_, rfl, fun h => ?_⟩
    have h15 : l.length ≤ 15 := by rw [decide_eq_true_eq] at h; omega
    refine ⟨fun s hm => ?_, h15⟩
    obtain ⟨j, hj⟩ := List.mem_iff_getElem?.1 hm
    have hj' := (List.getElem?_eq_some_iff.1 hj).1
    have := hh j (by omega) hj'
    have e := (rdS_at hj').symm.trans hj
    injection e with e
    rw [← e]; exact this
  intro n
  induction n with
  | zero =>
    intro i k hn hi hk hh
    obtain ⟨k, rfl⟩ : ∃ m, k = m + 1 := ⟨k - 1, by omega⟩
    rw [humuslaw26_Light.l0]
    by_cases hlt : (i : Int) < (l.length : Int)
    · rw [if_pos hlt, decide_eq_false (by omega)]; exact fin i k (by omega) (Or.inr (by omega)) hh
    · rw [if_neg hlt]; exact fin i k (by omega) (Or.inl (by omega)) hh
  | succ n ih =>
    intro i k hn hi hk hh
    obtain ⟨k, rfl⟩ : ∃ m, k = m + 2 := ⟨k - 2, by omega⟩
    rw [humuslaw26_Light.l0]
    by_cases hlt : (i : Int) < (l.length : Int)
    · rw [if_pos hlt, decide_eq_true (by omega), humuslaw26_Light.j1, if_pos rfl, if_pos (by omega), if_pos hlt, wsucc (by omega)]
      by_cases h6 : ((rdS l (i : Int)).f2.length : Int) > 20
      · rw [if_pos h6]; exact ⟨_, rfl, fun h => by cases h⟩
      rw [if_neg h6]
      by_cases h7 : ((rdS l (i : Int)).f3.length : Int) > 20
      · rw [if_pos h7]; exact ⟨_, rfl, fun h => by cases h⟩
      rw [if_neg h7]
      refine ih (i + 1) k (by omega) (by omega) (by omega) (fun j h1 h2 => ?_)
      by_cases e : j = i
      · subst e; omega
      · exact hh j (by omega) h2
    · rw [if_neg hlt]; exact fin i (k + 1) (by omega) (Or.inl (by omega)) hh
theorem Light26_ev {k : Nat} {l : List SSt} (hl : l.length ≤ maxLen) (hk : 50 ≤ k) : ∃ b, humuslaw26_Light.f k l = some b ∧ (b = true → (∀ s ∈ l, s.f2.length ≤ 20 ∧ s.f3.length ≤ 20) ∧ l.length ≤ 15) := by
  unfold humuslaw26_Light.f
  exact Light26_l0 hl 15 0 k rfl (by omega) (by omega) (fun j h => absurd h (Nat.not_lt_zero _))
theorem awake26_at : humuslaw26_awake.f 100 = some true := by kernel_rfl
theorem awake26_ev : ∀ {k : Nat}, 100 ≤ k → humuslaw26_awake.f k = some true := by
  intro k hk
  obtain ⟨d, rfl⟩ : ∃ d, k = 100 + d := ⟨k - 100, by omega⟩
  clear hk
  induction d with
  | zero => exact awake26_at
  | succ d ih => exact humuslaw26_awake.mono (100 + d) _ ih
theorem edges_l0 {l : List SSt} (hL : LightL l) {key : Nat} (hkey : Flt.ok key) : ∀ (d i k : Nat), i + d = l.length → 8000 + d ≤ k → humuslaw26_DsgEdges.l0 k l key (i : Int) = some true := by
  have hl := hL.len
  intro d
  induction d with
  | zero =>
    intro i k hi hk
    obtain ⟨k, rfl⟩ : ∃ m, k = m + 1 + 1 := ⟨k - 2, by omega⟩
    have hn := outP_len l l.length 0 []
    have hn2 : l.length * l.length ≤ 15 * 15 := Nat.mul_le_mul hl hl
    rw [humuslaw26_DsgEdges.l0, if_neg (by omega), pEdges_ev hL (by omega), Option.bind_some, rEdges_ev hL (by omega), Option.bind_some]
    unfold humusref26_Pairs.f
    rw [if_pos (by simp only [List.length_nil] at hn; omega), Option.bind_some, eqP_self, if_pos rfl, awake26_ev (by omega), Option.bind_some, humuslaw26_DsgEdges.j1]
  | succ d ih =>
    intro i k hi hk
    obtain ⟨k, rfl⟩ : ∃ m, k = m + 1 := ⟨k - 1, by omega⟩
    have hlt : i < l.length := by omega
    have mi := rdS_mem hlt
    have e1 := hL.ev _ mi
    rw [humuslaw26_DsgEdges.l0, if_pos (by omega), if_pos (by omega), rReads_ev (hL.oe _ mi) hkey (by omega) _ _ _ _ (by omega)]
    unfold dsg_Reads.f
    rw [if_pos ⟨show (rdS l (i : Int)).f2.length ≤ 1000000 by omega, okEvB_iff.2 (hL.oe _ mi), hkey⟩, Option.bind_some, Option.bind_some, bne_self_eq_false, if_neg (by decide), wsucc (by omega)]
    exact ih (i + 1) k (by omega) (by omega)
theorem DsgEdges_f {l : List SSt} (hl : l.length ≤ maxLen) (ho : ∀ s ∈ l, okEv s.f2 ∧ okRo s.f3) {key : Nat} (hkey : Flt.ok key) : humuslaw26_DsgEdges.f 9000 l key = some true := by
  obtain ⟨b, hb, hh⟩ := @Light26_ev 9000 l hl (by decide)
  unfold humuslaw26_DsgEdges.f
  rw [hb, Option.bind_some]
  cases b with
  | false => rw [if_neg (by decide), awake26_ev (by decide), Option.bind_some]
  | true =>
    obtain ⟨h1, h2⟩ := hh rfl
    rw [if_pos rfl]
    exact edges_l0 ⟨h2, fun s hs => (h1 s hs).1, fun s hs => (h1 s hs).2, fun s hs => (ho s hs).1, fun s hs => (ho s hs).2⟩ hkey l.length 0 9000 (by omega) (by omega)
theorem good_ok {s : SSt} (h : good_story s) : okEv s.f2 ∧ okRo s.f3 := by
  obtain ⟨_, _, h2, h3⟩ := h
  exact ⟨fun e he => ⟨(h2.1 e he).2.2.1, (h2.1 e he).2.2.2.1⟩, fun r hr => (h3.1 r hr).1⟩
theorem DsgEdges_walk {w : World} (l : List SSt) (A : Option Addr) (c : Nat) (h1 : l.length ≤ c) (h2 : Kd.C k43 w A l.length l) (h3 : ∀ x ∈ l, good_story x) (h4 : l.length ≤ maxLen) (key : Nat) (h5 : (Lit.float .f64 key).wf = true) :
    Calls Try.prog 5 #[.slice A l.length c, .float .f64 key] w fun e w' => e = .returned (.bool true) ∧ Below w.heap.size w w' :=
  humuslaw26_DsgEdges.calls 9000 A c l key true w h2 h1 (DsgEdges_f h4 (fun s hs => good_ok (h3 s hs)) (by simpa [Lit.wf, Flt.ok] using h5))
end Go.Proofs.Ytbmcbhpkefjhbaa.P
