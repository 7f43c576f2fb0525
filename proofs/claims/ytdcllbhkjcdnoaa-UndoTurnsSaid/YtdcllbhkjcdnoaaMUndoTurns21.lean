/- Put together by wip/prune.py out of this claim's texts. -/
import Derived.Test.YtdcllbhkjcdnoaaMUndoTurns5
import Derived.Test.YtdcllbhkjcdnoaaMUndoTurns14
import Derived.Test.YtdcllbhkjcdnoaaMUndoTurns16
import Derived.Test.YtdcllbhkjcdnoaaMUndoTurns20
namespace Go.Proofs.Ytdcllbhkjcdnoaa.P
open Go.RowKit Go.Proofs.YtdcllbhkjcdnoaaW.PrintWords Go.Proofs.YtdcllbhkjcdnoaaW.PrintLast Go.Proofs.YtdcllbhkjcdnoaaW.PrintMore
attribute [local go_sem] max2_int min2_int max_two min_two max_three min_three max_four min_four   -- for this text's walks alone
attribute [local go_sem] run_store_float
set_option linter.unusedVariables false
set_option linter.unusedSimpArgs false
def humusref14_Free.l0 : Nat → List (S32) → Int → Option (Int)
 | 0,_,_ => none
 | k + 1,x0,x3 => if x3 < (x0.length : Int) then (if 0 ≤ x3 then ((humusref10_Empty.f k ((rd_T32 x0 x3).f0) ((rd_T32 x0 x3).f1) ((rd_T32 x0 x3).f2) ((rd_T32 x0 x3).f3) ((rd_T32 x0 x3).f4) ((rd_T32 x0 x3).f5) ((rd_T32 x0 x3).f6.f0) ((rd_T32 x0 x3).f6.f1) ((rd_T32 x0 x3).f6.f2) ((rd_T32 x0 x3).f6.f3) ((rd_T32 x0 x3).f6.f4.f0) ((rd_T32 x0 x3).f6.f4.f1)).bind fun t905 => (if t905 = true then (some (wrap64 (x3 + 1))) else (humusref14_Free.l0 k x0 (wrap64 (x3 + 1))))) else (none)) else (some 0)
def humusref14_Free.f (k : Nat) (l0 : List (S32)) : Option (Int):=humusref14_Free.l0 k l0 0
set_option maxHeartbeats 8000000 in
set_option maxRecDepth 100000 in
theorem humusref14_Free.calls (k : Nat) (A0 : Option Addr) (c0 : Nat) (l0 : List (S32)) (r : Int) (w : World) (hr0 : Kd.C k32 w A0 l0.length l0) (hc0 : l0.length ≤ c0) (h : humusref14_Free.f k l0 = some r) :
  Calls Try.prog 28 #[.slice A0 l0.length c0] w fun e w' => e = .returned (.int .i64 r) ∧ Below w.heap.size w w':=by
 have hu32:=Try.underlying32
 have HR0:=Aside0.mk hr0
 have HC0:=Aside0.mk hc0
 clear hr0 hc0
 have HB:=Aside0.mk (Below.refl w.heap.size w)
 have H : (humusref14_Free.l0 k l0 0) = some r:=h
 clear h
 have H':=Aside0.mk H
 clear H
 go_enter Try.func28,Try.ntmps28
 go_wp2
 go_loopg [3] k (fun kq v3 w' => ∃ (x3_1 : Int),v3 = .int .i64 x3_1 ∧ Aside0 (humusref14_Free.l0 kq l0 x3_1 = some r) ∧ Aside0 (kq ≤ k) ∧ Aside0 (Below w.heap.size w w'))
 case atStart => exact ⟨(0),(by first | rfl | (simp;done) | (simp [*];done)),H',⟨Nat.le_refl _⟩,⟨by repeat (first | (with_reducible first | exact HB.out | apply below_alloc | apply pw_below_drewN | apply below_drew1) | exact HB.out)⟩⟩
 case round =>
  clear H'
  obtain ⟨x3_1,rfl,HA,HK1,HB⟩:=hrel
  cases gk with
  | zero => exact absurd HA.out (by simp [humusref14_Free.l0])
  | succ k1 =>
   have H:=HA.out
   clear HA
   simp only [humusref14_Free.l0] at H
   by_cases c2 : x3_1 < (l0.length : Int)
   ·rw [if_pos c2] at H
    have c2b0 : decide (x3_1 < (l0.length : Int)) = true:=decide_eq_true c2
    clear c2
    by_cases c3 : 0 ≤ x3_1
    ·rw [if_pos c3] at H
     have c3b0 : decide (0 ≤ x3_1) = true:=decide_eq_true c3
     clear c3
     replace H:=Option.bind_eq_some_iff.mp H
     obtain ⟨t905,A40,H⟩:=H
     replace H : (if t905 = true then (some (wrap64 (x3_1 + 1))) else (humusref14_Free.l0 k1 l0 (wrap64 (x3_1 + 1)))) = some r:=H
     have A4:=Aside0.mk A40
     clear A40
     by_cases c5 : t905 = true
     ·subst c5
      have H1 : (some (wrap64 (x3_1 + 1))) = some r:=by rw [if_pos rfl] at H;exact H
      clear H
      have H:=H1
      clear H1
      obtain rfl:=Option.some.inj H
      have p904 : 0 ≤ (x3_1 : Int):=of_decide_eq_true (by first | (with_reducible assumption) | assumption)
      have q904 : x3_1 < (l0.length : Int):=of_decide_eq_true (by first | (with_reducible assumption) | assumption)
      obtain ⟨ad904,A904_8,c904_8,e904,hx904_0,hx904_1,hx904_2,hx904_3,hx904_4,hx904_5,hx904_6,hx904_7,hx904_8,hx904_9,hx904_10,hx904_11,hl904_8,hi904_8⟩:=at_T32 HR0.out x3_1 p904 q904
      cases e904
      replace hx904_0:=(HB.out.cell (World.block_lt_of_cell? w _ hx904_0)).trans hx904_0
      replace hx904_1:=(HB.out.cell (World.block_lt_of_cell? w _ hx904_1)).trans hx904_1
      replace hx904_2:=(HB.out.cell (World.block_lt_of_cell? w _ hx904_2)).trans hx904_2
      replace hx904_3:=(HB.out.cell (World.block_lt_of_cell? w _ hx904_3)).trans hx904_3
      replace hx904_4:=(HB.out.cell (World.block_lt_of_cell? w _ hx904_4)).trans hx904_4
      replace hx904_5:=(HB.out.cell (World.block_lt_of_cell? w _ hx904_5)).trans hx904_5
      replace hx904_6:=(HB.out.cell (World.block_lt_of_cell? w _ hx904_6)).trans hx904_6
      replace hx904_7:=(HB.out.cell (World.block_lt_of_cell? w _ hx904_7)).trans hx904_7
      replace hx904_8:=(HB.out.cell (World.block_lt_of_cell? w _ hx904_8)).trans hx904_8
      replace hx904_9:=(HB.out.cell (World.block_lt_of_cell? w _ hx904_9)).trans hx904_9
      replace hx904_10:=(HB.out.cell (World.block_lt_of_cell? w _ hx904_10)).trans hx904_10
      replace hx904_11:=(HB.out.cell (World.block_lt_of_cell? w _ hx904_11)).trans hx904_11
      have HR904_8:=Aside0.mk hi904_8
      have HC904_8:=Aside0.mk hl904_8
      clear hi904_8 hl904_8
      replace p904:=eq_true p904
      replace q904:=eq_true q904
      go_wp2_with (first | ((with_reducible refine gate_callee (f:=60) rfl ?_);refine goesL_ (some 14) rfl rfl Try.func60 (by kernel_rfl) rfl #[.agg #[.int .i64 ((rd_T32 l0 x3_1).f0),.int .i64 ((rd_T32 l0 x3_1).f1),.int .i64 ((rd_T32 l0 x3_1).f2),.int .i64 ((rd_T32 l0 x3_1).f3),.int .i64 ((rd_T32 l0 x3_1).f4),.int .i64 ((rd_T32 l0 x3_1).f5),.float .f64 ((rd_T32 l0 x3_1).f6.f0),.bool ((rd_T32 l0 x3_1).f6.f1),.slice A904_8 ((rd_T32 l0 x3_1).f6.f2).length c904_8,.int .i64 ((rd_T32 l0 x3_1).f6.f3),.int .i64 ((rd_T32 l0 x3_1).f6.f4.f0),.int .i64 ((rd_T32 l0 x3_1).f6.f4.f1)]] rfl (by (try simp only [List.map_toArray,List.map_cons,List.map_nil]);first | done | rfl | (simp only [List.length_drop,List.length_take];rfl)) ?_;(with_reducible refine (humusref10_Empty.calls k1 ((rd_T32 l0 x3_1).f0) ((rd_T32 l0 x3_1).f1) ((rd_T32 l0 x3_1).f2) ((rd_T32 l0 x3_1).f3) ((rd_T32 l0 x3_1).f4) ((rd_T32 l0 x3_1).f5) ((rd_T32 l0 x3_1).f6.f0) ((rd_T32 l0 x3_1).f6.f1) _ _ ((rd_T32 l0 x3_1).f6.f2) ((rd_T32 l0 x3_1).f6.f3) ((rd_T32 l0 x3_1).f6.f4.f0) ((rd_T32 l0 x3_1).f6.f4.f1) true _ ?side1 ?side2 A4.out).mono ?_);(case side1 => repeat (first | exact (Kd.C_below HR904_8.out HB.out) | (with_reducible refine Kd.C_alloc ?_ _) | (with_reducible refine Kd.C_drewN ?_ _) | (with_reducible refine Kd.C_drew ?_)));(case side2 => exact HC904_8.out);rintro e w6 ⟨rfl,hb⟩;refine ⟨_,rfl,?_⟩;have n0_:=Aside0.mk (below_step (by repeat (first | (with_reducible first | exact HB.out | apply below_alloc | apply pw_below_drewN | apply below_drew1) | exact HB.out)) hb);clear HB;have HB:=n0_;clear n0_;(try clear hb);(try clear hb2);(try clear hk);(try clear hi)))
      go_ret
      exact ⟨by first | rfl | (simp [errW_none,errW_some] <;> rfl) | (simp [*,errW_none,errW_some] <;> rfl),by repeat (first | (with_reducible first | exact HB.out | apply below_alloc | apply pw_below_drewN | apply below_drew1) | exact HB.out)⟩
     ·replace c5:=Bool.eq_false_iff.mpr c5
      subst c5
      have H1 : (humusref14_Free.l0 k1 l0 (wrap64 (x3_1 + 1))) = some r:=by rw [if_neg (show ¬ (false = true) by decide)] at H;exact H
      clear H
      have H:=H1
      clear H1
      have H':=Aside0.mk H
      clear H
      have p904 : 0 ≤ (x3_1 : Int):=of_decide_eq_true (by first | (with_reducible assumption) | assumption)
      have q904 : x3_1 < (l0.length : Int):=of_decide_eq_true (by first | (with_reducible assumption) | assumption)
      obtain ⟨ad904,A904_8,c904_8,e904,hx904_0,hx904_1,hx904_2,hx904_3,hx904_4,hx904_5,hx904_6,hx904_7,hx904_8,hx904_9,hx904_10,hx904_11,hl904_8,hi904_8⟩:=at_T32 HR0.out x3_1 p904 q904
      cases e904
      replace hx904_0:=(HB.out.cell (World.block_lt_of_cell? w _ hx904_0)).trans hx904_0
      replace hx904_1:=(HB.out.cell (World.block_lt_of_cell? w _ hx904_1)).trans hx904_1
      replace hx904_2:=(HB.out.cell (World.block_lt_of_cell? w _ hx904_2)).trans hx904_2
      replace hx904_3:=(HB.out.cell (World.block_lt_of_cell? w _ hx904_3)).trans hx904_3
      replace hx904_4:=(HB.out.cell (World.block_lt_of_cell? w _ hx904_4)).trans hx904_4
      replace hx904_5:=(HB.out.cell (World.block_lt_of_cell? w _ hx904_5)).trans hx904_5
      replace hx904_6:=(HB.out.cell (World.block_lt_of_cell? w _ hx904_6)).trans hx904_6
      replace hx904_7:=(HB.out.cell (World.block_lt_of_cell? w _ hx904_7)).trans hx904_7
      replace hx904_8:=(HB.out.cell (World.block_lt_of_cell? w _ hx904_8)).trans hx904_8
      replace hx904_9:=(HB.out.cell (World.block_lt_of_cell? w _ hx904_9)).trans hx904_9
      replace hx904_10:=(HB.out.cell (World.block_lt_of_cell? w _ hx904_10)).trans hx904_10
      replace hx904_11:=(HB.out.cell (World.block_lt_of_cell? w _ hx904_11)).trans hx904_11
      have HR904_8:=Aside0.mk hi904_8
      have HC904_8:=Aside0.mk hl904_8
      clear hi904_8 hl904_8
      replace p904:=eq_true p904
      replace q904:=eq_true q904
      go_wp2_with (first | ((with_reducible refine gate_callee (f:=60) rfl ?_);refine goesL_ (some 14) rfl rfl Try.func60 (by kernel_rfl) rfl #[.agg #[.int .i64 ((rd_T32 l0 x3_1).f0),.int .i64 ((rd_T32 l0 x3_1).f1),.int .i64 ((rd_T32 l0 x3_1).f2),.int .i64 ((rd_T32 l0 x3_1).f3),.int .i64 ((rd_T32 l0 x3_1).f4),.int .i64 ((rd_T32 l0 x3_1).f5),.float .f64 ((rd_T32 l0 x3_1).f6.f0),.bool ((rd_T32 l0 x3_1).f6.f1),.slice A904_8 ((rd_T32 l0 x3_1).f6.f2).length c904_8,.int .i64 ((rd_T32 l0 x3_1).f6.f3),.int .i64 ((rd_T32 l0 x3_1).f6.f4.f0),.int .i64 ((rd_T32 l0 x3_1).f6.f4.f1)]] rfl (by (try simp only [List.map_toArray,List.map_cons,List.map_nil]);first | done | rfl | (simp only [List.length_drop,List.length_take];rfl)) ?_;(with_reducible refine (humusref10_Empty.calls k1 ((rd_T32 l0 x3_1).f0) ((rd_T32 l0 x3_1).f1) ((rd_T32 l0 x3_1).f2) ((rd_T32 l0 x3_1).f3) ((rd_T32 l0 x3_1).f4) ((rd_T32 l0 x3_1).f5) ((rd_T32 l0 x3_1).f6.f0) ((rd_T32 l0 x3_1).f6.f1) _ _ ((rd_T32 l0 x3_1).f6.f2) ((rd_T32 l0 x3_1).f6.f3) ((rd_T32 l0 x3_1).f6.f4.f0) ((rd_T32 l0 x3_1).f6.f4.f1) false _ ?side1 ?side2 A4.out).mono ?_);(case side1 => repeat (first | exact (Kd.C_below HR904_8.out HB.out) | (with_reducible refine Kd.C_alloc ?_ _) | (with_reducible refine Kd.C_drewN ?_ _) | (with_reducible refine Kd.C_drew ?_)));(case side2 => exact HC904_8.out);rintro e w7 ⟨rfl,hb⟩;refine ⟨_,rfl,?_⟩;have n0_:=Aside0.mk (below_step (by repeat (first | (with_reducible first | exact HB.out | apply below_alloc | apply pw_below_drewN | apply below_drew1) | exact HB.out)) hb);clear HB;have HB:=n0_;clear n0_;(try clear hb);(try clear hb2);(try clear hk);(try clear hi)))
      go_roundg k1
      case measure => have:=HK1.out;omega
      case rel => exact ⟨(wrap64 (x3_1 + 1)),(by first | rfl | (simp;done) | (simp [*];done)),H',⟨by have:=HK1.out;omega⟩,⟨by repeat (first | (with_reducible first | exact HB.out | apply below_alloc | apply pw_below_drewN | apply below_drew1) | exact HB.out)⟩⟩
    ·rw [if_neg c3] at H
     exact absurd H (by simp)
   ·rw [if_neg c2] at H
    have c2b0 : decide (x3_1 < (l0.length : Int)) = false:=decide_eq_false c2
    clear c2
    obtain rfl:=Option.some.inj H
    go_wp2
    go_ret
    exact ⟨by first | rfl | (simp [errW_none,errW_some] <;> rfl) | (simp [*,errW_none,errW_some] <;> rfl),by repeat (first | (with_reducible first | exact HB.out | apply below_alloc | apply pw_below_drewN | apply below_drew1) | exact HB.out)⟩
def humusref14_set.f (l0 : List (S32)) (a1 : Int) (a2_0 : Int) (a2_1 : Int) (a2_2 : Int) (a2_3 : Int) (a2_4 : Int) (a2_5 : Int) (a2_6 : Nat) (a2_7 : Bool) (l2_8 : List Nat) (a2_9 : Int) (a2_10 : Int) (a2_11 : Int) : Option ((List (S32))):=(some (([] : List (S32)) : List (S32))).bind fun y907 => (if y907.length + l0.length < 1256584717458 then ((some (y907 ++ l0 : List (S32))).bind fun y910 => (if 0 ≤ (wrap64 (a1 - 1)) then (if (wrap64 (a1 - 1)) < (y910.length : Int) then (some (y910.set ((wrap64 (a1 - 1)) : Int).toNat (⟨a2_0,a2_1,a2_2,a2_3,a2_4,a2_5,(⟨a2_6,a2_7,l2_8,a2_9,(⟨a2_10,a2_11⟩ : S28)⟩ : S30)⟩ : S32))) else (none)) else (none))) else (none))
set_option maxHeartbeats 8000000 in
set_option maxRecDepth 100000 in
theorem humusref14_set.calls (P0_ : Nat → Prop) (A0 : Option Addr) (c0 : Nat) (l0 : List (S32)) (a1 : Int) (a2_0 : Int) (a2_1 : Int) (a2_2 : Int) (a2_3 : Int) (a2_4 : Int) (a2_5 : Int) (a2_6 : Nat) (a2_7 : Bool) (P2_8_ : Nat → Prop) (A2_8 : Option Addr) (c2_8 : Nat) (l2_8 : List Nat) (a2_9 : Int) (a2_10 : Int) (a2_11 : Int) (r : List (S32)) (w : World) (hs0 : Kd.V k32 32 w w.heap.size (fun k_ => P0_ k_) (.slice A0 l0.length c0) l0) (hs2_8 : Kd.V Kd.f64 25 w w.heap.size (fun k_ => P2_8_ k_) (.slice A2_8 l2_8.length c2_8) l2_8) (h : humusref14_set.f l0 a1 a2_0 a2_1 a2_2 a2_3 a2_4 a2_5 a2_6 a2_7 l2_8 a2_9 a2_10 a2_11 = some r) :
  Calls Try.prog 62 #[.slice A0 l0.length c0,.int .i64 a1,.agg #[.int .i64 a2_0,.int .i64 a2_1,.int .i64 a2_2,.int .i64 a2_3,.int .i64 a2_4,.int .i64 a2_5,.float .f64 a2_6,.bool a2_7,.slice A2_8 l2_8.length c2_8,.int .i64 a2_9,.int .i64 a2_10,.int .i64 a2_11]] w fun e w' => ∃ v0_ : Value,e = .returned (v0_) ∧ Kd.N k32 32 w' w.heap.size (fun k_ => ((P0_ k_ ∨ P2_8_ k_) ∨ w.heap.size ≤ k_)) v0_ r ∧ Below w.heap.size w w':=by
 have hu32:=Try.underlying32
 have HO0:=Aside0.mk (show Kd.V k32 32 w w.heap.size (fun k_ => ((P0_ k_ ∨ P2_8_ k_) ∨ w.heap.size ≤ k_)) (.slice A0 l0.length c0) l0 from Kd.V_mono hs0 (fun k_ hk => .inl (.inl hk)))
 have HO2_8:=Aside0.mk (show Kd.V Kd.f64 25 w w.heap.size (fun k_ => ((P0_ k_ ∨ P2_8_ k_) ∨ w.heap.size ≤ k_)) (.slice A2_8 l2_8.length c2_8) l2_8 from Kd.V_mono hs2_8 (fun k_ hk => .inl (.inr hk)))
 have HB:=Aside0.mk (Below.refl w.heap.size w)
 have H : ((some (([] : List (S32)) : List (S32))).bind fun y907 => (if y907.length + l0.length < 1256584717458 then ((some (y907 ++ l0 : List (S32))).bind fun y910 => (if 0 ≤ (wrap64 (a1 - 1)) then (if (wrap64 (a1 - 1)) < (y910.length : Int) then (some (y910.set ((wrap64 (a1 - 1)) : Int).toNat (⟨a2_0,a2_1,a2_2,a2_3,a2_4,a2_5,(⟨a2_6,a2_7,l2_8,a2_9,(⟨a2_10,a2_11⟩ : S28)⟩ : S30)⟩ : S32))) else (none)) else (none))) else (none))) = some r:=h
 clear h
 obtain ⟨y907,hy907⟩ : ∃ y_ : List (S32),y_ = (([] : List (S32))):=⟨_,rfl⟩
 replace H : (if y907.length + l0.length < 1256584717458 then ((some (y907 ++ l0 : List (S32))).bind fun y910 => (if 0 ≤ (wrap64 (a1 - 1)) then (if (wrap64 (a1 - 1)) < (y910.length : Int) then (some (y910.set ((wrap64 (a1 - 1)) : Int).toNat (⟨a2_0,a2_1,a2_2,a2_3,a2_4,a2_5,(⟨a2_6,a2_7,l2_8,a2_9,(⟨a2_10,a2_11⟩ : S28)⟩ : S30)⟩ : S32))) else (none)) else (none))) else (none)) = some r:=by first | (rw [hy907];with_reducible exact H) | (have H2_:=(Option.bind_some _ _).symm.trans H;rw [hy907];with_reducible exact H2_) | (have H2_:=(Option.bind_some _ _).symm.trans H;with_reducible exact H2_) | with_reducible exact H | (rw [hy907];exact H) | exact H
 have Ny907:=Aside0.mk hy907
 clear hy907
 by_cases c4 : y907.length + l0.length < 1256584717458
 ·rw [if_pos c4] at H
  have LMc4:=Aside0.mk c4
  clear c4
  obtain ⟨y910,hy910⟩ : ∃ y_ : List (S32),y_ = (y907 ++ l0):=⟨_,rfl⟩
  replace H : (if 0 ≤ (wrap64 (a1 - 1)) then (if (wrap64 (a1 - 1)) < (y910.length : Int) then (some (y910.set ((wrap64 (a1 - 1)) : Int).toNat (⟨a2_0,a2_1,a2_2,a2_3,a2_4,a2_5,(⟨a2_6,a2_7,l2_8,a2_9,(⟨a2_10,a2_11⟩ : S28)⟩ : S30)⟩ : S32))) else (none)) else (none)) = some r:=by first | (rw [hy910];with_reducible exact H) | (have H2_:=(Option.bind_some _ _).symm.trans H;rw [hy910];with_reducible exact H2_) | (have H2_:=(Option.bind_some _ _).symm.trans H;with_reducible exact H2_) | with_reducible exact H | (rw [hy910];exact H) | exact H
  have Ny910:=Aside0.mk hy910
  clear hy910
  obtain ⟨ji5,hji5⟩ : ∃ j_ : Int,(wrap64 (a1 - 1)) = j_:=⟨_,rfl⟩
  replace H : (if 0 ≤ (ji5) then (if (ji5) < (y910.length : Int) then (some (y910.set ((ji5) : Int).toNat (⟨a2_0,a2_1,a2_2,a2_3,a2_4,a2_5,(⟨a2_6,a2_7,l2_8,a2_9,(⟨a2_10,a2_11⟩ : S28)⟩ : S30)⟩ : S32))) else (none)) else (none)) = some r:=by first | (rw [hji5] at H;exact H) | (simp only [hji5] at H ⊢;exact H)
  have hji5w : (IntKind.i64.wrap (a1 - 1)) = ji5:=(i64_w _).trans hji5
  by_cases c6 : 0 ≤ (ji5)
  ·rw [if_pos c6] at H
   have c6b0 : decide (0 ≤ (ji5)) = true:=decide_eq_true c6
   clear c6
   by_cases c7 : (ji5) < (y910.length : Int)
   ·rw [if_pos c7] at H
    have c7b0 : decide ((ji5) < (y910.length : Int)) = true:=decide_eq_true c7
    clear c7
    obtain ⟨y913,hy913⟩ : ∃ y_ : List (S32),y_ = (y910.set ((ji5) : Int).toNat (⟨a2_0,a2_1,a2_2,a2_3,a2_4,a2_5,(⟨a2_6,a2_7,l2_8,a2_9,(⟨a2_10,a2_11⟩ : S28)⟩ : S30)⟩ : S32)):=⟨_,rfl⟩
    replace H : (some y913) = some r:=by first | (rw [hy913];with_reducible exact H) | (have H2_:=(Option.bind_some _ _).symm.trans H;rw [hy913];with_reducible exact H2_) | (have H2_:=(Option.bind_some _ _).symm.trans H;with_reducible exact H2_) | with_reducible exact H | (rw [hy913];exact H) | exact H
    have Ny913:=Aside0.mk hy913
    clear hy913
    obtain rfl:=Option.some.inj H
    go_enter Try.func62,Try.ntmps62
    go_wp2_with (first | ((with_reducible refine gate_dst (N:=5) rfl ?_);refine box_event ?hg (N:=5) ?hd (cs:=#[.int .i64 a2_0,.int .i64 a2_1,.int .i64 a2_2,.int .i64 a2_3,.int .i64 a2_4,.int .i64 a2_5,.float .f64 a2_6,.bool a2_7,.slice A2_8 l2_8.length c2_8,.int .i64 a2_9,.int .i64 a2_10,.int .i64 a2_11]) (t:=32) ?hr ?_;(case hd => rfl);(case hg => rfl);(case hr => first | (go_simp;done) | (go_simp;rfl));intro gb906 hg w9 hbox hb;have n0_:=Aside0.mk (Kd.V_below (Kd.V_elderB (by (with_reducible repeat (first | apply Kd.V_alloc | apply Kd.V_drewN | apply Kd.V_drew));exact HO0.out) gb906 (Nat.le_of_eq hg.symm)) hb);have n1_:=Aside0.mk (Kd.V_below (Kd.V_elderB (by (with_reducible repeat (first | apply Kd.V_alloc | apply Kd.V_drewN | apply Kd.V_drew));exact HO2_8.out) gb906 (Nat.le_of_eq hg.symm)) hb);have n2_:=Aside0.mk (below_step (by repeat (first | (with_reducible first | exact HB.out | apply below_alloc | apply pw_below_drewN | apply below_drew1) | exact HB.out)) hb);have n3_:=Aside0.mk (hbox);have n4_:=Aside0.mk ((by rw [hg];exact (below_size (by repeat (first | (with_reducible first | exact HB.out | apply below_alloc | apply pw_below_drewN | apply below_drew1) | exact HB.out))) : w.heap.size ≤ gb906));have n5_:=Aside0.mk ((by rw [hg];exact (below_size (by repeat (first | (with_reducible first | exact HB.out | apply below_alloc | apply pw_below_drewN | apply below_drew1) | exact HB.out))) : w.heap.size ≤ gb906));clear HO0;clear HO2_8;clear HB;have HO0:=n0_;have HO2_8:=n1_;have HB:=n2_;have BK906:=n3_;have GW906:=n4_;have GE906:=n5_;clear n0_ n1_ n2_ n3_ n4_ n5_;clear hb hbox hg) | ((with_reducible refine gate_dst (N:=8) rfl ?_);refine Kd.N_lit k32 _ 32 ?hg (N':=8) ?hd (xs:=([] : List (S32))) (inner:=[]) (ok:=(fun k_ => ((P0_ k_ ∨ P2_8_ k_) ∨ w.heap.size ≤ k_) ∧ k_ ≠ gb906)) (okp:=(fun k_ => ((P0_ k_ ∨ P2_8_ k_) ∨ w.heap.size ≤ k_) ∧ k_ ≠ gb906)) ?hr ?hp (fun _ hk => hk) ((show ∀ k_,w9.heap.size ≤ k_ → (fun k_ => ((P0_ k_ ∨ P2_8_ k_) ∨ w.heap.size ≤ k_) ∧ k_ ≠ gb906) k_ from fun k_ hk => ⟨(.inr (Nat.le_trans (below_size (by repeat (first | (with_reducible first | exact HB.out | apply below_alloc | apply pw_below_drewN | apply below_drew1 | refine below_set ?_ GE906.out) | exact HB.out))) hk)),Kd.freshB (g:=gb906) (o:=.cells #[.int .i64 a2_0,.int .i64 a2_1,.int .i64 a2_2,.int .i64 a2_3,.int .i64 a2_4,.int .i64 a2_5,.float .f64 a2_6,.bool a2_7,.slice A2_8 l2_8.length c2_8,.int .i64 a2_9,.int .i64 a2_10,.int .i64 a2_11] 32 (0,0)) (by (with_reducible repeat (first | refine blk_drewN ?_ _ | refine blk_drew ?_ | refine blk_alloc ?_ _));exact BK906.out) k_ hk⟩) _ (Nat.le_refl _)) (Below.refl _ _) (Nat.le_refl _) (by simp) ?_;(case hd => rfl);(case hg => rfl);(case hr => first | (go_simp;done) | (go_simp;rfl));(case hp => exact (Reps.none _ _));intro v908 w10 ho11 hb hg_ hnew_;clear hg_ hnew_;(first | rw [← Ny907.out] at ho11 | (simp only [Int.reduceToNat] at ho11;rw [← Ny907.out] at ho11));have n0_:=Aside0.mk (Kd.V_elder' (by (with_reducible repeat (first | apply Kd.V_alloc | apply Kd.V_drewN | apply Kd.V_drew));exact HO0.out) (Kd.N_base ho11) hb);have n1_:=Aside0.mk (Kd.V_elder' (by (with_reducible repeat (first | apply Kd.V_alloc | apply Kd.V_drewN | apply Kd.V_drew));exact HO2_8.out) (Kd.N_base ho11) hb);have n2_:=Aside0.mk (Kd.N_lower ho11 (below_size (by repeat (first | (with_reducible first | exact HB.out | apply below_alloc | apply pw_below_drewN | apply below_drew1 | refine below_set ?_ GE906.out) | exact HB.out))));have n3_:=Aside0.mk (blk_below (g:=gb906) (o:=.cells #[.int .i64 a2_0,.int .i64 a2_1,.int .i64 a2_2,.int .i64 a2_3,.int .i64 a2_4,.int .i64 a2_5,.float .f64 a2_6,.bool a2_7,.slice A2_8 l2_8.length c2_8,.int .i64 a2_9,.int .i64 a2_10,.int .i64 a2_11] 32 (0,0)) (by (with_reducible repeat (first | refine blk_drewN ?_ _ | refine blk_drew ?_ | refine blk_alloc ?_ _));exact BK906.out) hb);have n4_:=Aside0.mk (below_step (by repeat (first | (with_reducible first | exact HB.out | apply below_alloc | apply pw_below_drewN | apply below_drew1 | refine below_set ?_ GE906.out) | exact HB.out)) hb);clear HO0;clear HO2_8;clear BK906;clear HB;have HO0:=n0_;have HO2_8:=n1_;have HO909:=n2_;have BK906:=n3_;have HB:=n4_;clear n0_ n1_ n2_ n3_ n4_;clear hb ho11) | ((with_reducible refine gate_builtin (b:=.append) (xs:=#[.tmp 8,.tmp 9]) rfl ?_);at_builtin;refine Kd.N_append_rows k32 (w0:=w) w.heap.size rfl (.tmp 8) (.tmp 9) 22 32 (.agg #[(.int .i64 0),(.int .i64 0),(.int .i64 0),(.int .i64 0),(.int .i64 0),(.int .i64 0),(.float .f64 0),(.bool false),(.slice none 0 0),(.int .i64 0),(.int .i64 0),(.int .i64 0)]) 112 rfl Try.underlying22 info32 rfl (by decide) (by omega) v908 y907 l0 _ _ _ (fun k_ => ((P0_ k_ ∨ P2_8_ k_) ∨ w.heap.size ≤ k_) ∧ k_ ≠ gb906) (fun k_ => ((fun k_ => ((P0_ k_ ∨ P2_8_ k_) ∨ w.heap.size ≤ k_) ∧ k_ ≠ gb906)) k_ ∧ some k_ ≠ (v908 : Value).ownBlock) rfl rfl ?aO ?aR (fun _ hk => hk) ?aF ?aB ?aS ?aL ?_;(case aR => exact (by skip;exact Kd.V_F (Kd.V_mono (ok':=(fun k_ => ((fun k_ => ((P0_ k_ ∨ P2_8_ k_) ∨ w.heap.size ≤ k_) ∧ k_ ≠ gb906)) k_ ∧ some k_ ≠ (v908 : Value).ownBlock)) (HO0.out) (fun k_ hk => ⟨⟨hk.1.1,hk.1.2⟩,hk.2⟩))));(case aB => exact (by repeat (first | (with_reducible first | exact HB.out | apply below_alloc | apply pw_below_drewN | apply below_drew1 | refine below_set ?_ GE906.out) | exact HB.out)));(case aF => exact (fun k_ hk => ⟨(.inr (Nat.le_trans (below_size (by repeat (first | (with_reducible first | exact HB.out | apply below_alloc | apply pw_below_drewN | apply below_drew1 | refine below_set ?_ GE906.out) | exact HB.out))) hk)),Kd.freshB (g:=gb906) (o:=.cells #[.int .i64 a2_0,.int .i64 a2_1,.int .i64 a2_2,.int .i64 a2_3,.int .i64 a2_4,.int .i64 a2_5,.float .f64 a2_6,.bool a2_7,.slice A2_8 l2_8.length c2_8,.int .i64 a2_9,.int .i64 a2_10,.int .i64 a2_11] 32 (0,0)) (by (with_reducible repeat (first | refine blk_drewN ?_ _ | refine blk_drew ?_ | refine blk_alloc ?_ _));exact BK906.out) k_ hk⟩));(case aO => exact (by (with_reducible repeat (first | apply Kd.N_alloc | apply Kd.N_drewN | apply Kd.N_drew));exact HO909.out));(case aS => exact (below_size (by repeat (first | (with_reducible first | exact HB.out | apply below_alloc | apply pw_below_drewN | apply below_drew1 | refine below_set ?_ GE906.out) | exact HB.out))));(case aL => have:=LMc4.out;omega);intro v911 w12 ho hb hg hat;rw [← Ny910.out] at ho;have n0_:=Aside0.mk (Kd.V_afterv (ok:=(fun k_ => ((P0_ k_ ∨ P2_8_ k_) ∨ w.heap.size ≤ k_) ∧ k_ ≠ gb906)) (by (with_reducible repeat (first | apply Kd.V_alloc | apply Kd.V_drewN | apply Kd.V_drew));exact HO0.out) hg hat);have n1_:=Aside0.mk (Kd.V_afterv (ok:=(fun k_ => ((P0_ k_ ∨ P2_8_ k_) ∨ w.heap.size ≤ k_) ∧ k_ ≠ gb906)) (by (with_reducible repeat (first | apply Kd.V_alloc | apply Kd.V_drewN | apply Kd.V_drew));exact HO2_8.out) hg hat);have n2_:=Aside0.mk (blk_grown (g:=gb906) (o:=.cells #[.int .i64 a2_0,.int .i64 a2_1,.int .i64 a2_2,.int .i64 a2_3,.int .i64 a2_4,.int .i64 a2_5,.float .f64 a2_6,.bool a2_7,.slice A2_8 l2_8.length c2_8,.int .i64 a2_9,.int .i64 a2_10,.int .i64 a2_11] 32 (0,0)) (by (with_reducible repeat (first | refine blk_drewN ?_ _ | refine blk_drew ?_ | refine blk_alloc ?_ _));exact BK906.out) hg (Kd.N_away HO909.out (fun _ hk => hk.2)));have n3_:=Aside0.mk (hb);have n4_:=Aside0.mk (ho);clear HO0;clear HO2_8;clear BK906;clear HB;clear HO909;have HO0:=n0_;have HO2_8:=n1_;have BK906:=n2_;have HB:=n3_;have HO912:=n4_;clear n0_ n1_ n2_ n3_ n4_;clear ho hb hg hat;obtain ⟨hcz13_0,hcz13_1,hcz13_2,hcz13_3,hcz13_4,hcz13_5,hcz13_6,hcz13_7,hcz13_8,hcz13_9,hcz13_10,hcz13_11⟩:=blkc_12 BK906.out;obtain ⟨hfz13_0,hfz13_1,hfz13_2,hfz13_3,hfz13_4,hfz13_5,hfz13_6,hfz13_7,hfz13_8,hfz13_9,hfz13_10,hfz13_11⟩:=blkz_12 BK906.out;have p8 : 0 ≤ ((ji5) : Int):=of_decide_eq_true (by first | (with_reducible assumption) | assumption);have q8 : ((ji5) : Int) < ((y910.length : Int) : Int):=of_decide_eq_true (by first | (with_reducible assumption) | assumption);obtain ⟨go8,co8,eo8,gb8,gl8,cl8,HG8⟩:=Kd.N_form HO912.out (by omega);(first | cases eo8 | (injection eo8 with ea_ en_ ec_;(first | subst ea_ | (injection ea_ with ea_;subst ea_));subst ec_;clear en_));have GB8:=Aside0.mk gb8;have GG8:=Aside0.mk HG8;clear gb8 gl8 HG8;obtain ⟨ce8,hcl8,hM8,hcc8,hfr8⟩:=Kd.N_elem HO912.out z32 ((ji5) : Int) p8 q8;obtain ⟨ua8_8,uc8_8,rfl,ul8_8,ge8_8⟩:=k32_openF hM8;have hx8_0 : w12.cell? ⟨go8,((ji5) : Int).toNat * 12,none⟩ = some (.int .i64 ((rd_T32 y910 (ji5)).f0)):=hcc8 0 _ rfl;have hx8_1 : w12.cell? ⟨go8,((ji5) : Int).toNat * 12 + 1,none⟩ = some (.int .i64 ((rd_T32 y910 (ji5)).f1)):=hcc8 1 _ rfl;have hx8_2 : w12.cell? ⟨go8,((ji5) : Int).toNat * 12 + 2,none⟩ = some (.int .i64 ((rd_T32 y910 (ji5)).f2)):=hcc8 2 _ rfl;have hx8_3 : w12.cell? ⟨go8,((ji5) : Int).toNat * 12 + 3,none⟩ = some (.int .i64 ((rd_T32 y910 (ji5)).f3)):=hcc8 3 _ rfl;have hx8_4 : w12.cell? ⟨go8,((ji5) : Int).toNat * 12 + 4,none⟩ = some (.int .i64 ((rd_T32 y910 (ji5)).f4)):=hcc8 4 _ rfl;have hx8_5 : w12.cell? ⟨go8,((ji5) : Int).toNat * 12 + 5,none⟩ = some (.int .i64 ((rd_T32 y910 (ji5)).f5)):=hcc8 5 _ rfl;have hx8_6 : w12.cell? ⟨go8,((ji5) : Int).toNat * 12 + 6,none⟩ = some (.float .f64 ((rd_T32 y910 (ji5)).f6.f0)):=hcc8 6 _ rfl;have hx8_7 : w12.cell? ⟨go8,((ji5) : Int).toNat * 12 + 7,none⟩ = some (.bool ((rd_T32 y910 (ji5)).f6.f1)):=hcc8 7 _ rfl;have hx8_8 : w12.cell? ⟨go8,((ji5) : Int).toNat * 12 + 8,none⟩ = some (.slice ua8_8 ((rd_T32 y910 (ji5)).f6.f2).length uc8_8):=hcc8 8 _ rfl;have hx8_9 : w12.cell? ⟨go8,((ji5) : Int).toNat * 12 + 9,none⟩ = some (.int .i64 ((rd_T32 y910 (ji5)).f6.f3)):=hcc8 9 _ rfl;have hx8_10 : w12.cell? ⟨go8,((ji5) : Int).toNat * 12 + 10,none⟩ = some (.int .i64 ((rd_T32 y910 (ji5)).f6.f4.f0)):=hcc8 10 _ rfl;have hx8_11 : w12.cell? ⟨go8,((ji5) : Int).toNat * 12 + 11,none⟩ = some (.int .i64 ((rd_T32 y910 (ji5)).f6.f4.f1)):=hcc8 11 _ rfl;have hf8_0 : w12.frozen? ⟨go8,((ji5) : Int).toNat * 12,none⟩ = false:=hfr8 0;have hf8_1 : w12.frozen? ⟨go8,((ji5) : Int).toNat * 12 + 1,none⟩ = false:=hfr8 1;have hf8_2 : w12.frozen? ⟨go8,((ji5) : Int).toNat * 12 + 2,none⟩ = false:=hfr8 2;have hf8_3 : w12.frozen? ⟨go8,((ji5) : Int).toNat * 12 + 3,none⟩ = false:=hfr8 3;have hf8_4 : w12.frozen? ⟨go8,((ji5) : Int).toNat * 12 + 4,none⟩ = false:=hfr8 4;have hf8_5 : w12.frozen? ⟨go8,((ji5) : Int).toNat * 12 + 5,none⟩ = false:=hfr8 5;have hf8_6 : w12.frozen? ⟨go8,((ji5) : Int).toNat * 12 + 6,none⟩ = false:=hfr8 6;have hf8_7 : w12.frozen? ⟨go8,((ji5) : Int).toNat * 12 + 7,none⟩ = false:=hfr8 7;have hf8_8 : w12.frozen? ⟨go8,((ji5) : Int).toNat * 12 + 8,none⟩ = false:=hfr8 8;have hf8_9 : w12.frozen? ⟨go8,((ji5) : Int).toNat * 12 + 9,none⟩ = false:=hfr8 9;have hf8_10 : w12.frozen? ⟨go8,((ji5) : Int).toNat * 12 + 10,none⟩ = false:=hfr8 10;have hf8_11 : w12.frozen? ⟨go8,((ji5) : Int).toNat * 12 + 11,none⟩ = false:=hfr8 11;clear hcl8 hcc8 hfr8 hM8;replace p8:=eq_true p8;replace q8:=eq_true q8;have HX14:=Aside0.mk (show Kd.N k32 32 w12 w.heap.size (fun k_ => ((P0_ k_ ∨ P2_8_ k_) ∨ w.heap.size ≤ k_) ∧ k_ ≠ gb906) (.slice (some ⟨go8,0,none⟩) y910.length co8) y910 from (by (with_reducible repeat (first | apply Kd.N_alloc | apply Kd.N_drewN | apply Kd.N_drew));exact HO912.out));obtain ⟨ce14,hcl14,hM14,hcc14,hfr14⟩:=Kd.N_elem HX14.out z32 ((ji5) : Int) (of_decide_eq_true (by first | (with_reducible assumption) | assumption)) (by have h_ : ((ji5) : Int) < ((y910.length : Int) : Int):=of_decide_eq_true (by first | (with_reducible assumption) | assumption);first | exact h_ | (have e_:=(Kd.N_reads' HO912.out).1;omega) | simpa using h_);obtain ⟨ua14_8,uc14_8,rfl,ul14_8,ge14_8⟩:=k32_openF hM14;have HP14:=Kd.N_seg HX14.out ((ji5) : Int) (of_decide_eq_true (by first | (with_reducible assumption) | assumption)) (by have h_ : ((ji5) : Int) < ((y910.length : Int) : Int):=of_decide_eq_true (by first | (with_reducible assumption) | assumption);first | exact h_ | (have e_:=(Kd.N_reads' HO912.out).1;omega) | simpa using h_) (seg:=[.int .i64 a2_0,.int .i64 a2_1,.int .i64 a2_2,.int .i64 a2_3,.int .i64 a2_4,.int .i64 a2_5,.float .f64 a2_6,.bool a2_7,.slice A2_8 l2_8.length c2_8,.int .i64 a2_9,.int .i64 a2_10,.int .i64 a2_11]) (j:=0) hcl14 hcc14 (show 12 ≤ 12 from by decide) (x':=(⟨a2_0,a2_1,a2_2,a2_3,a2_4,a2_5,(⟨a2_6,a2_7,l2_8,a2_9,(⟨a2_10,a2_11⟩ : S28)⟩ : S30)⟩ : S32)) (k32_mkF _ _ (⟨a2_0,a2_1,a2_2,a2_3,a2_4,a2_5,(⟨a2_6,a2_7,l2_8,a2_9,(⟨a2_10,a2_11⟩ : S28)⟩ : S30)⟩ : S32) (Kd.V_reads' (Kd.V_mono (ok':=(fun k_ => ((fun k_ => ((P0_ k_ ∨ P2_8_ k_) ∨ w.heap.size ≤ k_) ∧ k_ ≠ gb906)) k_ ∧ k_ ≠ go8)) (HO2_8.out) (fun k_ hk => ⟨⟨hk.1.1,hk.1.2⟩,fun e_ => (hk.2) (by rw [e_];rfl)⟩))).2.1 (Kd.V_F (Kd.V_mono (ok':=(fun k_ => ((fun k_ => ((P0_ k_ ∨ P2_8_ k_) ∨ w.heap.size ≤ k_) ∧ k_ ≠ gb906)) k_ ∧ k_ ≠ go8)) (HO2_8.out) (fun k_ hk => ⟨⟨hk.1.1,hk.1.2⟩,fun e_ => (hk.2) (by rw [e_];rfl)⟩)))) (fun _ hk => hk);have hx14_0:=hcc14 0 _ rfl;(try simp only [show (k32).sz = 12 from rfl,Nat.mul_one,Nat.add_zero] at hx14_0);have hf14_0:=hfr14 0;(try simp only [show (k32).sz = 12 from rfl,Nat.mul_one,Nat.add_zero] at hf14_0);have hx14_1:=hcc14 1 _ rfl;(try simp only [show (k32).sz = 12 from rfl,Nat.mul_one,Nat.add_zero] at hx14_1);have hf14_1:=hfr14 1;(try simp only [show (k32).sz = 12 from rfl,Nat.mul_one,Nat.add_zero] at hf14_1);have hx14_2:=hcc14 2 _ rfl;(try simp only [show (k32).sz = 12 from rfl,Nat.mul_one,Nat.add_zero] at hx14_2);have hf14_2:=hfr14 2;(try simp only [show (k32).sz = 12 from rfl,Nat.mul_one,Nat.add_zero] at hf14_2);have hx14_3:=hcc14 3 _ rfl;(try simp only [show (k32).sz = 12 from rfl,Nat.mul_one,Nat.add_zero] at hx14_3);have hf14_3:=hfr14 3;(try simp only [show (k32).sz = 12 from rfl,Nat.mul_one,Nat.add_zero] at hf14_3);have hx14_4:=hcc14 4 _ rfl;(try simp only [show (k32).sz = 12 from rfl,Nat.mul_one,Nat.add_zero] at hx14_4);have hf14_4:=hfr14 4;(try simp only [show (k32).sz = 12 from rfl,Nat.mul_one,Nat.add_zero] at hf14_4);have hx14_5:=hcc14 5 _ rfl;(try simp only [show (k32).sz = 12 from rfl,Nat.mul_one,Nat.add_zero] at hx14_5);have hf14_5:=hfr14 5;(try simp only [show (k32).sz = 12 from rfl,Nat.mul_one,Nat.add_zero] at hf14_5);have hx14_6:=hcc14 6 _ rfl;(try simp only [show (k32).sz = 12 from rfl,Nat.mul_one,Nat.add_zero] at hx14_6);have hf14_6:=hfr14 6;(try simp only [show (k32).sz = 12 from rfl,Nat.mul_one,Nat.add_zero] at hf14_6);have hx14_7:=hcc14 7 _ rfl;(try simp only [show (k32).sz = 12 from rfl,Nat.mul_one,Nat.add_zero] at hx14_7);have hf14_7:=hfr14 7;(try simp only [show (k32).sz = 12 from rfl,Nat.mul_one,Nat.add_zero] at hf14_7);have hx14_8:=hcc14 8 _ rfl;(try simp only [show (k32).sz = 12 from rfl,Nat.mul_one,Nat.add_zero] at hx14_8);have hf14_8:=hfr14 8;(try simp only [show (k32).sz = 12 from rfl,Nat.mul_one,Nat.add_zero] at hf14_8);have hx14_9:=hcc14 9 _ rfl;(try simp only [show (k32).sz = 12 from rfl,Nat.mul_one,Nat.add_zero] at hx14_9);have hf14_9:=hfr14 9;(try simp only [show (k32).sz = 12 from rfl,Nat.mul_one,Nat.add_zero] at hf14_9);have hx14_10:=hcc14 10 _ rfl;(try simp only [show (k32).sz = 12 from rfl,Nat.mul_one,Nat.add_zero] at hx14_10);have hf14_10:=hfr14 10;(try simp only [show (k32).sz = 12 from rfl,Nat.mul_one,Nat.add_zero] at hf14_10);have hx14_11:=hcc14 11 _ rfl;(try simp only [show (k32).sz = 12 from rfl,Nat.mul_one,Nat.add_zero] at hx14_11);have hf14_11:=hfr14 11;(try simp only [show (k32).sz = 12 from rfl,Nat.mul_one,Nat.add_zero] at hf14_11);clear hcl14 hcc14 hfr14 hM14) | ((with_reducible refine gate_store (t:=32) (p:=15) rfl ?_);refine store_event (t:=32) (p:=15) (v:=?vo_w15) (w1:=((((((((((((w12.setCell ⟨go8,((ji5) : Int).toNat * 12,none⟩ (.int .i64 a2_0)).setCell ⟨go8,((ji5) : Int).toNat * 12 + 1,none⟩ (.int .i64 a2_1)).setCell ⟨go8,((ji5) : Int).toNat * 12 + 2,none⟩ (.int .i64 a2_2)).setCell ⟨go8,((ji5) : Int).toNat * 12 + 3,none⟩ (.int .i64 a2_3)).setCell ⟨go8,((ji5) : Int).toNat * 12 + 4,none⟩ (.int .i64 a2_4)).setCell ⟨go8,((ji5) : Int).toNat * 12 + 5,none⟩ (.int .i64 a2_5)).setCell ⟨go8,((ji5) : Int).toNat * 12 + 6,none⟩ (.float .f64 a2_6)).setCell ⟨go8,((ji5) : Int).toNat * 12 + 7,none⟩ (.bool a2_7)).setCell ⟨go8,((ji5) : Int).toNat * 12 + 8,none⟩ (.slice A2_8 l2_8.length c2_8)).setCell ⟨go8,((ji5) : Int).toNat * 12 + 9,none⟩ (.int .i64 a2_9)).setCell ⟨go8,((ji5) : Int).toNat * 12 + 10,none⟩ (.int .i64 a2_10)).setCell ⟨go8,((ji5) : Int).toNat * 12 + 11,none⟩ (.int .i64 a2_11))) ?hg ?ho ?hn ?hr ?_;(case ho => rfl);(case hg => rfl);(case hn => rfl);(case hr => first | (go_simp;done) | (go_simp;rfl));intro w15 hw;have hg : w12.grownBy w15 (some go8):=(by rw [hw];exact HP14.2);have hp_ : Kd.N k32 32 w15 w.heap.size (fun k_ => ((P0_ k_ ∨ P2_8_ k_) ∨ w.heap.size ≤ k_) ∧ k_ ≠ gb906) (.slice (some ⟨go8,0,none⟩) y910.length co8) y913:=(by rw [hw,Ny913.out];exact HP14.1);clear HP14;have n0_:=Aside0.mk (Kd.V_afterv (v:=(.slice (some ⟨go8,0,none⟩) y910.length co8)) (v1:=(.slice (some ⟨go8,0,none⟩) y910.length co8)) (ok:=(fun k_ => ((P0_ k_ ∨ P2_8_ k_) ∨ w.heap.size ≤ k_) ∧ k_ ≠ gb906)) (by (with_reducible repeat (first | apply Kd.V_alloc | apply Kd.V_drewN | apply Kd.V_drew));exact HO0.out) hg (.inl rfl));have n1_:=Aside0.mk (Kd.V_afterv (v:=(.slice (some ⟨go8,0,none⟩) y910.length co8)) (v1:=(.slice (some ⟨go8,0,none⟩) y910.length co8)) (ok:=(fun k_ => ((P0_ k_ ∨ P2_8_ k_) ∨ w.heap.size ≤ k_) ∧ k_ ≠ gb906)) (by (with_reducible repeat (first | apply Kd.V_alloc | apply Kd.V_drewN | apply Kd.V_drew));exact HO2_8.out) hg (.inl rfl));have n2_:=Aside0.mk (blk_grown (g:=gb906) (o:=.cells #[.int .i64 a2_0,.int .i64 a2_1,.int .i64 a2_2,.int .i64 a2_3,.int .i64 a2_4,.int .i64 a2_5,.float .f64 a2_6,.bool a2_7,.slice A2_8 l2_8.length c2_8,.int .i64 a2_9,.int .i64 a2_10,.int .i64 a2_11] 32 (0,0)) (by (with_reducible repeat (first | refine blk_drewN ?_ _ | refine blk_drew ?_ | refine blk_alloc ?_ _));exact BK906.out) hg (Kd.N_away HO912.out (fun _ hk => hk.2)));have n3_:=Aside0.mk (hp_);have n4_:=Aside0.mk ((by rw [hw];exact below_set (below_set (below_set (below_set (below_set (below_set (below_set (below_set (below_set (below_set (below_set (below_set (HB.out) GB8.out) GB8.out) GB8.out) GB8.out) GB8.out) GB8.out) GB8.out) GB8.out) GB8.out) GB8.out) GB8.out) GB8.out : Below w.heap.size w w15));clear HO0;clear HO2_8;clear BK906;clear HO912;clear HB;have HO0:=n0_;have HO2_8:=n1_;have BK906:=n2_;have HO912:=n3_;have HB:=n4_;clear n0_ n1_ n2_ n3_ n4_;clear hg hw hp_))
    go_ret
    exact ⟨_,by first | rfl | (simp [errW_none,errW_some] <;> rfl) | (simp only [← hji5];first | rfl | (simp [errW_none,errW_some] <;> rfl)) | (simp [*,errW_none,errW_some] <;> rfl),by (with_reducible repeat (first | apply Kd.N_alloc | apply Kd.N_drewN | apply Kd.N_drew));exact Kd.N_mono HO912.out (fun _ hk => hk.1),by repeat (first | (with_reducible first | exact HB.out | apply below_alloc | apply pw_below_drewN | apply below_drew1 | refine below_set ?_ GE906.out) | exact HB.out)⟩
   ·rw [if_neg c7] at H
    exact absurd H (by simp)
  ·rw [if_neg c6] at H
   exact absurd H (by simp)
 ·rw [if_neg c4] at H
  exact absurd H (by simp)
def humusref14_Put.l0 : Nat → List (S32) → Int → Int → Int → Int → Int → Int → Int → Nat → Bool → List Nat → Int → Int → Int → Option ((List (S32)) × Int × Int)
 | 0,_,_,_,_,_,_,_,_,_,_,_,_,_,_ => none
 | k + 1,x0,x7,x915000,x915001,x915002,x915003,x915004,x915005,x915006,x915007,x915008,x915009,x915010,x915011 => if x7 < (x0.length : Int) then (if 0 ≤ x7 then (if ((rd_T32 x0 x7).f1) = x915001 then (some (x0,0,1)) else (humusref14_Put.l0 k x0 (wrap64 (x7 + 1)) x915000 x915001 x915002 x915003 x915004 x915005 x915006 x915007 x915008 x915009 x915010 x915011)) else (none)) else ((humusref14_Free.f k x0).bind fun t917 => (if t917 = 0 then (some (x0,0,9)) else ((humusref14_set.f x0 t917 x915000 x915001 x915002 x915003 x915004 x915005 x915006 x915007 x915008 x915009 x915010 x915011).bind fun t918 => (some (t918,t917,0)))))
def humusref14_Put.f (k : Nat) (l0 : List (S32)) (a1_0 : Int) (a1_1 : Int) (a1_2 : Int) (a1_3 : Int) (a1_4 : Int) (a1_5 : Int) (a1_6 : Nat) (a1_7 : Bool) (l1_8 : List Nat) (a1_9 : Int) (a1_10 : Int) (a1_11 : Int) : Option ((List (S32)) × Int × Int):=(humusref09_May.f k a1_0 a1_1 a1_2 a1_3 a1_4 a1_5 a1_6 a1_7 l1_8 a1_9 a1_10 a1_11).bind fun t915 => (if t915 = true then (humusref14_Put.l0 k l0 0 a1_0 a1_1 a1_2 a1_3 a1_4 a1_5 a1_6 a1_7 l1_8 a1_9 a1_10 a1_11) else (some (l0,0,1)))
set_option maxHeartbeats 8000000 in
set_option maxRecDepth 100000 in
theorem humusref14_Put.calls (k : Nat) (P0_ : Nat → Prop) (A0 : Option Addr) (c0 : Nat) (l0 : List (S32)) (a1_0 : Int) (a1_1 : Int) (a1_2 : Int) (a1_3 : Int) (a1_4 : Int) (a1_5 : Int) (a1_6 : Nat) (a1_7 : Bool) (P1_8_ : Nat → Prop) (A1_8 : Option Addr) (c1_8 : Nat) (l1_8 : List Nat) (a1_9 : Int) (a1_10 : Int) (a1_11 : Int) (r1 : List (S32)) (r2 : Int) (r3 : Int) (w : World) (hs0 : Kd.V k32 32 w w.heap.size (fun k_ => P0_ k_) (.slice A0 l0.length c0) l0) (hs1_8 : Kd.V Kd.f64 25 w w.heap.size (fun k_ => P1_8_ k_) (.slice A1_8 l1_8.length c1_8) l1_8) (h : humusref14_Put.f k l0 a1_0 a1_1 a1_2 a1_3 a1_4 a1_5 a1_6 a1_7 l1_8 a1_9 a1_10 a1_11 = some (r1,r2,r3)) :
  Calls Try.prog 25 #[.slice A0 l0.length c0,.agg #[.int .i64 a1_0,.int .i64 a1_1,.int .i64 a1_2,.int .i64 a1_3,.int .i64 a1_4,.int .i64 a1_5,.float .f64 a1_6,.bool a1_7,.slice A1_8 l1_8.length c1_8,.int .i64 a1_9,.int .i64 a1_10,.int .i64 a1_11]] w fun e w' => ∃ v0_ : Value,e = .returned (.tuple #[v0_,.int .i64 r2,.int .i64 r3]) ∧ Kd.V k32 32 w' w.heap.size (fun k_ => ((P0_ k_ ∨ P1_8_ k_) ∨ w.heap.size ≤ k_)) v0_ r1 ∧ Below w.heap.size w w':=by
 have hu32:=Try.underlying32
 have HO0:=Aside0.mk (show Kd.V k32 32 w w.heap.size (fun k_ => ((P0_ k_ ∨ P1_8_ k_) ∨ w.heap.size ≤ k_)) (.slice A0 l0.length c0) l0 from Kd.V_mono hs0 (fun k_ hk => .inl (.inl hk)))
 have HO1_8:=Aside0.mk (show Kd.V Kd.f64 25 w w.heap.size (fun k_ => ((P0_ k_ ∨ P1_8_ k_) ∨ w.heap.size ≤ k_)) (.slice A1_8 l1_8.length c1_8) l1_8 from Kd.V_mono hs1_8 (fun k_ hk => .inl (.inr hk)))
 have HB:=Aside0.mk (Below.refl w.heap.size w)
 have H : ((humusref09_May.f k a1_0 a1_1 a1_2 a1_3 a1_4 a1_5 a1_6 a1_7 l1_8 a1_9 a1_10 a1_11).bind fun t915 => (if t915 = true then (humusref14_Put.l0 k l0 0 a1_0 a1_1 a1_2 a1_3 a1_4 a1_5 a1_6 a1_7 l1_8 a1_9 a1_10 a1_11) else (some (l0,0,1)))) = some (r1,r2,r3):=h
 clear h
 replace H:=Option.bind_eq_some_iff.mp H
 obtain ⟨t915,A30,H⟩:=H
 replace H : (if t915 = true then (humusref14_Put.l0 k l0 0 a1_0 a1_1 a1_2 a1_3 a1_4 a1_5 a1_6 a1_7 l1_8 a1_9 a1_10 a1_11) else (some (l0,0,1))) = some (r1,r2,r3):=H
 have A3:=Aside0.mk A30
 clear A30
 by_cases c4 : t915 = true
 ·subst c4
  have H1 : (humusref14_Put.l0 k l0 0 a1_0 a1_1 a1_2 a1_3 a1_4 a1_5 a1_6 a1_7 l1_8 a1_9 a1_10 a1_11) = some (r1,r2,r3):=by rw [if_pos rfl] at H;exact H
  clear H
  have H:=H1
  clear H1
  have H':=Aside0.mk H
  clear H
  go_enter Try.func25,Try.ntmps25
  go_wp2_with (first | ((with_reducible refine gate_dst (N:=3) rfl ?_);refine box_event ?hg (N:=3) ?hd (cs:=#[.int .i64 a1_0,.int .i64 a1_1,.int .i64 a1_2,.int .i64 a1_3,.int .i64 a1_4,.int .i64 a1_5,.float .f64 a1_6,.bool a1_7,.slice A1_8 l1_8.length c1_8,.int .i64 a1_9,.int .i64 a1_10,.int .i64 a1_11]) (t:=32) ?hr ?_;(case hd => rfl);(case hg => rfl);(case hr => first | (go_simp;done) | (go_simp;rfl));intro gb914 hg w5 hbox hb;have n0_:=Aside0.mk (Kd.V_below (Kd.V_elderB (by (with_reducible repeat (first | apply Kd.V_alloc | apply Kd.V_drewN | apply Kd.V_drew));exact HO0.out) gb914 (Nat.le_of_eq hg.symm)) hb);have n1_:=Aside0.mk (Kd.V_below (Kd.V_elderB (by (with_reducible repeat (first | apply Kd.V_alloc | apply Kd.V_drewN | apply Kd.V_drew));exact HO1_8.out) gb914 (Nat.le_of_eq hg.symm)) hb);have n2_:=Aside0.mk (below_step (by repeat (first | (with_reducible first | exact HB.out | apply below_alloc | apply pw_below_drewN | apply below_drew1) | exact HB.out)) hb);have n3_:=Aside0.mk (hbox);have n4_:=Aside0.mk ((by rw [hg];exact (below_size (by repeat (first | (with_reducible first | exact HB.out | apply below_alloc | apply pw_below_drewN | apply below_drew1) | exact HB.out))) : w.heap.size ≤ gb914));have n5_:=Aside0.mk ((by rw [hg];exact (below_size (by repeat (first | (with_reducible first | exact HB.out | apply below_alloc | apply pw_below_drewN | apply below_drew1) | exact HB.out))) : w.heap.size ≤ gb914));clear HO0;clear HO1_8;clear HB;have HO0:=n0_;have HO1_8:=n1_;have HB:=n2_;have BK914:=n3_;have GW914:=n4_;have GE914:=n5_;clear n0_ n1_ n2_ n3_ n4_ n5_;clear hb hbox hg;obtain ⟨hcz6_0,hcz6_1,hcz6_2,hcz6_3,hcz6_4,hcz6_5,hcz6_6,hcz6_7,hcz6_8,hcz6_9,hcz6_10,hcz6_11⟩:=blkc_12 BK914.out;obtain ⟨hfz6_0,hfz6_1,hfz6_2,hfz6_3,hfz6_4,hfz6_5,hfz6_6,hfz6_7,hfz6_8,hfz6_9,hfz6_10⟩:=blkz_11 BK914.out;have hfz6_11:=blk_frozen BK914.out 11) | (go_at_call 48;(with_reducible refine (humusref09_May.calls k a1_0 a1_1 a1_2 a1_3 a1_4 a1_5 a1_6 a1_7 _ _ l1_8 a1_9 a1_10 a1_11 true _ ?side1 ?side2 A3.out).mono ?_);(case side1 => repeat (first | exact (Kd.V_reads' HO1_8.out).2.2 | (with_reducible refine Kd.C_alloc ?_ _) | (with_reducible refine Kd.C_drewN ?_ _) | (with_reducible refine Kd.C_drew ?_)));(case side2 => exact (Kd.V_reads' HO1_8.out).2.1);rintro e w7 ⟨rfl,hb⟩;have n0_:=Aside0.mk (Kd.V_below (by (with_reducible repeat (first | apply Kd.V_alloc | apply Kd.V_drewN | apply Kd.V_drew));exact HO0.out) hb);have n1_:=Aside0.mk (Kd.V_below (by (with_reducible repeat (first | apply Kd.V_alloc | apply Kd.V_drewN | apply Kd.V_drew));exact HO1_8.out) hb);have n2_:=Aside0.mk (blk_below (g:=gb914) (o:=.cells #[.int .i64 a1_0,.int .i64 a1_1,.int .i64 a1_2,.int .i64 a1_3,.int .i64 a1_4,.int .i64 a1_5,.float .f64 a1_6,.bool a1_7,.slice A1_8 l1_8.length c1_8,.int .i64 a1_9,.int .i64 a1_10,.int .i64 a1_11] 32 (0,0)) (by (with_reducible repeat (first | refine blk_drewN ?_ _ | refine blk_drew ?_ | refine blk_alloc ?_ _));exact BK914.out) hb);have n3_:=Aside0.mk (below_step (by repeat (first | (with_reducible first | exact HB.out | apply below_alloc | apply pw_below_drewN | apply below_drew1 | refine below_set ?_ GE914.out) | exact HB.out)) hb);clear HO0;clear HO1_8;clear BK914;clear HB;have HO0:=n0_;have HO1_8:=n1_;have BK914:=n2_;have HB:=n3_;clear n0_ n1_ n2_ n3_;(try clear hb);(try clear hb2);(try clear hk);(try clear hi)))
  repeat (go_quiet (first | ((with_reducible refine gate_dst (N:=3) rfl ?_);refine box_event ?hg (N:=3) ?hd (cs:=#[.int .i64 a1_0,.int .i64 a1_1,.int .i64 a1_2,.int .i64 a1_3,.int .i64 a1_4,.int .i64 a1_5,.float .f64 a1_6,.bool a1_7,.slice A1_8 l1_8.length c1_8,.int .i64 a1_9,.int .i64 a1_10,.int .i64 a1_11]) (t:=32) ?hr ?_;(case hd => rfl);(case hg => rfl);(case hr => first | (go_simp;done) | (go_simp;rfl));intro gb914 hg w5 hbox hb;have n0_:=Aside0.mk (Kd.V_below (Kd.V_elderB (by (with_reducible repeat (first | apply Kd.V_alloc | apply Kd.V_drewN | apply Kd.V_drew));exact HO0.out) gb914 (Nat.le_of_eq hg.symm)) hb);have n1_:=Aside0.mk (Kd.V_below (Kd.V_elderB (by (with_reducible repeat (first | apply Kd.V_alloc | apply Kd.V_drewN | apply Kd.V_drew));exact HO1_8.out) gb914 (Nat.le_of_eq hg.symm)) hb);have n2_:=Aside0.mk (below_step (by repeat (first | (with_reducible first | exact HB.out | apply below_alloc | apply pw_below_drewN | apply below_drew1) | exact HB.out)) hb);have n3_:=Aside0.mk (hbox);have n4_:=Aside0.mk ((by rw [hg];exact (below_size (by repeat (first | (with_reducible first | exact HB.out | apply below_alloc | apply pw_below_drewN | apply below_drew1) | exact HB.out))) : w.heap.size ≤ gb914));have n5_:=Aside0.mk ((by rw [hg];exact (below_size (by repeat (first | (with_reducible first | exact HB.out | apply below_alloc | apply pw_below_drewN | apply below_drew1) | exact HB.out))) : w.heap.size ≤ gb914));clear HO0;clear HO1_8;clear HB;have HO0:=n0_;have HO1_8:=n1_;have HB:=n2_;have BK914:=n3_;have GW914:=n4_;have GE914:=n5_;clear n0_ n1_ n2_ n3_ n4_ n5_;clear hb hbox hg;obtain ⟨hcz6_0,hcz6_1,hcz6_2,hcz6_3,hcz6_4,hcz6_5,hcz6_6,hcz6_7,hcz6_8,hcz6_9,hcz6_10,hcz6_11⟩:=blkc_12 BK914.out;obtain ⟨hfz6_0,hfz6_1,hfz6_2,hfz6_3,hfz6_4,hfz6_5,hfz6_6,hfz6_7,hfz6_8,hfz6_9,hfz6_10⟩:=blkz_11 BK914.out;have hfz6_11:=blk_frozen BK914.out 11) | (go_at_call 48;(with_reducible refine (humusref09_May.calls k a1_0 a1_1 a1_2 a1_3 a1_4 a1_5 a1_6 a1_7 _ _ l1_8 a1_9 a1_10 a1_11 true _ ?side1 ?side2 A3.out).mono ?_);(case side1 => repeat (first | exact (Kd.V_reads' HO1_8.out).2.2 | (with_reducible refine Kd.C_alloc ?_ _) | (with_reducible refine Kd.C_drewN ?_ _) | (with_reducible refine Kd.C_drew ?_)));(case side2 => exact (Kd.V_reads' HO1_8.out).2.1);rintro e w7 ⟨rfl,hb⟩;have n0_:=Aside0.mk (Kd.V_below (by (with_reducible repeat (first | apply Kd.V_alloc | apply Kd.V_drewN | apply Kd.V_drew));exact HO0.out) hb);have n1_:=Aside0.mk (Kd.V_below (by (with_reducible repeat (first | apply Kd.V_alloc | apply Kd.V_drewN | apply Kd.V_drew));exact HO1_8.out) hb);have n2_:=Aside0.mk (blk_below (g:=gb914) (o:=.cells #[.int .i64 a1_0,.int .i64 a1_1,.int .i64 a1_2,.int .i64 a1_3,.int .i64 a1_4,.int .i64 a1_5,.float .f64 a1_6,.bool a1_7,.slice A1_8 l1_8.length c1_8,.int .i64 a1_9,.int .i64 a1_10,.int .i64 a1_11] 32 (0,0)) (by (with_reducible repeat (first | refine blk_drewN ?_ _ | refine blk_drew ?_ | refine blk_alloc ?_ _));exact BK914.out) hb);have n3_:=Aside0.mk (below_step (by repeat (first | (with_reducible first | exact HB.out | apply below_alloc | apply pw_below_drewN | apply below_drew1 | refine below_set ?_ GE914.out) | exact HB.out)) hb);clear HO0;clear HO1_8;clear BK914;clear HB;have HO0:=n0_;have HO1_8:=n1_;have BK914:=n2_;have HB:=n3_;clear n0_ n1_ n2_ n3_;(try clear hb);(try clear hb2);(try clear hk);(try clear hi)));try go_wp2_with (first | ((with_reducible refine gate_dst (N:=3) rfl ?_);refine box_event ?hg (N:=3) ?hd (cs:=#[.int .i64 a1_0,.int .i64 a1_1,.int .i64 a1_2,.int .i64 a1_3,.int .i64 a1_4,.int .i64 a1_5,.float .f64 a1_6,.bool a1_7,.slice A1_8 l1_8.length c1_8,.int .i64 a1_9,.int .i64 a1_10,.int .i64 a1_11]) (t:=32) ?hr ?_;(case hd => rfl);(case hg => rfl);(case hr => first | (go_simp;done) | (go_simp;rfl));intro gb914 hg w5 hbox hb;have n0_:=Aside0.mk (Kd.V_below (Kd.V_elderB (by (with_reducible repeat (first | apply Kd.V_alloc | apply Kd.V_drewN | apply Kd.V_drew));exact HO0.out) gb914 (Nat.le_of_eq hg.symm)) hb);have n1_:=Aside0.mk (Kd.V_below (Kd.V_elderB (by (with_reducible repeat (first | apply Kd.V_alloc | apply Kd.V_drewN | apply Kd.V_drew));exact HO1_8.out) gb914 (Nat.le_of_eq hg.symm)) hb);have n2_:=Aside0.mk (below_step (by repeat (first | (with_reducible first | exact HB.out | apply below_alloc | apply pw_below_drewN | apply below_drew1) | exact HB.out)) hb);have n3_:=Aside0.mk (hbox);have n4_:=Aside0.mk ((by rw [hg];exact (below_size (by repeat (first | (with_reducible first | exact HB.out | apply below_alloc | apply pw_below_drewN | apply below_drew1) | exact HB.out))) : w.heap.size ≤ gb914));have n5_:=Aside0.mk ((by rw [hg];exact (below_size (by repeat (first | (with_reducible first | exact HB.out | apply below_alloc | apply pw_below_drewN | apply below_drew1) | exact HB.out))) : w.heap.size ≤ gb914));clear HO0;clear HO1_8;clear HB;have HO0:=n0_;have HO1_8:=n1_;have HB:=n2_;have BK914:=n3_;have GW914:=n4_;have GE914:=n5_;clear n0_ n1_ n2_ n3_ n4_ n5_;clear hb hbox hg;obtain ⟨hcz6_0,hcz6_1,hcz6_2,hcz6_3,hcz6_4,hcz6_5,hcz6_6,hcz6_7,hcz6_8,hcz6_9,hcz6_10,hcz6_11⟩:=blkc_12 BK914.out;obtain ⟨hfz6_0,hfz6_1,hfz6_2,hfz6_3,hfz6_4,hfz6_5,hfz6_6,hfz6_7,hfz6_8,hfz6_9,hfz6_10⟩:=blkz_11 BK914.out;have hfz6_11:=blk_frozen BK914.out 11) | (go_at_call 48;(with_reducible refine (humusref09_May.calls k a1_0 a1_1 a1_2 a1_3 a1_4 a1_5 a1_6 a1_7 _ _ l1_8 a1_9 a1_10 a1_11 true _ ?side1 ?side2 A3.out).mono ?_);(case side1 => repeat (first | exact (Kd.V_reads' HO1_8.out).2.2 | (with_reducible refine Kd.C_alloc ?_ _) | (with_reducible refine Kd.C_drewN ?_ _) | (with_reducible refine Kd.C_drew ?_)));(case side2 => exact (Kd.V_reads' HO1_8.out).2.1);rintro e w7 ⟨rfl,hb⟩;have n0_:=Aside0.mk (Kd.V_below (by (with_reducible repeat (first | apply Kd.V_alloc | apply Kd.V_drewN | apply Kd.V_drew));exact HO0.out) hb);have n1_:=Aside0.mk (Kd.V_below (by (with_reducible repeat (first | apply Kd.V_alloc | apply Kd.V_drewN | apply Kd.V_drew));exact HO1_8.out) hb);have n2_:=Aside0.mk (blk_below (g:=gb914) (o:=.cells #[.int .i64 a1_0,.int .i64 a1_1,.int .i64 a1_2,.int .i64 a1_3,.int .i64 a1_4,.int .i64 a1_5,.float .f64 a1_6,.bool a1_7,.slice A1_8 l1_8.length c1_8,.int .i64 a1_9,.int .i64 a1_10,.int .i64 a1_11] 32 (0,0)) (by (with_reducible repeat (first | refine blk_drewN ?_ _ | refine blk_drew ?_ | refine blk_alloc ?_ _));exact BK914.out) hb);have n3_:=Aside0.mk (below_step (by repeat (first | (with_reducible first | exact HB.out | apply below_alloc | apply pw_below_drewN | apply below_drew1 | refine below_set ?_ GE914.out) | exact HB.out)) hb);clear HO0;clear HO1_8;clear BK914;clear HB;have HO0:=n0_;have HO1_8:=n1_;have BK914:=n2_;have HB:=n3_;clear n0_ n1_ n2_ n3_;(try clear hb);(try clear hb2);(try clear hk);(try clear hi))))
  go_loopg [7] k (fun kq v7 w' => ∃ (x7_1 : Int),v7 = .int .i64 x7_1 ∧ Aside0 (humusref14_Put.l0 kq l0 x7_1 a1_0 a1_1 a1_2 a1_3 a1_4 a1_5 a1_6 a1_7 l1_8 a1_9 a1_10 a1_11 = some (r1,r2,r3)) ∧ Aside0 (kq ≤ k) ∧ Aside0 (Kd.V k32 32 w' w.heap.size (fun k_ => ((P0_ k_ ∨ P1_8_ k_) ∨ w.heap.size ≤ k_) ∧ k_ ≠ gb914) (.slice A0 l0.length c0) l0) ∧ Aside0 (Kd.V Kd.f64 25 w' w.heap.size (fun k_ => ((P0_ k_ ∨ P1_8_ k_) ∨ w.heap.size ≤ k_) ∧ k_ ≠ gb914) (.slice A1_8 l1_8.length c1_8) l1_8) ∧ Aside0 (w'.heap[gb914]? = some (.cells #[.int .i64 a1_0,.int .i64 a1_1,.int .i64 a1_2,.int .i64 a1_3,.int .i64 a1_4,.int .i64 a1_5,.float .f64 a1_6,.bool a1_7,(.slice A1_8 l1_8.length c1_8),.int .i64 a1_9,.int .i64 a1_10,.int .i64 a1_11] 32 (0,0))) ∧ Aside0 (Below w.heap.size w w'))
  case atStart => exact ⟨(0),(by first | rfl | (simp;done) | (simp [*];done)),H',⟨Nat.le_refl _⟩,⟨by (with_reducible repeat (first | apply Kd.V_alloc | apply Kd.V_drewN | apply Kd.V_drew));exact HO0.out⟩,⟨by (with_reducible repeat (first | apply Kd.V_alloc | apply Kd.V_drewN | apply Kd.V_drew));exact HO1_8.out⟩,⟨by (with_reducible repeat (first | refine blk_drewN ?_ _ | refine blk_drew ?_ | refine blk_alloc ?_ _));exact BK914.out⟩,⟨by repeat (first | (with_reducible first | exact HB.out | apply below_alloc | apply pw_below_drewN | apply below_drew1 | refine below_set ?_ GE914.out) | exact HB.out)⟩⟩
  case round =>
   clear H'
   try clear c1
   try clear c2
   try clear p2
   try clear c4
   try clear hcz6_0
   try clear hcz6_1
   try clear hcz6_10
   try clear hcz6_11
   try clear hcz6_2
   try clear hcz6_3
   try clear hcz6_4
   try clear hcz6_5
   try clear hcz6_6
   try clear hcz6_7
   try clear hcz6_8
   try clear hcz6_9
   try clear hfz6_0
   try clear hfz6_1
   try clear hfz6_10
   try clear hfz6_11
   try clear hfz6_2
   try clear hfz6_3
   try clear hfz6_4
   try clear hfz6_5
   try clear hfz6_6
   try clear hfz6_7
   try clear hfz6_8
   try clear hfz6_9
   obtain ⟨x7_1,rfl,HA,HK1,HO_0,HO_915008,BK914,HB⟩:=hrel
   cases gk with
   | zero => exact absurd HA.out (by simp [humusref14_Put.l0])
   | succ k1 =>
    have H:=HA.out
    clear HA
    simp only [humusref14_Put.l0] at H
    by_cases c8 : x7_1 < (l0.length : Int)
    ·rw [if_pos c8] at H
     have c8b0 : decide (x7_1 < (l0.length : Int)) = true:=decide_eq_true c8
     clear c8
     by_cases c9 : 0 ≤ x7_1
     ·rw [if_pos c9] at H
      have c9b0 : decide (0 ≤ x7_1) = true:=decide_eq_true c9
      clear c9
      by_cases c10 : ((rd_T32 l0 x7_1).f1) = a1_1
      ·rw [if_pos c10] at H
       have c10b0 : (((rd_T32 l0 x7_1).f1) == a1_1) = true:=beq_iff_eq.mpr c10
       have c10b1 : (((rd_T32 l0 x7_1).f1) != a1_1) = false:=bne_eq_false_iff_eq.mpr c10
       clear c10
       simp only [Option.some.injEq,Prod.mk.injEq] at H
       obtain ⟨rfl,rfl,rfl⟩:=H
       have p916 : 0 ≤ (x7_1 : Int):=of_decide_eq_true (by first | (with_reducible assumption) | assumption)
       have q916 : x7_1 < (l0.length : Int):=of_decide_eq_true (by first | (with_reducible assumption) | assumption)
       obtain ⟨ad916,A916_8,c916_8,e916,hx916_0,hx916_1,hx916_2,hx916_3,hx916_4,hx916_5,hx916_6,hx916_7,hx916_8,hx916_9,hx916_10,hx916_11,hl916_8,hi916_8⟩:=at_T32 (Kd.V_reads' HO_0.out).2.2 x7_1 p916 q916
       cases e916
       obtain ⟨ce916,hce916,hMe916,hcc916⟩:=Kd.V_get HO_0.out z32 x7_1 p916 (by first | exact q916 | exact of_decide_eq_true (by first | (with_reducible assumption) | assumption) | (have e_:=(Kd.V_reads' HO_0.out).1;omega))
       obtain ⟨ua916_8,uc916_8,rfl,ul916_8,ge916_8⟩:=k32_openF hMe916
       have hv916_8:=hcc916 8 _ rfl
       rw [add_field _ _ 8 (by omega)] at hv916_8
       replace hv916_8:=Option.some.inj (hv916_8.symm.trans hx916_8)
       injection hv916_8 with hva_ hvn_ hvc_
       rw [hva_] at ge916_8
       rw [hvc_] at ul916_8
       have HL916_8:=Aside0.mk (show Kd.V Kd.f64 25 _ w.heap.size _ _ ((rd_T32 l0 x7_1).f6.f2) from Kd.V_mk ul916_8 ge916_8)
       clear hva_ hvn_ hvc_ ge916_8 ul916_8
       clear hcc916 hce916
       have HR916_8:=Aside0.mk hi916_8
       have HC916_8:=Aside0.mk hl916_8
       clear hi916_8 hl916_8
       replace p916:=eq_true p916
       replace q916:=eq_true q916
       obtain ⟨hcz11_0,hcz11_1,hcz11_2,hcz11_3,hcz11_4,hcz11_5,hcz11_6,hcz11_7,hcz11_8,hcz11_9,hcz11_10,hcz11_11⟩:=blkc_12 BK914.out
       obtain ⟨hfz11_0,hfz11_1,hfz11_2,hfz11_3,hfz11_4,hfz11_5,hfz11_6,hfz11_7,hfz11_8,hfz11_9,hfz11_10,hfz11_11⟩:=blkz_12 BK914.out
       go_wp2
       repeat (go_quiet (fail);try go_wp2)
       go_ret3
       exact ⟨_,by first | rfl | (simp [errW_none,errW_some] <;> rfl) | (simp [*,errW_none,errW_some] <;> rfl),by (with_reducible repeat (first | apply Kd.V_alloc | apply Kd.V_drewN | apply Kd.V_drew));exact Kd.V_mono HO_0.out (fun _ hk => hk.1),by repeat (first | (with_reducible first | exact HB.out | apply below_alloc | apply pw_below_drewN | apply below_drew1 | refine below_set ?_ GE914.out) | exact HB.out)⟩
      ·rw [if_neg c10] at H
       have c10b0 : (((rd_T32 l0 x7_1).f1) == a1_1) = false:=beq_eq_false_iff_ne.mpr c10
       have c10b1 : (((rd_T32 l0 x7_1).f1) != a1_1) = true:=bne_iff_ne.mpr c10
       have H':=Aside0.mk H
       clear H
       have p916 : 0 ≤ (x7_1 : Int):=of_decide_eq_true (by first | (with_reducible assumption) | assumption)
       have q916 : x7_1 < (l0.length : Int):=of_decide_eq_true (by first | (with_reducible assumption) | assumption)
       obtain ⟨ad916,A916_8,c916_8,e916,hx916_0,hx916_1,hx916_2,hx916_3,hx916_4,hx916_5,hx916_6,hx916_7,hx916_8,hx916_9,hx916_10,hx916_11,hl916_8,hi916_8⟩:=at_T32 (Kd.V_reads' HO_0.out).2.2 x7_1 p916 q916
       cases e916
       obtain ⟨ce916,hce916,hMe916,hcc916⟩:=Kd.V_get HO_0.out z32 x7_1 p916 (by first | exact q916 | exact of_decide_eq_true (by first | (with_reducible assumption) | assumption) | (have e_:=(Kd.V_reads' HO_0.out).1;omega))
       obtain ⟨ua916_8,uc916_8,rfl,ul916_8,ge916_8⟩:=k32_openF hMe916
       have hv916_8:=hcc916 8 _ rfl
       rw [add_field _ _ 8 (by omega)] at hv916_8
       replace hv916_8:=Option.some.inj (hv916_8.symm.trans hx916_8)
       injection hv916_8 with hva_ hvn_ hvc_
       rw [hva_] at ge916_8
       rw [hvc_] at ul916_8
       have HL916_8:=Aside0.mk (show Kd.V Kd.f64 25 _ w.heap.size _ _ ((rd_T32 l0 x7_1).f6.f2) from Kd.V_mk ul916_8 ge916_8)
       clear hva_ hvn_ hvc_ ge916_8 ul916_8
       clear hcc916 hce916
       have HR916_8:=Aside0.mk hi916_8
       have HC916_8:=Aside0.mk hl916_8
       clear hi916_8 hl916_8
       replace p916:=eq_true p916
       replace q916:=eq_true q916
       obtain ⟨hcz12_0,hcz12_1,hcz12_2,hcz12_3,hcz12_4,hcz12_5,hcz12_6,hcz12_7,hcz12_8,hcz12_9,hcz12_10,hcz12_11⟩:=blkc_12 BK914.out
       obtain ⟨hfz12_0,hfz12_1,hfz12_2,hfz12_3,hfz12_4,hfz12_5,hfz12_6,hfz12_7,hfz12_8,hfz12_9,hfz12_10,hfz12_11⟩:=blkz_12 BK914.out
       go_wp2
       repeat (go_quiet (fail);try go_wp2)
       go_roundg k1
       case measure => have:=HK1.out;omega
       case rel => exact ⟨(wrap64 (x7_1 + 1)),(by first | rfl | (simp;done) | (simp [*];done)),H',⟨by have:=HK1.out;omega⟩,⟨by (with_reducible repeat (first | apply Kd.V_alloc | apply Kd.V_drewN | apply Kd.V_drew));exact HO_0.out⟩,⟨by (with_reducible repeat (first | apply Kd.V_alloc | apply Kd.V_drewN | apply Kd.V_drew));exact HO_915008.out⟩,⟨by (with_reducible repeat (first | refine blk_drewN ?_ _ | refine blk_drew ?_ | refine blk_alloc ?_ _));exact BK914.out⟩,⟨by repeat (first | (with_reducible first | exact HB.out | apply below_alloc | apply pw_below_drewN | apply below_drew1 | refine below_set ?_ GE914.out) | exact HB.out)⟩⟩
     ·rw [if_neg c9] at H
      exact absurd H (by simp)
    ·rw [if_neg c8] at H
     have c8b0 : decide (x7_1 < (l0.length : Int)) = false:=decide_eq_false c8
     clear c8
     replace H:=Option.bind_eq_some_iff.mp H
     obtain ⟨t917,A130,H⟩:=H
     replace H : (if t917 = 0 then (some (l0,0,9)) else ((humusref14_set.f l0 t917 a1_0 a1_1 a1_2 a1_3 a1_4 a1_5 a1_6 a1_7 l1_8 a1_9 a1_10 a1_11).bind fun t918 => (some (t918,t917,0)))) = some (r1,r2,r3):=H
     have A13:=Aside0.mk A130
     clear A130
     by_cases c14 : t917 = 0
     ·rw [if_pos c14] at H
      have c14b0 : (t917 == 0) = true:=beq_iff_eq.mpr c14
      have c14b1 : (t917 != 0) = false:=bne_eq_false_iff_eq.mpr c14
      clear c14
      simp only [Option.some.injEq,Prod.mk.injEq] at H
      obtain ⟨rfl,rfl,rfl⟩:=H
      go_wp2_with (first | (go_at_call 28;(with_reducible refine (humusref14_Free.calls k1 _ _ l0 t917 _ ?side1 ?side2 A13.out).mono ?_);(case side1 => repeat (first | exact (Kd.V_reads' HO_0.out).2.2 | (with_reducible refine Kd.C_alloc ?_ _) | (with_reducible refine Kd.C_drewN ?_ _) | (with_reducible refine Kd.C_drew ?_)));(case side2 => exact (Kd.V_reads' HO_0.out).2.1);rintro e w15 ⟨rfl,hb⟩;have n0_:=Aside0.mk (Kd.V_below (by (with_reducible repeat (first | apply Kd.V_alloc | apply Kd.V_drewN | apply Kd.V_drew));exact HO_0.out) hb);have n1_:=Aside0.mk (Kd.V_below (by (with_reducible repeat (first | apply Kd.V_alloc | apply Kd.V_drewN | apply Kd.V_drew));exact HO_915008.out) hb);have n2_:=Aside0.mk (blk_below (g:=gb914) (o:=.cells #[.int .i64 a1_0,.int .i64 a1_1,.int .i64 a1_2,.int .i64 a1_3,.int .i64 a1_4,.int .i64 a1_5,.float .f64 a1_6,.bool a1_7,.slice A1_8 l1_8.length c1_8,.int .i64 a1_9,.int .i64 a1_10,.int .i64 a1_11] 32 (0,0)) (by (with_reducible repeat (first | refine blk_drewN ?_ _ | refine blk_drew ?_ | refine blk_alloc ?_ _));exact BK914.out) hb);have n3_:=Aside0.mk (below_step (by repeat (first | (with_reducible first | exact HB.out | apply below_alloc | apply pw_below_drewN | apply below_drew1 | refine below_set ?_ GE914.out) | exact HB.out)) hb);clear HO_0;clear HO_915008;clear BK914;clear HB;have HO_0:=n0_;have HO_915008:=n1_;have BK914:=n2_;have HB:=n3_;clear n0_ n1_ n2_ n3_;(try clear hb);(try clear hb2);(try clear hk);(try clear hi)))
      repeat (go_quiet (first | (go_at_call 28;(with_reducible refine (humusref14_Free.calls k1 _ _ l0 t917 _ ?side1 ?side2 A13.out).mono ?_);(case side1 => repeat (first | exact (Kd.V_reads' HO_0.out).2.2 | (with_reducible refine Kd.C_alloc ?_ _) | (with_reducible refine Kd.C_drewN ?_ _) | (with_reducible refine Kd.C_drew ?_)));(case side2 => exact (Kd.V_reads' HO_0.out).2.1);rintro e w15 ⟨rfl,hb⟩;have n0_:=Aside0.mk (Kd.V_below (by (with_reducible repeat (first | apply Kd.V_alloc | apply Kd.V_drewN | apply Kd.V_drew));exact HO_0.out) hb);have n1_:=Aside0.mk (Kd.V_below (by (with_reducible repeat (first | apply Kd.V_alloc | apply Kd.V_drewN | apply Kd.V_drew));exact HO_915008.out) hb);have n2_:=Aside0.mk (blk_below (g:=gb914) (o:=.cells #[.int .i64 a1_0,.int .i64 a1_1,.int .i64 a1_2,.int .i64 a1_3,.int .i64 a1_4,.int .i64 a1_5,.float .f64 a1_6,.bool a1_7,.slice A1_8 l1_8.length c1_8,.int .i64 a1_9,.int .i64 a1_10,.int .i64 a1_11] 32 (0,0)) (by (with_reducible repeat (first | refine blk_drewN ?_ _ | refine blk_drew ?_ | refine blk_alloc ?_ _));exact BK914.out) hb);have n3_:=Aside0.mk (below_step (by repeat (first | (with_reducible first | exact HB.out | apply below_alloc | apply pw_below_drewN | apply below_drew1 | refine below_set ?_ GE914.out) | exact HB.out)) hb);clear HO_0;clear HO_915008;clear BK914;clear HB;have HO_0:=n0_;have HO_915008:=n1_;have BK914:=n2_;have HB:=n3_;clear n0_ n1_ n2_ n3_;(try clear hb);(try clear hb2);(try clear hk);(try clear hi)));try go_wp2_with (first | (go_at_call 28;(with_reducible refine (humusref14_Free.calls k1 _ _ l0 t917 _ ?side1 ?side2 A13.out).mono ?_);(case side1 => repeat (first | exact (Kd.V_reads' HO_0.out).2.2 | (with_reducible refine Kd.C_alloc ?_ _) | (with_reducible refine Kd.C_drewN ?_ _) | (with_reducible refine Kd.C_drew ?_)));(case side2 => exact (Kd.V_reads' HO_0.out).2.1);rintro e w15 ⟨rfl,hb⟩;have n0_:=Aside0.mk (Kd.V_below (by (with_reducible repeat (first | apply Kd.V_alloc | apply Kd.V_drewN | apply Kd.V_drew));exact HO_0.out) hb);have n1_:=Aside0.mk (Kd.V_below (by (with_reducible repeat (first | apply Kd.V_alloc | apply Kd.V_drewN | apply Kd.V_drew));exact HO_915008.out) hb);have n2_:=Aside0.mk (blk_below (g:=gb914) (o:=.cells #[.int .i64 a1_0,.int .i64 a1_1,.int .i64 a1_2,.int .i64 a1_3,.int .i64 a1_4,.int .i64 a1_5,.float .f64 a1_6,.bool a1_7,.slice A1_8 l1_8.length c1_8,.int .i64 a1_9,.int .i64 a1_10,.int .i64 a1_11] 32 (0,0)) (by (with_reducible repeat (first | refine blk_drewN ?_ _ | refine blk_drew ?_ | refine blk_alloc ?_ _));exact BK914.out) hb);have n3_:=Aside0.mk (below_step (by repeat (first | (with_reducible first | exact HB.out | apply below_alloc | apply pw_below_drewN | apply below_drew1 | refine below_set ?_ GE914.out) | exact HB.out)) hb);clear HO_0;clear HO_915008;clear BK914;clear HB;have HO_0:=n0_;have HO_915008:=n1_;have BK914:=n2_;have HB:=n3_;clear n0_ n1_ n2_ n3_;(try clear hb);(try clear hb2);(try clear hk);(try clear hi))))
      go_ret3
      exact ⟨_,by first | rfl | (simp [errW_none,errW_some] <;> rfl) | (simp [*,errW_none,errW_some] <;> rfl),by (with_reducible repeat (first | apply Kd.V_alloc | apply Kd.V_drewN | apply Kd.V_drew));exact Kd.V_mono HO_0.out (fun _ hk => hk.1),by repeat (first | (with_reducible first | exact HB.out | apply below_alloc | apply pw_below_drewN | apply below_drew1 | refine below_set ?_ GE914.out) | exact HB.out)⟩
     ·rw [if_neg c14] at H
      have c14b0 : (t917 == 0) = false:=beq_eq_false_iff_ne.mpr c14
      have c14b1 : (t917 != 0) = true:=bne_iff_ne.mpr c14
      replace H:=Option.bind_eq_some_iff.mp H
      obtain ⟨t918,A160,H⟩:=H
      replace H : (some (t918,t917,0)) = some (r1,r2,r3):=H
      have A16:=Aside0.mk A160
      clear A160
      simp only [Option.some.injEq,Prod.mk.injEq] at H
      obtain ⟨rfl,rfl,rfl⟩:=H
      go_wp2_with (first | (go_at_call 28;(with_reducible refine (humusref14_Free.calls k1 _ _ l0 t917 _ ?side1 ?side2 A13.out).mono ?_);(case side1 => repeat (first | exact (Kd.V_reads' HO_0.out).2.2 | (with_reducible refine Kd.C_alloc ?_ _) | (with_reducible refine Kd.C_drewN ?_ _) | (with_reducible refine Kd.C_drew ?_)));(case side2 => exact (Kd.V_reads' HO_0.out).2.1);rintro e w17 ⟨rfl,hb⟩;have n0_:=Aside0.mk (Kd.V_below (by (with_reducible repeat (first | apply Kd.V_alloc | apply Kd.V_drewN | apply Kd.V_drew));exact HO_0.out) hb);have n1_:=Aside0.mk (Kd.V_below (by (with_reducible repeat (first | apply Kd.V_alloc | apply Kd.V_drewN | apply Kd.V_drew));exact HO_915008.out) hb);have n2_:=Aside0.mk (blk_below (g:=gb914) (o:=.cells #[.int .i64 a1_0,.int .i64 a1_1,.int .i64 a1_2,.int .i64 a1_3,.int .i64 a1_4,.int .i64 a1_5,.float .f64 a1_6,.bool a1_7,.slice A1_8 l1_8.length c1_8,.int .i64 a1_9,.int .i64 a1_10,.int .i64 a1_11] 32 (0,0)) (by (with_reducible repeat (first | refine blk_drewN ?_ _ | refine blk_drew ?_ | refine blk_alloc ?_ _));exact BK914.out) hb);have n3_:=Aside0.mk (below_step (by repeat (first | (with_reducible first | exact HB.out | apply below_alloc | apply pw_below_drewN | apply below_drew1 | refine below_set ?_ GE914.out) | exact HB.out)) hb);clear HO_0;clear HO_915008;clear BK914;clear HB;have HO_0:=n0_;have HO_915008:=n1_;have BK914:=n2_;have HB:=n3_;clear n0_ n1_ n2_ n3_;(try clear hb);(try clear hb2);(try clear hk);(try clear hi);obtain ⟨hcz18_0,hcz18_1,hcz18_2,hcz18_3,hcz18_4,hcz18_5,hcz18_6,hcz18_7,hcz18_8,hcz18_9,hcz18_10,hcz18_11⟩:=blkc_12 BK914.out;obtain ⟨hfz18_0,hfz18_1,hfz18_2,hfz18_3,hfz18_4,hfz18_5,hfz18_6,hfz18_7,hfz18_8,hfz18_9,hfz18_10⟩:=blkz_11 BK914.out;have hfz18_11:=blk_frozen BK914.out 11) | (go_at_call 62;(with_reducible refine (humusref14_set.calls (fun k_ => (((P0_ k_ ∨ P1_8_ k_) ∨ w.heap.size ≤ k_) ∧ k_ ≠ gb914)) _ _ l0 t917 a1_0 a1_1 a1_2 a1_3 a1_4 a1_5 a1_6 a1_7 (fun k_ => (((P0_ k_ ∨ P1_8_ k_) ∨ w.heap.size ≤ k_) ∧ k_ ≠ gb914)) _ _ l1_8 a1_9 a1_10 a1_11 t918 _ ?side1 ?side2 A16.out).mono ?_);(case side1 => exact HO_0.out);(case side2 => exact HO_915008.out);rintro e w19 ⟨v919,rfl,ho0,hb⟩;have n0_:=Aside0.mk (Kd.V_elder' (by (with_reducible repeat (first | apply Kd.V_alloc | apply Kd.V_drewN | apply Kd.V_drew));exact HO_0.out) (Kd.N_base ho0) hb);have n1_:=Aside0.mk (Kd.V_elder' (by (with_reducible repeat (first | apply Kd.V_alloc | apply Kd.V_drewN | apply Kd.V_drew));exact HO_915008.out) (Kd.N_base ho0) hb);have n2_:=Aside0.mk (Kd.N_lower (Kd.N_mono (ok':=fun k_ => ((P0_ k_ ∨ P1_8_ k_) ∨ w.heap.size ≤ k_) ∧ k_ ≠ gb914) ho0 (fun k_ hk_ => ⟨Or.elim hk_ (fun hs_ => Or.elim hs_ (fun hs_ => hs_.1) (fun hs_ => hs_.1)) (fun hn_ => (.inr (Nat.le_trans (below_size (by repeat (first | (with_reducible first | exact HB.out | apply below_alloc | apply pw_below_drewN | apply below_drew1 | refine below_set ?_ GE914.out) | exact HB.out))) hn_))),Or.elim hk_ (fun hs_ => Or.elim hs_ (fun hs_ => hs_.2) (fun hs_ => hs_.2)) (fun hn_ => (Kd.freshB (g:=gb914) (o:=.cells #[.int .i64 a1_0,.int .i64 a1_1,.int .i64 a1_2,.int .i64 a1_3,.int .i64 a1_4,.int .i64 a1_5,.float .f64 a1_6,.bool a1_7,.slice A1_8 l1_8.length c1_8,.int .i64 a1_9,.int .i64 a1_10,.int .i64 a1_11] 32 (0,0)) (by (with_reducible repeat (first | refine blk_drewN ?_ _ | refine blk_drew ?_ | refine blk_alloc ?_ _));exact BK914.out) k_ hn_))⟩)) (below_size (by repeat (first | (with_reducible first | exact HB.out | apply below_alloc | apply pw_below_drewN | apply below_drew1 | refine below_set ?_ GE914.out) | exact HB.out))));have n3_:=Aside0.mk (blk_below (g:=gb914) (o:=.cells #[.int .i64 a1_0,.int .i64 a1_1,.int .i64 a1_2,.int .i64 a1_3,.int .i64 a1_4,.int .i64 a1_5,.float .f64 a1_6,.bool a1_7,.slice A1_8 l1_8.length c1_8,.int .i64 a1_9,.int .i64 a1_10,.int .i64 a1_11] 32 (0,0)) (by (with_reducible repeat (first | refine blk_drewN ?_ _ | refine blk_drew ?_ | refine blk_alloc ?_ _));exact BK914.out) hb);have n4_:=Aside0.mk (below_step (by repeat (first | (with_reducible first | exact HB.out | apply below_alloc | apply pw_below_drewN | apply below_drew1 | refine below_set ?_ GE914.out) | exact HB.out)) hb);clear HO_0;clear HO_915008;clear BK914;clear HB;have HO_0:=n0_;have HO_915008:=n1_;have HO920:=n2_;have BK914:=n3_;have HB:=n4_;clear n0_ n1_ n2_ n3_ n4_;(try clear hb);(try clear hb2);(try clear hk);(try clear hi);(try clear ho0)))
      repeat (go_quiet (first | (go_at_call 28;(with_reducible refine (humusref14_Free.calls k1 _ _ l0 t917 _ ?side1 ?side2 A13.out).mono ?_);(case side1 => repeat (first | exact (Kd.V_reads' HO_0.out).2.2 | (with_reducible refine Kd.C_alloc ?_ _) | (with_reducible refine Kd.C_drewN ?_ _) | (with_reducible refine Kd.C_drew ?_)));(case side2 => exact (Kd.V_reads' HO_0.out).2.1);rintro e w17 ⟨rfl,hb⟩;have n0_:=Aside0.mk (Kd.V_below (by (with_reducible repeat (first | apply Kd.V_alloc | apply Kd.V_drewN | apply Kd.V_drew));exact HO_0.out) hb);have n1_:=Aside0.mk (Kd.V_below (by (with_reducible repeat (first | apply Kd.V_alloc | apply Kd.V_drewN | apply Kd.V_drew));exact HO_915008.out) hb);have n2_:=Aside0.mk (blk_below (g:=gb914) (o:=.cells #[.int .i64 a1_0,.int .i64 a1_1,.int .i64 a1_2,.int .i64 a1_3,.int .i64 a1_4,.int .i64 a1_5,.float .f64 a1_6,.bool a1_7,.slice A1_8 l1_8.length c1_8,.int .i64 a1_9,.int .i64 a1_10,.int .i64 a1_11] 32 (0,0)) (by (with_reducible repeat (first | refine blk_drewN ?_ _ | refine blk_drew ?_ | refine blk_alloc ?_ _));exact BK914.out) hb);have n3_:=Aside0.mk (below_step (by repeat (first | (with_reducible first | exact HB.out | apply below_alloc | apply pw_below_drewN | apply below_drew1 | refine below_set ?_ GE914.out) | exact HB.out)) hb);clear HO_0;clear HO_915008;clear BK914;clear HB;have HO_0:=n0_;have HO_915008:=n1_;have BK914:=n2_;have HB:=n3_;clear n0_ n1_ n2_ n3_;(try clear hb);(try clear hb2);(try clear hk);(try clear hi);obtain ⟨hcz18_0,hcz18_1,hcz18_2,hcz18_3,hcz18_4,hcz18_5,hcz18_6,hcz18_7,hcz18_8,hcz18_9,hcz18_10,hcz18_11⟩:=blkc_12 BK914.out;obtain ⟨hfz18_0,hfz18_1,hfz18_2,hfz18_3,hfz18_4,hfz18_5,hfz18_6,hfz18_7,hfz18_8,hfz18_9,hfz18_10⟩:=blkz_11 BK914.out;have hfz18_11:=blk_frozen BK914.out 11) | (go_at_call 62;(with_reducible refine (humusref14_set.calls (fun k_ => (((P0_ k_ ∨ P1_8_ k_) ∨ w.heap.size ≤ k_) ∧ k_ ≠ gb914)) _ _ l0 t917 a1_0 a1_1 a1_2 a1_3 a1_4 a1_5 a1_6 a1_7 (fun k_ => (((P0_ k_ ∨ P1_8_ k_) ∨ w.heap.size ≤ k_) ∧ k_ ≠ gb914)) _ _ l1_8 a1_9 a1_10 a1_11 t918 _ ?side1 ?side2 A16.out).mono ?_);(case side1 => exact HO_0.out);(case side2 => exact HO_915008.out);rintro e w19 ⟨v919,rfl,ho0,hb⟩;have n0_:=Aside0.mk (Kd.V_elder' (by (with_reducible repeat (first | apply Kd.V_alloc | apply Kd.V_drewN | apply Kd.V_drew));exact HO_0.out) (Kd.N_base ho0) hb);have n1_:=Aside0.mk (Kd.V_elder' (by (with_reducible repeat (first | apply Kd.V_alloc | apply Kd.V_drewN | apply Kd.V_drew));exact HO_915008.out) (Kd.N_base ho0) hb);have n2_:=Aside0.mk (Kd.N_lower (Kd.N_mono (ok':=fun k_ => ((P0_ k_ ∨ P1_8_ k_) ∨ w.heap.size ≤ k_) ∧ k_ ≠ gb914) ho0 (fun k_ hk_ => ⟨Or.elim hk_ (fun hs_ => Or.elim hs_ (fun hs_ => hs_.1) (fun hs_ => hs_.1)) (fun hn_ => (.inr (Nat.le_trans (below_size (by repeat (first | (with_reducible first | exact HB.out | apply below_alloc | apply pw_below_drewN | apply below_drew1 | refine below_set ?_ GE914.out) | exact HB.out))) hn_))),Or.elim hk_ (fun hs_ => Or.elim hs_ (fun hs_ => hs_.2) (fun hs_ => hs_.2)) (fun hn_ => (Kd.freshB (g:=gb914) (o:=.cells #[.int .i64 a1_0,.int .i64 a1_1,.int .i64 a1_2,.int .i64 a1_3,.int .i64 a1_4,.int .i64 a1_5,.float .f64 a1_6,.bool a1_7,.slice A1_8 l1_8.length c1_8,.int .i64 a1_9,.int .i64 a1_10,.int .i64 a1_11] 32 (0,0)) (by (with_reducible repeat (first | refine blk_drewN ?_ _ | refine blk_drew ?_ | refine blk_alloc ?_ _));exact BK914.out) k_ hn_))⟩)) (below_size (by repeat (first | (with_reducible first | exact HB.out | apply below_alloc | apply pw_below_drewN | apply below_drew1 | refine below_set ?_ GE914.out) | exact HB.out))));have n3_:=Aside0.mk (blk_below (g:=gb914) (o:=.cells #[.int .i64 a1_0,.int .i64 a1_1,.int .i64 a1_2,.int .i64 a1_3,.int .i64 a1_4,.int .i64 a1_5,.float .f64 a1_6,.bool a1_7,.slice A1_8 l1_8.length c1_8,.int .i64 a1_9,.int .i64 a1_10,.int .i64 a1_11] 32 (0,0)) (by (with_reducible repeat (first | refine blk_drewN ?_ _ | refine blk_drew ?_ | refine blk_alloc ?_ _));exact BK914.out) hb);have n4_:=Aside0.mk (below_step (by repeat (first | (with_reducible first | exact HB.out | apply below_alloc | apply pw_below_drewN | apply below_drew1 | refine below_set ?_ GE914.out) | exact HB.out)) hb);clear HO_0;clear HO_915008;clear BK914;clear HB;have HO_0:=n0_;have HO_915008:=n1_;have HO920:=n2_;have BK914:=n3_;have HB:=n4_;clear n0_ n1_ n2_ n3_ n4_;(try clear hb);(try clear hb2);(try clear hk);(try clear hi);(try clear ho0)));try go_wp2_with (first | (go_at_call 28;(with_reducible refine (humusref14_Free.calls k1 _ _ l0 t917 _ ?side1 ?side2 A13.out).mono ?_);(case side1 => repeat (first | exact (Kd.V_reads' HO_0.out).2.2 | (with_reducible refine Kd.C_alloc ?_ _) | (with_reducible refine Kd.C_drewN ?_ _) | (with_reducible refine Kd.C_drew ?_)));(case side2 => exact (Kd.V_reads' HO_0.out).2.1);rintro e w17 ⟨rfl,hb⟩;have n0_:=Aside0.mk (Kd.V_below (by (with_reducible repeat (first | apply Kd.V_alloc | apply Kd.V_drewN | apply Kd.V_drew));exact HO_0.out) hb);have n1_:=Aside0.mk (Kd.V_below (by (with_reducible repeat (first | apply Kd.V_alloc | apply Kd.V_drewN | apply Kd.V_drew));exact HO_915008.out) hb);have n2_:=Aside0.mk (blk_below (g:=gb914) (o:=.cells #[.int .i64 a1_0,.int .i64 a1_1,.int .i64 a1_2,.int .i64 a1_3,.int .i64 a1_4,.int .i64 a1_5,.float .f64 a1_6,.bool a1_7,.slice A1_8 l1_8.length c1_8,.int .i64 a1_9,.int .i64 a1_10,.int .i64 a1_11] 32 (0,0)) (by (with_reducible repeat (first | refine blk_drewN ?_ _ | refine blk_drew ?_ | refine blk_alloc ?_ _));exact BK914.out) hb);have n3_:=Aside0.mk (below_step (by repeat (first | (with_reducible first | exact HB.out | apply below_alloc | apply pw_below_drewN | apply below_drew1 | refine below_set ?_ GE914.out) | exact HB.out)) hb);clear HO_0;clear HO_915008;clear BK914;clear HB;have HO_0:=n0_;have HO_915008:=n1_;have BK914:=n2_;have HB:=n3_;clear n0_ n1_ n2_ n3_;(try clear hb);(try clear hb2);(try clear hk);(try clear hi);obtain ⟨hcz18_0,hcz18_1,hcz18_2,hcz18_3,hcz18_4,hcz18_5,hcz18_6,hcz18_7,hcz18_8,hcz18_9,hcz18_10,hcz18_11⟩:=blkc_12 BK914.out;obtain ⟨hfz18_0,hfz18_1,hfz18_2,hfz18_3,hfz18_4,hfz18_5,hfz18_6,hfz18_7,hfz18_8,hfz18_9,hfz18_10⟩:=blkz_11 BK914.out;have hfz18_11:=blk_frozen BK914.out 11) | (go_at_call 62;(with_reducible refine (humusref14_set.calls (fun k_ => (((P0_ k_ ∨ P1_8_ k_) ∨ w.heap.size ≤ k_) ∧ k_ ≠ gb914)) _ _ l0 t917 a1_0 a1_1 a1_2 a1_3 a1_4 a1_5 a1_6 a1_7 (fun k_ => (((P0_ k_ ∨ P1_8_ k_) ∨ w.heap.size ≤ k_) ∧ k_ ≠ gb914)) _ _ l1_8 a1_9 a1_10 a1_11 t918 _ ?side1 ?side2 A16.out).mono ?_);(case side1 => exact HO_0.out);(case side2 => exact HO_915008.out);rintro e w19 ⟨v919,rfl,ho0,hb⟩;have n0_:=Aside0.mk (Kd.V_elder' (by (with_reducible repeat (first | apply Kd.V_alloc | apply Kd.V_drewN | apply Kd.V_drew));exact HO_0.out) (Kd.N_base ho0) hb);have n1_:=Aside0.mk (Kd.V_elder' (by (with_reducible repeat (first | apply Kd.V_alloc | apply Kd.V_drewN | apply Kd.V_drew));exact HO_915008.out) (Kd.N_base ho0) hb);have n2_:=Aside0.mk (Kd.N_lower (Kd.N_mono (ok':=fun k_ => ((P0_ k_ ∨ P1_8_ k_) ∨ w.heap.size ≤ k_) ∧ k_ ≠ gb914) ho0 (fun k_ hk_ => ⟨Or.elim hk_ (fun hs_ => Or.elim hs_ (fun hs_ => hs_.1) (fun hs_ => hs_.1)) (fun hn_ => (.inr (Nat.le_trans (below_size (by repeat (first | (with_reducible first | exact HB.out | apply below_alloc | apply pw_below_drewN | apply below_drew1 | refine below_set ?_ GE914.out) | exact HB.out))) hn_))),Or.elim hk_ (fun hs_ => Or.elim hs_ (fun hs_ => hs_.2) (fun hs_ => hs_.2)) (fun hn_ => (Kd.freshB (g:=gb914) (o:=.cells #[.int .i64 a1_0,.int .i64 a1_1,.int .i64 a1_2,.int .i64 a1_3,.int .i64 a1_4,.int .i64 a1_5,.float .f64 a1_6,.bool a1_7,.slice A1_8 l1_8.length c1_8,.int .i64 a1_9,.int .i64 a1_10,.int .i64 a1_11] 32 (0,0)) (by (with_reducible repeat (first | refine blk_drewN ?_ _ | refine blk_drew ?_ | refine blk_alloc ?_ _));exact BK914.out) k_ hn_))⟩)) (below_size (by repeat (first | (with_reducible first | exact HB.out | apply below_alloc | apply pw_below_drewN | apply below_drew1 | refine below_set ?_ GE914.out) | exact HB.out))));have n3_:=Aside0.mk (blk_below (g:=gb914) (o:=.cells #[.int .i64 a1_0,.int .i64 a1_1,.int .i64 a1_2,.int .i64 a1_3,.int .i64 a1_4,.int .i64 a1_5,.float .f64 a1_6,.bool a1_7,.slice A1_8 l1_8.length c1_8,.int .i64 a1_9,.int .i64 a1_10,.int .i64 a1_11] 32 (0,0)) (by (with_reducible repeat (first | refine blk_drewN ?_ _ | refine blk_drew ?_ | refine blk_alloc ?_ _));exact BK914.out) hb);have n4_:=Aside0.mk (below_step (by repeat (first | (with_reducible first | exact HB.out | apply below_alloc | apply pw_below_drewN | apply below_drew1 | refine below_set ?_ GE914.out) | exact HB.out)) hb);clear HO_0;clear HO_915008;clear BK914;clear HB;have HO_0:=n0_;have HO_915008:=n1_;have HO920:=n2_;have BK914:=n3_;have HB:=n4_;clear n0_ n1_ n2_ n3_ n4_;(try clear hb);(try clear hb2);(try clear hk);(try clear hi);(try clear ho0))))
      go_ret3
      exact ⟨_,by first | rfl | (simp [errW_none,errW_some] <;> rfl) | (simp [*,errW_none,errW_some] <;> rfl),Kd.N_V (by (with_reducible repeat (first | apply Kd.N_alloc | apply Kd.N_drewN | apply Kd.N_drew));exact Kd.N_mono HO920.out (fun _ hk => hk.1)),by repeat (first | (with_reducible first | exact HB.out | apply below_alloc | apply pw_below_drewN | apply below_drew1 | refine below_set ?_ GE914.out) | exact HB.out)⟩
 ·replace c4:=Bool.eq_false_iff.mpr c4
  subst c4
  have H1 : (some (l0,0,1)) = some (r1,r2,r3):=by rw [if_neg (show ¬ (false = true) by decide)] at H;exact H
  clear H
  have H:=H1
  clear H1
  simp only [Option.some.injEq,Prod.mk.injEq] at H
  obtain ⟨rfl,rfl,rfl⟩:=H
  go_enter Try.func25,Try.ntmps25
  go_wp2_with (first | ((with_reducible refine gate_dst (N:=3) rfl ?_);refine box_event ?hg (N:=3) ?hd (cs:=#[.int .i64 a1_0,.int .i64 a1_1,.int .i64 a1_2,.int .i64 a1_3,.int .i64 a1_4,.int .i64 a1_5,.float .f64 a1_6,.bool a1_7,.slice A1_8 l1_8.length c1_8,.int .i64 a1_9,.int .i64 a1_10,.int .i64 a1_11]) (t:=32) ?hr ?_;(case hd => rfl);(case hg => rfl);(case hr => first | (go_simp;done) | (go_simp;rfl));intro gb914 hg w20 hbox hb;have n0_:=Aside0.mk (Kd.V_below (Kd.V_elderB (by (with_reducible repeat (first | apply Kd.V_alloc | apply Kd.V_drewN | apply Kd.V_drew));exact HO0.out) gb914 (Nat.le_of_eq hg.symm)) hb);have n1_:=Aside0.mk (Kd.V_below (Kd.V_elderB (by (with_reducible repeat (first | apply Kd.V_alloc | apply Kd.V_drewN | apply Kd.V_drew));exact HO1_8.out) gb914 (Nat.le_of_eq hg.symm)) hb);have n2_:=Aside0.mk (below_step (by repeat (first | (with_reducible first | exact HB.out | apply below_alloc | apply pw_below_drewN | apply below_drew1) | exact HB.out)) hb);have n3_:=Aside0.mk (hbox);have n4_:=Aside0.mk ((by rw [hg];exact (below_size (by repeat (first | (with_reducible first | exact HB.out | apply below_alloc | apply pw_below_drewN | apply below_drew1) | exact HB.out))) : w.heap.size ≤ gb914));have n5_:=Aside0.mk ((by rw [hg];exact (below_size (by repeat (first | (with_reducible first | exact HB.out | apply below_alloc | apply pw_below_drewN | apply below_drew1) | exact HB.out))) : w.heap.size ≤ gb914));clear HO0;clear HO1_8;clear HB;have HO0:=n0_;have HO1_8:=n1_;have HB:=n2_;have BK914:=n3_;have GW914:=n4_;have GE914:=n5_;clear n0_ n1_ n2_ n3_ n4_ n5_;clear hb hbox hg;obtain ⟨hcz21_0,hcz21_1,hcz21_2,hcz21_3,hcz21_4,hcz21_5,hcz21_6,hcz21_7,hcz21_8,hcz21_9,hcz21_10,hcz21_11⟩:=blkc_12 BK914.out;obtain ⟨hfz21_0,hfz21_1,hfz21_2,hfz21_3,hfz21_4,hfz21_5,hfz21_6,hfz21_7,hfz21_8,hfz21_9,hfz21_10⟩:=blkz_11 BK914.out;have hfz21_11:=blk_frozen BK914.out 11) | (go_at_call 48;(with_reducible refine (humusref09_May.calls k a1_0 a1_1 a1_2 a1_3 a1_4 a1_5 a1_6 a1_7 _ _ l1_8 a1_9 a1_10 a1_11 false _ ?side1 ?side2 A3.out).mono ?_);(case side1 => repeat (first | exact (Kd.V_reads' HO1_8.out).2.2 | (with_reducible refine Kd.C_alloc ?_ _) | (with_reducible refine Kd.C_drewN ?_ _) | (with_reducible refine Kd.C_drew ?_)));(case side2 => exact (Kd.V_reads' HO1_8.out).2.1);rintro e w22 ⟨rfl,hb⟩;have n0_:=Aside0.mk (Kd.V_below (by (with_reducible repeat (first | apply Kd.V_alloc | apply Kd.V_drewN | apply Kd.V_drew));exact HO0.out) hb);have n1_:=Aside0.mk (Kd.V_below (by (with_reducible repeat (first | apply Kd.V_alloc | apply Kd.V_drewN | apply Kd.V_drew));exact HO1_8.out) hb);have n2_:=Aside0.mk (blk_below (g:=gb914) (o:=.cells #[.int .i64 a1_0,.int .i64 a1_1,.int .i64 a1_2,.int .i64 a1_3,.int .i64 a1_4,.int .i64 a1_5,.float .f64 a1_6,.bool a1_7,.slice A1_8 l1_8.length c1_8,.int .i64 a1_9,.int .i64 a1_10,.int .i64 a1_11] 32 (0,0)) (by (with_reducible repeat (first | refine blk_drewN ?_ _ | refine blk_drew ?_ | refine blk_alloc ?_ _));exact BK914.out) hb);have n3_:=Aside0.mk (below_step (by repeat (first | (with_reducible first | exact HB.out | apply below_alloc | apply pw_below_drewN | apply below_drew1 | refine below_set ?_ GE914.out) | exact HB.out)) hb);clear HO0;clear HO1_8;clear BK914;clear HB;have HO0:=n0_;have HO1_8:=n1_;have BK914:=n2_;have HB:=n3_;clear n0_ n1_ n2_ n3_;(try clear hb);(try clear hb2);(try clear hk);(try clear hi)))
  repeat (go_quiet (first | ((with_reducible refine gate_dst (N:=3) rfl ?_);refine box_event ?hg (N:=3) ?hd (cs:=#[.int .i64 a1_0,.int .i64 a1_1,.int .i64 a1_2,.int .i64 a1_3,.int .i64 a1_4,.int .i64 a1_5,.float .f64 a1_6,.bool a1_7,.slice A1_8 l1_8.length c1_8,.int .i64 a1_9,.int .i64 a1_10,.int .i64 a1_11]) (t:=32) ?hr ?_;(case hd => rfl);(case hg => rfl);(case hr => first | (go_simp;done) | (go_simp;rfl));intro gb914 hg w20 hbox hb;have n0_:=Aside0.mk (Kd.V_below (Kd.V_elderB (by (with_reducible repeat (first | apply Kd.V_alloc | apply Kd.V_drewN | apply Kd.V_drew));exact HO0.out) gb914 (Nat.le_of_eq hg.symm)) hb);have n1_:=Aside0.mk (Kd.V_below (Kd.V_elderB (by (with_reducible repeat (first | apply Kd.V_alloc | apply Kd.V_drewN | apply Kd.V_drew));exact HO1_8.out) gb914 (Nat.le_of_eq hg.symm)) hb);have n2_:=Aside0.mk (below_step (by repeat (first | (with_reducible first | exact HB.out | apply below_alloc | apply pw_below_drewN | apply below_drew1) | exact HB.out)) hb);have n3_:=Aside0.mk (hbox);have n4_:=Aside0.mk ((by rw [hg];exact (below_size (by repeat (first | (with_reducible first | exact HB.out | apply below_alloc | apply pw_below_drewN | apply below_drew1) | exact HB.out))) : w.heap.size ≤ gb914));have n5_:=Aside0.mk ((by rw [hg];exact (below_size (by repeat (first | (with_reducible first | exact HB.out | apply below_alloc | apply pw_below_drewN | apply below_drew1) | exact HB.out))) : w.heap.size ≤ gb914));clear HO0;clear HO1_8;clear HB;have HO0:=n0_;have HO1_8:=n1_;have HB:=n2_;have BK914:=n3_;have GW914:=n4_;have GE914:=n5_;clear n0_ n1_ n2_ n3_ n4_ n5_;clear hb hbox hg;obtain ⟨hcz21_0,hcz21_1,hcz21_2,hcz21_3,hcz21_4,hcz21_5,hcz21_6,hcz21_7,hcz21_8,hcz21_9,hcz21_10,hcz21_11⟩:=blkc_12 BK914.out;obtain ⟨hfz21_0,hfz21_1,hfz21_2,hfz21_3,hfz21_4,hfz21_5,hfz21_6,hfz21_7,hfz21_8,hfz21_9,hfz21_10⟩:=blkz_11 BK914.out;have hfz21_11:=blk_frozen BK914.out 11) | (go_at_call 48;(with_reducible refine (humusref09_May.calls k a1_0 a1_1 a1_2 a1_3 a1_4 a1_5 a1_6 a1_7 _ _ l1_8 a1_9 a1_10 a1_11 false _ ?side1 ?side2 A3.out).mono ?_);(case side1 => repeat (first | exact (Kd.V_reads' HO1_8.out).2.2 | (with_reducible refine Kd.C_alloc ?_ _) | (with_reducible refine Kd.C_drewN ?_ _) | (with_reducible refine Kd.C_drew ?_)));(case side2 => exact (Kd.V_reads' HO1_8.out).2.1);rintro e w22 ⟨rfl,hb⟩;have n0_:=Aside0.mk (Kd.V_below (by (with_reducible repeat (first | apply Kd.V_alloc | apply Kd.V_drewN | apply Kd.V_drew));exact HO0.out) hb);have n1_:=Aside0.mk (Kd.V_below (by (with_reducible repeat (first | apply Kd.V_alloc | apply Kd.V_drewN | apply Kd.V_drew));exact HO1_8.out) hb);have n2_:=Aside0.mk (blk_below (g:=gb914) (o:=.cells #[.int .i64 a1_0,.int .i64 a1_1,.int .i64 a1_2,.int .i64 a1_3,.int .i64 a1_4,.int .i64 a1_5,.float .f64 a1_6,.bool a1_7,.slice A1_8 l1_8.length c1_8,.int .i64 a1_9,.int .i64 a1_10,.int .i64 a1_11] 32 (0,0)) (by (with_reducible repeat (first | refine blk_drewN ?_ _ | refine blk_drew ?_ | refine blk_alloc ?_ _));exact BK914.out) hb);have n3_:=Aside0.mk (below_step (by repeat (first | (with_reducible first | exact HB.out | apply below_alloc | apply pw_below_drewN | apply below_drew1 | refine below_set ?_ GE914.out) | exact HB.out)) hb);clear HO0;clear HO1_8;clear BK914;clear HB;have HO0:=n0_;have HO1_8:=n1_;have BK914:=n2_;have HB:=n3_;clear n0_ n1_ n2_ n3_;(try clear hb);(try clear hb2);(try clear hk);(try clear hi)));try go_wp2_with (first | ((with_reducible refine gate_dst (N:=3) rfl ?_);refine box_event ?hg (N:=3) ?hd (cs:=#[.int .i64 a1_0,.int .i64 a1_1,.int .i64 a1_2,.int .i64 a1_3,.int .i64 a1_4,.int .i64 a1_5,.float .f64 a1_6,.bool a1_7,.slice A1_8 l1_8.length c1_8,.int .i64 a1_9,.int .i64 a1_10,.int .i64 a1_11]) (t:=32) ?hr ?_;(case hd => rfl);(case hg => rfl);(case hr => first | (go_simp;done) | (go_simp;rfl));intro gb914 hg w20 hbox hb;have n0_:=Aside0.mk (Kd.V_below (Kd.V_elderB (by (with_reducible repeat (first | apply Kd.V_alloc | apply Kd.V_drewN | apply Kd.V_drew));exact HO0.out) gb914 (Nat.le_of_eq hg.symm)) hb);have n1_:=Aside0.mk (Kd.V_below (Kd.V_elderB (by (with_reducible repeat (first | apply Kd.V_alloc | apply Kd.V_drewN | apply Kd.V_drew));exact HO1_8.out) gb914 (Nat.le_of_eq hg.symm)) hb);have n2_:=Aside0.mk (below_step (by repeat (first | (with_reducible first | exact HB.out | apply below_alloc | apply pw_below_drewN | apply below_drew1) | exact HB.out)) hb);have n3_:=Aside0.mk (hbox);have n4_:=Aside0.mk ((by rw [hg];exact (below_size (by repeat (first | (with_reducible first | exact HB.out | apply below_alloc | apply pw_below_drewN | apply below_drew1) | exact HB.out))) : w.heap.size ≤ gb914));have n5_:=Aside0.mk ((by rw [hg];exact (below_size (by repeat (first | (with_reducible first | exact HB.out | apply below_alloc | apply pw_below_drewN | apply below_drew1) | exact HB.out))) : w.heap.size ≤ gb914));clear HO0;clear HO1_8;clear HB;have HO0:=n0_;have HO1_8:=n1_;have HB:=n2_;have BK914:=n3_;have GW914:=n4_;have GE914:=n5_;clear n0_ n1_ n2_ n3_ n4_ n5_;clear hb hbox hg;obtain ⟨hcz21_0,hcz21_1,hcz21_2,hcz21_3,hcz21_4,hcz21_5,hcz21_6,hcz21_7,hcz21_8,hcz21_9,hcz21_10,hcz21_11⟩:=blkc_12 BK914.out;obtain ⟨hfz21_0,hfz21_1,hfz21_2,hfz21_3,hfz21_4,hfz21_5,hfz21_6,hfz21_7,hfz21_8,hfz21_9,hfz21_10⟩:=blkz_11 BK914.out;have hfz21_11:=blk_frozen BK914.out 11) | (go_at_call 48;(with_reducible refine (humusref09_May.calls k a1_0 a1_1 a1_2 a1_3 a1_4 a1_5 a1_6 a1_7 _ _ l1_8 a1_9 a1_10 a1_11 false _ ?side1 ?side2 A3.out).mono ?_);(case side1 => repeat (first | exact (Kd.V_reads' HO1_8.out).2.2 | (with_reducible refine Kd.C_alloc ?_ _) | (with_reducible refine Kd.C_drewN ?_ _) | (with_reducible refine Kd.C_drew ?_)));(case side2 => exact (Kd.V_reads' HO1_8.out).2.1);rintro e w22 ⟨rfl,hb⟩;have n0_:=Aside0.mk (Kd.V_below (by (with_reducible repeat (first | apply Kd.V_alloc | apply Kd.V_drewN | apply Kd.V_drew));exact HO0.out) hb);have n1_:=Aside0.mk (Kd.V_below (by (with_reducible repeat (first | apply Kd.V_alloc | apply Kd.V_drewN | apply Kd.V_drew));exact HO1_8.out) hb);have n2_:=Aside0.mk (blk_below (g:=gb914) (o:=.cells #[.int .i64 a1_0,.int .i64 a1_1,.int .i64 a1_2,.int .i64 a1_3,.int .i64 a1_4,.int .i64 a1_5,.float .f64 a1_6,.bool a1_7,.slice A1_8 l1_8.length c1_8,.int .i64 a1_9,.int .i64 a1_10,.int .i64 a1_11] 32 (0,0)) (by (with_reducible repeat (first | refine blk_drewN ?_ _ | refine blk_drew ?_ | refine blk_alloc ?_ _));exact BK914.out) hb);have n3_:=Aside0.mk (below_step (by repeat (first | (with_reducible first | exact HB.out | apply below_alloc | apply pw_below_drewN | apply below_drew1 | refine below_set ?_ GE914.out) | exact HB.out)) hb);clear HO0;clear HO1_8;clear BK914;clear HB;have HO0:=n0_;have HO1_8:=n1_;have BK914:=n2_;have HB:=n3_;clear n0_ n1_ n2_ n3_;(try clear hb);(try clear hb2);(try clear hk);(try clear hi))))
  go_ret3
  exact ⟨_,by first | rfl | (simp [errW_none,errW_some] <;> rfl) | (simp [*,errW_none,errW_some] <;> rfl),by (with_reducible repeat (first | apply Kd.V_alloc | apply Kd.V_drewN | apply Kd.V_drew));exact Kd.V_mono HO0.out (fun _ hk => hk.1),by repeat (first | (with_reducible first | exact HB.out | apply below_alloc | apply pw_below_drewN | apply below_drew1 | refine below_set ?_ GE914.out) | exact HB.out)⟩
end Go.Proofs.Ytdcllbhkjcdnoaa.P
namespace Go.Proofs.Ytdcllbhkjcdnoaa.P
open Go.RowKit Go.Proofs.YtdcllbhkjcdnoaaW.PrintWords Go.Proofs.YtdcllbhkjcdnoaaW.PrintLast Go.Proofs.YtdcllbhkjcdnoaaW.PrintMore
attribute [local go_sem] max2_int min2_int max_two min_two max_three min_three max_four min_four   -- for this text's walks alone
attribute [local go_sem] run_store_float
set_option linter.unusedVariables false
set_option linter.unusedSimpArgs false
def humusref14_Drop.f (k : Nat) (l0 : List (S32)) (a1 : Int) : Option ((List (S32)) × Int):=(humusref14_At.f k l0 a1).bind fun bt924 => ((humusref10_Empty.f k bt924.1 bt924.2.1 bt924.2.2.1 bt924.2.2.2.1 bt924.2.2.2.2.1 bt924.2.2.2.2.2.1 bt924.2.2.2.2.2.2.1 bt924.2.2.2.2.2.2.2.1 bt924.2.2.2.2.2.2.2.2.1 bt924.2.2.2.2.2.2.2.2.2.1 bt924.2.2.2.2.2.2.2.2.2.2.1 bt924.2.2.2.2.2.2.2.2.2.2.2).bind fun t938 => (if t938 = true then (some (l0,3)) else ((humusref14_set.f l0 a1 0 0 0 0 0 0 0 false ([] : List Nat) 0 0 0).bind fun t939 => (some (t939,0)))))
set_option maxHeartbeats 8000000 in
set_option maxRecDepth 100000 in
theorem humusref14_Drop.calls (k : Nat) (P0_ : Nat → Prop) (A0 : Option Addr) (c0 : Nat) (l0 : List (S32)) (a1 : Int) (r1 : List (S32)) (r2 : Int) (w : World) (hs0 : Kd.V k32 32 w w.heap.size (fun k_ => P0_ k_) (.slice A0 l0.length c0) l0) (h : humusref14_Drop.f k l0 a1 = some (r1,r2)) :
  Calls Try.prog 27 #[.slice A0 l0.length c0,.int .i64 a1] w fun e w' => ∃ v0_ : Value,e = .returned (.tuple #[v0_,.int .i64 r2]) ∧ Kd.V k32 32 w' w.heap.size (fun k_ => (P0_ k_ ∨ w.heap.size ≤ k_)) v0_ r1 ∧ Below w.heap.size w w':=by
 have hu32:=Try.underlying32
 have HO0:=Aside0.mk (show Kd.V k32 32 w w.heap.size (fun k_ => (P0_ k_ ∨ w.heap.size ≤ k_)) (.slice A0 l0.length c0) l0 from Kd.V_mono hs0 (fun k_ hk => .inl hk))
 have HB:=Aside0.mk (Below.refl w.heap.size w)
 have H : ((humusref14_At.f k l0 a1).bind fun bt924 => ((humusref10_Empty.f k bt924.1 bt924.2.1 bt924.2.2.1 bt924.2.2.2.1 bt924.2.2.2.2.1 bt924.2.2.2.2.2.1 bt924.2.2.2.2.2.2.1 bt924.2.2.2.2.2.2.2.1 bt924.2.2.2.2.2.2.2.2.1 bt924.2.2.2.2.2.2.2.2.2.1 bt924.2.2.2.2.2.2.2.2.2.2.1 bt924.2.2.2.2.2.2.2.2.2.2.2).bind fun t938 => (if t938 = true then (some (l0,3)) else ((humusref14_set.f l0 a1 0 0 0 0 0 0 0 false ([] : List Nat) 0 0 0).bind fun t939 => (some (t939,0)))))) = some (r1,r2):=h
 clear h
 replace H:=Option.bind_eq_some_iff.mp H
 obtain ⟨⟨t924,t925,t926,t927,t928,t929,t930,t931,t932,t935,t936,t937⟩,A30,H⟩:=H
 replace H : ((humusref10_Empty.f k t924 t925 t926 t927 t928 t929 t930 t931 t932 t935 t936 t937).bind fun t938 => (if t938 = true then (some (l0,3)) else ((humusref14_set.f l0 a1 0 0 0 0 0 0 0 false ([] : List Nat) 0 0 0).bind fun t939 => (some (t939,0))))) = some (r1,r2):=H
 have A3:=Aside0.mk A30
 clear A30
 replace H:=Option.bind_eq_some_iff.mp H
 obtain ⟨t938,A40,H⟩:=H
 replace H : (if t938 = true then (some (l0,3)) else ((humusref14_set.f l0 a1 0 0 0 0 0 0 0 false ([] : List Nat) 0 0 0).bind fun t939 => (some (t939,0)))) = some (r1,r2):=H
 have A4:=Aside0.mk A40
 clear A40
 by_cases c5 : t938 = true
 ·subst c5
  have H1 : (some (l0,3)) = some (r1,r2):=by rw [if_pos rfl] at H;exact H
  clear H
  have H:=H1
  clear H1
  simp only [Option.some.injEq,Prod.mk.injEq] at H
  obtain ⟨rfl,rfl⟩:=H
  go_enter Try.func27,Try.ntmps27
  go_wp2_with (first | ((with_reducible refine gate_callee (f:=18) rfl ?_);refine goesL_ (some 8) rfl rfl Try.func18 (by kernel_rfl) rfl #[.slice A0 l0.length c0,.int .i64 a1] rfl (by (try simp only [List.map_toArray,List.map_cons,List.map_nil]);first | done | rfl | (simp only [List.length_drop,List.length_take];rfl)) ?_;(with_reducible refine (humusref14_At.calls k (fun k_ => (P0_ k_ ∨ w.heap.size ≤ k_)) _ _ l0 a1 t924 t925 t926 t927 t928 t929 t930 t931 t932 t935 t936 t937 _ ?side1 A3.out).mono ?_);(case side1 => exact HO0.out);rintro e w6 ⟨v933,rfl,ho0,hb⟩;refine ⟨_,rfl,?_⟩;have n0_:=Aside0.mk (Kd.V_below (by (with_reducible repeat (first | apply Kd.V_alloc | apply Kd.V_drewN | apply Kd.V_drew));exact HO0.out) hb);have n1_:=Aside0.mk (Kd.V_lower (Kd.V_mono (ok':=fun k_ => (P0_ k_ ∨ w.heap.size ≤ k_)) ho0 (fun k_ hk_ => Or.elim hk_ (fun hs_ => hs_) (fun hn_ => (.inr (Nat.le_trans (below_size (by repeat (first | (with_reducible first | exact HB.out | apply below_alloc | apply pw_below_drewN | apply below_drew1) | exact HB.out))) hn_))))) (below_size (by repeat (first | (with_reducible first | exact HB.out | apply below_alloc | apply pw_below_drewN | apply below_drew1) | exact HB.out))));have n2_:=Aside0.mk (below_step (by repeat (first | (with_reducible first | exact HB.out | apply below_alloc | apply pw_below_drewN | apply below_drew1) | exact HB.out)) hb);clear HO0;clear HB;have HO0:=n0_;have HO934:=n1_;have HB:=n2_;clear n0_ n1_ n2_;(try clear hb);(try clear hb2);(try clear hk);(try clear hi);(try clear ho0);obtain ⟨Ao7,co7,eo7⟩:=Kd.V_slice HO934.out;subst eo7) | ((with_reducible refine gate_callee (f:=60) rfl ?_);refine goesL_ (some 9) rfl rfl Try.func60 (by kernel_rfl) rfl #[.agg #[.int .i64 t924,.int .i64 t925,.int .i64 t926,.int .i64 t927,.int .i64 t928,.int .i64 t929,.float .f64 t930,.bool t931,.slice Ao7 t932.length co7,.int .i64 t935,.int .i64 t936,.int .i64 t937]] rfl (by (try simp only [List.map_toArray,List.map_cons,List.map_nil]);first | done | rfl | (simp only [List.length_drop,List.length_take];rfl)) ?_;(with_reducible refine (humusref10_Empty.calls k t924 t925 t926 t927 t928 t929 t930 t931 _ _ t932 t935 t936 t937 true _ ?side1 ?side2 A4.out).mono ?_);(case side1 => repeat (first | exact (Kd.V_reads' HO934.out).2.2 | (with_reducible refine Kd.C_alloc ?_ _) | (with_reducible refine Kd.C_drewN ?_ _) | (with_reducible refine Kd.C_drew ?_)));(case side2 => exact (Kd.V_reads' HO934.out).2.1);rintro e w8 ⟨rfl,hb⟩;refine ⟨_,rfl,?_⟩;have n0_:=Aside0.mk (Kd.V_below (by (with_reducible repeat (first | apply Kd.V_alloc | apply Kd.V_drewN | apply Kd.V_drew));exact HO0.out) hb);have n1_:=Aside0.mk (Kd.V_below (by (with_reducible repeat (first | apply Kd.V_alloc | apply Kd.V_drewN | apply Kd.V_drew));exact HO934.out) hb);have n2_:=Aside0.mk (below_step (by repeat (first | (with_reducible first | exact HB.out | apply below_alloc | apply pw_below_drewN | apply below_drew1) | exact HB.out)) hb);clear HO0;clear HO934;clear HB;have HO0:=n0_;have HO934:=n1_;have HB:=n2_;clear n0_ n1_ n2_;(try clear hb);(try clear hb2);(try clear hk);(try clear hi)))
  go_ret2
  exact ⟨_,by first | rfl | (simp [errW_none,errW_some] <;> rfl) | (simp [*,errW_none,errW_some] <;> rfl),by (with_reducible repeat (first | apply Kd.V_alloc | apply Kd.V_drewN | apply Kd.V_drew));exact HO0.out,by repeat (first | (with_reducible first | exact HB.out | apply below_alloc | apply pw_below_drewN | apply below_drew1) | exact HB.out)⟩
 ·replace c5:=Bool.eq_false_iff.mpr c5
  subst c5
  have H1 : ((humusref14_set.f l0 a1 0 0 0 0 0 0 0 false ([] : List Nat) 0 0 0).bind fun t939 => (some (t939,0))) = some (r1,r2):=by rw [if_neg (show ¬ (false = true) by decide)] at H;exact H
  clear H
  have H:=H1
  clear H1
  replace H:=Option.bind_eq_some_iff.mp H
  obtain ⟨t939,A90,H⟩:=H
  replace H : (some (t939,0)) = some (r1,r2):=H
  have A9:=Aside0.mk A90
  clear A90
  simp only [Option.some.injEq,Prod.mk.injEq] at H
  obtain ⟨rfl,rfl⟩:=H
  go_enter Try.func27,Try.ntmps27
  go_wp2_with (first | ((with_reducible refine gate_callee (f:=18) rfl ?_);refine goesL_ (some 8) rfl rfl Try.func18 (by kernel_rfl) rfl #[.slice A0 l0.length c0,.int .i64 a1] rfl (by (try simp only [List.map_toArray,List.map_cons,List.map_nil]);first | done | rfl | (simp only [List.length_drop,List.length_take];rfl)) ?_;(with_reducible refine (humusref14_At.calls k (fun k_ => (P0_ k_ ∨ w.heap.size ≤ k_)) _ _ l0 a1 t924 t925 t926 t927 t928 t929 t930 t931 t932 t935 t936 t937 _ ?side1 A3.out).mono ?_);(case side1 => exact HO0.out);rintro e w10 ⟨v933,rfl,ho0,hb⟩;refine ⟨_,rfl,?_⟩;have n0_:=Aside0.mk (Kd.V_below (by (with_reducible repeat (first | apply Kd.V_alloc | apply Kd.V_drewN | apply Kd.V_drew));exact HO0.out) hb);have n1_:=Aside0.mk (Kd.V_lower (Kd.V_mono (ok':=fun k_ => (P0_ k_ ∨ w.heap.size ≤ k_)) ho0 (fun k_ hk_ => Or.elim hk_ (fun hs_ => hs_) (fun hn_ => (.inr (Nat.le_trans (below_size (by repeat (first | (with_reducible first | exact HB.out | apply below_alloc | apply pw_below_drewN | apply below_drew1) | exact HB.out))) hn_))))) (below_size (by repeat (first | (with_reducible first | exact HB.out | apply below_alloc | apply pw_below_drewN | apply below_drew1) | exact HB.out))));have n2_:=Aside0.mk (below_step (by repeat (first | (with_reducible first | exact HB.out | apply below_alloc | apply pw_below_drewN | apply below_drew1) | exact HB.out)) hb);clear HO0;clear HB;have HO0:=n0_;have HO934:=n1_;have HB:=n2_;clear n0_ n1_ n2_;(try clear hb);(try clear hb2);(try clear hk);(try clear hi);(try clear ho0);obtain ⟨Ao11,co11,eo11⟩:=Kd.V_slice HO934.out;subst eo11) | ((with_reducible refine gate_callee (f:=60) rfl ?_);refine goesL_ (some 9) rfl rfl Try.func60 (by kernel_rfl) rfl #[.agg #[.int .i64 t924,.int .i64 t925,.int .i64 t926,.int .i64 t927,.int .i64 t928,.int .i64 t929,.float .f64 t930,.bool t931,.slice Ao11 t932.length co11,.int .i64 t935,.int .i64 t936,.int .i64 t937]] rfl (by (try simp only [List.map_toArray,List.map_cons,List.map_nil]);first | done | rfl | (simp only [List.length_drop,List.length_take];rfl)) ?_;(with_reducible refine (humusref10_Empty.calls k t924 t925 t926 t927 t928 t929 t930 t931 _ _ t932 t935 t936 t937 false _ ?side1 ?side2 A4.out).mono ?_);(case side1 => repeat (first | exact (Kd.V_reads' HO934.out).2.2 | (with_reducible refine Kd.C_alloc ?_ _) | (with_reducible refine Kd.C_drewN ?_ _) | (with_reducible refine Kd.C_drew ?_)));(case side2 => exact (Kd.V_reads' HO934.out).2.1);rintro e w12 ⟨rfl,hb⟩;refine ⟨_,rfl,?_⟩;have n0_:=Aside0.mk (Kd.V_below (by (with_reducible repeat (first | apply Kd.V_alloc | apply Kd.V_drewN | apply Kd.V_drew));exact HO0.out) hb);have n1_:=Aside0.mk (Kd.V_below (by (with_reducible repeat (first | apply Kd.V_alloc | apply Kd.V_drewN | apply Kd.V_drew));exact HO934.out) hb);have n2_:=Aside0.mk (below_step (by repeat (first | (with_reducible first | exact HB.out | apply below_alloc | apply pw_below_drewN | apply below_drew1) | exact HB.out)) hb);clear HO0;clear HO934;clear HB;have HO0:=n0_;have HO934:=n1_;have HB:=n2_;clear n0_ n1_ n2_;(try clear hb);(try clear hb2);(try clear hk);(try clear hi)) | ((with_reducible refine gate_callee (f:=62) rfl ?_);refine goesL_ (some 14) rfl rfl Try.func62 (by kernel_rfl) rfl #[.slice A0 l0.length c0,.int .i64 a1,.agg #[.int .i64 0,.int .i64 0,.int .i64 0,.int .i64 0,.int .i64 0,.int .i64 0,.float .f64 0,.bool false,.slice none 0 0,.int .i64 0,.int .i64 0,.int .i64 0]] rfl (by (try simp only [List.map_toArray,List.map_cons,List.map_nil]);first | done | rfl | (simp only [List.length_drop,List.length_take];rfl)) ?_;(refine (humusref14_set.calls (fun k_ => (P0_ k_ ∨ w.heap.size ≤ k_)) _ _ l0 a1 0 0 0 0 0 0 0 false (fun k_ => False) _ _ ([] : List Nat) 0 0 0 t939 _ ?side1 ?side2 A9.out).mono ?_);(case side1 => exact HO0.out);(case side2 => exact Kd.V_nil _ _ _ _ _);rintro e w13 ⟨v940,rfl,ho0,hb⟩;refine ⟨_,rfl,?_⟩;have n0_:=Aside0.mk (Kd.V_elder' (by (with_reducible repeat (first | apply Kd.V_alloc | apply Kd.V_drewN | apply Kd.V_drew));exact HO0.out) (Kd.N_base ho0) hb);have n1_:=Aside0.mk (Kd.V_elder' (by (with_reducible repeat (first | apply Kd.V_alloc | apply Kd.V_drewN | apply Kd.V_drew));exact HO934.out) (Kd.N_base ho0) hb);have n2_:=Aside0.mk (Kd.N_lower (Kd.N_mono (ok':=fun k_ => (P0_ k_ ∨ w.heap.size ≤ k_)) ho0 (fun k_ hk_ => Or.elim hk_ (fun hs_ => Or.elim hs_ (fun hs_ => hs_) (fun hs_ => (hs_).elim)) (fun hn_ => (.inr (Nat.le_trans (below_size (by repeat (first | (with_reducible first | exact HB.out | apply below_alloc | apply pw_below_drewN | apply below_drew1) | exact HB.out))) hn_))))) (below_size (by repeat (first | (with_reducible first | exact HB.out | apply below_alloc | apply pw_below_drewN | apply below_drew1) | exact HB.out))));have n3_:=Aside0.mk (below_step (by repeat (first | (with_reducible first | exact HB.out | apply below_alloc | apply pw_below_drewN | apply below_drew1) | exact HB.out)) hb);clear HO0;clear HO934;clear HB;have HO0:=n0_;have HO934:=n1_;have HO941:=n2_;have HB:=n3_;clear n0_ n1_ n2_ n3_;(try clear hb);(try clear hb2);(try clear hk);(try clear hi);(try clear ho0)))
  go_ret2
  exact ⟨_,by first | rfl | (simp [errW_none,errW_some] <;> rfl) | (simp [*,errW_none,errW_some] <;> rfl),Kd.N_V (by (with_reducible repeat (first | apply Kd.N_alloc | apply Kd.N_drewN | apply Kd.N_drew));exact HO941.out),by repeat (first | (with_reducible first | exact HB.out | apply below_alloc | apply pw_below_drewN | apply below_drew1) | exact HB.out)⟩
def humusref14_Used.l0 : Nat → List (S32) → Int → Int → Option (Int)
 | 0,_,_,_ => none
 | k + 1,x0,x3,x4 => if x4 < (x0.length : Int) then (if 0 ≤ x4 then ((humusref10_Empty.f k ((rd_T32 x0 x4).f0) ((rd_T32 x0 x4).f1) ((rd_T32 x0 x4).f2) ((rd_T32 x0 x4).f3) ((rd_T32 x0 x4).f4) ((rd_T32 x0 x4).f5) ((rd_T32 x0 x4).f6.f0) ((rd_T32 x0 x4).f6.f1) ((rd_T32 x0 x4).f6.f2) ((rd_T32 x0 x4).f6.f3) ((rd_T32 x0 x4).f6.f4.f0) ((rd_T32 x0 x4).f6.f4.f1)).bind fun t943 => (if t943 = true then (humusref14_Used.l0 k x0 x3 (wrap64 (x4 + 1))) else (humusref14_Used.l0 k x0 (wrap64 (x3 + 1)) (wrap64 (x4 + 1))))) else (none)) else (some x3)
def humusref14_Used.f (k : Nat) (l0 : List (S32)) : Option (Int):=humusref14_Used.l0 k l0 0 0
set_option maxHeartbeats 8000000 in
set_option maxRecDepth 100000 in
theorem humusref14_Used.calls (k : Nat) (A0 : Option Addr) (c0 : Nat) (l0 : List (S32)) (r : Int) (w : World) (hr0 : Kd.C k32 w A0 l0.length l0) (hc0 : l0.length ≤ c0) (h : humusref14_Used.f k l0 = some r) :
  Calls Try.prog 29 #[.slice A0 l0.length c0] w fun e w' => e = .returned (.int .i64 r) ∧ Below w.heap.size w w':=by
 have hu32:=Try.underlying32
 have HR0:=Aside0.mk hr0
 have HC0:=Aside0.mk hc0
 clear hr0 hc0
 have HB:=Aside0.mk (Below.refl w.heap.size w)
 have H : (humusref14_Used.l0 k l0 0 0) = some r:=h
 clear h
 have H':=Aside0.mk H
 clear H
 go_enter Try.func29,Try.ntmps29
 go_wp2
 go_loopg [3,4] k (fun kq v3 v4 w' => ∃ (x3_1 : Int) (x4_1 : Int),v3 = .int .i64 x3_1 ∧ v4 = .int .i64 x4_1 ∧ Aside0 (humusref14_Used.l0 kq l0 x3_1 x4_1 = some r) ∧ Aside0 (kq ≤ k) ∧ Aside0 (Below w.heap.size w w'))
 case atStart => exact ⟨(0),(0),(by first | rfl | (simp;done) | (simp [*];done)),(by first | rfl | (simp;done) | (simp [*];done)),H',⟨Nat.le_refl _⟩,⟨by repeat (first | (with_reducible first | exact HB.out | apply below_alloc | apply pw_below_drewN | apply below_drew1) | exact HB.out)⟩⟩
 case round =>
  clear H'
  obtain ⟨x3_1,x4_1,rfl,rfl,HA,HK1,HB⟩:=hrel
  cases gk with
  | zero => exact absurd HA.out (by simp [humusref14_Used.l0])
  | succ k1 =>
   have H:=HA.out
   clear HA
   simp only [humusref14_Used.l0] at H
   by_cases c2 : x4_1 < (l0.length : Int)
   ·rw [if_pos c2] at H
    have c2b0 : decide (x4_1 < (l0.length : Int)) = true:=decide_eq_true c2
    clear c2
    by_cases c3 : 0 ≤ x4_1
    ·rw [if_pos c3] at H
     have c3b0 : decide (0 ≤ x4_1) = true:=decide_eq_true c3
     clear c3
     replace H:=Option.bind_eq_some_iff.mp H
     obtain ⟨t943,A40,H⟩:=H
     replace H : (if t943 = true then (humusref14_Used.l0 k1 l0 x3_1 (wrap64 (x4_1 + 1))) else (humusref14_Used.l0 k1 l0 (wrap64 (x3_1 + 1)) (wrap64 (x4_1 + 1)))) = some r:=H
     have A4:=Aside0.mk A40
     clear A40
     by_cases c5 : t943 = true
     ·subst c5
      have H1 : (humusref14_Used.l0 k1 l0 x3_1 (wrap64 (x4_1 + 1))) = some r:=by rw [if_pos rfl] at H;exact H
      clear H
      have H:=H1
      clear H1
      have H':=Aside0.mk H
      clear H
      have p942 : 0 ≤ (x4_1 : Int):=of_decide_eq_true (by first | (with_reducible assumption) | assumption)
      have q942 : x4_1 < (l0.length : Int):=of_decide_eq_true (by first | (with_reducible assumption) | assumption)
      obtain ⟨ad942,A942_8,c942_8,e942,hx942_0,hx942_1,hx942_2,hx942_3,hx942_4,hx942_5,hx942_6,hx942_7,hx942_8,hx942_9,hx942_10,hx942_11,hl942_8,hi942_8⟩:=at_T32 HR0.out x4_1 p942 q942
      cases e942
      replace hx942_0:=(HB.out.cell (World.block_lt_of_cell? w _ hx942_0)).trans hx942_0
      replace hx942_1:=(HB.out.cell (World.block_lt_of_cell? w _ hx942_1)).trans hx942_1
      replace hx942_2:=(HB.out.cell (World.block_lt_of_cell? w _ hx942_2)).trans hx942_2
      replace hx942_3:=(HB.out.cell (World.block_lt_of_cell? w _ hx942_3)).trans hx942_3
      replace hx942_4:=(HB.out.cell (World.block_lt_of_cell? w _ hx942_4)).trans hx942_4
      replace hx942_5:=(HB.out.cell (World.block_lt_of_cell? w _ hx942_5)).trans hx942_5
      replace hx942_6:=(HB.out.cell (World.block_lt_of_cell? w _ hx942_6)).trans hx942_6
      replace hx942_7:=(HB.out.cell (World.block_lt_of_cell? w _ hx942_7)).trans hx942_7
      replace hx942_8:=(HB.out.cell (World.block_lt_of_cell? w _ hx942_8)).trans hx942_8
      replace hx942_9:=(HB.out.cell (World.block_lt_of_cell? w _ hx942_9)).trans hx942_9
      replace hx942_10:=(HB.out.cell (World.block_lt_of_cell? w _ hx942_10)).trans hx942_10
      replace hx942_11:=(HB.out.cell (World.block_lt_of_cell? w _ hx942_11)).trans hx942_11
      have HR942_8:=Aside0.mk hi942_8
      have HC942_8:=Aside0.mk hl942_8
      clear hi942_8 hl942_8
      replace p942:=eq_true p942
      replace q942:=eq_true q942
      go_wp2_with (first | ((with_reducible refine gate_callee (f:=60) rfl ?_);refine goesL_ (some 15) rfl rfl Try.func60 (by kernel_rfl) rfl #[.agg #[.int .i64 ((rd_T32 l0 x4_1).f0),.int .i64 ((rd_T32 l0 x4_1).f1),.int .i64 ((rd_T32 l0 x4_1).f2),.int .i64 ((rd_T32 l0 x4_1).f3),.int .i64 ((rd_T32 l0 x4_1).f4),.int .i64 ((rd_T32 l0 x4_1).f5),.float .f64 ((rd_T32 l0 x4_1).f6.f0),.bool ((rd_T32 l0 x4_1).f6.f1),.slice A942_8 ((rd_T32 l0 x4_1).f6.f2).length c942_8,.int .i64 ((rd_T32 l0 x4_1).f6.f3),.int .i64 ((rd_T32 l0 x4_1).f6.f4.f0),.int .i64 ((rd_T32 l0 x4_1).f6.f4.f1)]] rfl (by (try simp only [List.map_toArray,List.map_cons,List.map_nil]);first | done | rfl | (simp only [List.length_drop,List.length_take];rfl)) ?_;(with_reducible refine (humusref10_Empty.calls k1 ((rd_T32 l0 x4_1).f0) ((rd_T32 l0 x4_1).f1) ((rd_T32 l0 x4_1).f2) ((rd_T32 l0 x4_1).f3) ((rd_T32 l0 x4_1).f4) ((rd_T32 l0 x4_1).f5) ((rd_T32 l0 x4_1).f6.f0) ((rd_T32 l0 x4_1).f6.f1) _ _ ((rd_T32 l0 x4_1).f6.f2) ((rd_T32 l0 x4_1).f6.f3) ((rd_T32 l0 x4_1).f6.f4.f0) ((rd_T32 l0 x4_1).f6.f4.f1) true _ ?side1 ?side2 A4.out).mono ?_);(case side1 => repeat (first | exact (Kd.C_below HR942_8.out HB.out) | (with_reducible refine Kd.C_alloc ?_ _) | (with_reducible refine Kd.C_drewN ?_ _) | (with_reducible refine Kd.C_drew ?_)));(case side2 => exact HC942_8.out);rintro e w6 ⟨rfl,hb⟩;refine ⟨_,rfl,?_⟩;have n0_:=Aside0.mk (below_step (by repeat (first | (with_reducible first | exact HB.out | apply below_alloc | apply pw_below_drewN | apply below_drew1) | exact HB.out)) hb);clear HB;have HB:=n0_;clear n0_;(try clear hb);(try clear hb2);(try clear hk);(try clear hi)))
      go_roundg k1
      case measure => have:=HK1.out;omega
      case rel => exact ⟨(x3_1),(wrap64 (x4_1 + 1)),(by first | rfl | (simp;done) | (simp [*];done)),(by first | rfl | (simp;done) | (simp [*];done)),H',⟨by have:=HK1.out;omega⟩,⟨by repeat (first | (with_reducible first | exact HB.out | apply below_alloc | apply pw_below_drewN | apply below_drew1) | exact HB.out)⟩⟩
     ·replace c5:=Bool.eq_false_iff.mpr c5
      subst c5
      have H1 : (humusref14_Used.l0 k1 l0 (wrap64 (x3_1 + 1)) (wrap64 (x4_1 + 1))) = some r:=by rw [if_neg (show ¬ (false = true) by decide)] at H;exact H
      clear H
      have H:=H1
      clear H1
      have H':=Aside0.mk H
      clear H
      have p942 : 0 ≤ (x4_1 : Int):=of_decide_eq_true (by first | (with_reducible assumption) | assumption)
      have q942 : x4_1 < (l0.length : Int):=of_decide_eq_true (by first | (with_reducible assumption) | assumption)
      obtain ⟨ad942,A942_8,c942_8,e942,hx942_0,hx942_1,hx942_2,hx942_3,hx942_4,hx942_5,hx942_6,hx942_7,hx942_8,hx942_9,hx942_10,hx942_11,hl942_8,hi942_8⟩:=at_T32 HR0.out x4_1 p942 q942
      cases e942
      replace hx942_0:=(HB.out.cell (World.block_lt_of_cell? w _ hx942_0)).trans hx942_0
      replace hx942_1:=(HB.out.cell (World.block_lt_of_cell? w _ hx942_1)).trans hx942_1
      replace hx942_2:=(HB.out.cell (World.block_lt_of_cell? w _ hx942_2)).trans hx942_2
      replace hx942_3:=(HB.out.cell (World.block_lt_of_cell? w _ hx942_3)).trans hx942_3
      replace hx942_4:=(HB.out.cell (World.block_lt_of_cell? w _ hx942_4)).trans hx942_4
      replace hx942_5:=(HB.out.cell (World.block_lt_of_cell? w _ hx942_5)).trans hx942_5
      replace hx942_6:=(HB.out.cell (World.block_lt_of_cell? w _ hx942_6)).trans hx942_6
      replace hx942_7:=(HB.out.cell (World.block_lt_of_cell? w _ hx942_7)).trans hx942_7
      replace hx942_8:=(HB.out.cell (World.block_lt_of_cell? w _ hx942_8)).trans hx942_8
      replace hx942_9:=(HB.out.cell (World.block_lt_of_cell? w _ hx942_9)).trans hx942_9
      replace hx942_10:=(HB.out.cell (World.block_lt_of_cell? w _ hx942_10)).trans hx942_10
      replace hx942_11:=(HB.out.cell (World.block_lt_of_cell? w _ hx942_11)).trans hx942_11
      have HR942_8:=Aside0.mk hi942_8
      have HC942_8:=Aside0.mk hl942_8
      clear hi942_8 hl942_8
      replace p942:=eq_true p942
      replace q942:=eq_true q942
      go_wp2_with (first | ((with_reducible refine gate_callee (f:=60) rfl ?_);refine goesL_ (some 15) rfl rfl Try.func60 (by kernel_rfl) rfl #[.agg #[.int .i64 ((rd_T32 l0 x4_1).f0),.int .i64 ((rd_T32 l0 x4_1).f1),.int .i64 ((rd_T32 l0 x4_1).f2),.int .i64 ((rd_T32 l0 x4_1).f3),.int .i64 ((rd_T32 l0 x4_1).f4),.int .i64 ((rd_T32 l0 x4_1).f5),.float .f64 ((rd_T32 l0 x4_1).f6.f0),.bool ((rd_T32 l0 x4_1).f6.f1),.slice A942_8 ((rd_T32 l0 x4_1).f6.f2).length c942_8,.int .i64 ((rd_T32 l0 x4_1).f6.f3),.int .i64 ((rd_T32 l0 x4_1).f6.f4.f0),.int .i64 ((rd_T32 l0 x4_1).f6.f4.f1)]] rfl (by (try simp only [List.map_toArray,List.map_cons,List.map_nil]);first | done | rfl | (simp only [List.length_drop,List.length_take];rfl)) ?_;(with_reducible refine (humusref10_Empty.calls k1 ((rd_T32 l0 x4_1).f0) ((rd_T32 l0 x4_1).f1) ((rd_T32 l0 x4_1).f2) ((rd_T32 l0 x4_1).f3) ((rd_T32 l0 x4_1).f4) ((rd_T32 l0 x4_1).f5) ((rd_T32 l0 x4_1).f6.f0) ((rd_T32 l0 x4_1).f6.f1) _ _ ((rd_T32 l0 x4_1).f6.f2) ((rd_T32 l0 x4_1).f6.f3) ((rd_T32 l0 x4_1).f6.f4.f0) ((rd_T32 l0 x4_1).f6.f4.f1) false _ ?side1 ?side2 A4.out).mono ?_);(case side1 => repeat (first | exact (Kd.C_below HR942_8.out HB.out) | (with_reducible refine Kd.C_alloc ?_ _) | (with_reducible refine Kd.C_drewN ?_ _) | (with_reducible refine Kd.C_drew ?_)));(case side2 => exact HC942_8.out);rintro e w7 ⟨rfl,hb⟩;refine ⟨_,rfl,?_⟩;have n0_:=Aside0.mk (below_step (by repeat (first | (with_reducible first | exact HB.out | apply below_alloc | apply pw_below_drewN | apply below_drew1) | exact HB.out)) hb);clear HB;have HB:=n0_;clear n0_;(try clear hb);(try clear hb2);(try clear hk);(try clear hi)))
      go_roundg k1
      case measure => have:=HK1.out;omega
      case rel => exact ⟨(wrap64 (x3_1 + 1)),(wrap64 (x4_1 + 1)),(by first | rfl | (simp;done) | (simp [*];done)),(by first | rfl | (simp;done) | (simp [*];done)),H',⟨by have:=HK1.out;omega⟩,⟨by repeat (first | (with_reducible first | exact HB.out | apply below_alloc | apply pw_below_drewN | apply below_drew1) | exact HB.out)⟩⟩
    ·rw [if_neg c3] at H
     exact absurd H (by simp)
   ·rw [if_neg c2] at H
    have c2b0 : decide (x4_1 < (l0.length : Int)) = false:=decide_eq_false c2
    clear c2
    obtain rfl:=Option.some.inj H
    go_wp2
    go_ret
    exact ⟨by first | rfl | (simp [errW_none,errW_some] <;> rfl) | (simp [*,errW_none,errW_some] <;> rfl),by repeat (first | (with_reducible first | exact HB.out | apply below_alloc | apply pw_below_drewN | apply below_drew1) | exact HB.out)⟩
end Go.Proofs.Ytdcllbhkjcdnoaa.P
namespace Go.Proofs.Ytdcllbhkjcdnoaa.P
open Go.RowKit Go.Proofs.YtdcllbhkjcdnoaaW.PrintWords Go.Proofs.YtdcllbhkjcdnoaaW.PrintLast Go.Proofs.YtdcllbhkjcdnoaaW.PrintMore
attribute [local go_sem] max2_int min2_int max_two min_two max_three min_three max_four min_four   -- for this text's walks alone
attribute [local go_sem] run_store_float
set_option linter.unusedVariables false
set_option linter.unusedSimpArgs false
def undo_Used.l0 : Nat → Int → List (S32) → Int → Int → Option (Int)
 | 0,_,_,_,_ => none
 | k + 1,x3,x9,x10,x11 => if x11 < x10 then (if 0 ≤ x11 then (if x11 < (x9.length : Int) then ((undo_empty.f ((rd_T32 x9 x11).f0) ((rd_T32 x9 x11).f1) ((rd_T32 x9 x11).f2) ((rd_T32 x9 x11).f3) ((rd_T32 x9 x11).f4) ((rd_T32 x9 x11).f5) ((rd_T32 x9 x11).f6.f0) ((rd_T32 x9 x11).f6.f1) ((rd_T32 x9 x11).f6.f2) ((rd_T32 x9 x11).f6.f3) ((rd_T32 x9 x11).f6.f4.f0) ((rd_T32 x9 x11).f6.f4.f1)).bind fun t903 => (if t903 = true then (undo_Used.l0 k x3 x9 x10 (wrap64 (x11 + 1))) else (undo_Used.l0 k (wrap64 (x3 + 1)) x9 x10 (wrap64 (x11 + 1))))) else (none)) else (none)) else (some x3)
def undo_Used.f (k : Nat) (l0 : List (S32)) : Option (Int):=(undo_Check.f l0).bind fun t900 => (if t900 = 0 then (undo_Used.l0 k 0 l0 (l0.length : Int) 0) else (some 0))
set_option maxHeartbeats 8000000 in
set_option maxRecDepth 100000 in
theorem undo_Used.calls (k : Nat) (A0 : Option Addr) (c0 : Nat) (l0 : List (S32)) (r : Int) (w : World) (hr0 : Kd.C k32 w A0 l0.length l0) (hc0 : l0.length ≤ c0) (h : undo_Used.f k l0 = some r) :
  Calls Try.prog 24 #[.slice A0 l0.length c0] w fun e w' => e = .returned (.int .i64 r) ∧ Below w.heap.size w w':=by
 have hu32:=Try.underlying32
 have HR0:=Aside0.mk hr0
 have HC0:=Aside0.mk hc0
 clear hr0 hc0
 have HB:=Aside0.mk (Below.refl w.heap.size w)
 have H : ((undo_Check.f l0).bind fun t900 => (if t900 = 0 then (undo_Used.l0 k 0 l0 (l0.length : Int) 0) else (some 0))) = some r:=h
 clear h
 replace H:=Option.bind_eq_some_iff.mp H
 obtain ⟨t900,A20,H⟩:=H
 replace H : (if t900 = 0 then (undo_Used.l0 k 0 l0 (l0.length : Int) 0) else (some 0)) = some r:=H
 have A2:=Aside0.mk A20
 clear A20
 by_cases c3 : t900 = 0
 ·rw [if_pos c3] at H
  have c3b0 : (t900 == 0) = true:=beq_iff_eq.mpr c3
  have c3b1 : (t900 != 0) = false:=bne_eq_false_iff_eq.mpr c3
  clear c3
  have H':=Aside0.mk H
  clear H
  go_enter Try.func24,Try.ntmps24
  go_wp2_with (first | ((with_reducible refine gate_callee (f:=22) rfl ?_);refine goesL_ (some 7) rfl rfl Try.func22 (by kernel_rfl) rfl #[.slice A0 l0.length c0] rfl (by (try simp only [List.map_toArray,List.map_cons,List.map_nil]);first | done | rfl | (simp only [List.length_drop,List.length_take];rfl)) ?_;(with_reducible refine (undo_Check.calls _ _ l0 t900 _ ?side1 ?side2 A2.out).mono ?_);(case side1 => repeat (first | exact HR0.out | (with_reducible refine Kd.C_alloc ?_ _) | (with_reducible refine Kd.C_drewN ?_ _) | (with_reducible refine Kd.C_drew ?_)));(case side2 => exact HC0.out);rintro e w4 ⟨rfl,hb⟩;refine ⟨_,rfl,?_⟩;have n0_:=Aside0.mk (below_step (by repeat (first | (with_reducible first | exact HB.out | apply below_alloc | apply pw_below_drewN | apply below_drew1) | exact HB.out)) hb);clear HB;have HB:=n0_;clear n0_;(try clear hb);(try clear hb2);(try clear hk);(try clear hi)))
  go_loopg [3,11] k (fun kq v3 v11 w' => ∃ (x3_1 : Int) (x11_1 : Int),v3 = .int .i64 x3_1 ∧ v11 = .int .i64 x11_1 ∧ Aside0 (undo_Used.l0 kq x3_1 l0 (l0.length : Int) x11_1 = some r) ∧ Aside0 (kq ≤ k) ∧ Aside0 (Below w.heap.size w w'))
  case atStart => exact ⟨(0),(0),(by first | rfl | (simp;done) | (simp [*];done)),(by first | rfl | (simp;done) | (simp [*];done)),H',⟨Nat.le_refl _⟩,⟨by repeat (first | (with_reducible first | exact HB.out | apply below_alloc | apply pw_below_drewN | apply below_drew1) | exact HB.out)⟩⟩
  case round =>
   clear H'
   try clear c2
   try clear p2
   try clear c3
   try clear c3b0
   try clear c3b1
   obtain ⟨x3_1,x11_1,rfl,rfl,HA,HK1,HB⟩:=hrel
   cases gk with
   | zero => exact absurd HA.out (by simp [undo_Used.l0])
   | succ k1 =>
    have H:=HA.out
    clear HA
    simp only [undo_Used.l0] at H
    by_cases c5 : x11_1 < (l0.length : Int)
    ·rw [if_pos c5] at H
     have c5b0 : decide (x11_1 < (l0.length : Int)) = true:=decide_eq_true c5
     clear c5
     by_cases c6 : 0 ≤ x11_1
     ·rw [if_pos c6] at H
      have c6b0 : decide (0 ≤ x11_1) = true:=decide_eq_true c6
      clear c6
      by_cases c7 : x11_1 < (l0.length : Int)
      ·rw [if_pos c7] at H
       have c7b0 : decide (x11_1 < (l0.length : Int)) = true:=decide_eq_true c7
       clear c7
       replace H:=Option.bind_eq_some_iff.mp H
       obtain ⟨t903,A80,H⟩:=H
       replace H : (if t903 = true then (undo_Used.l0 k1 x3_1 l0 (l0.length : Int) (wrap64 (x11_1 + 1))) else (undo_Used.l0 k1 (wrap64 (x3_1 + 1)) l0 (l0.length : Int) (wrap64 (x11_1 + 1)))) = some r:=H
       have A8:=Aside0.mk A80
       clear A80
       by_cases c9 : t903 = true
       ·subst c9
        have H1 : (undo_Used.l0 k1 x3_1 l0 (l0.length : Int) (wrap64 (x11_1 + 1))) = some r:=by rw [if_pos rfl] at H;exact H
        clear H
        have H:=H1
        clear H1
        have H':=Aside0.mk H
        clear H
        have p901 : 0 ≤ (x11_1 : Int):=of_decide_eq_true (by first | (with_reducible assumption) | assumption)
        have q901 : x11_1 < (l0.length : Int):=of_decide_eq_true (by first | (with_reducible assumption) | assumption)
        obtain ⟨ad901,A901_8,c901_8,e901,hx901_0,hx901_1,hx901_2,hx901_3,hx901_4,hx901_5,hx901_6,hx901_7,hx901_8,hx901_9,hx901_10,hx901_11,hl901_8,hi901_8⟩:=at_T32 HR0.out x11_1 p901 q901
        cases e901
        replace hx901_0:=(HB.out.cell (World.block_lt_of_cell? w _ hx901_0)).trans hx901_0
        replace hx901_1:=(HB.out.cell (World.block_lt_of_cell? w _ hx901_1)).trans hx901_1
        replace hx901_2:=(HB.out.cell (World.block_lt_of_cell? w _ hx901_2)).trans hx901_2
        replace hx901_3:=(HB.out.cell (World.block_lt_of_cell? w _ hx901_3)).trans hx901_3
        replace hx901_4:=(HB.out.cell (World.block_lt_of_cell? w _ hx901_4)).trans hx901_4
        replace hx901_5:=(HB.out.cell (World.block_lt_of_cell? w _ hx901_5)).trans hx901_5
        replace hx901_6:=(HB.out.cell (World.block_lt_of_cell? w _ hx901_6)).trans hx901_6
        replace hx901_7:=(HB.out.cell (World.block_lt_of_cell? w _ hx901_7)).trans hx901_7
        replace hx901_8:=(HB.out.cell (World.block_lt_of_cell? w _ hx901_8)).trans hx901_8
        replace hx901_9:=(HB.out.cell (World.block_lt_of_cell? w _ hx901_9)).trans hx901_9
        replace hx901_10:=(HB.out.cell (World.block_lt_of_cell? w _ hx901_10)).trans hx901_10
        replace hx901_11:=(HB.out.cell (World.block_lt_of_cell? w _ hx901_11)).trans hx901_11
        have HR901_8:=Aside0.mk hi901_8
        have HC901_8:=Aside0.mk hl901_8
        clear hi901_8 hl901_8
        replace p901:=eq_true p901
        replace q901:=eq_true q901
        go_wp2_with (first | ((with_reducible refine gate_dst (N:=5) rfl ?_);refine box_event ?hg (N:=5) ?hd (cs:=#[.int .i64 0,.int .i64 0,.int .i64 0,.int .i64 0,.int .i64 0,.int .i64 0,.float .f64 0,.bool false,.slice none 0 0,.int .i64 0,.int .i64 0,.int .i64 0]) (t:=32) ?hr ?_;(case hd => rfl);(case hg => rfl);(case hr => first | (go_simp;done) | (go_simp;rfl));intro gb902 hg w10 hbox hb;have n0_:=Aside0.mk (below_step (by repeat (first | (with_reducible first | exact HB.out | apply below_alloc | apply pw_below_drewN | apply below_drew1) | exact HB.out)) hb);have n1_:=Aside0.mk (hbox);have n2_:=Aside0.mk ((by rw [hg];exact (below_size (by repeat (first | (with_reducible first | exact HB.out | apply below_alloc | apply pw_below_drewN | apply below_drew1) | exact HB.out))) : w.heap.size ≤ gb902));have n3_:=Aside0.mk ((by rw [hg];exact (below_size (by repeat (first | (with_reducible first | exact HB.out | apply below_alloc | apply pw_below_drewN | apply below_drew1) | exact HB.out))) : w.heap.size ≤ gb902));clear HB;have HB:=n0_;have BK902:=n1_;have GW902:=n2_;have GE902:=n3_;clear n0_ n1_ n2_ n3_;clear hb hbox hg;obtain ⟨hcz11_0,hcz11_1,hcz11_2,hcz11_3,hcz11_4,hcz11_5,hcz11_6,hcz11_7,hcz11_8,hcz11_9,hcz11_10,hcz11_11⟩:=blkc_12 BK902.out;obtain ⟨hfz11_0,hfz11_1,hfz11_2,hfz11_3,hfz11_4,hfz11_5,hfz11_6,hfz11_7,hfz11_8,hfz11_9,hfz11_10⟩:=blkz_11 BK902.out;have hfz11_11:=blk_frozen BK902.out 11) | ((with_reducible refine gate_callee (f:=58) rfl ?_);refine goesL_ (some 16) rfl rfl Try.func58 (by kernel_rfl) rfl #[.agg #[.int .i64 ((rd_T32 l0 x11_1).f0),.int .i64 ((rd_T32 l0 x11_1).f1),.int .i64 ((rd_T32 l0 x11_1).f2),.int .i64 ((rd_T32 l0 x11_1).f3),.int .i64 ((rd_T32 l0 x11_1).f4),.int .i64 ((rd_T32 l0 x11_1).f5),.float .f64 ((rd_T32 l0 x11_1).f6.f0),.bool ((rd_T32 l0 x11_1).f6.f1),.slice A901_8 ((rd_T32 l0 x11_1).f6.f2).length c901_8,.int .i64 ((rd_T32 l0 x11_1).f6.f3),.int .i64 ((rd_T32 l0 x11_1).f6.f4.f0),.int .i64 ((rd_T32 l0 x11_1).f6.f4.f1)]] rfl (by (try simp only [List.map_toArray,List.map_cons,List.map_nil]);first | done | rfl | (simp only [List.length_drop,List.length_take];rfl)) ?_;(with_reducible refine (undo_empty.calls ((rd_T32 l0 x11_1).f0) ((rd_T32 l0 x11_1).f1) ((rd_T32 l0 x11_1).f2) ((rd_T32 l0 x11_1).f3) ((rd_T32 l0 x11_1).f4) ((rd_T32 l0 x11_1).f5) ((rd_T32 l0 x11_1).f6.f0) ((rd_T32 l0 x11_1).f6.f1) _ _ ((rd_T32 l0 x11_1).f6.f2) ((rd_T32 l0 x11_1).f6.f3) ((rd_T32 l0 x11_1).f6.f4.f0) ((rd_T32 l0 x11_1).f6.f4.f1) true _ ?side1 ?side2 A8.out).mono ?_);(case side1 => exact Kd.C_below HR901_8.out (by repeat (first | (with_reducible first | exact HB.out | apply below_alloc | apply pw_below_drewN | apply below_drew1 | refine below_set ?_ GE902.out) | exact HB.out)));(case side2 => exact HC901_8.out);rintro e w12 ⟨rfl,hb⟩;refine ⟨_,rfl,?_⟩;have n0_:=Aside0.mk (blk_below (g:=gb902) (o:=.cells #[.int .i64 ((rd_T32 l0 x11_1).f0),.int .i64 ((rd_T32 l0 x11_1).f1),.int .i64 ((rd_T32 l0 x11_1).f2),.int .i64 ((rd_T32 l0 x11_1).f3),.int .i64 ((rd_T32 l0 x11_1).f4),.int .i64 ((rd_T32 l0 x11_1).f5),.float .f64 ((rd_T32 l0 x11_1).f6.f0),.bool ((rd_T32 l0 x11_1).f6.f1),.slice A901_8 ((rd_T32 l0 x11_1).f6.f2).length c901_8,.int .i64 ((rd_T32 l0 x11_1).f6.f3),.int .i64 ((rd_T32 l0 x11_1).f6.f4.f0),.int .i64 ((rd_T32 l0 x11_1).f6.f4.f1)] 32 (0,0)) (by (with_reducible repeat (first | refine blk_drewN ?_ _ | refine blk_drew ?_ | refine blk_alloc ?_ _));apply blkf_12_0_11;(with_reducible repeat (first | refine blk_drewN ?_ _ | refine blk_drew ?_ | refine blk_alloc ?_ _));exact BK902.out) hb);have n1_:=Aside0.mk (below_step (by repeat (first | (with_reducible first | exact HB.out | apply below_alloc | apply pw_below_drewN | apply below_drew1 | refine below_set ?_ GE902.out) | exact HB.out)) hb);clear BK902;clear HB;have BK902:=n0_;have HB:=n1_;clear n0_ n1_;(try clear hb);(try clear hb2);(try clear hk);(try clear hi)))
        go_roundg k1
        case measure => have:=HK1.out;omega
        case rel => exact ⟨(x3_1),(wrap64 (x11_1 + 1)),(by first | rfl | (simp;done) | (simp [*];done)),(by first | rfl | (simp;done) | (simp [*];done)),H',⟨by have:=HK1.out;omega⟩,⟨by repeat (first | (with_reducible first | exact HB.out | apply below_alloc | apply pw_below_drewN | apply below_drew1 | refine below_set ?_ GE902.out) | exact HB.out)⟩⟩
       ·replace c9:=Bool.eq_false_iff.mpr c9
        subst c9
        have H1 : (undo_Used.l0 k1 (wrap64 (x3_1 + 1)) l0 (l0.length : Int) (wrap64 (x11_1 + 1))) = some r:=by rw [if_neg (show ¬ (false = true) by decide)] at H;exact H
        clear H
        have H:=H1
        clear H1
        have H':=Aside0.mk H
        clear H
        have p901 : 0 ≤ (x11_1 : Int):=of_decide_eq_true (by first | (with_reducible assumption) | assumption)
        have q901 : x11_1 < (l0.length : Int):=of_decide_eq_true (by first | (with_reducible assumption) | assumption)
        obtain ⟨ad901,A901_8,c901_8,e901,hx901_0,hx901_1,hx901_2,hx901_3,hx901_4,hx901_5,hx901_6,hx901_7,hx901_8,hx901_9,hx901_10,hx901_11,hl901_8,hi901_8⟩:=at_T32 HR0.out x11_1 p901 q901
        cases e901
        replace hx901_0:=(HB.out.cell (World.block_lt_of_cell? w _ hx901_0)).trans hx901_0
        replace hx901_1:=(HB.out.cell (World.block_lt_of_cell? w _ hx901_1)).trans hx901_1
        replace hx901_2:=(HB.out.cell (World.block_lt_of_cell? w _ hx901_2)).trans hx901_2
        replace hx901_3:=(HB.out.cell (World.block_lt_of_cell? w _ hx901_3)).trans hx901_3
        replace hx901_4:=(HB.out.cell (World.block_lt_of_cell? w _ hx901_4)).trans hx901_4
        replace hx901_5:=(HB.out.cell (World.block_lt_of_cell? w _ hx901_5)).trans hx901_5
        replace hx901_6:=(HB.out.cell (World.block_lt_of_cell? w _ hx901_6)).trans hx901_6
        replace hx901_7:=(HB.out.cell (World.block_lt_of_cell? w _ hx901_7)).trans hx901_7
        replace hx901_8:=(HB.out.cell (World.block_lt_of_cell? w _ hx901_8)).trans hx901_8
        replace hx901_9:=(HB.out.cell (World.block_lt_of_cell? w _ hx901_9)).trans hx901_9
        replace hx901_10:=(HB.out.cell (World.block_lt_of_cell? w _ hx901_10)).trans hx901_10
        replace hx901_11:=(HB.out.cell (World.block_lt_of_cell? w _ hx901_11)).trans hx901_11
        have HR901_8:=Aside0.mk hi901_8
        have HC901_8:=Aside0.mk hl901_8
        clear hi901_8 hl901_8
        replace p901:=eq_true p901
        replace q901:=eq_true q901
        go_wp2_with (first | ((with_reducible refine gate_dst (N:=5) rfl ?_);refine box_event ?hg (N:=5) ?hd (cs:=#[.int .i64 0,.int .i64 0,.int .i64 0,.int .i64 0,.int .i64 0,.int .i64 0,.float .f64 0,.bool false,.slice none 0 0,.int .i64 0,.int .i64 0,.int .i64 0]) (t:=32) ?hr ?_;(case hd => rfl);(case hg => rfl);(case hr => first | (go_simp;done) | (go_simp;rfl));intro gb902 hg w13 hbox hb;have n0_:=Aside0.mk (below_step (by repeat (first | (with_reducible first | exact HB.out | apply below_alloc | apply pw_below_drewN | apply below_drew1) | exact HB.out)) hb);have n1_:=Aside0.mk (hbox);have n2_:=Aside0.mk ((by rw [hg];exact (below_size (by repeat (first | (with_reducible first | exact HB.out | apply below_alloc | apply pw_below_drewN | apply below_drew1) | exact HB.out))) : w.heap.size ≤ gb902));have n3_:=Aside0.mk ((by rw [hg];exact (below_size (by repeat (first | (with_reducible first | exact HB.out | apply below_alloc | apply pw_below_drewN | apply below_drew1) | exact HB.out))) : w.heap.size ≤ gb902));clear HB;have HB:=n0_;have BK902:=n1_;have GW902:=n2_;have GE902:=n3_;clear n0_ n1_ n2_ n3_;clear hb hbox hg;obtain ⟨hcz14_0,hcz14_1,hcz14_2,hcz14_3,hcz14_4,hcz14_5,hcz14_6,hcz14_7,hcz14_8,hcz14_9,hcz14_10,hcz14_11⟩:=blkc_12 BK902.out;obtain ⟨hfz14_0,hfz14_1,hfz14_2,hfz14_3,hfz14_4,hfz14_5,hfz14_6,hfz14_7,hfz14_8,hfz14_9,hfz14_10⟩:=blkz_11 BK902.out;have hfz14_11:=blk_frozen BK902.out 11) | ((with_reducible refine gate_callee (f:=58) rfl ?_);refine goesL_ (some 16) rfl rfl Try.func58 (by kernel_rfl) rfl #[.agg #[.int .i64 ((rd_T32 l0 x11_1).f0),.int .i64 ((rd_T32 l0 x11_1).f1),.int .i64 ((rd_T32 l0 x11_1).f2),.int .i64 ((rd_T32 l0 x11_1).f3),.int .i64 ((rd_T32 l0 x11_1).f4),.int .i64 ((rd_T32 l0 x11_1).f5),.float .f64 ((rd_T32 l0 x11_1).f6.f0),.bool ((rd_T32 l0 x11_1).f6.f1),.slice A901_8 ((rd_T32 l0 x11_1).f6.f2).length c901_8,.int .i64 ((rd_T32 l0 x11_1).f6.f3),.int .i64 ((rd_T32 l0 x11_1).f6.f4.f0),.int .i64 ((rd_T32 l0 x11_1).f6.f4.f1)]] rfl (by (try simp only [List.map_toArray,List.map_cons,List.map_nil]);first | done | rfl | (simp only [List.length_drop,List.length_take];rfl)) ?_;(with_reducible refine (undo_empty.calls ((rd_T32 l0 x11_1).f0) ((rd_T32 l0 x11_1).f1) ((rd_T32 l0 x11_1).f2) ((rd_T32 l0 x11_1).f3) ((rd_T32 l0 x11_1).f4) ((rd_T32 l0 x11_1).f5) ((rd_T32 l0 x11_1).f6.f0) ((rd_T32 l0 x11_1).f6.f1) _ _ ((rd_T32 l0 x11_1).f6.f2) ((rd_T32 l0 x11_1).f6.f3) ((rd_T32 l0 x11_1).f6.f4.f0) ((rd_T32 l0 x11_1).f6.f4.f1) false _ ?side1 ?side2 A8.out).mono ?_);(case side1 => exact Kd.C_below HR901_8.out (by repeat (first | (with_reducible first | exact HB.out | apply below_alloc | apply pw_below_drewN | apply below_drew1 | refine below_set ?_ GE902.out) | exact HB.out)));(case side2 => exact HC901_8.out);rintro e w15 ⟨rfl,hb⟩;refine ⟨_,rfl,?_⟩;have n0_:=Aside0.mk (blk_below (g:=gb902) (o:=.cells #[.int .i64 ((rd_T32 l0 x11_1).f0),.int .i64 ((rd_T32 l0 x11_1).f1),.int .i64 ((rd_T32 l0 x11_1).f2),.int .i64 ((rd_T32 l0 x11_1).f3),.int .i64 ((rd_T32 l0 x11_1).f4),.int .i64 ((rd_T32 l0 x11_1).f5),.float .f64 ((rd_T32 l0 x11_1).f6.f0),.bool ((rd_T32 l0 x11_1).f6.f1),.slice A901_8 ((rd_T32 l0 x11_1).f6.f2).length c901_8,.int .i64 ((rd_T32 l0 x11_1).f6.f3),.int .i64 ((rd_T32 l0 x11_1).f6.f4.f0),.int .i64 ((rd_T32 l0 x11_1).f6.f4.f1)] 32 (0,0)) (by (with_reducible repeat (first | refine blk_drewN ?_ _ | refine blk_drew ?_ | refine blk_alloc ?_ _));apply blkf_12_0_11;(with_reducible repeat (first | refine blk_drewN ?_ _ | refine blk_drew ?_ | refine blk_alloc ?_ _));exact BK902.out) hb);have n1_:=Aside0.mk (below_step (by repeat (first | (with_reducible first | exact HB.out | apply below_alloc | apply pw_below_drewN | apply below_drew1 | refine below_set ?_ GE902.out) | exact HB.out)) hb);clear BK902;clear HB;have BK902:=n0_;have HB:=n1_;clear n0_ n1_;(try clear hb);(try clear hb2);(try clear hk);(try clear hi)))
        go_roundg k1
        case measure => have:=HK1.out;omega
        case rel => exact ⟨(wrap64 (x3_1 + 1)),(wrap64 (x11_1 + 1)),(by first | rfl | (simp;done) | (simp [*];done)),(by first | rfl | (simp;done) | (simp [*];done)),H',⟨by have:=HK1.out;omega⟩,⟨by repeat (first | (with_reducible first | exact HB.out | apply below_alloc | apply pw_below_drewN | apply below_drew1 | refine below_set ?_ GE902.out) | exact HB.out)⟩⟩
      ·rw [if_neg c7] at H
       exact absurd H (by simp)
     ·rw [if_neg c6] at H
      exact absurd H (by simp)
    ·rw [if_neg c5] at H
     have c5b0 : decide (x11_1 < (l0.length : Int)) = false:=decide_eq_false c5
     clear c5
     obtain rfl:=Option.some.inj H
     go_wp2
     go_ret
     exact ⟨by first | rfl | (simp [errW_none,errW_some] <;> rfl) | (simp [*,errW_none,errW_some] <;> rfl),by repeat (first | (with_reducible first | exact HB.out | apply below_alloc | apply pw_below_drewN | apply below_drew1) | exact HB.out)⟩
 ·rw [if_neg c3] at H
  have c3b0 : (t900 == 0) = false:=beq_eq_false_iff_ne.mpr c3
  have c3b1 : (t900 != 0) = true:=bne_iff_ne.mpr c3
  obtain rfl:=Option.some.inj H
  go_enter Try.func24,Try.ntmps24
  go_wp2_with (first | ((with_reducible refine gate_callee (f:=22) rfl ?_);refine goesL_ (some 7) rfl rfl Try.func22 (by kernel_rfl) rfl #[.slice A0 l0.length c0] rfl (by (try simp only [List.map_toArray,List.map_cons,List.map_nil]);first | done | rfl | (simp only [List.length_drop,List.length_take];rfl)) ?_;(with_reducible refine (undo_Check.calls _ _ l0 t900 _ ?side1 ?side2 A2.out).mono ?_);(case side1 => repeat (first | exact HR0.out | (with_reducible refine Kd.C_alloc ?_ _) | (with_reducible refine Kd.C_drewN ?_ _) | (with_reducible refine Kd.C_drew ?_)));(case side2 => exact HC0.out);rintro e w16 ⟨rfl,hb⟩;refine ⟨_,rfl,?_⟩;have n0_:=Aside0.mk (below_step (by repeat (first | (with_reducible first | exact HB.out | apply below_alloc | apply pw_below_drewN | apply below_drew1) | exact HB.out)) hb);clear HB;have HB:=n0_;clear n0_;(try clear hb);(try clear hb2);(try clear hk);(try clear hi)))
  go_ret
  exact ⟨by first | rfl | (simp [errW_none,errW_some] <;> rfl) | (simp [*,errW_none,errW_some] <;> rfl),by repeat (first | (with_reducible first | exact HB.out | apply below_alloc | apply pw_below_drewN | apply below_drew1) | exact HB.out)⟩
end Go.Proofs.Ytdcllbhkjcdnoaa.P
namespace Go.Proofs.Ytdcllbhkjcdnoaa.P
open Go.RowKit Go.Proofs.YtdcllbhkjcdnoaaW.PrintWords Go.Proofs.YtdcllbhkjcdnoaaW.PrintLast Go.Proofs.YtdcllbhkjcdnoaaW.PrintMore
attribute [local go_sem] max2_int min2_int max_two min_two max_three min_three max_four min_four   -- for this text's walks alone
attribute [local go_sem] run_store_float
set_option linter.unusedVariables false
set_option linter.unusedSimpArgs false
def humusref09_List.l0 : Nat → List (S32) → List (S32) → Int → Option (Bool)
 | 0,_,_,_ => none
 | k + 1,x0,x1,x5 => if x5 < (x0.length : Int) then (if 0 ≤ x5 then (if x5 < (x1.length : Int) then ((humusref09_Same.f k ((rd_T32 x0 x5).f0) ((rd_T32 x0 x5).f1) ((rd_T32 x0 x5).f2) ((rd_T32 x0 x5).f3) ((rd_T32 x0 x5).f4) ((rd_T32 x0 x5).f5) ((rd_T32 x0 x5).f6.f0) ((rd_T32 x0 x5).f6.f1) ((rd_T32 x0 x5).f6.f2) ((rd_T32 x0 x5).f6.f3) ((rd_T32 x0 x5).f6.f4.f0) ((rd_T32 x0 x5).f6.f4.f1) ((rd_T32 x1 x5).f0) ((rd_T32 x1 x5).f1) ((rd_T32 x1 x5).f2) ((rd_T32 x1 x5).f3) ((rd_T32 x1 x5).f4) ((rd_T32 x1 x5).f5) ((rd_T32 x1 x5).f6.f0) ((rd_T32 x1 x5).f6.f1) ((rd_T32 x1 x5).f6.f2) ((rd_T32 x1 x5).f6.f3) ((rd_T32 x1 x5).f6.f4.f0) ((rd_T32 x1 x5).f6.f4.f1)).bind fun t923 => (if t923 = true then (humusref09_List.l0 k x0 x1 (wrap64 (x5 + 1))) else (some false))) else (none)) else (none)) else (some true)
def humusref09_List.f (k : Nat) (l0 : List (S32)) (l1 : List (S32)) : Option (Bool):=if (l0.length : Int) = (l1.length : Int) then (humusref09_List.l0 k l0 l1 0) else (some false)
def humusref09_List.T6 : Bool × List (List Nat × List Nat):=(true,[([],[]),([],[]),([0,1],[0,1]),([2],[2]),([],[]),([],[]),([4,5],[4,5]),([6],[6]),([3,7],[3,7]),([8],[8])])
def humusref09_List.B6 : List Nat:=[0,0,3,7,0,0,48,112,255,511]
theorem humusref09_List.tab6 : rtab .any (opsOf Try.f26 6) = humusref09_List.T6:=by kernel_rfl
theorem humusref09_List.bits6 : waitsOk humusref09_List.T6.2 humusref09_List.B6 = true:=by kernel_rfl
set_option maxHeartbeats 8000000 in
set_option maxRecDepth 100000 in
theorem humusref09_List.calls (k : Nat) (A0 : Option Addr) (c0 : Nat) (l0 : List (S32)) (A1 : Option Addr) (c1 : Nat) (l1 : List (S32)) (r : Bool) (w : World) (hr0 : Kd.C k32 w A0 l0.length l0) (hc0 : l0.length ≤ c0) (hr1 : Kd.C k32 w A1 l1.length l1) (hc1 : l1.length ≤ c1) (h : humusref09_List.f k l0 l1 = some r) :
  Calls Try.prog 26 #[.slice A0 l0.length c0,.slice A1 l1.length c1] w fun e w' => e = .returned (.bool r) ∧ Below w.heap.size w w':=by
 have hu32:=Try.underlying32
 have HR0:=Aside0.mk hr0
 have HC0:=Aside0.mk hc0
 clear hr0 hc0
 have HR1:=Aside0.mk hr1
 have HC1:=Aside0.mk hc1
 clear hr1 hc1
 have HB:=Aside0.mk (Below.refl w.heap.size w)
 have H : (if (l0.length : Int) = (l1.length : Int) then (humusref09_List.l0 k l0 l1 0) else (some false)) = some r:=h
 clear h
 by_cases c3 : (l0.length : Int) = (l1.length : Int)
 ·rw [if_pos c3] at H
  have c3b0 : ((l0.length : Int) == (l1.length : Int)) = true:=beq_iff_eq.mpr c3
  have c3b1 : ((l0.length : Int) != (l1.length : Int)) = false:=bne_eq_false_iff_eq.mpr c3
  have c3b2 : (l0.length == l1.length) = true:=by first | simpa using c3 | (simp at c3 ⊢;omega)
  clear c3
  have H':=Aside0.mk H
  clear H
  go_enter Try.func26,Try.ntmps26
  go_wp2
  go_loopg [5] k (fun kq v5 w' => ∃ (x5_1 : Int),v5 = .int .i64 x5_1 ∧ Aside0 (humusref09_List.l0 kq l0 l1 x5_1 = some r) ∧ Aside0 (kq ≤ k) ∧ Aside0 (Below w.heap.size w w'))
  case atStart => exact ⟨(0),(by first | rfl | (simp;done) | (simp [*];done)),H',⟨Nat.le_refl _⟩,⟨by repeat (first | (with_reducible first | exact HB.out | apply below_alloc | apply pw_below_drewN | apply below_drew1) | exact HB.out)⟩⟩
  case round =>
   clear H'
   try clear c1
   try clear c2
   try clear p2
   try clear c3
   try clear c3b0
   try clear c3b1
   try clear c3b2
   obtain ⟨x5_1,rfl,HA,HK1,HB⟩:=hrel
   cases gk with
   | zero => exact absurd HA.out (by simp [humusref09_List.l0])
   | succ k1 =>
    have H:=HA.out
    clear HA
    simp only [humusref09_List.l0] at H
    by_cases c4 : x5_1 < (l0.length : Int)
    ·rw [if_pos c4] at H
     have c4b0 : decide (x5_1 < (l0.length : Int)) = true:=decide_eq_true c4
     clear c4
     by_cases c5 : 0 ≤ x5_1
     ·rw [if_pos c5] at H
      have c5b0 : decide (0 ≤ x5_1) = true:=decide_eq_true c5
      clear c5
      by_cases c6 : x5_1 < (l1.length : Int)
      ·rw [if_pos c6] at H
       have c6b0 : decide (x5_1 < (l1.length : Int)) = true:=decide_eq_true c6
       clear c6
       replace H:=Option.bind_eq_some_iff.mp H
       obtain ⟨t923,A70,H⟩:=H
       replace H : (if t923 = true then (humusref09_List.l0 k1 l0 l1 (wrap64 (x5_1 + 1))) else (some false)) = some r:=H
       have A7:=Aside0.mk A70
       clear A70
       by_cases c8 : t923 = true
       ·subst c8
        have H1 : (humusref09_List.l0 k1 l0 l1 (wrap64 (x5_1 + 1))) = some r:=by rw [if_pos rfl] at H;exact H
        clear H
        have H:=H1
        clear H1
        have H':=Aside0.mk H
        clear H
        try go_wp2
        have n0_:=Aside0.mk (below_drew1 HB.out)
        clear HB
        have HB:=n0_
        clear n0_
        have p921 : 0 ≤ (x5_1 : Int):=of_decide_eq_true (by first | (with_reducible assumption) | assumption)
        have q921 : x5_1 < (l0.length : Int):=of_decide_eq_true (by first | (with_reducible assumption) | assumption)
        obtain ⟨ad921,A921_8,c921_8,e921,hx921_0,hx921_1,hx921_2,hx921_3,hx921_4,hx921_5,hx921_6,hx921_7,hx921_8,hx921_9,hx921_10,hx921_11,hl921_8,hi921_8⟩:=at_T32 HR0.out x5_1 p921 q921
        have hw921_11:=hx921_11
        have hw921_10:=hx921_10
        have hw921_9:=hx921_9
        have hw921_8:=hx921_8
        have hw921_7:=hx921_7
        have hw921_6:=hx921_6
        have hw921_5:=hx921_5
        have hw921_4:=hx921_4
        have hw921_3:=hx921_3
        have hw921_2:=hx921_2
        have hw921_1:=hx921_1
        have hw921_0:=hx921_0
        cases e921
        replace hx921_0:=(HB.out.cell (World.block_lt_of_cell? w _ hx921_0)).trans hx921_0
        replace hx921_1:=(HB.out.cell (World.block_lt_of_cell? w _ hx921_1)).trans hx921_1
        replace hx921_2:=(HB.out.cell (World.block_lt_of_cell? w _ hx921_2)).trans hx921_2
        replace hx921_3:=(HB.out.cell (World.block_lt_of_cell? w _ hx921_3)).trans hx921_3
        replace hx921_4:=(HB.out.cell (World.block_lt_of_cell? w _ hx921_4)).trans hx921_4
        replace hx921_5:=(HB.out.cell (World.block_lt_of_cell? w _ hx921_5)).trans hx921_5
        replace hx921_6:=(HB.out.cell (World.block_lt_of_cell? w _ hx921_6)).trans hx921_6
        replace hx921_7:=(HB.out.cell (World.block_lt_of_cell? w _ hx921_7)).trans hx921_7
        replace hx921_8:=(HB.out.cell (World.block_lt_of_cell? w _ hx921_8)).trans hx921_8
        replace hx921_9:=(HB.out.cell (World.block_lt_of_cell? w _ hx921_9)).trans hx921_9
        replace hx921_10:=(HB.out.cell (World.block_lt_of_cell? w _ hx921_10)).trans hx921_10
        replace hx921_11:=(HB.out.cell (World.block_lt_of_cell? w _ hx921_11)).trans hx921_11
        have HR921_8:=Aside0.mk hi921_8
        have HC921_8:=Aside0.mk hl921_8
        clear hi921_8 hl921_8
        replace p921:=eq_true p921
        replace q921:=eq_true q921
        have p922 : 0 ≤ (x5_1 : Int):=of_decide_eq_true (by first | (with_reducible assumption) | assumption)
        have q922 : x5_1 < (l1.length : Int):=of_decide_eq_true (by first | (with_reducible assumption) | assumption)
        obtain ⟨ad922,A922_8,c922_8,e922,hx922_0,hx922_1,hx922_2,hx922_3,hx922_4,hx922_5,hx922_6,hx922_7,hx922_8,hx922_9,hx922_10,hx922_11,hl922_8,hi922_8⟩:=at_T32 HR1.out x5_1 p922 q922
        have hw922_11:=hx922_11
        have hw922_10:=hx922_10
        have hw922_9:=hx922_9
        have hw922_8:=hx922_8
        have hw922_7:=hx922_7
        have hw922_6:=hx922_6
        have hw922_5:=hx922_5
        have hw922_4:=hx922_4
        have hw922_3:=hx922_3
        have hw922_2:=hx922_2
        have hw922_1:=hx922_1
        have hw922_0:=hx922_0
        cases e922
        replace hx922_0:=(HB.out.cell (World.block_lt_of_cell? w _ hx922_0)).trans hx922_0
        replace hx922_1:=(HB.out.cell (World.block_lt_of_cell? w _ hx922_1)).trans hx922_1
        replace hx922_2:=(HB.out.cell (World.block_lt_of_cell? w _ hx922_2)).trans hx922_2
        replace hx922_3:=(HB.out.cell (World.block_lt_of_cell? w _ hx922_3)).trans hx922_3
        replace hx922_4:=(HB.out.cell (World.block_lt_of_cell? w _ hx922_4)).trans hx922_4
        replace hx922_5:=(HB.out.cell (World.block_lt_of_cell? w _ hx922_5)).trans hx922_5
        replace hx922_6:=(HB.out.cell (World.block_lt_of_cell? w _ hx922_6)).trans hx922_6
        replace hx922_7:=(HB.out.cell (World.block_lt_of_cell? w _ hx922_7)).trans hx922_7
        replace hx922_8:=(HB.out.cell (World.block_lt_of_cell? w _ hx922_8)).trans hx922_8
        replace hx922_9:=(HB.out.cell (World.block_lt_of_cell? w _ hx922_9)).trans hx922_9
        replace hx922_10:=(HB.out.cell (World.block_lt_of_cell? w _ hx922_10)).trans hx922_10
        replace hx922_11:=(HB.out.cell (World.block_lt_of_cell? w _ hx922_11)).trans hx922_11
        have HR922_8:=Aside0.mk hi922_8
        have HC922_8:=Aside0.mk hl922_8
        clear hi922_8 hl922_8
        replace p922:=eq_true p922
        replace q922:=eq_true q922
        refine start_ (n:=10) (S:=fun w' => w'.cell? (ad921.add ((x5_1).toNat * 12)) = some (.int .i64 ((rd_T32 l0 x5_1).f0)) ∧ w'.cell? ⟨(ad921.add ((x5_1).toNat * 12)).block,(ad921.add ((x5_1).toNat * 12)).off + 1,none⟩ = some (.int .i64 ((rd_T32 l0 x5_1).f1)) ∧ w'.cell? ⟨(ad921.add ((x5_1).toNat * 12)).block,(ad921.add ((x5_1).toNat * 12)).off + 2,none⟩ = some (.int .i64 ((rd_T32 l0 x5_1).f2)) ∧ w'.cell? ⟨(ad921.add ((x5_1).toNat * 12)).block,(ad921.add ((x5_1).toNat * 12)).off + 3,none⟩ = some (.int .i64 ((rd_T32 l0 x5_1).f3)) ∧ w'.cell? ⟨(ad921.add ((x5_1).toNat * 12)).block,(ad921.add ((x5_1).toNat * 12)).off + 4,none⟩ = some (.int .i64 ((rd_T32 l0 x5_1).f4)) ∧ w'.cell? ⟨(ad921.add ((x5_1).toNat * 12)).block,(ad921.add ((x5_1).toNat * 12)).off + 5,none⟩ = some (.int .i64 ((rd_T32 l0 x5_1).f5)) ∧ w'.cell? ⟨(ad921.add ((x5_1).toNat * 12)).block,(ad921.add ((x5_1).toNat * 12)).off + 6,none⟩ = some (.float .f64 ((rd_T32 l0 x5_1).f6.f0)) ∧ w'.cell? ⟨(ad921.add ((x5_1).toNat * 12)).block,(ad921.add ((x5_1).toNat * 12)).off + 7,none⟩ = some (.bool ((rd_T32 l0 x5_1).f6.f1)) ∧ w'.cell? ⟨(ad921.add ((x5_1).toNat * 12)).block,(ad921.add ((x5_1).toNat * 12)).off + 8,none⟩ = some (.slice A921_8 ((rd_T32 l0 x5_1).f6.f2).length c921_8) ∧ w'.cell? ⟨(ad921.add ((x5_1).toNat * 12)).block,(ad921.add ((x5_1).toNat * 12)).off + 9,none⟩ = some (.int .i64 ((rd_T32 l0 x5_1).f6.f3)) ∧ w'.cell? ⟨(ad921.add ((x5_1).toNat * 12)).block,(ad921.add ((x5_1).toNat * 12)).off + 10,none⟩ = some (.int .i64 ((rd_T32 l0 x5_1).f6.f4.f0)) ∧ w'.cell? ⟨(ad921.add ((x5_1).toNat * 12)).block,(ad921.add ((x5_1).toNat * 12)).off + 11,none⟩ = some (.int .i64 ((rd_T32 l0 x5_1).f6.f4.f1)) ∧ w'.cell? (ad922.add ((x5_1).toNat * 12)) = some (.int .i64 ((rd_T32 l1 x5_1).f0)) ∧ w'.cell? ⟨(ad922.add ((x5_1).toNat * 12)).block,(ad922.add ((x5_1).toNat * 12)).off + 1,none⟩ = some (.int .i64 ((rd_T32 l1 x5_1).f1)) ∧ w'.cell? ⟨(ad922.add ((x5_1).toNat * 12)).block,(ad922.add ((x5_1).toNat * 12)).off + 2,none⟩ = some (.int .i64 ((rd_T32 l1 x5_1).f2)) ∧ w'.cell? ⟨(ad922.add ((x5_1).toNat * 12)).block,(ad922.add ((x5_1).toNat * 12)).off + 3,none⟩ = some (.int .i64 ((rd_T32 l1 x5_1).f3)) ∧ w'.cell? ⟨(ad922.add ((x5_1).toNat * 12)).block,(ad922.add ((x5_1).toNat * 12)).off + 4,none⟩ = some (.int .i64 ((rd_T32 l1 x5_1).f4)) ∧ w'.cell? ⟨(ad922.add ((x5_1).toNat * 12)).block,(ad922.add ((x5_1).toNat * 12)).off + 5,none⟩ = some (.int .i64 ((rd_T32 l1 x5_1).f5)) ∧ w'.cell? ⟨(ad922.add ((x5_1).toNat * 12)).block,(ad922.add ((x5_1).toNat * 12)).off + 6,none⟩ = some (.float .f64 ((rd_T32 l1 x5_1).f6.f0)) ∧ w'.cell? ⟨(ad922.add ((x5_1).toNat * 12)).block,(ad922.add ((x5_1).toNat * 12)).off + 7,none⟩ = some (.bool ((rd_T32 l1 x5_1).f6.f1)) ∧ w'.cell? ⟨(ad922.add ((x5_1).toNat * 12)).block,(ad922.add ((x5_1).toNat * 12)).off + 8,none⟩ = some (.slice A922_8 ((rd_T32 l1 x5_1).f6.f2).length c922_8) ∧ w'.cell? ⟨(ad922.add ((x5_1).toNat * 12)).block,(ad922.add ((x5_1).toNat * 12)).off + 9,none⟩ = some (.int .i64 ((rd_T32 l1 x5_1).f6.f3)) ∧ w'.cell? ⟨(ad922.add ((x5_1).toNat * 12)).block,(ad922.add ((x5_1).toNat * 12)).off + 10,none⟩ = some (.int .i64 ((rd_T32 l1 x5_1).f6.f4.f0)) ∧ w'.cell? ⟨(ad922.add ((x5_1).toNat * 12)).block,(ad922.add ((x5_1).toNat * 12)).off + 11,none⟩ = some (.int .i64 ((rd_T32 l1 x5_1).f6.f4.f1))) (ds:=[8]) #[ff,ff,ff,ff,ff,ff,ff,ff,ff,ff] (by kernel_rfl) rfl rfl ⟨((HB.out.cell (World.block_lt_of_cell? w _ hw921_0)).trans hw921_0),((HB.out.cell (World.block_lt_of_cell? w _ hw921_1)).trans hw921_1),((HB.out.cell (World.block_lt_of_cell? w _ hw921_2)).trans hw921_2),((HB.out.cell (World.block_lt_of_cell? w _ hw921_3)).trans hw921_3),((HB.out.cell (World.block_lt_of_cell? w _ hw921_4)).trans hw921_4),((HB.out.cell (World.block_lt_of_cell? w _ hw921_5)).trans hw921_5),((HB.out.cell (World.block_lt_of_cell? w _ hw921_6)).trans hw921_6),((HB.out.cell (World.block_lt_of_cell? w _ hw921_7)).trans hw921_7),((HB.out.cell (World.block_lt_of_cell? w _ hw921_8)).trans hw921_8),((HB.out.cell (World.block_lt_of_cell? w _ hw921_9)).trans hw921_9),((HB.out.cell (World.block_lt_of_cell? w _ hw921_10)).trans hw921_10),((HB.out.cell (World.block_lt_of_cell? w _ hw921_11)).trans hw921_11),((HB.out.cell (World.block_lt_of_cell? w _ hw922_0)).trans hw922_0),((HB.out.cell (World.block_lt_of_cell? w _ hw922_1)).trans hw922_1),((HB.out.cell (World.block_lt_of_cell? w _ hw922_2)).trans hw922_2),((HB.out.cell (World.block_lt_of_cell? w _ hw922_3)).trans hw922_3),((HB.out.cell (World.block_lt_of_cell? w _ hw922_4)).trans hw922_4),((HB.out.cell (World.block_lt_of_cell? w _ hw922_5)).trans hw922_5),((HB.out.cell (World.block_lt_of_cell? w _ hw922_6)).trans hw922_6),((HB.out.cell (World.block_lt_of_cell? w _ hw922_7)).trans hw922_7),((HB.out.cell (World.block_lt_of_cell? w _ hw922_8)).trans hw922_8),((HB.out.cell (World.block_lt_of_cell? w _ hw922_9)).trans hw922_9),((HB.out.cell (World.block_lt_of_cell? w _ hw922_10)).trans hw922_10),((HB.out.cell (World.block_lt_of_cell? w _ hw922_11)).trans hw922_11)⟩ (fun hHeld => ?_);refine with_tabW humusref09_List.tab6 humusref09_List.bits6 (fun HT_ HW_ => ?_)
        generalize wr.drew = w9 at HB HR921_8 HR922_8 hx921_0 hx921_1 hx921_10 hx921_11 hx921_2 hx921_3 hx921_4 hx921_5 hx921_6 hx921_7 hx921_8 hx921_9 hx922_0 hx922_1 hx922_10 hx922_11 hx922_2 hx922_3 hx922_4 hx922_5 hx922_6 hx922_7 hx922_8 hx922_9 hHeld ⊢
        refine pure_ (i:=0) (N:=some 17) (v:=?_) (a':=?_) #[tt,ff,ff,ff,ff,ff,ff,ff,ff,ff] rfl rfl (any_of HT_.out (by kernel_rfl)) (fun _ _ _ h => h) (Or.inl ⟨by rfl,?_⟩) ?_ ?_
        rotate_left
        ·intro w'
         go_simp
         with_reducible rfl
        rotate_left
        ·simp only [Act.put,q1_,q2_,q3_,i64_w,i32_w]
         rfl
        refine pure_ (i:=1) (N:=some 18) (v:=?_) (a':=?_) #[tt,tt,ff,ff,ff,ff,ff,ff,ff,ff] rfl rfl (any_of HT_.out (by kernel_rfl)) (fun _ _ _ h => h) (Or.inl ⟨by rfl,?_⟩) ?_ ?_
        rotate_left
        ·intro w'
         go_simp
         with_reducible rfl
        rotate_left
        ·simp only [Act.put,q1_,q2_,q3_,i64_w,i32_w]
         rfl
        refine pure_ (i:=2) (N:=some 19) (v:=?_) (a':=?_) #[tt,tt,tt,ff,ff,ff,ff,ff,ff,ff] rfl rfl (any_of HT_.out (by kernel_rfl)) (fun _ _ _ h => h) (Or.inl ⟨by rfl,?_⟩) ?_ ?_
        rotate_left
        ·intro w'
         go_simp
         with_reducible rfl
        rotate_left
        ·simp only [Act.put,q1_,q2_,q3_,i64_w,i32_w]
         rfl
        refine pure_ (i:=4) (N:=some 21) (v:=?_) (a':=?_) #[tt,tt,tt,ff,tt,ff,ff,ff,ff,ff] rfl rfl (any_of HT_.out (by kernel_rfl)) (fun _ _ _ h => h) (Or.inl ⟨by rfl,?_⟩) ?_ ?_
        rotate_left
        ·intro w'
         go_simp
         with_reducible rfl
        rotate_left
        ·simp only [Act.put,q1_,q2_,q3_,i64_w,i32_w]
         rfl
        refine pure_ (i:=5) (N:=some 22) (v:=?_) (a':=?_) #[tt,tt,tt,ff,tt,tt,ff,ff,ff,ff] rfl rfl (any_of HT_.out (by kernel_rfl)) (fun _ _ _ h => h) (Or.inl ⟨by rfl,?_⟩) ?_ ?_
        rotate_left
        ·intro w'
         go_simp
         with_reducible rfl
        rotate_left
        ·simp only [Act.put,q1_,q2_,q3_,i64_w,i32_w]
         rfl
        refine pure_ (i:=6) (N:=some 23) (v:=?_) (a':=?_) #[tt,tt,tt,ff,tt,tt,tt,ff,ff,ff] rfl rfl (any_of HT_.out (by kernel_rfl)) (fun _ _ _ h => h) (Or.inl ⟨by rfl,?_⟩) ?_ ?_
        rotate_left
        ·intro w'
         go_simp
         with_reducible rfl
        rotate_left
        ·simp only [Act.put,q1_,q2_,q3_,i64_w,i32_w]
         rfl
        refine take_ (i:=3) (N:=some 20) (v:=?_) (a':=?_) #[tt,tt,tt,tt,tt,tt,tt,ff,ff,ff] rfl rfl (take_ofW HT_.out HW_.out (by kernel_rfl)) (fun _ _ _ h => h) (Or.inl ⟨by rfl,?_⟩) hHeld ?_ ?_
        rotate_left
        ·rintro w' ⟨s0,s1,s2,s3,s4,s5,s6,s7,s8,s9,s10,s11,s12,s13,s14,s15,s16,s17,s18,s19,s20,s21,s22,s23⟩
         go_simp
         with_reducible rfl
        rotate_left
        ·simp only [Act.put,q1_,q2_,q3_,i64_w,i32_w]
         rfl
        refine take_ (i:=7) (N:=some 24) (v:=?_) (a':=?_) #[tt,tt,tt,tt,tt,tt,tt,tt,ff,ff] rfl rfl (take_ofW HT_.out HW_.out (by kernel_rfl)) (fun _ _ _ h => h) (Or.inl ⟨by rfl,?_⟩) hHeld ?_ ?_
        rotate_left
        ·rintro w' ⟨s0,s1,s2,s3,s4,s5,s6,s7,s8,s9,s10,s11,s12,s13,s14,s15,s16,s17,s18,s19,s20,s21,s22,s23⟩
         go_simp
         with_reducible rfl
        rotate_left
        ·simp only [Act.put,q1_,q2_,q3_,i64_w,i32_w]
         rfl
        refine last_ (i:=8) (N:=some 25) #[tt,tt,tt,tt,tt,tt,tt,tt,tt,ff] rfl rfl (one_of HT_.out (by kernel_rfl)) (by decide) (fun K hK => ?_)
        refine goes_ Try.func51 (by kernel_rfl) rfl #[.agg #[.int .i64 ((rd_T32 l0 x5_1).f0),.int .i64 ((rd_T32 l0 x5_1).f1),.int .i64 ((rd_T32 l0 x5_1).f2),.int .i64 ((rd_T32 l0 x5_1).f3),.int .i64 ((rd_T32 l0 x5_1).f4),.int .i64 ((rd_T32 l0 x5_1).f5),.float .f64 ((rd_T32 l0 x5_1).f6.f0),.bool ((rd_T32 l0 x5_1).f6.f1),.slice A921_8 ((rd_T32 l0 x5_1).f6.f2).length c921_8,.int .i64 ((rd_T32 l0 x5_1).f6.f3),.int .i64 ((rd_T32 l0 x5_1).f6.f4.f0),.int .i64 ((rd_T32 l0 x5_1).f6.f4.f1)],.agg #[.int .i64 ((rd_T32 l1 x5_1).f0),.int .i64 ((rd_T32 l1 x5_1).f1),.int .i64 ((rd_T32 l1 x5_1).f2),.int .i64 ((rd_T32 l1 x5_1).f3),.int .i64 ((rd_T32 l1 x5_1).f4),.int .i64 ((rd_T32 l1 x5_1).f5),.float .f64 ((rd_T32 l1 x5_1).f6.f0),.bool ((rd_T32 l1 x5_1).f6.f1),.slice A922_8 ((rd_T32 l1 x5_1).f6.f2).length c922_8,.int .i64 ((rd_T32 l1 x5_1).f6.f3),.int .i64 ((rd_T32 l1 x5_1).f6.f4.f0),.int .i64 ((rd_T32 l1 x5_1).f6.f4.f1)]] (by rfl) rfl rfl (by (try simp only [List.map_toArray,List.map_cons,List.map_nil]);first | done | rfl | (simp only [List.length_drop,List.length_take];rfl)) ?_
        with_reducible refine (humusref09_Same.calls k1 ((rd_T32 l0 x5_1).f0) ((rd_T32 l0 x5_1).f1) ((rd_T32 l0 x5_1).f2) ((rd_T32 l0 x5_1).f3) ((rd_T32 l0 x5_1).f4) ((rd_T32 l0 x5_1).f5) ((rd_T32 l0 x5_1).f6.f0) ((rd_T32 l0 x5_1).f6.f1) _ _ ((rd_T32 l0 x5_1).f6.f2) ((rd_T32 l0 x5_1).f6.f3) ((rd_T32 l0 x5_1).f6.f4.f0) ((rd_T32 l0 x5_1).f6.f4.f1) ((rd_T32 l1 x5_1).f0) ((rd_T32 l1 x5_1).f1) ((rd_T32 l1 x5_1).f2) ((rd_T32 l1 x5_1).f3) ((rd_T32 l1 x5_1).f4) ((rd_T32 l1 x5_1).f5) ((rd_T32 l1 x5_1).f6.f0) ((rd_T32 l1 x5_1).f6.f1) _ _ ((rd_T32 l1 x5_1).f6.f2) ((rd_T32 l1 x5_1).f6.f3) ((rd_T32 l1 x5_1).f6.f4.f0) ((rd_T32 l1 x5_1).f6.f4.f1) true _ ?side1 ?side2 ?side3 ?side4 A7.out).mono ?_
        (case side1 => repeat (first | exact (Kd.C_below HR921_8.out HB.out) | (with_reducible refine Kd.C_alloc ?_ _) | (with_reducible refine Kd.C_drewN ?_ _) | (with_reducible refine Kd.C_drew ?_)))
        (case side2 => exact HC921_8.out)
        (case side3 => repeat (first | exact (Kd.C_below HR922_8.out HB.out) | (with_reducible refine Kd.C_alloc ?_ _) | (with_reducible refine Kd.C_drewN ?_ _) | (with_reducible refine Kd.C_drew ?_)))
        (case side4 => exact HC922_8.out)
        rintro e w10 ⟨rfl,hb⟩
        refine ⟨_,rfl,?_⟩
        have n0_:=Aside0.mk (below_step (by repeat (first | (with_reducible first | exact HB.out | apply below_alloc | apply pw_below_drewN | apply below_drew1) | exact HB.out)) hb)
        clear HB
        have HB:=n0_
        clear n0_
        (try clear hb)
        (try clear hb2)
        (try clear hk)
        (try clear hi)
        refine hK.out _ _ ?_
        clear hK K
        refine norm_ (a':=?_) ?_ ?_
        rotate_left
        ·show Act.put _ (some 25) _ = _
         simp only [Act.put,q1_,q2_,q3_,i64_w,i32_w]
         rfl
        refine pure_ (i:=9) (N:=some 26) (v:=?_) (a':=?_) #[tt,tt,tt,tt,tt,tt,tt,tt,tt,tt] rfl rfl (any_of HT_.out (by kernel_rfl)) (fun _ _ _ h => h) (Or.inl ⟨by rfl,?_⟩) ?_ ?_
        rotate_left
        ·intro w'
         go_simp
         with_reducible rfl
        rotate_left
        ·simp only [Act.put,q1_,q2_,q3_,i64_w,i32_w]
         rfl
        refine done_ (done_of HT_.out (by kernel_rfl)) ?_
        try go_wp2
        go_roundg k1
        case measure => have:=HK1.out;omega
        case rel => exact ⟨(wrap64 (x5_1 + 1)),(by first | rfl | (simp;done) | (simp [*];done)),H',⟨by have:=HK1.out;omega⟩,⟨by repeat (first | (with_reducible first | exact HB.out | apply below_alloc | apply pw_below_drewN | apply below_drew1) | exact HB.out)⟩⟩
       ·replace c8:=Bool.eq_false_iff.mpr c8
        subst c8
        have H1 : (some false) = some r:=by rw [if_neg (show ¬ (false = true) by decide)] at H;exact H
        clear H
        have H:=H1
        clear H1
        obtain rfl:=Option.some.inj H
        try go_wp2
        have n0_:=Aside0.mk (below_drew1 HB.out)
        clear HB
        have HB:=n0_
        clear n0_
        have p921 : 0 ≤ (x5_1 : Int):=of_decide_eq_true (by first | (with_reducible assumption) | assumption)
        have q921 : x5_1 < (l0.length : Int):=of_decide_eq_true (by first | (with_reducible assumption) | assumption)
        obtain ⟨ad921,A921_8,c921_8,e921,hx921_0,hx921_1,hx921_2,hx921_3,hx921_4,hx921_5,hx921_6,hx921_7,hx921_8,hx921_9,hx921_10,hx921_11,hl921_8,hi921_8⟩:=at_T32 HR0.out x5_1 p921 q921
        have hw921_11:=hx921_11
        have hw921_10:=hx921_10
        have hw921_9:=hx921_9
        have hw921_8:=hx921_8
        have hw921_7:=hx921_7
        have hw921_6:=hx921_6
        have hw921_5:=hx921_5
        have hw921_4:=hx921_4
        have hw921_3:=hx921_3
        have hw921_2:=hx921_2
        have hw921_1:=hx921_1
        have hw921_0:=hx921_0
        cases e921
        replace hx921_0:=(HB.out.cell (World.block_lt_of_cell? w _ hx921_0)).trans hx921_0
        replace hx921_1:=(HB.out.cell (World.block_lt_of_cell? w _ hx921_1)).trans hx921_1
        replace hx921_2:=(HB.out.cell (World.block_lt_of_cell? w _ hx921_2)).trans hx921_2
        replace hx921_3:=(HB.out.cell (World.block_lt_of_cell? w _ hx921_3)).trans hx921_3
        replace hx921_4:=(HB.out.cell (World.block_lt_of_cell? w _ hx921_4)).trans hx921_4
        replace hx921_5:=(HB.out.cell (World.block_lt_of_cell? w _ hx921_5)).trans hx921_5
        replace hx921_6:=(HB.out.cell (World.block_lt_of_cell? w _ hx921_6)).trans hx921_6
        replace hx921_7:=(HB.out.cell (World.block_lt_of_cell? w _ hx921_7)).trans hx921_7
        replace hx921_8:=(HB.out.cell (World.block_lt_of_cell? w _ hx921_8)).trans hx921_8
        replace hx921_9:=(HB.out.cell (World.block_lt_of_cell? w _ hx921_9)).trans hx921_9
        replace hx921_10:=(HB.out.cell (World.block_lt_of_cell? w _ hx921_10)).trans hx921_10
        replace hx921_11:=(HB.out.cell (World.block_lt_of_cell? w _ hx921_11)).trans hx921_11
        have HR921_8:=Aside0.mk hi921_8
        have HC921_8:=Aside0.mk hl921_8
        clear hi921_8 hl921_8
        replace p921:=eq_true p921
        replace q921:=eq_true q921
        have p922 : 0 ≤ (x5_1 : Int):=of_decide_eq_true (by first | (with_reducible assumption) | assumption)
        have q922 : x5_1 < (l1.length : Int):=of_decide_eq_true (by first | (with_reducible assumption) | assumption)
        obtain ⟨ad922,A922_8,c922_8,e922,hx922_0,hx922_1,hx922_2,hx922_3,hx922_4,hx922_5,hx922_6,hx922_7,hx922_8,hx922_9,hx922_10,hx922_11,hl922_8,hi922_8⟩:=at_T32 HR1.out x5_1 p922 q922
        have hw922_11:=hx922_11
        have hw922_10:=hx922_10
        have hw922_9:=hx922_9
        have hw922_8:=hx922_8
        have hw922_7:=hx922_7
        have hw922_6:=hx922_6
        have hw922_5:=hx922_5
        have hw922_4:=hx922_4
        have hw922_3:=hx922_3
        have hw922_2:=hx922_2
        have hw922_1:=hx922_1
        have hw922_0:=hx922_0
        cases e922
        replace hx922_0:=(HB.out.cell (World.block_lt_of_cell? w _ hx922_0)).trans hx922_0
        replace hx922_1:=(HB.out.cell (World.block_lt_of_cell? w _ hx922_1)).trans hx922_1
        replace hx922_2:=(HB.out.cell (World.block_lt_of_cell? w _ hx922_2)).trans hx922_2
        replace hx922_3:=(HB.out.cell (World.block_lt_of_cell? w _ hx922_3)).trans hx922_3
        replace hx922_4:=(HB.out.cell (World.block_lt_of_cell? w _ hx922_4)).trans hx922_4
        replace hx922_5:=(HB.out.cell (World.block_lt_of_cell? w _ hx922_5)).trans hx922_5
        replace hx922_6:=(HB.out.cell (World.block_lt_of_cell? w _ hx922_6)).trans hx922_6
        replace hx922_7:=(HB.out.cell (World.block_lt_of_cell? w _ hx922_7)).trans hx922_7
        replace hx922_8:=(HB.out.cell (World.block_lt_of_cell? w _ hx922_8)).trans hx922_8
        replace hx922_9:=(HB.out.cell (World.block_lt_of_cell? w _ hx922_9)).trans hx922_9
        replace hx922_10:=(HB.out.cell (World.block_lt_of_cell? w _ hx922_10)).trans hx922_10
        replace hx922_11:=(HB.out.cell (World.block_lt_of_cell? w _ hx922_11)).trans hx922_11
        have HR922_8:=Aside0.mk hi922_8
        have HC922_8:=Aside0.mk hl922_8
        clear hi922_8 hl922_8
        replace p922:=eq_true p922
        replace q922:=eq_true q922
        refine start_ (n:=10) (S:=fun w' => w'.cell? (ad921.add ((x5_1).toNat * 12)) = some (.int .i64 ((rd_T32 l0 x5_1).f0)) ∧ w'.cell? ⟨(ad921.add ((x5_1).toNat * 12)).block,(ad921.add ((x5_1).toNat * 12)).off + 1,none⟩ = some (.int .i64 ((rd_T32 l0 x5_1).f1)) ∧ w'.cell? ⟨(ad921.add ((x5_1).toNat * 12)).block,(ad921.add ((x5_1).toNat * 12)).off + 2,none⟩ = some (.int .i64 ((rd_T32 l0 x5_1).f2)) ∧ w'.cell? ⟨(ad921.add ((x5_1).toNat * 12)).block,(ad921.add ((x5_1).toNat * 12)).off + 3,none⟩ = some (.int .i64 ((rd_T32 l0 x5_1).f3)) ∧ w'.cell? ⟨(ad921.add ((x5_1).toNat * 12)).block,(ad921.add ((x5_1).toNat * 12)).off + 4,none⟩ = some (.int .i64 ((rd_T32 l0 x5_1).f4)) ∧ w'.cell? ⟨(ad921.add ((x5_1).toNat * 12)).block,(ad921.add ((x5_1).toNat * 12)).off + 5,none⟩ = some (.int .i64 ((rd_T32 l0 x5_1).f5)) ∧ w'.cell? ⟨(ad921.add ((x5_1).toNat * 12)).block,(ad921.add ((x5_1).toNat * 12)).off + 6,none⟩ = some (.float .f64 ((rd_T32 l0 x5_1).f6.f0)) ∧ w'.cell? ⟨(ad921.add ((x5_1).toNat * 12)).block,(ad921.add ((x5_1).toNat * 12)).off + 7,none⟩ = some (.bool ((rd_T32 l0 x5_1).f6.f1)) ∧ w'.cell? ⟨(ad921.add ((x5_1).toNat * 12)).block,(ad921.add ((x5_1).toNat * 12)).off + 8,none⟩ = some (.slice A921_8 ((rd_T32 l0 x5_1).f6.f2).length c921_8) ∧ w'.cell? ⟨(ad921.add ((x5_1).toNat * 12)).block,(ad921.add ((x5_1).toNat * 12)).off + 9,none⟩ = some (.int .i64 ((rd_T32 l0 x5_1).f6.f3)) ∧ w'.cell? ⟨(ad921.add ((x5_1).toNat * 12)).block,(ad921.add ((x5_1).toNat * 12)).off + 10,none⟩ = some (.int .i64 ((rd_T32 l0 x5_1).f6.f4.f0)) ∧ w'.cell? ⟨(ad921.add ((x5_1).toNat * 12)).block,(ad921.add ((x5_1).toNat * 12)).off + 11,none⟩ = some (.int .i64 ((rd_T32 l0 x5_1).f6.f4.f1)) ∧ w'.cell? (ad922.add ((x5_1).toNat * 12)) = some (.int .i64 ((rd_T32 l1 x5_1).f0)) ∧ w'.cell? ⟨(ad922.add ((x5_1).toNat * 12)).block,(ad922.add ((x5_1).toNat * 12)).off + 1,none⟩ = some (.int .i64 ((rd_T32 l1 x5_1).f1)) ∧ w'.cell? ⟨(ad922.add ((x5_1).toNat * 12)).block,(ad922.add ((x5_1).toNat * 12)).off + 2,none⟩ = some (.int .i64 ((rd_T32 l1 x5_1).f2)) ∧ w'.cell? ⟨(ad922.add ((x5_1).toNat * 12)).block,(ad922.add ((x5_1).toNat * 12)).off + 3,none⟩ = some (.int .i64 ((rd_T32 l1 x5_1).f3)) ∧ w'.cell? ⟨(ad922.add ((x5_1).toNat * 12)).block,(ad922.add ((x5_1).toNat * 12)).off + 4,none⟩ = some (.int .i64 ((rd_T32 l1 x5_1).f4)) ∧ w'.cell? ⟨(ad922.add ((x5_1).toNat * 12)).block,(ad922.add ((x5_1).toNat * 12)).off + 5,none⟩ = some (.int .i64 ((rd_T32 l1 x5_1).f5)) ∧ w'.cell? ⟨(ad922.add ((x5_1).toNat * 12)).block,(ad922.add ((x5_1).toNat * 12)).off + 6,none⟩ = some (.float .f64 ((rd_T32 l1 x5_1).f6.f0)) ∧ w'.cell? ⟨(ad922.add ((x5_1).toNat * 12)).block,(ad922.add ((x5_1).toNat * 12)).off + 7,none⟩ = some (.bool ((rd_T32 l1 x5_1).f6.f1)) ∧ w'.cell? ⟨(ad922.add ((x5_1).toNat * 12)).block,(ad922.add ((x5_1).toNat * 12)).off + 8,none⟩ = some (.slice A922_8 ((rd_T32 l1 x5_1).f6.f2).length c922_8) ∧ w'.cell? ⟨(ad922.add ((x5_1).toNat * 12)).block,(ad922.add ((x5_1).toNat * 12)).off + 9,none⟩ = some (.int .i64 ((rd_T32 l1 x5_1).f6.f3)) ∧ w'.cell? ⟨(ad922.add ((x5_1).toNat * 12)).block,(ad922.add ((x5_1).toNat * 12)).off + 10,none⟩ = some (.int .i64 ((rd_T32 l1 x5_1).f6.f4.f0)) ∧ w'.cell? ⟨(ad922.add ((x5_1).toNat * 12)).block,(ad922.add ((x5_1).toNat * 12)).off + 11,none⟩ = some (.int .i64 ((rd_T32 l1 x5_1).f6.f4.f1))) (ds:=[8]) #[ff,ff,ff,ff,ff,ff,ff,ff,ff,ff] (by kernel_rfl) rfl rfl ⟨((HB.out.cell (World.block_lt_of_cell? w _ hw921_0)).trans hw921_0),((HB.out.cell (World.block_lt_of_cell? w _ hw921_1)).trans hw921_1),((HB.out.cell (World.block_lt_of_cell? w _ hw921_2)).trans hw921_2),((HB.out.cell (World.block_lt_of_cell? w _ hw921_3)).trans hw921_3),((HB.out.cell (World.block_lt_of_cell? w _ hw921_4)).trans hw921_4),((HB.out.cell (World.block_lt_of_cell? w _ hw921_5)).trans hw921_5),((HB.out.cell (World.block_lt_of_cell? w _ hw921_6)).trans hw921_6),((HB.out.cell (World.block_lt_of_cell? w _ hw921_7)).trans hw921_7),((HB.out.cell (World.block_lt_of_cell? w _ hw921_8)).trans hw921_8),((HB.out.cell (World.block_lt_of_cell? w _ hw921_9)).trans hw921_9),((HB.out.cell (World.block_lt_of_cell? w _ hw921_10)).trans hw921_10),((HB.out.cell (World.block_lt_of_cell? w _ hw921_11)).trans hw921_11),((HB.out.cell (World.block_lt_of_cell? w _ hw922_0)).trans hw922_0),((HB.out.cell (World.block_lt_of_cell? w _ hw922_1)).trans hw922_1),((HB.out.cell (World.block_lt_of_cell? w _ hw922_2)).trans hw922_2),((HB.out.cell (World.block_lt_of_cell? w _ hw922_3)).trans hw922_3),((HB.out.cell (World.block_lt_of_cell? w _ hw922_4)).trans hw922_4),((HB.out.cell (World.block_lt_of_cell? w _ hw922_5)).trans hw922_5),((HB.out.cell (World.block_lt_of_cell? w _ hw922_6)).trans hw922_6),((HB.out.cell (World.block_lt_of_cell? w _ hw922_7)).trans hw922_7),((HB.out.cell (World.block_lt_of_cell? w _ hw922_8)).trans hw922_8),((HB.out.cell (World.block_lt_of_cell? w _ hw922_9)).trans hw922_9),((HB.out.cell (World.block_lt_of_cell? w _ hw922_10)).trans hw922_10),((HB.out.cell (World.block_lt_of_cell? w _ hw922_11)).trans hw922_11)⟩ (fun hHeld => ?_);refine with_tabW humusref09_List.tab6 humusref09_List.bits6 (fun HT_ HW_ => ?_)
        generalize wr.drew = w11 at HB HR921_8 HR922_8 hx921_0 hx921_1 hx921_10 hx921_11 hx921_2 hx921_3 hx921_4 hx921_5 hx921_6 hx921_7 hx921_8 hx921_9 hx922_0 hx922_1 hx922_10 hx922_11 hx922_2 hx922_3 hx922_4 hx922_5 hx922_6 hx922_7 hx922_8 hx922_9 hHeld ⊢
        refine pure_ (i:=0) (N:=some 17) (v:=?_) (a':=?_) #[tt,ff,ff,ff,ff,ff,ff,ff,ff,ff] rfl rfl (any_of HT_.out (by kernel_rfl)) (fun _ _ _ h => h) (Or.inl ⟨by rfl,?_⟩) ?_ ?_
        rotate_left
        ·intro w'
         go_simp
         with_reducible rfl
        rotate_left
        ·simp only [Act.put,q1_,q2_,q3_,i64_w,i32_w]
         rfl
        refine pure_ (i:=1) (N:=some 18) (v:=?_) (a':=?_) #[tt,tt,ff,ff,ff,ff,ff,ff,ff,ff] rfl rfl (any_of HT_.out (by kernel_rfl)) (fun _ _ _ h => h) (Or.inl ⟨by rfl,?_⟩) ?_ ?_
        rotate_left
        ·intro w'
         go_simp
         with_reducible rfl
        rotate_left
        ·simp only [Act.put,q1_,q2_,q3_,i64_w,i32_w]
         rfl
        refine pure_ (i:=2) (N:=some 19) (v:=?_) (a':=?_) #[tt,tt,tt,ff,ff,ff,ff,ff,ff,ff] rfl rfl (any_of HT_.out (by kernel_rfl)) (fun _ _ _ h => h) (Or.inl ⟨by rfl,?_⟩) ?_ ?_
        rotate_left
        ·intro w'
         go_simp
         with_reducible rfl
        rotate_left
        ·simp only [Act.put,q1_,q2_,q3_,i64_w,i32_w]
         rfl
        refine pure_ (i:=4) (N:=some 21) (v:=?_) (a':=?_) #[tt,tt,tt,ff,tt,ff,ff,ff,ff,ff] rfl rfl (any_of HT_.out (by kernel_rfl)) (fun _ _ _ h => h) (Or.inl ⟨by rfl,?_⟩) ?_ ?_
        rotate_left
        ·intro w'
         go_simp
         with_reducible rfl
        rotate_left
        ·simp only [Act.put,q1_,q2_,q3_,i64_w,i32_w]
         rfl
        refine pure_ (i:=5) (N:=some 22) (v:=?_) (a':=?_) #[tt,tt,tt,ff,tt,tt,ff,ff,ff,ff] rfl rfl (any_of HT_.out (by kernel_rfl)) (fun _ _ _ h => h) (Or.inl ⟨by rfl,?_⟩) ?_ ?_
        rotate_left
        ·intro w'
         go_simp
         with_reducible rfl
        rotate_left
        ·simp only [Act.put,q1_,q2_,q3_,i64_w,i32_w]
         rfl
        refine pure_ (i:=6) (N:=some 23) (v:=?_) (a':=?_) #[tt,tt,tt,ff,tt,tt,tt,ff,ff,ff] rfl rfl (any_of HT_.out (by kernel_rfl)) (fun _ _ _ h => h) (Or.inl ⟨by rfl,?_⟩) ?_ ?_
        rotate_left
        ·intro w'
         go_simp
         with_reducible rfl
        rotate_left
        ·simp only [Act.put,q1_,q2_,q3_,i64_w,i32_w]
         rfl
        refine take_ (i:=3) (N:=some 20) (v:=?_) (a':=?_) #[tt,tt,tt,tt,tt,tt,tt,ff,ff,ff] rfl rfl (take_ofW HT_.out HW_.out (by kernel_rfl)) (fun _ _ _ h => h) (Or.inl ⟨by rfl,?_⟩) hHeld ?_ ?_
        rotate_left
        ·rintro w' ⟨s0,s1,s2,s3,s4,s5,s6,s7,s8,s9,s10,s11,s12,s13,s14,s15,s16,s17,s18,s19,s20,s21,s22,s23⟩
         go_simp
         with_reducible rfl
        rotate_left
        ·simp only [Act.put,q1_,q2_,q3_,i64_w,i32_w]
         rfl
        refine take_ (i:=7) (N:=some 24) (v:=?_) (a':=?_) #[tt,tt,tt,tt,tt,tt,tt,tt,ff,ff] rfl rfl (take_ofW HT_.out HW_.out (by kernel_rfl)) (fun _ _ _ h => h) (Or.inl ⟨by rfl,?_⟩) hHeld ?_ ?_
        rotate_left
        ·rintro w' ⟨s0,s1,s2,s3,s4,s5,s6,s7,s8,s9,s10,s11,s12,s13,s14,s15,s16,s17,s18,s19,s20,s21,s22,s23⟩
         go_simp
         with_reducible rfl
        rotate_left
        ·simp only [Act.put,q1_,q2_,q3_,i64_w,i32_w]
         rfl
        refine last_ (i:=8) (N:=some 25) #[tt,tt,tt,tt,tt,tt,tt,tt,tt,ff] rfl rfl (one_of HT_.out (by kernel_rfl)) (by decide) (fun K hK => ?_)
        refine goes_ Try.func51 (by kernel_rfl) rfl #[.agg #[.int .i64 ((rd_T32 l0 x5_1).f0),.int .i64 ((rd_T32 l0 x5_1).f1),.int .i64 ((rd_T32 l0 x5_1).f2),.int .i64 ((rd_T32 l0 x5_1).f3),.int .i64 ((rd_T32 l0 x5_1).f4),.int .i64 ((rd_T32 l0 x5_1).f5),.float .f64 ((rd_T32 l0 x5_1).f6.f0),.bool ((rd_T32 l0 x5_1).f6.f1),.slice A921_8 ((rd_T32 l0 x5_1).f6.f2).length c921_8,.int .i64 ((rd_T32 l0 x5_1).f6.f3),.int .i64 ((rd_T32 l0 x5_1).f6.f4.f0),.int .i64 ((rd_T32 l0 x5_1).f6.f4.f1)],.agg #[.int .i64 ((rd_T32 l1 x5_1).f0),.int .i64 ((rd_T32 l1 x5_1).f1),.int .i64 ((rd_T32 l1 x5_1).f2),.int .i64 ((rd_T32 l1 x5_1).f3),.int .i64 ((rd_T32 l1 x5_1).f4),.int .i64 ((rd_T32 l1 x5_1).f5),.float .f64 ((rd_T32 l1 x5_1).f6.f0),.bool ((rd_T32 l1 x5_1).f6.f1),.slice A922_8 ((rd_T32 l1 x5_1).f6.f2).length c922_8,.int .i64 ((rd_T32 l1 x5_1).f6.f3),.int .i64 ((rd_T32 l1 x5_1).f6.f4.f0),.int .i64 ((rd_T32 l1 x5_1).f6.f4.f1)]] (by rfl) rfl rfl (by (try simp only [List.map_toArray,List.map_cons,List.map_nil]);first | done | rfl | (simp only [List.length_drop,List.length_take];rfl)) ?_
        with_reducible refine (humusref09_Same.calls k1 ((rd_T32 l0 x5_1).f0) ((rd_T32 l0 x5_1).f1) ((rd_T32 l0 x5_1).f2) ((rd_T32 l0 x5_1).f3) ((rd_T32 l0 x5_1).f4) ((rd_T32 l0 x5_1).f5) ((rd_T32 l0 x5_1).f6.f0) ((rd_T32 l0 x5_1).f6.f1) _ _ ((rd_T32 l0 x5_1).f6.f2) ((rd_T32 l0 x5_1).f6.f3) ((rd_T32 l0 x5_1).f6.f4.f0) ((rd_T32 l0 x5_1).f6.f4.f1) ((rd_T32 l1 x5_1).f0) ((rd_T32 l1 x5_1).f1) ((rd_T32 l1 x5_1).f2) ((rd_T32 l1 x5_1).f3) ((rd_T32 l1 x5_1).f4) ((rd_T32 l1 x5_1).f5) ((rd_T32 l1 x5_1).f6.f0) ((rd_T32 l1 x5_1).f6.f1) _ _ ((rd_T32 l1 x5_1).f6.f2) ((rd_T32 l1 x5_1).f6.f3) ((rd_T32 l1 x5_1).f6.f4.f0) ((rd_T32 l1 x5_1).f6.f4.f1) false _ ?side1 ?side2 ?side3 ?side4 A7.out).mono ?_
        (case side1 => repeat (first | exact (Kd.C_below HR921_8.out HB.out) | (with_reducible refine Kd.C_alloc ?_ _) | (with_reducible refine Kd.C_drewN ?_ _) | (with_reducible refine Kd.C_drew ?_)))
        (case side2 => exact HC921_8.out)
        (case side3 => repeat (first | exact (Kd.C_below HR922_8.out HB.out) | (with_reducible refine Kd.C_alloc ?_ _) | (with_reducible refine Kd.C_drewN ?_ _) | (with_reducible refine Kd.C_drew ?_)))
        (case side4 => exact HC922_8.out)
        rintro e w12 ⟨rfl,hb⟩
        refine ⟨_,rfl,?_⟩
        have n0_:=Aside0.mk (below_step (by repeat (first | (with_reducible first | exact HB.out | apply below_alloc | apply pw_below_drewN | apply below_drew1) | exact HB.out)) hb)
        clear HB
        have HB:=n0_
        clear n0_
        (try clear hb)
        (try clear hb2)
        (try clear hk)
        (try clear hi)
        refine hK.out _ _ ?_
        clear hK K
        refine norm_ (a':=?_) ?_ ?_
        rotate_left
        ·show Act.put _ (some 25) _ = _
         simp only [Act.put,q1_,q2_,q3_,i64_w,i32_w]
         rfl
        refine pure_ (i:=9) (N:=some 26) (v:=?_) (a':=?_) #[tt,tt,tt,tt,tt,tt,tt,tt,tt,tt] rfl rfl (any_of HT_.out (by kernel_rfl)) (fun _ _ _ h => h) (Or.inl ⟨by rfl,?_⟩) ?_ ?_
        rotate_left
        ·intro w'
         go_simp
         with_reducible rfl
        rotate_left
        ·simp only [Act.put,q1_,q2_,q3_,i64_w,i32_w]
         rfl
        refine done_ (done_of HT_.out (by kernel_rfl)) ?_
        try go_wp2
        go_ret
        exact ⟨by first | rfl | (simp [errW_none,errW_some] <;> rfl) | (simp [*,errW_none,errW_some] <;> rfl),by repeat (first | (with_reducible first | exact HB.out | apply below_alloc | apply pw_below_drewN | apply below_drew1) | exact HB.out)⟩
      ·rw [if_neg c6] at H
       exact absurd H (by simp)
     ·rw [if_neg c5] at H
      exact absurd H (by simp)
    ·rw [if_neg c4] at H
     have c4b0 : decide (x5_1 < (l0.length : Int)) = false:=decide_eq_false c4
     clear c4
     obtain rfl:=Option.some.inj H
     go_wp2
     go_ret
     exact ⟨by first | rfl | (simp [errW_none,errW_some] <;> rfl) | (simp [*,errW_none,errW_some] <;> rfl),by repeat (first | (with_reducible first | exact HB.out | apply below_alloc | apply pw_below_drewN | apply below_drew1) | exact HB.out)⟩
 ·rw [if_neg c3] at H
  have c3b0 : ((l0.length : Int) == (l1.length : Int)) = false:=beq_eq_false_iff_ne.mpr c3
  have c3b1 : ((l0.length : Int) != (l1.length : Int)) = true:=bne_iff_ne.mpr c3
  have c3b2 : (l0.length == l1.length) = false:=by first | simpa using c3 | (simp at c3 ⊢;omega)
  obtain rfl:=Option.some.inj H
  go_enter Try.func26,Try.ntmps26
  go_wp2
  go_ret
  exact ⟨by first | rfl | (simp [errW_none,errW_some] <;> rfl) | (simp [*,errW_none,errW_some] <;> rfl),by repeat (first | (with_reducible first | exact HB.out | apply below_alloc | apply pw_below_drewN | apply below_drew1) | exact HB.out)⟩
end Go.Proofs.Ytdcllbhkjcdnoaa.P
namespace Go.Proofs.Ytdcllbhkjcdnoaa.P
open Go.RowKit Go.Proofs.YtdcllbhkjcdnoaaW.PrintWords Go.Proofs.YtdcllbhkjcdnoaaW.PrintLast Go.Proofs.YtdcllbhkjcdnoaaW.PrintMore
attribute [local go_sem] max2_int min2_int max_two min_two max_three min_three max_four min_four   -- for this text's walks alone
attribute [local go_sem] run_store_float
set_option linter.unusedVariables false
set_option linter.unusedSimpArgs false
mutual
def humuslaw14_Light.l0 : Nat → List (S32) → Int → Option (Bool)
 | 0,_,_ => none
 | k + 1,x0,x3 => if x3 < (x0.length : Int) then (humuslaw14_Light.j1 k x0 x3 (decide (x3 < 30))) else (humuslaw14_Light.j1 k x0 x3 false)
def humuslaw14_Light.j1 : Nat → List (S32) → Int → Bool → Option (Bool)
 | 0,_,_,_ => none
 | k + 1,x0,x3,x11 => if x11 = true then (if 0 ≤ x3 then (if x3 < (x0.length : Int) then (if (((rd_T32 x0 x3).f6.f2).length : Int) > 20 then (some false) else (humuslaw14_Light.l0 k x0 (wrap64 (x3 + 1)))) else (none)) else (none)) else (some (decide ((x0.length : Int) ≤ 30)))
end
def humuslaw14_Light.f (k : Nat) (l0 : List (S32)) : Option (Bool):=humuslaw14_Light.l0 k l0 0
set_option maxHeartbeats 8000000 in
set_option maxRecDepth 100000 in
theorem humuslaw14_Light.calls (k : Nat) (A0 : Option Addr) (c0 : Nat) (l0 : List (S32)) (r : Bool) (w : World) (hr0 : Kd.C k32 w A0 l0.length l0) (hc0 : l0.length ≤ c0) (h : humuslaw14_Light.f k l0 = some r) :
  Calls Try.prog 20 #[.slice A0 l0.length c0] w fun e w' => e = .returned (.bool r) ∧ Drawn0 w w':=by
 have HR0:=Aside0.mk hr0
 have HC0:=Aside0.mk hc0
 clear hr0 hc0
 have H : (humuslaw14_Light.l0 k l0 0) = some r:=h
 clear h
 have H':=Aside0.mk H
 clear H
 go_enter Try.func20,Try.ntmps20
 go_wp2
 go_loopg [3] k (fun kq v3 w' => ∃ (x3_1 : Int),v3 = .int .i64 x3_1 ∧ Aside0 (humuslaw14_Light.l0 kq l0 x3_1 = some r) ∧ Aside0 (kq ≤ k) ∧ Drawn0 w w')
 case atStart => exact ⟨(0),(by first | rfl | (simp;done) | (simp [*];done)),H',⟨Nat.le_refl _⟩,by repeat (first | exact Drawn0.refl _ | apply Drawn0.step)⟩
 case round =>
  clear H'
  obtain ⟨x3_1,rfl,HA,HK1,⟨m1,rfl⟩⟩:=hrel
  cases gk with
  | zero => exact absurd HA.out (by simp [humuslaw14_Light.l0])
  | succ k1 =>
   have H:=HA.out
   clear HA
   simp only [humuslaw14_Light.l0] at H
   have HC2:=Aside0.mk H
   clear H
   go_upto_region 2 with (fail)
   go_cut [11] (fun v11 wc => ∃ (kq : Nat) (x11_1 : Bool),v11 = .bool x11_1 ∧ Aside0 (humuslaw14_Light.j1 kq l0 x3_1 x11_1 = some r) ∧ Aside0 (kq ≤ k1) ∧ Drawn0 w wc)
   case first =>
    have H:=HC2.out
    clear HC2
    by_cases c3 : x3_1 < (l0.length : Int)
    ·rw [if_pos c3] at H
     have c3b0 : decide (x3_1 < (l0.length : Int)) = true:=decide_eq_true c3
     clear c3
     (first | rw [c3b0] | (simp only [i64_w,i32_w];rw [c3b0]) | skip)
     have H':=Aside0.mk H
     clear H
     go_wp2
     go_meet
     case rel => exact ⟨_,(decide (x3_1 < 30)),(by first | rfl | (simp;done) | (simp [*];done)),H',⟨by have:=HK1.out;first | omega | exact Nat.le_refl _⟩,by repeat (first | exact Drawn0.refl _ | apply Drawn0.step)⟩
    ·rw [if_neg c3] at H
     have c3b0 : decide (x3_1 < (l0.length : Int)) = false:=decide_eq_false c3
     clear c3
     (first | rw [c3b0] | (simp only [i64_w,i32_w];rw [c3b0]) | skip)
     have H':=Aside0.mk H
     clear H
     go_wp2
     go_meet
     case rel => exact ⟨_,(false),(by first | rfl | (simp;done) | (simp [*];done)),H',⟨by have:=HK1.out;first | omega | exact Nat.le_refl _⟩,by repeat (first | exact Drawn0.refl _ | apply Drawn0.step)⟩
   case rest =>
    clear HC2
    try clear c2
    try clear p2
    try clear c3
    try clear c3b0
    obtain ⟨kq,x11_1,rfl,HA,HJ1,⟨mc1,rfl⟩⟩:=hcut
    cases kq with
    | zero => exact absurd HA.out (by simp [humuslaw14_Light.j1])
    | succ kj1 =>
     have H:=HA.out
     clear HA
     simp only [humuslaw14_Light.j1] at H
     by_cases c4 : x11_1 = true
     ·subst c4
      have H1 : (if 0 ≤ x3_1 then (if x3_1 < (l0.length : Int) then (if (((rd_T32 l0 x3_1).f6.f2).length : Int) > 20 then (some false) else (humuslaw14_Light.l0 kj1 l0 (wrap64 (x3_1 + 1)))) else (none)) else (none)) = some r:=by rw [if_pos rfl] at H;exact H
      clear H
      have H:=H1
      clear H1
      by_cases c5 : 0 ≤ x3_1
      ·rw [if_pos c5] at H
       have c5b0 : decide (0 ≤ x3_1) = true:=decide_eq_true c5
       clear c5
       by_cases c6 : x3_1 < (l0.length : Int)
       ·rw [if_pos c6] at H
        have c6b0 : decide (x3_1 < (l0.length : Int)) = true:=decide_eq_true c6
        clear c6
        by_cases c7 : (((rd_T32 l0 x3_1).f6.f2).length : Int) > 20
        ·rw [if_pos c7] at H
         have c7b0 : decide (20 < (((rd_T32 l0 x3_1).f6.f2).length : Int)) = true:=decide_eq_true c7
         have c7b1 : decide (20 < ((rd_T32 l0 x3_1).f6.f2).length) = true:=decide_eq_true (by omega)
         clear c7
         obtain rfl:=Option.some.inj H
         have p891 : 0 ≤ (x3_1 : Int):=of_decide_eq_true (by first | (with_reducible assumption) | assumption)
         have q891 : x3_1 < (l0.length : Int):=of_decide_eq_true (by first | (with_reducible assumption) | assumption)
         obtain ⟨ad891,A891_8,c891_8,e891,hx891_0,hx891_1,hx891_2,hx891_3,hx891_4,hx891_5,hx891_6,hx891_7,hx891_8,hx891_9,hx891_10,hx891_11,hl891_8,hi891_8⟩:=at_T32 HR0.out x3_1 p891 q891
         cases e891
         have HR891_8:=Aside0.mk hi891_8
         have HC891_8:=Aside0.mk hl891_8
         clear hi891_8 hl891_8
         replace p891:=eq_true p891
         replace q891:=eq_true q891
         go_wp2
         go_ret
         exact ⟨by first | rfl | (simp;done) | (simp [*];done),by repeat (first | exact Drawn0.refl _ | apply Drawn0.step)⟩
        ·rw [if_neg c7] at H
         have c7b0 : decide (20 < (((rd_T32 l0 x3_1).f6.f2).length : Int)) = false:=decide_eq_false c7
         have c7b1 : decide (20 < ((rd_T32 l0 x3_1).f6.f2).length) = false:=decide_eq_false (by omega)
         clear c7
         have H':=Aside0.mk H
         clear H
         have p891 : 0 ≤ (x3_1 : Int):=of_decide_eq_true (by first | (with_reducible assumption) | assumption)
         have q891 : x3_1 < (l0.length : Int):=of_decide_eq_true (by first | (with_reducible assumption) | assumption)
         obtain ⟨ad891,A891_8,c891_8,e891,hx891_0,hx891_1,hx891_2,hx891_3,hx891_4,hx891_5,hx891_6,hx891_7,hx891_8,hx891_9,hx891_10,hx891_11,hl891_8,hi891_8⟩:=at_T32 HR0.out x3_1 p891 q891
         cases e891
         have HR891_8:=Aside0.mk hi891_8
         have HC891_8:=Aside0.mk hl891_8
         clear hi891_8 hl891_8
         replace p891:=eq_true p891
         replace q891:=eq_true q891
         go_wp2
         go_roundg kj1
         case measure => have:=HK1.out;have:=HJ1.out;omega
         case rel => exact ⟨(wrap64 (x3_1 + 1)),(by first | rfl | (simp;done) | (simp [*];done)),H',⟨by have:=HK1.out;have:=HJ1.out;omega⟩,by repeat (first | exact Drawn0.refl _ | apply Drawn0.step)⟩
       ·rw [if_neg c6] at H
        exact absurd H (by simp)
      ·rw [if_neg c5] at H
       exact absurd H (by simp)
     ·replace c4:=Bool.eq_false_iff.mpr c4
      subst c4
      have H1 : (some (decide ((l0.length : Int) ≤ 30))) = some r:=by rw [if_neg (show ¬ (false = true) by decide)] at H;exact H
      clear H
      have H:=H1
      clear H1
      obtain rfl:=Option.some.inj H
      go_wp2
      go_ret
      exact ⟨by first | rfl | (simp;done) | (simp [*];done),by repeat (first | exact Drawn0.refl _ | apply Drawn0.step)⟩
end Go.Proofs.Ytdcllbhkjcdnoaa.P
set_option linter.unusedVariables false
set_option linter.unusedSimpArgs false
namespace Go.Proofs.Ytdcllbhkjcdnoaa.P
open Go.RowKit Go.Proofs.Ytdcllbhkjcdnoaa Go.Proofs.Ytdcllbhkjcdnoaa.Mem Go.Proofs.Ytdcllbhkjcdnoaa.Pac Go.Proofs.YtdcllbhkjcdnoaaW.PrintWords Go.Proofs.YtdcllbhkjcdnoaaW.PrintLast
theorem rEmpty_ev {k : Nat} {e : Und} (h : e.f6.f2.length ≤ 20) (hk : 21 ≤ k) : humusref10_Empty.f k e.f0 e.f1 e.f2 e.f3 e.f4 e.f5 e.f6.f0 e.f6.f1 e.f6.f2 e.f6.f3 e.f6.f4.f0 e.f6.f4.f1 = some (emptyU e) := by
  unfold humusref10_Empty.f
  rw [rSameU_ev (by omega) (by omega)]; rfl
def LightU (l : List Und) : Prop := l.length ≤ 30 ∧ (∀ e ∈ l, e.f6.f2.length ≤ 20) ∧ ∀ e ∈ l, e.f6.f0 < 18446744073709551616
theorem LightU.short {l : List Und} (h : LightU l) : shortU l ∧ l.length ≤ 1000000 := ⟨fun e he => Nat.le_trans (h.2.1 e he) (by decide), Nat.le_trans h.1 (by decide)⟩
theorem LightU.at {l : List Und} (h : LightU l) {i : Nat} (hi : i < l.length) : (rd_T32 l (i : Int)).f6.f2.length ≤ 20 := h.2.1 _ (rdU_mem hi)
def mayFrom (l : List Und) : Nat → Nat → Bool
  | 0, _ => decide (6 ≤ l.length ∧ l.length ≤ 378 ∧ l.length % 6 = 0)
  | d + 1, i => if emptyU (rd_T32 l (i : Int)) = true then mayFrom l d (i + 1) else if mayUs (rd_T32 l (i : Int)) = true then (if (List.range i).any (fun m => (rd_T32 l (m : Int)).f1 == (rd_T32 l (i : Int)).f1) = true then false else mayFrom l d (i + 1)) else false
theorem may_l1 {l : List Und} {i : Nat} (hi : i < l.length) (hl : l.length ≤ 30) {R : Bool} (hN : ∃ K, ∀ k, K ≤ k → humusref14_May.l0 k l (wrap64 ((i : Int) + 1)) = some R) :
    ∀ d m : Nat, d = i - m → m ≤ i → ∃ K, ∀ k, K ≤ k → humusref14_May.l1 k l (i : Int) (m : Int) = some (if (List.range' m d).any (fun m => (rd_T32 l (m : Int)).f1 == (rd_T32 l (i : Int)).f1) = true then false else R) := by
  intro d
  induction d with
  | zero =>
    intro m hd hm
    obtain ⟨K, hK⟩ := hN
    refine ⟨K + 1, fun k hk => ?_⟩
    obtain ⟨k, rfl⟩ : ∃ m, k = m + 1 := ⟨k - 1, by omega⟩
    simp only [humusref14_May.l1]
    rw [if_neg (by omega)]
    exact hK k (by omega)
  | succ d ih =>
    intro m hd hm
    obtain ⟨K, hK⟩ := ih (m + 1) (by omega) (by omega)
    refine ⟨K + 1, fun k hk => ?_⟩
    obtain ⟨k, rfl⟩ : ∃ m, k = m + 1 := ⟨k - 1, by omega⟩
    simp only [humusref14_May.l1]
    rw [if_pos (by omega), if_pos (by omega), if_pos (by omega), if_pos (by omega), if_pos (by omega), List.range'_succ, List.any_cons]
    by_cases he : (rd_T32 l (m : Int)).f1 = (rd_T32 l (i : Int)).f1
    · rw [if_pos he, if_pos (by simp [he])]
    · have hb : ((rd_T32 l (m : Int)).f1 == (rd_T32 l (i : Int)).f1) = false := by simpa using he
      rw [if_neg he, show wrap64 ((m : Int) + 1) = ((m + 1 : Nat) : Int) by unfold wrap64; omega, hK k (by omega), hb, Bool.false_or]
theorem may_l0 {l : List Und} (hL : LightU l) : ∀ d i : Nat, d = l.length - i → i ≤ l.length → ∃ K, ∀ k, K ≤ k → humusref14_May.l0 k l (i : Int) = some (mayFrom l d i) := by
  have hl := hL.1
  intro d
  induction d with
  | zero =>
    intro i hd hi
    refine ⟨1, fun k hk => ?_⟩
    obtain ⟨k, rfl⟩ : ∃ m, k = m + 1 := ⟨k - 1, by omega⟩
    simp only [humusref14_May.l0, mayFrom]
    rw [if_neg (by omega)]
    by_cases h1 : 6 ≤ l.length
    · rw [if_pos (by omega), if_pos (by omega)]
      congr 1
      rw [Bool.eq_iff_iff, beq_iff_eq, decide_eq_true_iff]
      omega
    · rw [if_neg (by omega), decide_eq_false (by omega)]
  | succ d ih =>
    intro i hd hi
    have hi' : i < l.length := by omega
    obtain ⟨K, hK⟩ := ih (i + 1) (by omega) (by omega)
    have hw : wrap64 ((i : Int) + 1) = ((i + 1 : Nat) : Int) := by unfold wrap64; omega
    obtain ⟨K1, h1⟩ := may_l1 hi' hl ⟨K, fun k hk => by rw [hw]; exact hK k hk⟩ (i - 0) 0 rfl (Nat.zero_le _)
    refine ⟨K + K1 + 40, fun k hk => ?_⟩
    obtain ⟨k, rfl⟩ : ∃ m, k = m + 2 := ⟨k - 2, by omega⟩
    have hs := hL.at hi'
    simp only [humusref14_May.l0, mayFrom]
    rw [if_pos (by omega), if_pos (by omega), rEmpty_ev hs (by omega)]
    simp only [Option.bind_some]
    cases he : emptyU (rd_T32 l (i : Int)) with
    | true =>
      simp only [if_true, humusref14_May.j1]
      rw [hw]; exact hK k (by omega)
    | false =>
      simp only [Bool.false_eq_true, if_false]
      have hx : ((rd_T32 l (i : Int))).f6.f0 < 18446744073709551616 := hL.2.2 _ (rdU_mem hi')
      rw [uMay_ev (by omega) hx (by omega)]
      simp only [Option.bind_some]
      have hmu : mayU (rd_T32 l (i : Int)).f0 (rd_T32 l (i : Int)).f1 (rd_T32 l (i : Int)).f2 (rd_T32 l (i : Int)).f3 (rd_T32 l (i : Int)).f4 (rd_T32 l (i : Int)).f5 (rd_T32 l (i : Int)).f6.f0 (rd_T32 l (i : Int)).f6.f1 (rd_T32 l (i : Int)).f6.f2 (rd_T32 l (i : Int)).f6.f3 (rd_T32 l (i : Int)).f6.f4.f0 (rd_T32 l (i : Int)).f6.f4.f1 = mayUs (rd_T32 l (i : Int)) := rfl
      rw [hmu]
      by_cases hm : mayUs (rd_T32 l (i : Int)) = true
      · rw [if_pos hm, if_pos hm]
        have := h1 (k + 1) (by omega)
        rw [show ((0 : Nat) : Int) = 0 from rfl, Nat.sub_zero, ← List.range_eq_range'] at this
        exact this
      · rw [if_neg hm, if_neg hm]
        simp only [humusref14_May.j2]
theorem mayFrom_iff {l : List Und} : ∀ d i : Nat, d + i = l.length → (mayFrom l d i = true ↔ (6 ≤ l.length ∧ l.length ≤ 378 ∧ l.length % 6 = 0) ∧ ∀ j, i ≤ j → j < l.length → emptyU (rd_T32 l (j : Int)) = false → mayUs (rd_T32 l (j : Int)) = true ∧ ∀ m, m < j → (rd_T32 l (m : Int)).f1 ≠ (rd_T32 l (j : Int)).f1) := by
  intro d
  induction d with
  | zero =>
    intro i hi
    unfold mayFrom
    rw [decide_eq_true_iff]
    exact ⟨fun h => ⟨h, fun j h1 h2 => absurd h2 (by omega)⟩, fun h => h.1⟩
  | succ d ih =>
    intro i hi
    have ih := ih (i + 1) (by omega)
    unfold mayFrom
    cases he : emptyU (rd_T32 l (i : Int)) with
    | true =>
      simp only [if_true]
      rw [ih]
      refine and_congr_right fun _ => ⟨fun h j h1 h2 h3 => ?_, fun h j h1 h2 h3 => h j (by omega) h2 h3⟩
      by_cases e : j = i
      · subst e; rw [he] at h3; cases h3
      · exact h j (by omega) h2 h3
    | false =>
      simp only [Bool.false_eq_true, if_false]
      by_cases hm : mayUs (rd_T32 l (i : Int)) = true
      · rw [if_pos hm]
        by_cases ha : (List.range i).any (fun m => (rd_T32 l (m : Int)).f1 == (rd_T32 l (i : Int)).f1) = true
        · rw [if_pos ha]
          refine ⟨fun h => (by cases h), fun h => ?_⟩
          obtain ⟨m, hm1, hm2⟩ := List.any_eq_true.1 ha
          exact absurd (by simpa using hm2) ((h.2 i (Nat.le_refl _) (by omega) he).2 m (List.mem_range.1 hm1))
        · rw [if_neg ha, ih]
          refine and_congr_right fun _ => ⟨fun h j h1 h2 h3 => ?_, fun h j h1 h2 h3 => h j (by omega) h2 h3⟩
          by_cases e : j = i
          · subst e
            refine ⟨hm, fun m hmj hmm => ha ?_⟩
            rw [List.any_eq_true]
            exact ⟨m, List.mem_range.2 hmj, by simpa using hmm⟩
          · exact h j (by omega) h2 h3
      · rw [if_neg hm]
        exact ⟨fun h => (by cases h), fun h => absurd (h.2 i (Nat.le_refl _) (by omega) he).1 hm⟩
theorem mayUs_pos {u : Und} (h : mayUs u = true) : 1 ≤ u.f1 := by
  unfold mayUs mayU at h
  exact (of_decide_eq_true (Bool.and_eq_true_iff.mp h).1).2.2.1
theorem mayFrom_C {l : List Und} : mayFrom l l.length 0 = mayC l := by
  rw [Bool.eq_iff_iff, mayFrom_iff _ _ (Nat.add_zero _), mayC_iff]
  refine and_congr_right fun _ => ⟨fun h => ⟨fun i a ha he => ?_, fun i j a b hij ha hb hae hbe => ?_⟩, fun h j _ hj he => ?_⟩
  · have hi := (List.getElem?_eq_some_iff.1 ha).1
    have := rdU_at hi
    rw [ha] at this; injection this with this
    subst this
    exact (h i (Nat.zero_le _) hi he).1
  · have hi := (List.getElem?_eq_some_iff.1 ha).1
    have hj := (List.getElem?_eq_some_iff.1 hb).1
    have h1 := rdU_at hi
    rw [ha] at h1; injection h1 with h1
    have h2 := rdU_at hj
    rw [hb] at h2; injection h2 with h2
    subst h1 h2
    rcases Nat.lt_or_gt_of_ne hij with h3 | h3
    · exact (h j (Nat.zero_le _) hj hbe).2 i h3
    · exact fun e => (h i (Nat.zero_le _) hi hae).2 j h3 e.symm
  · have hm := h.1 j _ (rdU_at hj) he
    refine ⟨hm, fun m hmj e => ?_⟩
    have hml : m < l.length := by omega
    cases hem : emptyU (rd_T32 l (m : Int)) with
    | true =>
      have := empty_no hem
      have := mayUs_pos hm
      omega
    | false => exact h.2 m j _ _ (by omega) (rdU_at hml) (rdU_at hj) hem he e
theorem rMay_ev {l : List Und} (hL : LightU l) : ∃ K, ∀ k, K ≤ k → humusref14_May.f k l = some (mayC l) := by
  obtain ⟨K, hK⟩ := may_l0 hL (l.length - 0) 0 rfl (Nat.zero_le _)
  refine ⟨K, fun k hk => ?_⟩
  have := hK k hk
  rw [Nat.sub_zero, mayFrom_C] at this
  exact this
theorem rFree_l0 {l : List Und} (hL : LightU l) : ∀ d i : Nat, d = l.length - i → i ≤ l.length → ∃ K, ∀ k, K ≤ k → humusref14_Free.l0 k l (i : Int) = some (match (l.drop i).findIdx? emptyU with | some j => ((i + j : Nat) : Int) + 1 | none => 0) := by
  have hl := hL.1
  intro d
  induction d with
  | zero =>
    intro i hd hi
    refine ⟨1, fun k hk => ?_⟩
    obtain ⟨k, rfl⟩ : ∃ m, k = m + 1 := ⟨k - 1, by omega⟩
    simp only [humusref14_Free.l0]
    rw [if_neg (by omega), List.drop_eq_nil_of_le (by omega)]; rfl
  | succ d ih =>
    intro i hd hi
    have hi' : i < l.length := by omega
    obtain ⟨K, hK⟩ := ih (i + 1) (by omega) (by omega)
    refine ⟨K + 40, fun k hk => ?_⟩
    obtain ⟨k, rfl⟩ : ∃ m, k = m + 1 := ⟨k - 1, by omega⟩
    simp only [humusref14_Free.l0]
    have hdr : l.drop i = (rd_T32 l (i : Int)) :: l.drop (i + 1) := by
      have h1 := rdU_at hi'
      rw [List.getElem?_eq_getElem hi'] at h1
      injection h1 with h1
      rw [List.drop_eq_getElem_cons hi', h1]
    have hw : wrap64 ((i : Int) + 1) = ((i + 1 : Nat) : Int) := by unfold wrap64; omega
    rw [if_pos (by omega), if_pos (by omega), rEmpty_ev (hL.at hi') (by omega), hdr, List.findIdx?_cons]
    simp only [Option.bind_some]
    cases he : emptyU (rd_T32 l (i : Int)) with
    | true =>
      simp only [if_true]
      rw [hw]; simp
    | false =>
      simp only [Bool.false_eq_true, if_false]
      rw [hw, hK k (by omega)]
      cases (l.drop (i + 1)).findIdx? emptyU with
      | none => rfl
      | some j =>
        show some (((i + 1 + j : Nat) : Int) + 1) = some (((i + (j + 1) : Nat) : Int) + 1)
        congr 2
        omega
theorem rFree_ev {l : List Und} (hL : LightU l) : ∃ K, ∀ k, K ≤ k → humusref14_Free.f k l = some (freeU l) := by
  obtain ⟨K, hK⟩ := rFree_l0 hL (l.length - 0) 0 rfl (Nat.zero_le _)
  refine ⟨K, fun k hk => ?_⟩
  have := hK k hk
  rw [List.drop_zero] at this
  unfold humusref14_Free.f freeU
  rw [show ((0 : Nat) : Int) = 0 from rfl] at this
  rw [this]
  cases l.findIdx? emptyU with
  | none => rfl
  | some j => show some (((0 + j : Nat) : Int) + 1) = some ((j : Int) + 1); rw [Nat.zero_add]
theorem rPut_l0 {l : List Und} {u : Und} (hL : LightU l) : ∀ d i : Nat, d = l.length - i → i ≤ l.length → ∃ K, ∀ k, K ≤ k → humusref14_Put.l0 k l (i : Int) u.f0 u.f1 u.f2 u.f3 u.f4 u.f5 u.f6.f0 u.f6.f1 u.f6.f2 u.f6.f3 u.f6.f4.f0 u.f6.f4.f1 = some (if (l.drop i).any (fun e => e.f1 == u.f1) = false then (if freeU l = 0 then (l, 0, 9) else (l.set (freeU l - 1).toNat u, freeU l, 0)) else (l, 0, 1)) := by
  have hl := hL.1
  have hr := ixOf_range l
  intro d
  induction d with
  | zero =>
    intro i hd hi
    obtain ⟨K, hK⟩ := rFree_ev hL
    refine ⟨K + 1, fun k hk => ?_⟩
    obtain ⟨k, rfl⟩ : ∃ m, k = m + 1 := ⟨k - 1, by omega⟩
    simp only [humusref14_Put.l0]
    rw [if_neg (by omega), List.drop_eq_nil_of_le (by omega), if_pos (by rfl), hK k (by omega)]
    simp only [Option.bind_some]
    by_cases hf : freeU l = 0
    · rw [if_pos hf, if_pos hf]
    · have hw : wrap64 (freeU l - 1) = freeU l - 1 := by unfold freeU wrap64; omega
      rw [if_neg hf, if_neg hf]
      unfold humusref14_set.f
      simp only [Option.bind_some, List.nil_append]
      rw [if_pos (by rw [List.length_nil]; omega), hw, if_pos (by unfold freeU at *; omega), if_pos (by unfold freeU; omega)]
      rfl
  | succ d ih =>
    intro i hd hi
    have hi' : i < l.length := by omega
    obtain ⟨K, hK⟩ := ih (i + 1) (by omega) (by omega)
    refine ⟨K + 1, fun k hk => ?_⟩
    obtain ⟨k, rfl⟩ : ∃ m, k = m + 1 := ⟨k - 1, by omega⟩
    have hdr : l.drop i = (rd_T32 l (i : Int)) :: l.drop (i + 1) := by
      have h1 := rdU_at hi'
      rw [List.getElem?_eq_getElem hi'] at h1
      injection h1 with h1
      rw [List.drop_eq_getElem_cons hi', h1]
    simp only [humusref14_Put.l0]
    rw [if_pos (by omega), if_pos (by omega), hdr, List.any_cons, show wrap64 ((i : Int) + 1) = ((i + 1 : Nat) : Int) by unfold wrap64; omega]
    by_cases he : (rd_T32 l (i : Int)).f1 = u.f1
    · rw [if_pos he, if_neg (by simp [he])]
    · have hb : ((rd_T32 l (i : Int)).f1 == u.f1) = false := by simpa using he
      rw [if_neg he, hK k (by omega), hb, Bool.false_or]
theorem rPut_ev {l : List Und} {u : Und} (hL : LightU l) (hm : mayC l = true) (hu : u.f6.f2.length ≤ 20) (hx : u.f6.f0 < 18446744073709551616) : ∃ K, ∀ k, K ≤ k → humusref14_Put.f k l u.f0 u.f1 u.f2 u.f3 u.f4 u.f5 u.f6.f0 u.f6.f1 u.f6.f2 u.f6.f3 u.f6.f4.f0 u.f6.f4.f1 = some (putU l u) := by
  obtain ⟨K, hK⟩ := rPut_l0 (u := u) hL (l.length - 0) 0 rfl (Nat.zero_le _)
  refine ⟨K + 40, fun k hk => ?_⟩
  unfold humusref14_Put.f putU
  rw [uMay_ev (by omega) hx (by omega), if_pos hm]
  simp only [Option.bind_some]
  have hmu : mayU u.f0 u.f1 u.f2 u.f3 u.f4 u.f5 u.f6.f0 u.f6.f1 u.f6.f2 u.f6.f3 u.f6.f4.f0 u.f6.f4.f1 = mayUs u := rfl
  rw [hmu]
  by_cases h : mayUs u = true
  · rw [if_pos h]
    have := hK k (by omega)
    rw [List.drop_zero, show ((0 : Nat) : Int) = 0 from rfl] at this
    rw [this]
    by_cases h2 : l.any (fun e => e.f1 == u.f1) = false
    · rw [if_pos h2, if_pos (And.intro h h2)]
    · rw [if_neg h2, if_neg (fun h3 => h2 h3.2)]
  · rw [if_neg h, if_neg (fun h3 => h h3.1)]
theorem rDrop_ev {l : List Und} (c : Int) (hL : LightU l) (hm : mayC l = true) : ∃ K, ∀ k, K ≤ k → humusref14_Drop.f k l c = some (dropU l c) := by
  have hl := hL.1
  refine ⟨60, fun k hk => ?_⟩
  unfold humusref14_Drop.f dropU
  have hs : (atU l c).f6.f2.length ≤ 20 := by
    unfold atU
    split
    · rename_i h
      have := hL.at (i := (c - 1).toNat) (by omega)
      rwa [show (((c - 1).toNat : Nat) : Int) = c - 1 by omega] at this
    · decide
  have hc : emptyU (atU l c) = false → 1 ≤ c ∧ c ≤ (l.length : Int) := by
    intro h
    by_cases hc : 1 ≤ c ∧ c ≤ (l.length : Int)
    · exact hc
    · exfalso
      unfold atU at h
      rw [if_neg hc] at h
      exact absurd h (by decide)
  rw [rAt_ev c hL.short.2 (by omega), if_pos hm]
  simp only [Option.bind_some]
  rw [rEmpty_ev hs (by omega)]
  simp only [Option.bind_some]
  cases he : emptyU (atU l c) with
  | true => simp only [if_true]
  | false =>
    have h1 := hc he
    simp only [Bool.false_eq_true, if_false]
    have hw : wrap64 (c - 1) = c - 1 := by unfold wrap64; omega
    unfold humusref14_set.f
    simp only [Option.bind_some, List.nil_append]
    rw [if_pos (by rw [List.length_nil]; omega), hw, if_pos (by omega), if_pos (by omega)]
    rfl
def usedU (l : List Und) : Nat := (l.filter (fun e => !emptyU e)).length
theorem used_l0 {l : List Und} (hL : LightU l) : ∀ d i n : Nat, d = l.length - i → i ≤ l.length → n ≤ 1000 → ∃ K, ∀ k, K ≤ k → undo_Used.l0 k (n : Int) l (l.length : Int) (i : Int) = some ((n + usedU (l.drop i) : Nat) : Int) ∧ humusref14_Used.l0 k l (n : Int) (i : Int) = some ((n + usedU (l.drop i) : Nat) : Int) := by
  have hl := hL.1
  suffices H : ∀ d i n : Nat, d = l.length - i → i ≤ l.length → n + d ≤ 1100 → ∃ K, ∀ k, K ≤ k → undo_Used.l0 k (n : Int) l (l.length : Int) (i : Int) = some ((n + usedU (l.drop i) : Nat) : Int) ∧ humusref14_Used.l0 k l (n : Int) (i : Int) = some ((n + usedU (l.drop i) : Nat) : Int) by
    intro d i n hd hi hn; exact H d i n hd hi (by omega)
  intro d
  induction d with
  | zero =>
    intro i n hd hi hn
    refine ⟨1, fun k hk => ?_⟩
    obtain ⟨k, rfl⟩ : ∃ m, k = m + 1 := ⟨k - 1, by omega⟩
    simp only [undo_Used.l0, humusref14_Used.l0]
    rw [if_neg (by omega), if_neg (by omega), List.drop_eq_nil_of_le (by omega)]
    exact ⟨rfl, rfl⟩
  | succ d ih =>
    intro i n hd hi hn
    have hi' : i < l.length := by omega
    obtain ⟨K, hK⟩ := ih (i + 1) n (by omega) (by omega) (by omega)
    obtain ⟨K1, hK1⟩ := ih (i + 1) (n + 1) (by omega) (by omega) (by omega)
    refine ⟨K + K1 + 40, fun k hk => ?_⟩
    obtain ⟨k, rfl⟩ : ∃ m, k = m + 1 := ⟨k - 1, by omega⟩
    have hdr : l.drop i = (rd_T32 l (i : Int)) :: l.drop (i + 1) := by
      have h1 := rdU_at hi'
      rw [List.getElem?_eq_getElem hi'] at h1
      injection h1 with h1
      rw [List.drop_eq_getElem_cons hi', h1]
    have hs := hL.at hi'
    have hw : wrap64 ((i : Int) + 1) = ((i + 1 : Nat) : Int) := by unfold wrap64; omega
    have hwn : wrap64 ((n : Int) + 1) = ((n + 1 : Nat) : Int) := by unfold wrap64; omega
    simp only [undo_Used.l0, humusref14_Used.l0]
    rw [if_pos (by omega), if_pos (by omega), if_pos (by omega), if_pos (by omega), if_pos (by omega), empty_ev (by omega), rEmpty_ev hs (by omega), hdr, hw, hwn]
    simp only [Option.bind_some]
    unfold usedU
    rw [List.filter_cons]
    cases he : emptyU (rd_T32 l (i : Int)) with
    | true =>
      simp only [if_true, Bool.not_true, Bool.false_eq_true, if_false]
      exact hK k (by omega)
    | false =>
      simp only [Bool.false_eq_true, if_false, Bool.not_false, if_true, List.length_cons]
      have := hK1 k (by omega)
      rw [show n + ((l.drop (i + 1)).filter (fun e => !emptyU e)).length.succ = n + 1 + usedU (l.drop (i + 1)) by unfold usedU; omega]
      exact this
theorem used_ev {l : List Und} (hL : LightU l) : ∃ K, ∀ k, K ≤ k → undo_Used.f k l = some (if mayC l = true then (usedU l : Int) else 0) ∧ humusref14_Used.f k l = some (usedU l : Int) := by
  obtain ⟨K, hK⟩ := used_l0 hL (l.length - 0) 0 0 rfl (Nat.zero_le _) (by decide)
  refine ⟨K, fun k hk => ?_⟩
  have := hK k hk
  rw [List.drop_zero, Nat.zero_add, show ((0 : Nat) : Int) = 0 from rfl] at this
  refine ⟨?_, this.2⟩
  unfold undo_Used.f
  rw [check_ev hL.short]
  simp only [Option.bind_some]
  by_cases hm : mayC l = true
  · rw [if_pos hm, if_pos rfl, if_pos hm]; exact this.1
  · rw [if_neg hm, if_neg (by decide), if_neg hm]
theorem rList_self {l : List Und} (hL : LightU l) : ∃ K, ∀ k, K ≤ k → humusref09_List.f k l l = some true := by
  have hl := hL.1
  suffices H : ∀ d i : Nat, d = l.length - i → i ≤ l.length → ∃ K, ∀ k, K ≤ k → humusref09_List.l0 k l l (i : Int) = some true by
    obtain ⟨K, hK⟩ := H (l.length - 0) 0 rfl (Nat.zero_le _)
    refine ⟨K, fun k hk => ?_⟩
    unfold humusref09_List.f
    rw [if_pos rfl]
    exact hK k hk
  intro d
  induction d with
  | zero =>
    intro i hd hi
    refine ⟨1, fun k hk => ?_⟩
    obtain ⟨k, rfl⟩ : ∃ m, k = m + 1 := ⟨k - 1, by omega⟩
    simp only [humusref09_List.l0]
    rw [if_neg (by omega)]
  | succ d ih =>
    intro i hd hi
    have hi' : i < l.length := by omega
    obtain ⟨K, hK⟩ := ih (i + 1) (by omega) (by omega)
    refine ⟨K + 40, fun k hk => ?_⟩
    obtain ⟨k, rfl⟩ : ∃ m, k = m + 1 := ⟨k - 1, by omega⟩
    have hs := hL.at hi'
    simp only [humusref09_List.l0]
    rw [if_pos (by omega), if_pos (by omega), if_pos (by omega), rSameU_ev (by omega) (by omega), sameU_iff.2 ⟨⟨rfl, rfl, rfl, rfl, rfl, rfl⟩, ⟨rfl, rfl, rfl, rfl, rfl, rfl⟩⟩, show wrap64 ((i : Int) + 1) = ((i + 1 : Nat) : Int) by unfold wrap64; omega]
    simp only [Option.bind_some, if_true]
    exact hK k (by omega)
theorem light_l0 {l : List Und} (hl : True) : ∀ d i : Nat, d = 30 - i → i ≤ 30 → ∃ K b, (∀ k, K ≤ k → humuslaw14_Light.l0 k l (i : Int) = some b) ∧ (b = true → l.length ≤ 30 ∧ ∀ j, i ≤ j → j < l.length → (rd_T32 l (j : Int)).f6.f2.length ≤ 20) := by
  intro d
  induction d with
  | zero =>
    intro i hd hi
    obtain rfl : i = 30 := by omega
    refine ⟨2, decide ((l.length : Int) ≤ 30), fun k hk => ?_, fun h => ?_⟩
    · obtain ⟨k, rfl⟩ : ∃ m, k = m + 2 := ⟨k - 2, by omega⟩
      simp only [humuslaw14_Light.l0, humuslaw14_Light.j1]
      rw [show decide (((30 : Nat) : Int) < 30) = false from rfl]
      simp only [Bool.false_eq_true, if_false, ite_self]
    · have := of_decide_eq_true h
      exact ⟨by omega, fun j h1 h2 => absurd h2 (by omega)⟩
  | succ d ih =>
    intro i hd hi
    by_cases hi' : i < l.length
    rotate_left
    · refine ⟨2, true, fun k hk => ?_, fun h => ⟨by omega, fun j h1 h2 => absurd h2 (by omega)⟩⟩
      obtain ⟨k, rfl⟩ : ∃ m, k = m + 2 := ⟨k - 2, by omega⟩
      simp only [humuslaw14_Light.l0, humuslaw14_Light.j1]
      rw [if_neg (by omega), if_neg (by decide), decide_eq_true (by omega)]
    by_cases hc : ((rd_T32 l (i : Int)).f6.f2.length : Int) > 20
    · refine ⟨2, false, fun k hk => ?_, fun h => by cases h⟩
      obtain ⟨k, rfl⟩ : ∃ m, k = m + 2 := ⟨k - 2, by omega⟩
      simp only [humuslaw14_Light.l0, humuslaw14_Light.j1]
      rw [if_pos (by omega), decide_eq_true (by omega), if_pos rfl, if_pos (by omega), if_pos (by omega), if_pos hc]
    · obtain ⟨K, b, hK, hb⟩ := ih (i + 1) (by omega) (by omega)
      refine ⟨K + 2, b, fun k hk => ?_, fun h => ⟨(hb h).1, fun j h1 h2 => ?_⟩⟩
      · obtain ⟨k, rfl⟩ : ∃ m, k = m + 2 := ⟨k - 2, by omega⟩
        simp only [humuslaw14_Light.l0, humuslaw14_Light.j1]
        rw [if_pos (by omega), decide_eq_true (by omega), if_pos rfl, if_pos (by omega), if_pos (by omega), if_neg hc, show wrap64 ((i : Int) + 1) = ((i + 1 : Nat) : Int) by unfold wrap64; omega]
        exact hK k (by omega)
      · by_cases e : j = i
        · subst e; omega
        · exact (hb h).2 j (by omega) h2
theorem light_ev {l : List Und} (hl : True) (hx : ∀ e ∈ l, e.f6.f0 < 18446744073709551616) : ∃ K b, (∀ k, K ≤ k → humuslaw14_Light.f k l = some b) ∧ (b = true → LightU l) := by
  obtain ⟨K, b, hK, hb⟩ := light_l0 hl (30 - 0) 0 rfl (by decide)
  refine ⟨K, b, fun k hk => hK k hk, fun h => ⟨(hb h).1, fun e he => ?_, hx⟩⟩
  obtain ⟨j, hj⟩ := List.mem_iff_getElem?.1 he
  have hjl := (List.getElem?_eq_some_iff.1 hj).1
  have := rdU_at hjl
  rw [hj] at this
  injection this with this
  rw [this]
  exact (hb h).2 j (Nat.zero_le _) hjl
end Go.Proofs.Ytdcllbhkjcdnoaa.P
