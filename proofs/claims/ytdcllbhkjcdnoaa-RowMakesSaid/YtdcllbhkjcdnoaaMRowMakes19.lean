/- Put together by wip/prune.py out of this claim's texts. -/
import Derived.Test.YtdcllbhkjcdnoaaMRowMakes5
import Derived.Test.YtdcllbhkjcdnoaaMRowMakes10
import Derived.Test.YtdcllbhkjcdnoaaMRowMakes15
import Derived.Test.YtdcllbhkjcdnoaaMRowMakes16
import Derived.Test.YtdcllbhkjcdnoaaMRowMakes17
import Derived.Test.YtdcllbhkjcdnoaaMRowMakes18
namespace Go.Proofs.Ytdcllbhkjcdnoaa.P
open Go.RowKit Go.Proofs.YtdcllbhkjcdnoaaW.PrintWords Go.Proofs.YtdcllbhkjcdnoaaW.PrintLast Go.Proofs.YtdcllbhkjcdnoaaW.PrintMore
attribute [local go_sem] max2_int min2_int max_two min_two max_three min_three max_four min_four   -- for this text's walks alone
attribute [local go_sem] run_store_float
set_option linter.unusedVariables false
set_option linter.unusedSimpArgs false
mutual
def humuslaw04_RowMakes.j0 : Nat → Bool → Option (Bool)
  | 0,_ => none
  | k + 1,x6 => some x6
def humuslaw04_RowMakes.j1 : Nat → List Nat → Nat → Bool → Nat → Bool → List Nat → Int → Int → Int → Option (Bool)
  | 0,_,_,_,_,_,_,_,_,_ => none
  | k + 1,x1,x2,x44,x547000,x547001,x547002,x547003,x547004,x547005 => if x44 = true then (humuslaw04_RowMakes.j2 k false) else ((row_Plus.f k x547000 x547001 x547002 x547003 x547004 x547005 x2).bind fun bt559 => (if (x1.length : Int) = 0 then (if bt559.2.2.2.2.2.2 = 1 then ((humusref04_Same.f k bt559.1 bt559.2.1 bt559.2.2.1 bt559.2.2.2.1 bt559.2.2.2.2.1 bt559.2.2.2.2.2.1 0 false ([] : List Nat) 0 0 0).bind fun t569 => (if t569 = true then ((humuslaw04_awake.f k).bind fun t570 => (humuslaw04_RowMakes.j3 k t570)) else (humuslaw04_RowMakes.j3 k false))) else (humuslaw04_RowMakes.j3 k false)) else (if bt559.2.2.2.2.2.2 = 0 then ((humusref04_Plus.f x547000 x547001 x547002 x547003 x547004 x547005 x2).bind fun bt571 => ((humusref04_Same.f k bt559.1 bt559.2.1 bt559.2.2.1 bt559.2.2.2.1 bt559.2.2.2.2.1 bt559.2.2.2.2.2.1 bt571.1 bt571.2.1 bt571.2.2.1 bt571.2.2.2.1 bt571.2.2.2.2.1 bt571.2.2.2.2.2).bind fun t579 => (if t579 = true then ((humusref04_May.f k bt559.1 bt559.2.1 bt559.2.2.1 bt559.2.2.2.1 bt559.2.2.2.2.1 bt559.2.2.2.2.2.1).bind fun t580 => (if t580 = true then ((humuslaw04_awake.f k).bind fun t581 => (humuslaw04_RowMakes.j4 k t581)) else (humuslaw04_RowMakes.j4 k false))) else (humuslaw04_RowMakes.j4 k false)))) else (humuslaw04_RowMakes.j4 k false))))
def humuslaw04_RowMakes.j2 : Nat → Bool → Option (Bool)
  | 0,_ => none
  | k + 1,x6 => some x6
def humuslaw04_RowMakes.j3 : Nat → Bool → Option (Bool)
  | 0,_ => none
  | k + 1,x6 => some x6
def humuslaw04_RowMakes.j4 : Nat → Bool → Option (Bool)
  | 0,_ => none
  | k + 1,x6 => some x6
end
def humuslaw04_RowMakes.f (k : Nat) (a0 : Nat) (l1 : List Nat) (a2 : Nat) : Option (Bool):=(row_Of.f k a0 l1).bind fun bt537 => (if (l1.length : Int) > 4 then (if bt537.2.2.2.2.2.2 = 1 then ((humusref04_Same.f k bt537.1 bt537.2.1 bt537.2.2.1 bt537.2.2.2.1 bt537.2.2.2.2.1 bt537.2.2.2.2.2.1 0 false ([] : List Nat) 0 0 0).bind fun t547 => (if t547 = true then ((humuslaw04_awake.f k).bind fun t548 => (humuslaw04_RowMakes.j0 k t548)) else (humuslaw04_RowMakes.j0 k false))) else (humuslaw04_RowMakes.j0 k false)) else (if bt537.2.2.2.2.2.2 = 0 then ((humusref04_Of.f k a0 l1).bind fun bt549 => ((humusref04_Same.f k bt537.1 bt537.2.1 bt537.2.2.1 bt537.2.2.2.1 bt537.2.2.2.2.1 bt537.2.2.2.2.2.1 bt549.1 bt549.2.1 bt549.2.2.1 bt549.2.2.2.1 bt549.2.2.2.2.1 bt549.2.2.2.2.2).bind fun t557 => (if t557 = true then ((humusref04_May.f k bt537.1 bt537.2.1 bt537.2.2.1 bt537.2.2.2.1 bt537.2.2.2.2.1 bt537.2.2.2.2.2.1).bind fun t558 => (humuslaw04_RowMakes.j1 k l1 a2 (!t558) bt537.1 bt537.2.1 bt537.2.2.1 bt537.2.2.2.1 bt537.2.2.2.2.1 bt537.2.2.2.2.2.1)) else (humuslaw04_RowMakes.j1 k l1 a2 true bt537.1 bt537.2.1 bt537.2.2.1 bt537.2.2.2.1 bt537.2.2.2.2.1 bt537.2.2.2.2.2.1)))) else (humuslaw04_RowMakes.j1 k l1 a2 true bt537.1 bt537.2.1 bt537.2.2.1 bt537.2.2.2.1 bt537.2.2.2.2.1 bt537.2.2.2.2.2.1)))
def humuslaw04_RowMakes.T4 : Bool × List (List Nat × List Nat):=(true,[([],[]),([0],[0]),([1],[1]),([2],[2]),([2],[2]),([2],[2]),([4,5,2,2],[2,4,5]),([3,6,6,2],[2,3,6]),([7,2],[2,7]),([2,8],[2,8]),([9,7],[9]),([10],[10]),([11,10,10],[10,11]),([12,10],[10,12]),([10,13],[10,13])])
def humuslaw04_RowMakes.B4 : List Nat:=[0,1,3,7,7,7,55,127,255,511,1023,2047,4095,8191,16383]
theorem humuslaw04_RowMakes.tab4 : rtab .any (opsOf Try.f8 4) = humuslaw04_RowMakes.T4:=by kernel_rfl
theorem humuslaw04_RowMakes.bits4 : waitsOk humuslaw04_RowMakes.T4.2 humuslaw04_RowMakes.B4 = true:=by kernel_rfl
def humuslaw04_RowMakes.T9 : Bool × List (List Nat × List Nat):=(true,[([],[]),([0],[0]),([1],[1]),([2],[2]),([2],[2]),([2],[2]),([4,5,2,2],[2,4,5]),([3,6,6,2],[2,3,6]),([2,7],[2,7]),([8,7],[8]),([9],[9]),([10,9,9],[9,10]),([9,11],[9,11]),([12,11],[12]),([13,13],[13]),([13,14],[13,14]),([15,14,0,1,2,3,4,5,6,7,8,9,10,11,12,13,14,15],[15])])
def humuslaw04_RowMakes.B9 : List Nat:=[0,1,3,7,7,7,55,127,255,511,1023,2047,4095,8191,16383,32767,65535]
theorem humuslaw04_RowMakes.tab9 : rtab .any (opsOf Try.f8 9) = humuslaw04_RowMakes.T9:=by kernel_rfl
theorem humuslaw04_RowMakes.bits9 : waitsOk humuslaw04_RowMakes.T9.2 humuslaw04_RowMakes.B9 = true:=by kernel_rfl
set_option maxHeartbeats 8000000 in
set_option maxRecDepth 100000 in
theorem humuslaw04_RowMakes.calls (k : Nat) (a0 : Nat) (A1 : Option Addr) (c1 : Nat) (l1 : List Nat) (a2 : Nat) (r : Bool) (w : World) (hr1 : Kd.C Kd.f64 w A1 l1.length l1) (hc1 : l1.length ≤ c1) (h : humuslaw04_RowMakes.f k a0 l1 a2 = some r) :
    Calls Try.prog 8 #[.float .f64 a0,.slice A1 l1.length c1,.float .f64 a2] w fun e w' => e = .returned (.bool r) ∧ Below w.heap.size w w':=by
  have hu30:=Try.underlying30
  have HR1:=Aside0.mk hr1
  have HC1:=Aside0.mk hc1
  clear hr1 hc1
  have HB:=Aside0.mk (Below.refl w.heap.size w)
  have H : ((row_Of.f k a0 l1).bind fun bt537 => (if (l1.length : Int) > 4 then (if bt537.2.2.2.2.2.2 = 1 then ((humusref04_Same.f k bt537.1 bt537.2.1 bt537.2.2.1 bt537.2.2.2.1 bt537.2.2.2.2.1 bt537.2.2.2.2.2.1 0 false ([] : List Nat) 0 0 0).bind fun t547 => (if t547 = true then ((humuslaw04_awake.f k).bind fun t548 => (humuslaw04_RowMakes.j0 k t548)) else (humuslaw04_RowMakes.j0 k false))) else (humuslaw04_RowMakes.j0 k false)) else (if bt537.2.2.2.2.2.2 = 0 then ((humusref04_Of.f k a0 l1).bind fun bt549 => ((humusref04_Same.f k bt537.1 bt537.2.1 bt537.2.2.1 bt537.2.2.2.1 bt537.2.2.2.2.1 bt537.2.2.2.2.2.1 bt549.1 bt549.2.1 bt549.2.2.1 bt549.2.2.2.1 bt549.2.2.2.2.1 bt549.2.2.2.2.2).bind fun t557 => (if t557 = true then ((humusref04_May.f k bt537.1 bt537.2.1 bt537.2.2.1 bt537.2.2.2.1 bt537.2.2.2.2.1 bt537.2.2.2.2.2.1).bind fun t558 => (humuslaw04_RowMakes.j1 k l1 a2 (!t558) bt537.1 bt537.2.1 bt537.2.2.1 bt537.2.2.2.1 bt537.2.2.2.2.1 bt537.2.2.2.2.2.1)) else (humuslaw04_RowMakes.j1 k l1 a2 true bt537.1 bt537.2.1 bt537.2.2.1 bt537.2.2.2.1 bt537.2.2.2.2.1 bt537.2.2.2.2.2.1)))) else (humuslaw04_RowMakes.j1 k l1 a2 true bt537.1 bt537.2.1 bt537.2.2.1 bt537.2.2.2.1 bt537.2.2.2.2.1 bt537.2.2.2.2.2.1)))) = some r:=h
  clear h
  replace H:=Option.bind_eq_some_iff.mp H
  obtain ⟨⟨t537,t538,t539,t542,t543,t544,t545⟩,A40,H⟩:=H
  replace H : (if (l1.length : Int) > 4 then (if t545 = 1 then ((humusref04_Same.f k t537 t538 t539 t542 t543 t544 0 false ([] : List Nat) 0 0 0).bind fun t547 => (if t547 = true then ((humuslaw04_awake.f k).bind fun t548 => (humuslaw04_RowMakes.j0 k t548)) else (humuslaw04_RowMakes.j0 k false))) else (humuslaw04_RowMakes.j0 k false)) else (if t545 = 0 then ((humusref04_Of.f k a0 l1).bind fun bt549 => ((humusref04_Same.f k t537 t538 t539 t542 t543 t544 bt549.1 bt549.2.1 bt549.2.2.1 bt549.2.2.2.1 bt549.2.2.2.2.1 bt549.2.2.2.2.2).bind fun t557 => (if t557 = true then ((humusref04_May.f k t537 t538 t539 t542 t543 t544).bind fun t558 => (humuslaw04_RowMakes.j1 k l1 a2 (!t558) t537 t538 t539 t542 t543 t544)) else (humuslaw04_RowMakes.j1 k l1 a2 true t537 t538 t539 t542 t543 t544)))) else (humuslaw04_RowMakes.j1 k l1 a2 true t537 t538 t539 t542 t543 t544))) = some r:=H
  have A4:=Aside0.mk A40
  clear A40
  by_cases c5 : (l1.length : Int) > 4
  · rw [if_pos c5] at H
    have c5b0 : decide (4 < (l1.length : Int)) = true:=decide_eq_true c5
    have c5b1 : decide (4 < l1.length) = true:=decide_eq_true (by omega)
    clear c5
    have HC6:=Aside0.mk H
    clear H
    go_enter Try.func8,Try.ntmps8
    go_upto_region 3 with (first | ((with_reducible refine gate_callee (f:=39) rfl ?_);refine goesL_ (some 14) rfl rfl Try.func39 (by kernel_rfl) rfl #[.float .f64 a0,.slice A1 l1.length c1] rfl (by (try simp only [List.map_toArray,List.map_cons,List.map_nil]);first | done | rfl | (simp only [List.length_drop,List.length_take];rfl)) ?_;(with_reducible refine (row_Of.calls k a0 _ _ l1 t537 t538 t539 t542 t543 t544 t545 _ ?side1 ?side2 A4.out).mono ?_);(case side1 => repeat (first | exact HR1.out | (with_reducible refine Kd.C_alloc ?_ _) | (with_reducible refine Kd.C_drewN ?_ _) | (with_reducible refine Kd.C_drew ?_)));(case side2 => exact HC1.out);rintro e w7 ⟨v540,rfl,ho0,hb⟩;refine ⟨_,rfl,?_⟩;have n0_:=Aside0.mk (Kd.R_lower ho0 (below_size (by repeat (first | (with_reducible first | exact HB.out | apply below_alloc | apply pw_below_drewN | apply below_drew1) | exact HB.out))));have n1_:=Aside0.mk (below_step (by repeat (first | (with_reducible first | exact HB.out | apply below_alloc | apply pw_below_drewN | apply below_drew1) | exact HB.out)) hb);clear HB;have HO541:=n0_;have HB:=n1_;clear n0_ n1_;(try clear hb);(try clear hb2);(try clear hk);(try clear hi);(try clear ho0)) | ((with_reducible refine gate_dst (N:=7) rfl ?_);refine box_event ?hg (N:=7) ?hd (cs:=#[.float .f64 0,.bool false,.slice none 0 0,.int .i64 0,.int .i64 0,.int .i64 0]) (t:=30) ?hr ?_;(case hd => rfl);(case hg => rfl);(case hr => first | (go_simp;done) | (go_simp;rfl));intro gb546 hg w8 hbox hb;have n0_:=Aside0.mk (Kd.R_below (by (with_reducible repeat (first | apply Kd.R_alloc | apply Kd.R_drewN | apply Kd.R_drew));exact HO541.out) hb);have n1_:=Aside0.mk (below_step (by repeat (first | (with_reducible first | exact HB.out | apply below_alloc | apply pw_below_drewN | apply below_drew1) | exact HB.out)) hb);have n2_:=Aside0.mk (hbox);have n3_:=Aside0.mk ((by rw [hg];exact (below_size (by repeat (first | (with_reducible first | exact HB.out | apply below_alloc | apply pw_below_drewN | apply below_drew1) | exact HB.out))) : w.heap.size ≤ gb546));have n4_:=Aside0.mk ((by rw [hg];exact (below_size (by repeat (first | (with_reducible first | exact HB.out | apply below_alloc | apply pw_below_drewN | apply below_drew1) | exact HB.out))) : w.heap.size ≤ gb546));clear HO541;clear HB;have HO541:=n0_;have HB:=n1_;have BK546:=n2_;have GW546:=n3_;have GE546:=n4_;clear n0_ n1_ n2_ n3_ n4_;clear hb hbox hg;have hcz9_0 : w8.cell? ⟨gb546,0,none⟩ = some (.float .f64 0):=(blk_cell BK546.out 0).trans rfl;have hcz9_1 : w8.cell? ⟨gb546,1,none⟩ = some (.bool false):=(blk_cell BK546.out 1).trans rfl;have hcz9_2 : w8.cell? ⟨gb546,2,none⟩ = some (.slice none 0 0):=(blk_cell BK546.out 2).trans rfl;have hcz9_3 : w8.cell? ⟨gb546,3,none⟩ = some (.int .i64 0):=(blk_cell BK546.out 3).trans rfl;have hcz9_4 : w8.cell? ⟨gb546,4,none⟩ = some (.int .i64 0):=(blk_cell BK546.out 4).trans rfl;have hcz9_5 : w8.cell? ⟨gb546,5,none⟩ = some (.int .i64 0):=(blk_cell BK546.out 5).trans rfl;have hfz9_0:=blk_frozen BK546.out 0;have hfz9_1:=blk_frozen BK546.out 1;have hfz9_2:=blk_frozen BK546.out 2;have hfz9_3:=blk_frozen BK546.out 3;have hfz9_4:=blk_frozen BK546.out 4;have hfz9_5:=blk_frozen BK546.out 5;obtain ⟨Ao10,co10,eo10⟩:=Kd.R_slice HO541.out;subst eo10))
    (try simp only [Act.put,List.setIfInBounds_toArray,List.set_cons_zero,List.set_cons_succ])
    go_cut [6] (fun v6 wc => ∃ (kq : Nat) (x6_5 : Bool),v6 = .bool x6_5 ∧ Aside0 (humuslaw04_RowMakes.j0 kq x6_5 = some r) ∧ Aside0 (kq ≤ k) ∧ Aside0 (Kd.R Kd.f64 25 wc w.heap.size (fun _ => True) (.slice Ao10 t539.length co10) t539) ∧ Aside0 (wc.heap[gb546]? = some (.cells #[.float .f64 t537,.bool t538,(.slice Ao10 t539.length co10),.int .i64 t542,.int .i64 t543,.int .i64 t544] 30 (0,0))) ∧ Aside0 (Below w.heap.size w wc))
    case first =>
      have H:=HC6.out
      clear HC6
      by_cases c11 : t545 = 1
      · rw [if_pos c11] at H
        have c11b0 : (t545 == 1) = true:=beq_iff_eq.mpr c11
        have c11b1 : (t545 != 1) = false:=bne_eq_false_iff_eq.mpr c11
        clear c11
        (first | rw [c11b0] | (simp only [i64_w,i32_w];rw [c11b0]) | skip)
        replace H:=Option.bind_eq_some_iff.mp H
        obtain ⟨t547,A120,H⟩:=H
        replace H : (if t547 = true then ((humuslaw04_awake.f k).bind fun t548 => (humuslaw04_RowMakes.j0 k t548)) else (humuslaw04_RowMakes.j0 k false)) = some r:=H
        have A12:=Aside0.mk A120
        clear A120
        by_cases c13 : t547 = true
        · subst c13
          have H1 : ((humuslaw04_awake.f k).bind fun t548 => (humuslaw04_RowMakes.j0 k t548)) = some r:=by rw [if_pos rfl] at H;exact H
          clear H
          have H:=H1
          clear H1
          replace H:=Option.bind_eq_some_iff.mp H
          obtain ⟨t548,A140,H⟩:=H
          replace H : (humuslaw04_RowMakes.j0 k t548) = some r:=H
          have A14:=Aside0.mk A140
          clear A140
          have H':=Aside0.mk H
          clear H
          have hcz15_0 : w8.cell? ⟨gb546,0,none⟩ = some (.float .f64 0):=(blk_cell BK546.out 0).trans rfl
          have hcz15_1 : w8.cell? ⟨gb546,1,none⟩ = some (.bool false):=(blk_cell BK546.out 1).trans rfl
          have hcz15_2 : w8.cell? ⟨gb546,2,none⟩ = some (.slice none 0 0):=(blk_cell BK546.out 2).trans rfl
          have hcz15_3 : w8.cell? ⟨gb546,3,none⟩ = some (.int .i64 0):=(blk_cell BK546.out 3).trans rfl
          have hcz15_4 : w8.cell? ⟨gb546,4,none⟩ = some (.int .i64 0):=(blk_cell BK546.out 4).trans rfl
          have hcz15_5 : w8.cell? ⟨gb546,5,none⟩ = some (.int .i64 0):=(blk_cell BK546.out 5).trans rfl
          have hfz15_0:=blk_frozen BK546.out 0
          have hfz15_1:=blk_frozen BK546.out 1
          have hfz15_2:=blk_frozen BK546.out 2
          have hfz15_3:=blk_frozen BK546.out 3
          have hfz15_4:=blk_frozen BK546.out 4
          have hfz15_5:=blk_frozen BK546.out 5
          go_wp2_with (first | (go_at_call 37;(refine (humusref04_Same.calls k t537 t538 _ _ t539 t542 t543 t544 0 false _ _ ([] : List Nat) 0 0 0 true _ ?side1 ?side2 ?side3 ?side4 A12.out).mono ?_);(case side1 => refine (Kd.R_reads' (e:=25) (base:=w.heap.size) (ok:=fun k_ => True) (n:=t539.length) (c:=co10) ?_).2.2;exact (by (with_reducible repeat (first | apply Kd.R_alloc | apply Kd.R_drewN | apply Kd.R_drew));exact (Kd.R_mono (Kd.R_far (p:=⟨gb546,5,none⟩) (Kd.R_far (p:=⟨gb546,4,none⟩) (Kd.R_far (p:=⟨gb546,3,none⟩) (Kd.R_far (p:=⟨gb546,2,none⟩) (Kd.R_far (p:=⟨gb546,1,none⟩) (Kd.R_far (p:=⟨gb546,0,none⟩) (Kd.R_types HO541.out BK546.out (by decide)) (fun _ hk => hk.2) (.float .f64 t537)) (fun _ hk => hk.2) (.bool t538)) (fun _ hk => hk.2) (.slice Ao10 t539.length co10)) (fun _ hk => hk.2) (.int .i64 t542)) (fun _ hk => hk.2) (.int .i64 t543)) (fun _ hk => hk.2) (.int .i64 t544)) (fun _ h_ => h_.1))));(case side2 => exact (Kd.R_reads' HO541.out).2.1);(case side3 => exact Kd.C_nil _ _);(case side4 => exact Nat.le_refl _);rintro e w16 ⟨rfl,hb⟩;have n0_:=Aside0.mk (Kd.R_below (by (with_reducible repeat (first | apply Kd.R_alloc | apply Kd.R_drewN | apply Kd.R_drew));exact (Kd.R_mono (Kd.R_far (p:=⟨gb546,5,none⟩) (Kd.R_far (p:=⟨gb546,4,none⟩) (Kd.R_far (p:=⟨gb546,3,none⟩) (Kd.R_far (p:=⟨gb546,2,none⟩) (Kd.R_far (p:=⟨gb546,1,none⟩) (Kd.R_far (p:=⟨gb546,0,none⟩) (Kd.R_types HO541.out BK546.out (by decide)) (fun _ hk => hk.2) (.float .f64 t537)) (fun _ hk => hk.2) (.bool t538)) (fun _ hk => hk.2) (.slice Ao10 t539.length co10)) (fun _ hk => hk.2) (.int .i64 t542)) (fun _ hk => hk.2) (.int .i64 t543)) (fun _ hk => hk.2) (.int .i64 t544)) (fun _ h_ => h_.1))) hb);have n1_:=Aside0.mk (blk_below (g:=gb546) (o:=.cells #[.float .f64 t537,.bool t538,.slice Ao10 t539.length co10,.int .i64 t542,.int .i64 t543,.int .i64 t544] 30 (0,0)) (by (with_reducible repeat (first | refine blk_drewN ?_ _ | refine blk_drew ?_ | refine blk_alloc ?_ _));refine blk_put (cs:=#[.float .f64 t537,.bool t538,.slice Ao10 t539.length co10,.int .i64 t542,.int .i64 t543,.int .i64 0]) ?_ 5 _ rfl;(with_reducible repeat (first | refine blk_drewN ?_ _ | refine blk_drew ?_ | refine blk_alloc ?_ _));refine blk_put (cs:=#[.float .f64 t537,.bool t538,.slice Ao10 t539.length co10,.int .i64 t542,.int .i64 0,.int .i64 0]) ?_ 4 _ rfl;(with_reducible repeat (first | refine blk_drewN ?_ _ | refine blk_drew ?_ | refine blk_alloc ?_ _));refine blk_put (cs:=#[.float .f64 t537,.bool t538,.slice Ao10 t539.length co10,.int .i64 0,.int .i64 0,.int .i64 0]) ?_ 3 _ rfl;(with_reducible repeat (first | refine blk_drewN ?_ _ | refine blk_drew ?_ | refine blk_alloc ?_ _));refine blk_put (cs:=#[.float .f64 t537,.bool t538,.slice none 0 0,.int .i64 0,.int .i64 0,.int .i64 0]) ?_ 2 _ rfl;(with_reducible repeat (first | refine blk_drewN ?_ _ | refine blk_drew ?_ | refine blk_alloc ?_ _));refine blk_put (cs:=#[.float .f64 t537,.bool false,.slice none 0 0,.int .i64 0,.int .i64 0,.int .i64 0]) ?_ 1 _ rfl;(with_reducible repeat (first | refine blk_drewN ?_ _ | refine blk_drew ?_ | refine blk_alloc ?_ _));refine blk_put (cs:=#[.float .f64 0,.bool false,.slice none 0 0,.int .i64 0,.int .i64 0,.int .i64 0]) ?_ 0 _ rfl;(with_reducible repeat (first | refine blk_drewN ?_ _ | refine blk_drew ?_ | refine blk_alloc ?_ _));exact BK546.out) hb);have n2_:=Aside0.mk (below_step (by repeat (first | (with_reducible first | exact HB.out | apply below_alloc | apply pw_below_drewN | apply below_drew1 | refine below_set ?_ GE546.out) | exact HB.out)) hb);clear HO541;clear BK546;clear HB;have HO541:=n0_;have BK546:=n1_;have HB:=n2_;clear n0_ n1_ n2_;(try clear hb);(try clear hb2);(try clear hk);(try clear hi)) | (go_at_call 31;(with_reducible refine (humuslaw04_awake.calls k  t548 _ A14.out).mono ?_);rintro e w17 ⟨rfl,hb⟩;have n0_:=Aside0.mk (Kd.R_below (by (with_reducible repeat (first | apply Kd.R_alloc | apply Kd.R_drewN | apply Kd.R_drew));exact HO541.out) hb);have n1_:=Aside0.mk (blk_below (g:=gb546) (o:=.cells #[.float .f64 t537,.bool t538,.slice Ao10 t539.length co10,.int .i64 t542,.int .i64 t543,.int .i64 t544] 30 (0,0)) (by (with_reducible repeat (first | refine blk_drewN ?_ _ | refine blk_drew ?_ | refine blk_alloc ?_ _));exact BK546.out) hb);have n2_:=Aside0.mk (below_step (by repeat (first | (with_reducible first | exact HB.out | apply below_alloc | apply pw_below_drewN | apply below_drew1 | refine below_set ?_ GE546.out) | exact HB.out)) hb);clear HO541;clear BK546;clear HB;have HO541:=n0_;have BK546:=n1_;have HB:=n2_;clear n0_ n1_ n2_;(try clear hb);(try clear hb2);(try clear hk);(try clear hi)))
          go_meet
          case rel => exact ⟨_,(t548),(by first | rfl | (simp;done) | (simp [*];done)),H',⟨by first | omega | exact Nat.le_refl _⟩,⟨by (with_reducible repeat (first | apply Kd.R_alloc | apply Kd.R_drewN | apply Kd.R_drew));exact HO541.out⟩,⟨by (with_reducible repeat (first | refine blk_drewN ?_ _ | refine blk_drew ?_ | refine blk_alloc ?_ _));exact BK546.out⟩,⟨by repeat (first | (with_reducible first | exact HB.out | apply below_alloc | apply pw_below_drewN | apply below_drew1 | refine below_set ?_ GE546.out) | exact HB.out)⟩⟩
        · replace c13:=Bool.eq_false_iff.mpr c13
          subst c13
          have H1 : (humuslaw04_RowMakes.j0 k false) = some r:=by rw [if_neg (show ¬ (false = true) by decide)] at H;exact H
          clear H
          have H:=H1
          clear H1
          have H':=Aside0.mk H
          clear H
          have hcz18_0 : w8.cell? ⟨gb546,0,none⟩ = some (.float .f64 0):=(blk_cell BK546.out 0).trans rfl
          have hcz18_1 : w8.cell? ⟨gb546,1,none⟩ = some (.bool false):=(blk_cell BK546.out 1).trans rfl
          have hcz18_2 : w8.cell? ⟨gb546,2,none⟩ = some (.slice none 0 0):=(blk_cell BK546.out 2).trans rfl
          have hcz18_3 : w8.cell? ⟨gb546,3,none⟩ = some (.int .i64 0):=(blk_cell BK546.out 3).trans rfl
          have hcz18_4 : w8.cell? ⟨gb546,4,none⟩ = some (.int .i64 0):=(blk_cell BK546.out 4).trans rfl
          have hcz18_5 : w8.cell? ⟨gb546,5,none⟩ = some (.int .i64 0):=(blk_cell BK546.out 5).trans rfl
          have hfz18_0:=blk_frozen BK546.out 0
          have hfz18_1:=blk_frozen BK546.out 1
          have hfz18_2:=blk_frozen BK546.out 2
          have hfz18_3:=blk_frozen BK546.out 3
          have hfz18_4:=blk_frozen BK546.out 4
          have hfz18_5:=blk_frozen BK546.out 5
          go_wp2_with (first | (go_at_call 37;(refine (humusref04_Same.calls k t537 t538 _ _ t539 t542 t543 t544 0 false _ _ ([] : List Nat) 0 0 0 false _ ?side1 ?side2 ?side3 ?side4 A12.out).mono ?_);(case side1 => refine (Kd.R_reads' (e:=25) (base:=w.heap.size) (ok:=fun k_ => True) (n:=t539.length) (c:=co10) ?_).2.2;exact (by (with_reducible repeat (first | apply Kd.R_alloc | apply Kd.R_drewN | apply Kd.R_drew));exact (Kd.R_mono (Kd.R_far (p:=⟨gb546,5,none⟩) (Kd.R_far (p:=⟨gb546,4,none⟩) (Kd.R_far (p:=⟨gb546,3,none⟩) (Kd.R_far (p:=⟨gb546,2,none⟩) (Kd.R_far (p:=⟨gb546,1,none⟩) (Kd.R_far (p:=⟨gb546,0,none⟩) (Kd.R_types HO541.out BK546.out (by decide)) (fun _ hk => hk.2) (.float .f64 t537)) (fun _ hk => hk.2) (.bool t538)) (fun _ hk => hk.2) (.slice Ao10 t539.length co10)) (fun _ hk => hk.2) (.int .i64 t542)) (fun _ hk => hk.2) (.int .i64 t543)) (fun _ hk => hk.2) (.int .i64 t544)) (fun _ h_ => h_.1))));(case side2 => exact (Kd.R_reads' HO541.out).2.1);(case side3 => exact Kd.C_nil _ _);(case side4 => exact Nat.le_refl _);rintro e w19 ⟨rfl,hb⟩;have n0_:=Aside0.mk (Kd.R_below (by (with_reducible repeat (first | apply Kd.R_alloc | apply Kd.R_drewN | apply Kd.R_drew));exact (Kd.R_mono (Kd.R_far (p:=⟨gb546,5,none⟩) (Kd.R_far (p:=⟨gb546,4,none⟩) (Kd.R_far (p:=⟨gb546,3,none⟩) (Kd.R_far (p:=⟨gb546,2,none⟩) (Kd.R_far (p:=⟨gb546,1,none⟩) (Kd.R_far (p:=⟨gb546,0,none⟩) (Kd.R_types HO541.out BK546.out (by decide)) (fun _ hk => hk.2) (.float .f64 t537)) (fun _ hk => hk.2) (.bool t538)) (fun _ hk => hk.2) (.slice Ao10 t539.length co10)) (fun _ hk => hk.2) (.int .i64 t542)) (fun _ hk => hk.2) (.int .i64 t543)) (fun _ hk => hk.2) (.int .i64 t544)) (fun _ h_ => h_.1))) hb);have n1_:=Aside0.mk (blk_below (g:=gb546) (o:=.cells #[.float .f64 t537,.bool t538,.slice Ao10 t539.length co10,.int .i64 t542,.int .i64 t543,.int .i64 t544] 30 (0,0)) (by (with_reducible repeat (first | refine blk_drewN ?_ _ | refine blk_drew ?_ | refine blk_alloc ?_ _));refine blk_put (cs:=#[.float .f64 t537,.bool t538,.slice Ao10 t539.length co10,.int .i64 t542,.int .i64 t543,.int .i64 0]) ?_ 5 _ rfl;(with_reducible repeat (first | refine blk_drewN ?_ _ | refine blk_drew ?_ | refine blk_alloc ?_ _));refine blk_put (cs:=#[.float .f64 t537,.bool t538,.slice Ao10 t539.length co10,.int .i64 t542,.int .i64 0,.int .i64 0]) ?_ 4 _ rfl;(with_reducible repeat (first | refine blk_drewN ?_ _ | refine blk_drew ?_ | refine blk_alloc ?_ _));refine blk_put (cs:=#[.float .f64 t537,.bool t538,.slice Ao10 t539.length co10,.int .i64 0,.int .i64 0,.int .i64 0]) ?_ 3 _ rfl;(with_reducible repeat (first | refine blk_drewN ?_ _ | refine blk_drew ?_ | refine blk_alloc ?_ _));refine blk_put (cs:=#[.float .f64 t537,.bool t538,.slice none 0 0,.int .i64 0,.int .i64 0,.int .i64 0]) ?_ 2 _ rfl;(with_reducible repeat (first | refine blk_drewN ?_ _ | refine blk_drew ?_ | refine blk_alloc ?_ _));refine blk_put (cs:=#[.float .f64 t537,.bool false,.slice none 0 0,.int .i64 0,.int .i64 0,.int .i64 0]) ?_ 1 _ rfl;(with_reducible repeat (first | refine blk_drewN ?_ _ | refine blk_drew ?_ | refine blk_alloc ?_ _));refine blk_put (cs:=#[.float .f64 0,.bool false,.slice none 0 0,.int .i64 0,.int .i64 0,.int .i64 0]) ?_ 0 _ rfl;(with_reducible repeat (first | refine blk_drewN ?_ _ | refine blk_drew ?_ | refine blk_alloc ?_ _));exact BK546.out) hb);have n2_:=Aside0.mk (below_step (by repeat (first | (with_reducible first | exact HB.out | apply below_alloc | apply pw_below_drewN | apply below_drew1 | refine below_set ?_ GE546.out) | exact HB.out)) hb);clear HO541;clear BK546;clear HB;have HO541:=n0_;have BK546:=n1_;have HB:=n2_;clear n0_ n1_ n2_;(try clear hb);(try clear hb2);(try clear hk);(try clear hi)))
          go_meet
          case rel => exact ⟨_,(false),(by first | rfl | (simp;done) | (simp [*];done)),H',⟨by first | omega | exact Nat.le_refl _⟩,⟨by (with_reducible repeat (first | apply Kd.R_alloc | apply Kd.R_drewN | apply Kd.R_drew));exact HO541.out⟩,⟨by (with_reducible repeat (first | refine blk_drewN ?_ _ | refine blk_drew ?_ | refine blk_alloc ?_ _));exact BK546.out⟩,⟨by repeat (first | (with_reducible first | exact HB.out | apply below_alloc | apply pw_below_drewN | apply below_drew1 | refine below_set ?_ GE546.out) | exact HB.out)⟩⟩
      · rw [if_neg c11] at H
        have c11b0 : (t545 == 1) = false:=beq_eq_false_iff_ne.mpr c11
        have c11b1 : (t545 != 1) = true:=bne_iff_ne.mpr c11
        (first | rw [c11b0] | (simp only [i64_w,i32_w];rw [c11b0]) | skip)
        have H':=Aside0.mk H
        clear H
        go_wp2
        go_meet
        case rel => exact ⟨_,(false),(by first | rfl | (simp;done) | (simp [*];done)),H',⟨by first | omega | exact Nat.le_refl _⟩,⟨by (with_reducible repeat (first | apply Kd.R_alloc | apply Kd.R_drewN | apply Kd.R_drew));exact Kd.R_mono (Kd.R_far (p:=⟨gb546,5,none⟩) (Kd.R_far (p:=⟨gb546,4,none⟩) (Kd.R_far (p:=⟨gb546,3,none⟩) (Kd.R_far (p:=⟨gb546,2,none⟩) (Kd.R_far (p:=⟨gb546,1,none⟩) (Kd.R_far (p:=⟨gb546,0,none⟩) (Kd.R_types HO541.out BK546.out (by decide)) (fun _ hk => hk.2) (.float .f64 t537)) (fun _ hk => hk.2) (.bool t538)) (fun _ hk => hk.2) (.slice Ao10 t539.length co10)) (fun _ hk => hk.2) (.int .i64 t542)) (fun _ hk => hk.2) (.int .i64 t543)) (fun _ hk => hk.2) (.int .i64 t544)) (fun _ hk => trivial)⟩,⟨by (with_reducible repeat (first | refine blk_drewN ?_ _ | refine blk_drew ?_ | refine blk_alloc ?_ _));refine blk_put (cs:=#[.float .f64 t537,.bool t538,.slice Ao10 t539.length co10,.int .i64 t542,.int .i64 t543,.int .i64 0]) ?_ 5 _ rfl;(with_reducible repeat (first | refine blk_drewN ?_ _ | refine blk_drew ?_ | refine blk_alloc ?_ _));refine blk_put (cs:=#[.float .f64 t537,.bool t538,.slice Ao10 t539.length co10,.int .i64 t542,.int .i64 0,.int .i64 0]) ?_ 4 _ rfl;(with_reducible repeat (first | refine blk_drewN ?_ _ | refine blk_drew ?_ | refine blk_alloc ?_ _));refine blk_put (cs:=#[.float .f64 t537,.bool t538,.slice Ao10 t539.length co10,.int .i64 0,.int .i64 0,.int .i64 0]) ?_ 3 _ rfl;(with_reducible repeat (first | refine blk_drewN ?_ _ | refine blk_drew ?_ | refine blk_alloc ?_ _));refine blk_put (cs:=#[.float .f64 t537,.bool t538,.slice none 0 0,.int .i64 0,.int .i64 0,.int .i64 0]) ?_ 2 _ rfl;(with_reducible repeat (first | refine blk_drewN ?_ _ | refine blk_drew ?_ | refine blk_alloc ?_ _));refine blk_put (cs:=#[.float .f64 t537,.bool false,.slice none 0 0,.int .i64 0,.int .i64 0,.int .i64 0]) ?_ 1 _ rfl;(with_reducible repeat (first | refine blk_drewN ?_ _ | refine blk_drew ?_ | refine blk_alloc ?_ _));refine blk_put (cs:=#[.float .f64 0,.bool false,.slice none 0 0,.int .i64 0,.int .i64 0,.int .i64 0]) ?_ 0 _ rfl;(with_reducible repeat (first | refine blk_drewN ?_ _ | refine blk_drew ?_ | refine blk_alloc ?_ _));exact BK546.out⟩,⟨by repeat (first | (with_reducible first | exact HB.out | apply below_alloc | apply pw_below_drewN | apply below_drew1 | refine below_set ?_ GE546.out) | exact HB.out)⟩⟩
    case rest =>
      clear HC6
      try clear c1
      try clear p2
      try clear c3
      try clear c5
      try clear c5b0
      try clear c5b1
      try clear c8
      try clear c11
      try clear c11b0
      try clear c11b1
      try clear c13
      try clear hcz15_0
      try clear hcz15_1
      try clear hcz15_2
      try clear hcz15_3
      try clear hcz15_4
      try clear hcz15_5
      try clear hcz18_0
      try clear hcz18_1
      try clear hcz18_2
      try clear hcz18_3
      try clear hcz18_4
      try clear hcz18_5
      try clear hcz9_0
      try clear hcz9_1
      try clear hcz9_2
      try clear hcz9_3
      try clear hcz9_4
      try clear hcz9_5
      try clear hfz15_0
      try clear hfz15_1
      try clear hfz15_2
      try clear hfz15_3
      try clear hfz15_4
      try clear hfz15_5
      try clear hfz18_0
      try clear hfz18_1
      try clear hfz18_2
      try clear hfz18_3
      try clear hfz18_4
      try clear hfz18_5
      try clear hfz9_0
      try clear hfz9_1
      try clear hfz9_2
      try clear hfz9_3
      try clear hfz9_4
      try clear hfz9_5
      obtain ⟨kq,x6_5,rfl,HA,HJ5,HO_547002,BK546,HB⟩:=hcut
      cases kq with
      | zero => exact absurd HA.out (by simp [humuslaw04_RowMakes.j0])
      | succ kj5 =>
        have H:=HA.out
        clear HA
        simp only [humuslaw04_RowMakes.j0] at H
        obtain rfl:=Option.some.inj H
        go_wp2
        go_ret
        exact ⟨by first | rfl | (simp [errW_none,errW_some] <;> rfl) | (simp [*,errW_none,errW_some] <;> rfl),by repeat (first | (with_reducible first | exact HB.out | apply below_alloc | apply pw_below_drewN | apply below_drew1 | refine below_set ?_ GE546.out) | exact HB.out)⟩
  · rw [if_neg c5] at H
    have c5b0 : decide (4 < (l1.length : Int)) = false:=decide_eq_false c5
    have c5b1 : decide (4 < l1.length) = false:=decide_eq_false (by omega)
    clear c5
    have HC20:=Aside0.mk H
    clear H
    go_enter Try.func8,Try.ntmps8
    go_upto_region 4 with (first | ((with_reducible refine gate_callee (f:=39) rfl ?_);refine goesL_ (some 14) rfl rfl Try.func39 (by kernel_rfl) rfl #[.float .f64 a0,.slice A1 l1.length c1] rfl (by (try simp only [List.map_toArray,List.map_cons,List.map_nil]);first | done | rfl | (simp only [List.length_drop,List.length_take];rfl)) ?_;(with_reducible refine (row_Of.calls k a0 _ _ l1 t537 t538 t539 t542 t543 t544 t545 _ ?side1 ?side2 A4.out).mono ?_);(case side1 => repeat (first | exact HR1.out | (with_reducible refine Kd.C_alloc ?_ _) | (with_reducible refine Kd.C_drewN ?_ _) | (with_reducible refine Kd.C_drew ?_)));(case side2 => exact HC1.out);rintro e w21 ⟨v540,rfl,ho0,hb⟩;refine ⟨_,rfl,?_⟩;have n0_:=Aside0.mk (Kd.R_lower ho0 (below_size (by repeat (first | (with_reducible first | exact HB.out | apply below_alloc | apply pw_below_drewN | apply below_drew1) | exact HB.out))));have n1_:=Aside0.mk (below_step (by repeat (first | (with_reducible first | exact HB.out | apply below_alloc | apply pw_below_drewN | apply below_drew1) | exact HB.out)) hb);clear HB;have HO541:=n0_;have HB:=n1_;clear n0_ n1_;(try clear hb);(try clear hb2);(try clear hk);(try clear hi);(try clear ho0)) | ((with_reducible refine gate_dst (N:=7) rfl ?_);refine box_event ?hg (N:=7) ?hd (cs:=#[.float .f64 0,.bool false,.slice none 0 0,.int .i64 0,.int .i64 0,.int .i64 0]) (t:=30) ?hr ?_;(case hd => rfl);(case hg => rfl);(case hr => first | (go_simp;done) | (go_simp;rfl));intro gb546 hg w22 hbox hb;have n0_:=Aside0.mk (Kd.R_below (by (with_reducible repeat (first | apply Kd.R_alloc | apply Kd.R_drewN | apply Kd.R_drew));exact HO541.out) hb);have n1_:=Aside0.mk (below_step (by repeat (first | (with_reducible first | exact HB.out | apply below_alloc | apply pw_below_drewN | apply below_drew1) | exact HB.out)) hb);have n2_:=Aside0.mk (hbox);have n3_:=Aside0.mk ((by rw [hg];exact (below_size (by repeat (first | (with_reducible first | exact HB.out | apply below_alloc | apply pw_below_drewN | apply below_drew1) | exact HB.out))) : w.heap.size ≤ gb546));have n4_:=Aside0.mk ((by rw [hg];exact (below_size (by repeat (first | (with_reducible first | exact HB.out | apply below_alloc | apply pw_below_drewN | apply below_drew1) | exact HB.out))) : w.heap.size ≤ gb546));clear HO541;clear HB;have HO541:=n0_;have HB:=n1_;have BK546:=n2_;have GW546:=n3_;have GE546:=n4_;clear n0_ n1_ n2_ n3_ n4_;clear hb hbox hg;have hcz23_0 : w22.cell? ⟨gb546,0,none⟩ = some (.float .f64 0):=(blk_cell BK546.out 0).trans rfl;have hcz23_1 : w22.cell? ⟨gb546,1,none⟩ = some (.bool false):=(blk_cell BK546.out 1).trans rfl;have hcz23_2 : w22.cell? ⟨gb546,2,none⟩ = some (.slice none 0 0):=(blk_cell BK546.out 2).trans rfl;have hcz23_3 : w22.cell? ⟨gb546,3,none⟩ = some (.int .i64 0):=(blk_cell BK546.out 3).trans rfl;have hcz23_4 : w22.cell? ⟨gb546,4,none⟩ = some (.int .i64 0):=(blk_cell BK546.out 4).trans rfl;have hcz23_5 : w22.cell? ⟨gb546,5,none⟩ = some (.int .i64 0):=(blk_cell BK546.out 5).trans rfl;have hfz23_0:=blk_frozen BK546.out 0;have hfz23_1:=blk_frozen BK546.out 1;have hfz23_2:=blk_frozen BK546.out 2;have hfz23_3:=blk_frozen BK546.out 3;have hfz23_4:=blk_frozen BK546.out 4;have hfz23_5:=blk_frozen BK546.out 5;obtain ⟨Ao24,co24,eo24⟩:=Kd.R_slice HO541.out;subst eo24))
    (try simp only [Act.put,List.setIfInBounds_toArray,List.set_cons_zero,List.set_cons_succ])
    go_cut [44] (fun v44 wc => ∃ (kq : Nat) (x44_19 : Bool),v44 = .bool x44_19 ∧ Aside0 (humuslaw04_RowMakes.j1 kq l1 a2 x44_19 t537 t538 t539 t542 t543 t544 = some r) ∧ Aside0 (kq ≤ k) ∧ Aside0 (Kd.R Kd.f64 25 wc w.heap.size (fun _ => True) (.slice Ao24 t539.length co24) t539) ∧ Aside0 (wc.heap[gb546]? = some (.cells #[.float .f64 t537,.bool t538,(.slice Ao24 t539.length co24),.int .i64 t542,.int .i64 t543,.int .i64 t544] 30 (0,0))) ∧ Aside0 (Below w.heap.size w wc))
    case first =>
      have H:=HC20.out
      clear HC20
      by_cases c25 : t545 = 0
      · rw [if_pos c25] at H
        have c25b0 : (t545 == 0) = true:=beq_iff_eq.mpr c25
        have c25b1 : (t545 != 0) = false:=bne_eq_false_iff_eq.mpr c25
        clear c25
        (first | rw [c25b0] | (simp only [i64_w,i32_w];rw [c25b0]) | skip)
        replace H:=Option.bind_eq_some_iff.mp H
        obtain ⟨⟨t549,t550,t551,t554,t555,t556⟩,A260,H⟩:=H
        replace H : ((humusref04_Same.f k t537 t538 t539 t542 t543 t544 t549 t550 t551 t554 t555 t556).bind fun t557 => (if t557 = true then ((humusref04_May.f k t537 t538 t539 t542 t543 t544).bind fun t558 => (humuslaw04_RowMakes.j1 k l1 a2 (!t558) t537 t538 t539 t542 t543 t544)) else (humuslaw04_RowMakes.j1 k l1 a2 true t537 t538 t539 t542 t543 t544))) = some r:=H
        have A26:=Aside0.mk A260
        clear A260
        replace H:=Option.bind_eq_some_iff.mp H
        obtain ⟨t557,A270,H⟩:=H
        replace H : (if t557 = true then ((humusref04_May.f k t537 t538 t539 t542 t543 t544).bind fun t558 => (humuslaw04_RowMakes.j1 k l1 a2 (!t558) t537 t538 t539 t542 t543 t544)) else (humuslaw04_RowMakes.j1 k l1 a2 true t537 t538 t539 t542 t543 t544)) = some r:=H
        have A27:=Aside0.mk A270
        clear A270
        by_cases c28 : t557 = true
        · subst c28
          have H1 : ((humusref04_May.f k t537 t538 t539 t542 t543 t544).bind fun t558 => (humuslaw04_RowMakes.j1 k l1 a2 (!t558) t537 t538 t539 t542 t543 t544)) = some r:=by rw [if_pos rfl] at H;exact H
          clear H
          have H:=H1
          clear H1
          replace H:=Option.bind_eq_some_iff.mp H
          obtain ⟨t558,A290,H⟩:=H
          replace H : (humuslaw04_RowMakes.j1 k l1 a2 (!t558) t537 t538 t539 t542 t543 t544) = some r:=H
          have A29:=Aside0.mk A290
          clear A290
          have H':=Aside0.mk H
          clear H
          try go_wp2
          have n0_ : Aside0 (Kd.R Kd.f64 25 ((((((w22.setCell ⟨gb546,0,none⟩ (.float .f64 t537)).setCell ⟨gb546,1,none⟩ (.bool t538)).setCell ⟨gb546,2,none⟩ (.slice Ao24 t539.length co24)).setCell ⟨gb546,3,none⟩ (.int .i64 t542)).setCell ⟨gb546,4,none⟩ (.int .i64 t543)).setCell ⟨gb546,5,none⟩ (.int .i64 t544)) w.heap.size (fun _ => True) (.slice Ao24 t539.length co24) t539):=⟨by (with_reducible repeat (first | apply Kd.R_alloc | apply Kd.R_drewN | apply Kd.R_drew));exact Kd.R_mono (Kd.R_far (p:=⟨gb546,5,none⟩) (Kd.R_far (p:=⟨gb546,4,none⟩) (Kd.R_far (p:=⟨gb546,3,none⟩) (Kd.R_far (p:=⟨gb546,2,none⟩) (Kd.R_far (p:=⟨gb546,1,none⟩) (Kd.R_far (p:=⟨gb546,0,none⟩) (Kd.R_types HO541.out BK546.out (by decide)) (fun _ hk => hk.2) (.float .f64 t537)) (fun _ hk => hk.2) (.bool t538)) (fun _ hk => hk.2) (.slice Ao24 t539.length co24)) (fun _ hk => hk.2) (.int .i64 t542)) (fun _ hk => hk.2) (.int .i64 t543)) (fun _ hk => hk.2) (.int .i64 t544)) (fun _ hk => trivial)⟩
          have n1_ : Aside0 (((((((w22.setCell ⟨gb546,0,none⟩ (.float .f64 t537)).setCell ⟨gb546,1,none⟩ (.bool t538)).setCell ⟨gb546,2,none⟩ (.slice Ao24 t539.length co24)).setCell ⟨gb546,3,none⟩ (.int .i64 t542)).setCell ⟨gb546,4,none⟩ (.int .i64 t543)).setCell ⟨gb546,5,none⟩ (.int .i64 t544)).heap[gb546]? = some (.cells #[.float .f64 t537,.bool t538,.slice Ao24 t539.length co24,.int .i64 t542,.int .i64 t543,.int .i64 t544] 30 (0,0))):=⟨by (with_reducible repeat (first | refine blk_drewN ?_ _ | refine blk_drew ?_ | refine blk_alloc ?_ _));refine blk_put (cs:=#[.float .f64 t537,.bool t538,.slice Ao24 t539.length co24,.int .i64 t542,.int .i64 t543,.int .i64 0]) ?_ 5 _ rfl;(with_reducible repeat (first | refine blk_drewN ?_ _ | refine blk_drew ?_ | refine blk_alloc ?_ _));refine blk_put (cs:=#[.float .f64 t537,.bool t538,.slice Ao24 t539.length co24,.int .i64 t542,.int .i64 0,.int .i64 0]) ?_ 4 _ rfl;(with_reducible repeat (first | refine blk_drewN ?_ _ | refine blk_drew ?_ | refine blk_alloc ?_ _));refine blk_put (cs:=#[.float .f64 t537,.bool t538,.slice Ao24 t539.length co24,.int .i64 0,.int .i64 0,.int .i64 0]) ?_ 3 _ rfl;(with_reducible repeat (first | refine blk_drewN ?_ _ | refine blk_drew ?_ | refine blk_alloc ?_ _));refine blk_put (cs:=#[.float .f64 t537,.bool t538,.slice none 0 0,.int .i64 0,.int .i64 0,.int .i64 0]) ?_ 2 _ rfl;(with_reducible repeat (first | refine blk_drewN ?_ _ | refine blk_drew ?_ | refine blk_alloc ?_ _));refine blk_put (cs:=#[.float .f64 t537,.bool false,.slice none 0 0,.int .i64 0,.int .i64 0,.int .i64 0]) ?_ 1 _ rfl;(with_reducible repeat (first | refine blk_drewN ?_ _ | refine blk_drew ?_ | refine blk_alloc ?_ _));refine blk_put (cs:=#[.float .f64 0,.bool false,.slice none 0 0,.int .i64 0,.int .i64 0,.int .i64 0]) ?_ 0 _ rfl;(with_reducible repeat (first | refine blk_drewN ?_ _ | refine blk_drew ?_ | refine blk_alloc ?_ _));exact BK546.out⟩
          have n2_ : Aside0 (Below w.heap.size w ((((((w22.setCell ⟨gb546,0,none⟩ (.float .f64 t537)).setCell ⟨gb546,1,none⟩ (.bool t538)).setCell ⟨gb546,2,none⟩ (.slice Ao24 t539.length co24)).setCell ⟨gb546,3,none⟩ (.int .i64 t542)).setCell ⟨gb546,4,none⟩ (.int .i64 t543)).setCell ⟨gb546,5,none⟩ (.int .i64 t544))):=⟨by repeat (first | (with_reducible first | exact HB.out | apply below_alloc | apply pw_below_drewN | apply below_drew1 | refine below_set ?_ GE546.out) | exact HB.out)⟩
          (try clear HO541)
          (try clear BK546)
          (try clear HB)
          generalize ((((((w22.setCell ⟨gb546,0,none⟩ (.float .f64 t537)).setCell ⟨gb546,1,none⟩ (.bool t538)).setCell ⟨gb546,2,none⟩ (.slice Ao24 t539.length co24)).setCell ⟨gb546,3,none⟩ (.int .i64 t542)).setCell ⟨gb546,4,none⟩ (.int .i64 t543)).setCell ⟨gb546,5,none⟩ (.int .i64 t544)) = w30 at n0_ n1_ n2_ ⊢
          have HO541:=n0_
          have BK546:=n1_
          have HB:=n2_
          clear n0_ n1_ n2_
          have n0_:=Aside0.mk (Kd.R_drew HO541.out)
          have n1_:=Aside0.mk (blk_drew BK546.out)
          have n2_:=Aside0.mk (below_drew1 HB.out)
          clear HO541
          clear BK546
          clear HB
          have HO541:=n0_
          have BK546:=n1_
          have HB:=n2_
          clear n0_ n1_ n2_
          refine start_ (n:=15) (S:=fun w' => w'.cell? ⟨gb546,0,none⟩ = some (.float .f64 t537) ∧ w'.cell? ⟨gb546,1,none⟩ = some (.bool t538) ∧ w'.cell? ⟨gb546,2,none⟩ = some (.slice Ao24 t539.length co24) ∧ w'.cell? ⟨gb546,3,none⟩ = some (.int .i64 t542) ∧ w'.cell? ⟨gb546,4,none⟩ = some (.int .i64 t543) ∧ w'.cell? ⟨gb546,5,none⟩ = some (.int .i64 t544)) (ds:=[12]) #[false,false,false,false,false,false,false,false,false,false,false,false,false,false,false] (by kernel_rfl) rfl rfl ⟨(blk_cell BK546.out 0).trans rfl,(blk_cell BK546.out 1).trans rfl,(blk_cell BK546.out 2).trans rfl,(blk_cell BK546.out 3).trans rfl,(blk_cell BK546.out 4).trans rfl,(blk_cell BK546.out 5).trans rfl⟩ (fun hHeld => ?_);refine with_tabW humuslaw04_RowMakes.tab4 humuslaw04_RowMakes.bits4 (fun HT_ HW_ => ?_)
          generalize w30.drew = w31 at HO541 BK546 HB hHeld ⊢
          refine pure_ (i:=0) (N:=some 30) (v:=?_) (a':=?_) #[true,false,false,false,false,false,false,false,false,false,false,false,false,false,false] rfl rfl (any_of HT_.out (by kernel_rfl)) (fun _ _ _ h => h) (Or.inl ⟨by rfl,?_⟩) ?_ ?_
          rotate_left
          · intro w'
            go_simp
            with_reducible rfl
          rotate_left
          · simp only [Act.put,List.setIfInBounds_toArray,List.set_cons_zero,List.set_cons_succ,i64_w,i32_w]
            rfl
          refine pure_ (i:=1) (N:=some 31) (v:=?_) (a':=?_) #[true,true,false,false,false,false,false,false,false,false,false,false,false,false,false] rfl rfl (any_of HT_.out (by kernel_rfl)) (fun _ _ _ h => h) (Or.inl ⟨by rfl,?_⟩) ?_ ?_
          rotate_left
          · intro w'
            go_simp
            with_reducible rfl
          rotate_left
          · simp only [Act.put,List.setIfInBounds_toArray,List.set_cons_zero,List.set_cons_succ,i64_w,i32_w]
            rfl
          refine pure_ (i:=2) (N:=some 32) (v:=?_) (a':=?_) #[true,true,true,false,false,false,false,false,false,false,false,false,false,false,false] rfl rfl (any_of HT_.out (by kernel_rfl)) (fun _ _ _ h => h) (Or.inl ⟨by rfl,?_⟩) ?_ ?_
          rotate_left
          · intro w'
            go_simp
            with_reducible rfl
          rotate_left
          · simp only [Act.put,List.setIfInBounds_toArray,List.set_cons_zero,List.set_cons_succ,i64_w,i32_w]
            rfl
          refine pure_ (i:=4) (N:=some 34) (v:=?_) (a':=?_) #[true,true,true,false,true,false,false,false,false,false,false,false,false,false,false] rfl rfl (any_of HT_.out (by kernel_rfl)) (fun _ _ _ h => h) (Or.inl ⟨by rfl,?_⟩) ?_ ?_
          rotate_left
          · intro w'
            go_simp
            with_reducible rfl
          rotate_left
          · simp only [Act.put,List.setIfInBounds_toArray,List.set_cons_zero,List.set_cons_succ,i64_w,i32_w]
            rfl
          refine pure_ (i:=5) (N:=some 35) (v:=?_) (a':=?_) #[true,true,true,false,true,true,false,false,false,false,false,false,false,false,false] rfl rfl (any_of HT_.out (by kernel_rfl)) (fun _ _ _ h => h) (Or.inl ⟨by rfl,?_⟩) ?_ ?_
          rotate_left
          · intro w'
            go_simp
            with_reducible rfl
          rotate_left
          · simp only [Act.put,List.setIfInBounds_toArray,List.set_cons_zero,List.set_cons_succ,i64_w,i32_w]
            rfl
          refine take_ (i:=3) (N:=some 33) (v:=?_) (a':=?_) #[true,true,true,true,true,true,false,false,false,false,false,false,false,false,false] rfl rfl (take_ofW HT_.out HW_.out (by kernel_rfl)) (fun _ _ _ h => h) (Or.inl ⟨by rfl,?_⟩) hHeld ?_ ?_
          rotate_left
          · rintro w' ⟨s0,s1,s2,s3,s4,s5⟩
            go_simp
            with_reducible rfl
          rotate_left
          · simp only [Act.put,List.setIfInBounds_toArray,List.set_cons_zero,List.set_cons_succ,i64_w,i32_w]
            rfl
          refine one_ (i:=6) (N:=some 36) #[true,true,true,true,true,true,true,false,false,false,false,false,false,false,false] rfl rfl (one_of HT_.out (by kernel_rfl)) (by decide) (fun K hK => ?_)
          refine goes_ Try.func40 (by kernel_rfl) rfl #[.float .f64 a0,.slice A1 l1.length c1] (by rfl) rfl rfl (by (try simp only [List.map_toArray,List.map_cons,List.map_nil]);first | done | rfl | (simp only [List.length_drop,List.length_take];rfl)) ?_
          with_reducible refine (humusref04_Of.calls k a0 _ _ l1 t549 t550 t551 t554 t555 t556 _ ?side1 ?side2 A26.out).mono ?_
          (case side1 => repeat (first | exact (Kd.C_below HR1.out HB.out) | (with_reducible refine Kd.C_alloc ?_ _) | (with_reducible refine Kd.C_drewN ?_ _) | (with_reducible refine Kd.C_drew ?_)))
          (case side2 => exact HC1.out)
          rintro e w32 ⟨v552,rfl,ho0,hb⟩
          refine ⟨_,rfl,?_⟩
          have n0_:=Aside0.mk (Kd.R_elder' (by (with_reducible repeat (first | apply Kd.R_alloc | apply Kd.R_drewN | apply Kd.R_drew));exact HO541.out) (Kd.R_base ho0) hb)
          have n1_:=Aside0.mk (Kd.R_lower (Kd.R_new' ho0 (Kd.R_lt (by (with_reducible repeat (first | apply Kd.R_alloc | apply Kd.R_drewN | apply Kd.R_drew));exact HO541.out))) (below_size (by repeat (first | (with_reducible first | exact HB.out | apply below_alloc | apply pw_below_drewN | apply below_drew1 | refine below_set ?_ GE546.out) | exact HB.out))))
          have n2_:=Aside0.mk (blk_below (g:=gb546) (o:=.cells #[.float .f64 t537,.bool t538,.slice Ao24 t539.length co24,.int .i64 t542,.int .i64 t543,.int .i64 t544] 30 (0,0)) (by (with_reducible repeat (first | refine blk_drewN ?_ _ | refine blk_drew ?_ | refine blk_alloc ?_ _));exact BK546.out) hb)
          have n3_:=Aside0.mk (below_step (by repeat (first | (with_reducible first | exact HB.out | apply below_alloc | apply pw_below_drewN | apply below_drew1 | refine below_set ?_ GE546.out) | exact HB.out)) hb)
          clear HO541
          clear BK546
          clear HB
          have HO541:=n0_
          have HO553:=n1_
          have BK546:=n2_
          have HB:=n3_
          clear n0_ n1_ n2_ n3_
          (try clear hb)
          (try clear hb2)
          (try clear hk)
          (try clear hi)
          (try clear ho0)
          obtain ⟨Ao33,co33,eo33⟩:=Kd.R_slice HO553.out
          (first | subst eo33 | (injection eo33 with f1_ f2_ f3_;have f4_:=f1_.symm;have f5_:=f3_.symm;clear f1_ f2_ f3_;subst f4_;subst f5_))
          refine hK.out _ _ ⟨(blk_cell BK546.out 0).trans rfl,(blk_cell BK546.out 1).trans rfl,(blk_cell BK546.out 2).trans rfl,(blk_cell BK546.out 3).trans rfl,(blk_cell BK546.out 4).trans rfl,(blk_cell BK546.out 5).trans rfl⟩ (fun hHeld => ?_)
          clear hK K
          refine norm_ (a':=?_) ?_ ?_
          rotate_left
          · show Act.put _ (some 36) _ = _
            simp only [Act.put,List.setIfInBounds_toArray,List.set_cons_zero,List.set_cons_succ,i64_w,i32_w]
            rfl
          refine one_ (i:=7) (N:=some 37) #[true,true,true,true,true,true,true,true,false,false,false,false,false,false,false] rfl rfl (one_of HT_.out (by kernel_rfl)) (by decide) (fun K hK => ?_)
          refine goes_ Try.func37 (by kernel_rfl) rfl #[.agg #[.float .f64 t537,.bool t538,.slice Ao24 t539.length co24,.int .i64 t542,.int .i64 t543,.int .i64 t544],.agg #[.float .f64 t549,.bool t550,.slice Ao33 t551.length co33,.int .i64 t554,.int .i64 t555,.int .i64 t556]] (by rfl) rfl rfl (by (try simp only [List.map_toArray,List.map_cons,List.map_nil]);first | done | rfl | (simp only [List.length_drop,List.length_take];rfl)) ?_
          with_reducible refine (humusref04_Same.calls k t537 t538 _ _ t539 t542 t543 t544 t549 t550 _ _ t551 t554 t555 t556 true _ ?side1 ?side2 ?side3 ?side4 A27.out).mono ?_
          (case side1 => repeat (first | exact (Kd.R_reads' HO541.out).2.2 | (with_reducible refine Kd.C_alloc ?_ _) | (with_reducible refine Kd.C_drewN ?_ _) | (with_reducible refine Kd.C_drew ?_)))
          (case side2 => exact (Kd.R_reads' HO541.out).2.1)
          (case side3 => repeat (first | exact (Kd.R_reads' HO553.out).2.2 | (with_reducible refine Kd.C_alloc ?_ _) | (with_reducible refine Kd.C_drewN ?_ _) | (with_reducible refine Kd.C_drew ?_)))
          (case side4 => exact (Kd.R_reads' HO553.out).2.1)
          rintro e w34 ⟨rfl,hb⟩
          refine ⟨_,rfl,?_⟩
          have n0_:=Aside0.mk (Kd.R_below (by (with_reducible repeat (first | apply Kd.R_alloc | apply Kd.R_drewN | apply Kd.R_drew));exact HO541.out) hb)
          have n1_:=Aside0.mk (Kd.R_below (by (with_reducible repeat (first | apply Kd.R_alloc | apply Kd.R_drewN | apply Kd.R_drew));exact HO553.out) hb)
          have n2_:=Aside0.mk (blk_below (g:=gb546) (o:=.cells #[.float .f64 t537,.bool t538,.slice Ao24 t539.length co24,.int .i64 t542,.int .i64 t543,.int .i64 t544] 30 (0,0)) (by (with_reducible repeat (first | refine blk_drewN ?_ _ | refine blk_drew ?_ | refine blk_alloc ?_ _));exact BK546.out) hb)
          have n3_:=Aside0.mk (below_step (by repeat (first | (with_reducible first | exact HB.out | apply below_alloc | apply pw_below_drewN | apply below_drew1 | refine below_set ?_ GE546.out) | exact HB.out)) hb)
          clear HO541
          clear HO553
          clear BK546
          clear HB
          have HO541:=n0_
          have HO553:=n1_
          have BK546:=n2_
          have HB:=n3_
          clear n0_ n1_ n2_ n3_
          (try clear hb)
          (try clear hb2)
          (try clear hk)
          (try clear hi)
          refine hK.out _ _ ⟨(blk_cell BK546.out 0).trans rfl,(blk_cell BK546.out 1).trans rfl,(blk_cell BK546.out 2).trans rfl,(blk_cell BK546.out 3).trans rfl,(blk_cell BK546.out 4).trans rfl,(blk_cell BK546.out 5).trans rfl⟩ (fun hHeld => ?_)
          clear hK K
          refine norm_ (a':=?_) ?_ ?_
          rotate_left
          · show Act.put _ (some 37) _ = _
            simp only [Act.put,List.setIfInBounds_toArray,List.set_cons_zero,List.set_cons_succ,i64_w,i32_w]
            rfl
          refine pure_ (i:=8) (N:=some 38) (v:=?_) (a':=?_) #[true,true,true,true,true,true,true,true,true,false,false,false,false,false,false] rfl rfl (any_of HT_.out (by kernel_rfl)) (fun _ _ _ h => h) (Or.inl ⟨by rfl,?_⟩) ?_ ?_
          rotate_left
          · intro w'
            go_simp
            with_reducible rfl
          rotate_left
          · simp only [Act.put,List.setIfInBounds_toArray,List.set_cons_zero,List.set_cons_succ,i64_w,i32_w]
            rfl
          refine pure_ (i:=9) (N:=some 39) (v:=?_) (a':=?_) #[true,true,true,true,true,true,true,true,true,true,false,false,false,false,false] rfl rfl (any_of HT_.out (by kernel_rfl)) (fun _ _ _ h => h) (Or.inl ⟨by rfl,?_⟩) ?_ ?_
          rotate_left
          · intro w'
            go_simp
            with_reducible rfl
          rotate_left
          · simp only [Act.put,List.setIfInBounds_toArray,List.set_cons_zero,List.set_cons_succ,i64_w,i32_w]
            rfl
          refine pure_ (i:=10) (N:=some 40) (v:=?_) (a':=?_) #[true,true,true,true,true,true,true,true,true,true,true,false,false,false,false] rfl rfl (any_of HT_.out (by kernel_rfl)) (fun _ _ _ h => h) (Or.inl ⟨by rfl,?_⟩) ?_ ?_
          rotate_left
          · intro w'
            go_simp
            with_reducible rfl
          rotate_left
          · simp only [Act.put,List.setIfInBounds_toArray,List.set_cons_zero,List.set_cons_succ,i64_w,i32_w]
            rfl
          refine take_ (i:=11) (N:=some 41) (v:=?_) (a':=?_) #[true,true,true,true,true,true,true,true,true,true,true,true,false,false,false] rfl rfl (take_ofW HT_.out HW_.out (by kernel_rfl)) (fun _ _ _ h => h) (Or.inl ⟨by rfl,?_⟩) hHeld ?_ ?_
          rotate_left
          · rintro w' ⟨s0,s1,s2,s3,s4,s5⟩
            go_simp
            with_reducible rfl
          rotate_left
          · simp only [Act.put,List.setIfInBounds_toArray,List.set_cons_zero,List.set_cons_succ,i64_w,i32_w]
            rfl
          refine last_ (i:=12) (N:=some 42) #[true,true,true,true,true,true,true,true,true,true,true,true,true,false,false] rfl rfl (one_of HT_.out (by kernel_rfl)) (by decide) (fun K hK => ?_)
          refine goes_ Try.func34 (by kernel_rfl) rfl #[.agg #[.float .f64 t537,.bool t538,.slice Ao24 t539.length co24,.int .i64 t542,.int .i64 t543,.int .i64 t544]] (by rfl) rfl rfl (by (try simp only [List.map_toArray,List.map_cons,List.map_nil]);first | done | rfl | (simp only [List.length_drop,List.length_take];rfl)) ?_
          with_reducible refine (humusref04_May.calls k t537 t538 _ _ t539 t542 t543 t544 t558 _ ?side1 ?side2 A29.out).mono ?_
          (case side1 => repeat (first | exact (Kd.R_reads' HO541.out).2.2 | (with_reducible refine Kd.C_alloc ?_ _) | (with_reducible refine Kd.C_drewN ?_ _) | (with_reducible refine Kd.C_drew ?_)))
          (case side2 => exact (Kd.R_reads' HO541.out).2.1)
          rintro e w35 ⟨rfl,hb⟩
          refine ⟨_,rfl,?_⟩
          have n0_:=Aside0.mk (Kd.R_below (by (with_reducible repeat (first | apply Kd.R_alloc | apply Kd.R_drewN | apply Kd.R_drew));exact HO541.out) hb)
          have n1_:=Aside0.mk (Kd.R_below (by (with_reducible repeat (first | apply Kd.R_alloc | apply Kd.R_drewN | apply Kd.R_drew));exact HO553.out) hb)
          have n2_:=Aside0.mk (blk_below (g:=gb546) (o:=.cells #[.float .f64 t537,.bool t538,.slice Ao24 t539.length co24,.int .i64 t542,.int .i64 t543,.int .i64 t544] 30 (0,0)) (by (with_reducible repeat (first | refine blk_drewN ?_ _ | refine blk_drew ?_ | refine blk_alloc ?_ _));exact BK546.out) hb)
          have n3_:=Aside0.mk (below_step (by repeat (first | (with_reducible first | exact HB.out | apply below_alloc | apply pw_below_drewN | apply below_drew1 | refine below_set ?_ GE546.out) | exact HB.out)) hb)
          clear HO541
          clear HO553
          clear BK546
          clear HB
          have HO541:=n0_
          have HO553:=n1_
          have BK546:=n2_
          have HB:=n3_
          clear n0_ n1_ n2_ n3_
          (try clear hb)
          (try clear hb2)
          (try clear hk)
          (try clear hi)
          refine hK.out _ _ ?_
          clear hK K
          refine norm_ (a':=?_) ?_ ?_
          rotate_left
          · show Act.put _ (some 42) _ = _
            simp only [Act.put,List.setIfInBounds_toArray,List.set_cons_zero,List.set_cons_succ,i64_w,i32_w]
            rfl
          refine pure_ (i:=13) (N:=some 43) (v:=?_) (a':=?_) #[true,true,true,true,true,true,true,true,true,true,true,true,true,true,false] rfl rfl (any_of HT_.out (by kernel_rfl)) (fun _ _ _ h => h) (Or.inl ⟨by rfl,?_⟩) ?_ ?_
          rotate_left
          · intro w'
            go_simp
            with_reducible rfl
          rotate_left
          · simp only [Act.put,List.setIfInBounds_toArray,List.set_cons_zero,List.set_cons_succ,i64_w,i32_w]
            rfl
          refine pure_ (i:=14) (N:=some 44) (v:=?_) (a':=?_) #[true,true,true,true,true,true,true,true,true,true,true,true,true,true,true] rfl rfl (any_of HT_.out (by kernel_rfl)) (fun _ _ _ h => h) (Or.inl ⟨by rfl,?_⟩) ?_ ?_
          rotate_left
          · intro w'
            go_simp
            with_reducible rfl
          rotate_left
          · simp only [Act.put,List.setIfInBounds_toArray,List.set_cons_zero,List.set_cons_succ,i64_w,i32_w]
            rfl
          refine done_ (done_of HT_.out (by kernel_rfl)) ?_
          try go_wp2
          go_meet
          case rel => exact ⟨_,(!t558),(by first | rfl | (simp;done) | (simp [*];done)),H',⟨by first | omega | exact Nat.le_refl _⟩,⟨by (with_reducible repeat (first | apply Kd.R_alloc | apply Kd.R_drewN | apply Kd.R_drew));exact Kd.R_mono HO541.out (fun _ hk => trivial)⟩,⟨by (with_reducible repeat (first | refine blk_drewN ?_ _ | refine blk_drew ?_ | refine blk_alloc ?_ _));exact BK546.out⟩,⟨by repeat (first | (with_reducible first | exact HB.out | apply below_alloc | apply pw_below_drewN | apply below_drew1 | refine below_set ?_ GE546.out) | exact HB.out)⟩⟩
        · replace c28:=Bool.eq_false_iff.mpr c28
          subst c28
          have H1 : (humuslaw04_RowMakes.j1 k l1 a2 true t537 t538 t539 t542 t543 t544) = some r:=by rw [if_neg (show ¬ (false = true) by decide)] at H;exact H
          clear H
          have H:=H1
          clear H1
          have H':=Aside0.mk H
          clear H
          try go_wp2
          have n0_ : Aside0 (Kd.R Kd.f64 25 ((((((w22.setCell ⟨gb546,0,none⟩ (.float .f64 t537)).setCell ⟨gb546,1,none⟩ (.bool t538)).setCell ⟨gb546,2,none⟩ (.slice Ao24 t539.length co24)).setCell ⟨gb546,3,none⟩ (.int .i64 t542)).setCell ⟨gb546,4,none⟩ (.int .i64 t543)).setCell ⟨gb546,5,none⟩ (.int .i64 t544)) w.heap.size (fun _ => True) (.slice Ao24 t539.length co24) t539):=⟨by (with_reducible repeat (first | apply Kd.R_alloc | apply Kd.R_drewN | apply Kd.R_drew));exact Kd.R_mono (Kd.R_far (p:=⟨gb546,5,none⟩) (Kd.R_far (p:=⟨gb546,4,none⟩) (Kd.R_far (p:=⟨gb546,3,none⟩) (Kd.R_far (p:=⟨gb546,2,none⟩) (Kd.R_far (p:=⟨gb546,1,none⟩) (Kd.R_far (p:=⟨gb546,0,none⟩) (Kd.R_types HO541.out BK546.out (by decide)) (fun _ hk => hk.2) (.float .f64 t537)) (fun _ hk => hk.2) (.bool t538)) (fun _ hk => hk.2) (.slice Ao24 t539.length co24)) (fun _ hk => hk.2) (.int .i64 t542)) (fun _ hk => hk.2) (.int .i64 t543)) (fun _ hk => hk.2) (.int .i64 t544)) (fun _ hk => trivial)⟩
          have n1_ : Aside0 (((((((w22.setCell ⟨gb546,0,none⟩ (.float .f64 t537)).setCell ⟨gb546,1,none⟩ (.bool t538)).setCell ⟨gb546,2,none⟩ (.slice Ao24 t539.length co24)).setCell ⟨gb546,3,none⟩ (.int .i64 t542)).setCell ⟨gb546,4,none⟩ (.int .i64 t543)).setCell ⟨gb546,5,none⟩ (.int .i64 t544)).heap[gb546]? = some (.cells #[.float .f64 t537,.bool t538,.slice Ao24 t539.length co24,.int .i64 t542,.int .i64 t543,.int .i64 t544] 30 (0,0))):=⟨by (with_reducible repeat (first | refine blk_drewN ?_ _ | refine blk_drew ?_ | refine blk_alloc ?_ _));refine blk_put (cs:=#[.float .f64 t537,.bool t538,.slice Ao24 t539.length co24,.int .i64 t542,.int .i64 t543,.int .i64 0]) ?_ 5 _ rfl;(with_reducible repeat (first | refine blk_drewN ?_ _ | refine blk_drew ?_ | refine blk_alloc ?_ _));refine blk_put (cs:=#[.float .f64 t537,.bool t538,.slice Ao24 t539.length co24,.int .i64 t542,.int .i64 0,.int .i64 0]) ?_ 4 _ rfl;(with_reducible repeat (first | refine blk_drewN ?_ _ | refine blk_drew ?_ | refine blk_alloc ?_ _));refine blk_put (cs:=#[.float .f64 t537,.bool t538,.slice Ao24 t539.length co24,.int .i64 0,.int .i64 0,.int .i64 0]) ?_ 3 _ rfl;(with_reducible repeat (first | refine blk_drewN ?_ _ | refine blk_drew ?_ | refine blk_alloc ?_ _));refine blk_put (cs:=#[.float .f64 t537,.bool t538,.slice none 0 0,.int .i64 0,.int .i64 0,.int .i64 0]) ?_ 2 _ rfl;(with_reducible repeat (first | refine blk_drewN ?_ _ | refine blk_drew ?_ | refine blk_alloc ?_ _));refine blk_put (cs:=#[.float .f64 t537,.bool false,.slice none 0 0,.int .i64 0,.int .i64 0,.int .i64 0]) ?_ 1 _ rfl;(with_reducible repeat (first | refine blk_drewN ?_ _ | refine blk_drew ?_ | refine blk_alloc ?_ _));refine blk_put (cs:=#[.float .f64 0,.bool false,.slice none 0 0,.int .i64 0,.int .i64 0,.int .i64 0]) ?_ 0 _ rfl;(with_reducible repeat (first | refine blk_drewN ?_ _ | refine blk_drew ?_ | refine blk_alloc ?_ _));exact BK546.out⟩
          have n2_ : Aside0 (Below w.heap.size w ((((((w22.setCell ⟨gb546,0,none⟩ (.float .f64 t537)).setCell ⟨gb546,1,none⟩ (.bool t538)).setCell ⟨gb546,2,none⟩ (.slice Ao24 t539.length co24)).setCell ⟨gb546,3,none⟩ (.int .i64 t542)).setCell ⟨gb546,4,none⟩ (.int .i64 t543)).setCell ⟨gb546,5,none⟩ (.int .i64 t544))):=⟨by repeat (first | (with_reducible first | exact HB.out | apply below_alloc | apply pw_below_drewN | apply below_drew1 | refine below_set ?_ GE546.out) | exact HB.out)⟩
          (try clear HO541)
          (try clear BK546)
          (try clear HB)
          generalize ((((((w22.setCell ⟨gb546,0,none⟩ (.float .f64 t537)).setCell ⟨gb546,1,none⟩ (.bool t538)).setCell ⟨gb546,2,none⟩ (.slice Ao24 t539.length co24)).setCell ⟨gb546,3,none⟩ (.int .i64 t542)).setCell ⟨gb546,4,none⟩ (.int .i64 t543)).setCell ⟨gb546,5,none⟩ (.int .i64 t544)) = w36 at n0_ n1_ n2_ ⊢
          have HO541:=n0_
          have BK546:=n1_
          have HB:=n2_
          clear n0_ n1_ n2_
          have n0_:=Aside0.mk (Kd.R_drew HO541.out)
          have n1_:=Aside0.mk (blk_drew BK546.out)
          have n2_:=Aside0.mk (below_drew1 HB.out)
          clear HO541
          clear BK546
          clear HB
          have HO541:=n0_
          have BK546:=n1_
          have HB:=n2_
          clear n0_ n1_ n2_
          refine start_ (n:=15) (S:=fun w' => w'.cell? ⟨gb546,0,none⟩ = some (.float .f64 t537) ∧ w'.cell? ⟨gb546,1,none⟩ = some (.bool t538) ∧ w'.cell? ⟨gb546,2,none⟩ = some (.slice Ao24 t539.length co24) ∧ w'.cell? ⟨gb546,3,none⟩ = some (.int .i64 t542) ∧ w'.cell? ⟨gb546,4,none⟩ = some (.int .i64 t543) ∧ w'.cell? ⟨gb546,5,none⟩ = some (.int .i64 t544)) (ds:=[7]) #[false,false,false,false,false,false,false,false,false,false,false,false,false,false,false] (by kernel_rfl) rfl rfl ⟨(blk_cell BK546.out 0).trans rfl,(blk_cell BK546.out 1).trans rfl,(blk_cell BK546.out 2).trans rfl,(blk_cell BK546.out 3).trans rfl,(blk_cell BK546.out 4).trans rfl,(blk_cell BK546.out 5).trans rfl⟩ (fun hHeld => ?_);refine with_tabW humuslaw04_RowMakes.tab4 humuslaw04_RowMakes.bits4 (fun HT_ HW_ => ?_)
          generalize w36.drew = w37 at HO541 BK546 HB hHeld ⊢
          refine pure_ (i:=0) (N:=some 30) (v:=?_) (a':=?_) #[true,false,false,false,false,false,false,false,false,false,false,false,false,false,false] rfl rfl (any_of HT_.out (by kernel_rfl)) (fun _ _ _ h => h) (Or.inl ⟨by rfl,?_⟩) ?_ ?_
          rotate_left
          · intro w'
            go_simp
            with_reducible rfl
          rotate_left
          · simp only [Act.put,List.setIfInBounds_toArray,List.set_cons_zero,List.set_cons_succ,i64_w,i32_w]
            rfl
          refine pure_ (i:=1) (N:=some 31) (v:=?_) (a':=?_) #[true,true,false,false,false,false,false,false,false,false,false,false,false,false,false] rfl rfl (any_of HT_.out (by kernel_rfl)) (fun _ _ _ h => h) (Or.inl ⟨by rfl,?_⟩) ?_ ?_
          rotate_left
          · intro w'
            go_simp
            with_reducible rfl
          rotate_left
          · simp only [Act.put,List.setIfInBounds_toArray,List.set_cons_zero,List.set_cons_succ,i64_w,i32_w]
            rfl
          refine pure_ (i:=2) (N:=some 32) (v:=?_) (a':=?_) #[true,true,true,false,false,false,false,false,false,false,false,false,false,false,false] rfl rfl (any_of HT_.out (by kernel_rfl)) (fun _ _ _ h => h) (Or.inl ⟨by rfl,?_⟩) ?_ ?_
          rotate_left
          · intro w'
            go_simp
            with_reducible rfl
          rotate_left
          · simp only [Act.put,List.setIfInBounds_toArray,List.set_cons_zero,List.set_cons_succ,i64_w,i32_w]
            rfl
          refine pure_ (i:=4) (N:=some 34) (v:=?_) (a':=?_) #[true,true,true,false,true,false,false,false,false,false,false,false,false,false,false] rfl rfl (any_of HT_.out (by kernel_rfl)) (fun _ _ _ h => h) (Or.inl ⟨by rfl,?_⟩) ?_ ?_
          rotate_left
          · intro w'
            go_simp
            with_reducible rfl
          rotate_left
          · simp only [Act.put,List.setIfInBounds_toArray,List.set_cons_zero,List.set_cons_succ,i64_w,i32_w]
            rfl
          refine pure_ (i:=5) (N:=some 35) (v:=?_) (a':=?_) #[true,true,true,false,true,true,false,false,false,false,false,false,false,false,false] rfl rfl (any_of HT_.out (by kernel_rfl)) (fun _ _ _ h => h) (Or.inl ⟨by rfl,?_⟩) ?_ ?_
          rotate_left
          · intro w'
            go_simp
            with_reducible rfl
          rotate_left
          · simp only [Act.put,List.setIfInBounds_toArray,List.set_cons_zero,List.set_cons_succ,i64_w,i32_w]
            rfl
          refine take_ (i:=3) (N:=some 33) (v:=?_) (a':=?_) #[true,true,true,true,true,true,false,false,false,false,false,false,false,false,false] rfl rfl (take_ofW HT_.out HW_.out (by kernel_rfl)) (fun _ _ _ h => h) (Or.inl ⟨by rfl,?_⟩) hHeld ?_ ?_
          rotate_left
          · rintro w' ⟨s0,s1,s2,s3,s4,s5⟩
            go_simp
            with_reducible rfl
          rotate_left
          · simp only [Act.put,List.setIfInBounds_toArray,List.set_cons_zero,List.set_cons_succ,i64_w,i32_w]
            rfl
          refine one_ (i:=6) (N:=some 36) #[true,true,true,true,true,true,true,false,false,false,false,false,false,false,false] rfl rfl (one_of HT_.out (by kernel_rfl)) (by decide) (fun K hK => ?_)
          refine goes_ Try.func40 (by kernel_rfl) rfl #[.float .f64 a0,.slice A1 l1.length c1] (by rfl) rfl rfl (by (try simp only [List.map_toArray,List.map_cons,List.map_nil]);first | done | rfl | (simp only [List.length_drop,List.length_take];rfl)) ?_
          with_reducible refine (humusref04_Of.calls k a0 _ _ l1 t549 t550 t551 t554 t555 t556 _ ?side1 ?side2 A26.out).mono ?_
          (case side1 => repeat (first | exact (Kd.C_below HR1.out HB.out) | (with_reducible refine Kd.C_alloc ?_ _) | (with_reducible refine Kd.C_drewN ?_ _) | (with_reducible refine Kd.C_drew ?_)))
          (case side2 => exact HC1.out)
          rintro e w38 ⟨v552,rfl,ho0,hb⟩
          refine ⟨_,rfl,?_⟩
          have n0_:=Aside0.mk (Kd.R_elder' (by (with_reducible repeat (first | apply Kd.R_alloc | apply Kd.R_drewN | apply Kd.R_drew));exact HO541.out) (Kd.R_base ho0) hb)
          have n1_:=Aside0.mk (Kd.R_lower (Kd.R_new' ho0 (Kd.R_lt (by (with_reducible repeat (first | apply Kd.R_alloc | apply Kd.R_drewN | apply Kd.R_drew));exact HO541.out))) (below_size (by repeat (first | (with_reducible first | exact HB.out | apply below_alloc | apply pw_below_drewN | apply below_drew1 | refine below_set ?_ GE546.out) | exact HB.out))))
          have n2_:=Aside0.mk (blk_below (g:=gb546) (o:=.cells #[.float .f64 t537,.bool t538,.slice Ao24 t539.length co24,.int .i64 t542,.int .i64 t543,.int .i64 t544] 30 (0,0)) (by (with_reducible repeat (first | refine blk_drewN ?_ _ | refine blk_drew ?_ | refine blk_alloc ?_ _));exact BK546.out) hb)
          have n3_:=Aside0.mk (below_step (by repeat (first | (with_reducible first | exact HB.out | apply below_alloc | apply pw_below_drewN | apply below_drew1 | refine below_set ?_ GE546.out) | exact HB.out)) hb)
          clear HO541
          clear BK546
          clear HB
          have HO541:=n0_
          have HO553:=n1_
          have BK546:=n2_
          have HB:=n3_
          clear n0_ n1_ n2_ n3_
          (try clear hb)
          (try clear hb2)
          (try clear hk)
          (try clear hi)
          (try clear ho0)
          obtain ⟨Ao39,co39,eo39⟩:=Kd.R_slice HO553.out
          (first | subst eo39 | (injection eo39 with f1_ f2_ f3_;have f4_:=f1_.symm;have f5_:=f3_.symm;clear f1_ f2_ f3_;subst f4_;subst f5_))
          refine hK.out _ _ ⟨(blk_cell BK546.out 0).trans rfl,(blk_cell BK546.out 1).trans rfl,(blk_cell BK546.out 2).trans rfl,(blk_cell BK546.out 3).trans rfl,(blk_cell BK546.out 4).trans rfl,(blk_cell BK546.out 5).trans rfl⟩ (fun hHeld => ?_)
          clear hK K
          refine norm_ (a':=?_) ?_ ?_
          rotate_left
          · show Act.put _ (some 36) _ = _
            simp only [Act.put,List.setIfInBounds_toArray,List.set_cons_zero,List.set_cons_succ,i64_w,i32_w]
            rfl
          refine last_ (i:=7) (N:=some 37) #[true,true,true,true,true,true,true,true,false,false,false,false,false,false,false] rfl rfl (one_of HT_.out (by kernel_rfl)) (by decide) (fun K hK => ?_)
          refine goes_ Try.func37 (by kernel_rfl) rfl #[.agg #[.float .f64 t537,.bool t538,.slice Ao24 t539.length co24,.int .i64 t542,.int .i64 t543,.int .i64 t544],.agg #[.float .f64 t549,.bool t550,.slice Ao39 t551.length co39,.int .i64 t554,.int .i64 t555,.int .i64 t556]] (by rfl) rfl rfl (by (try simp only [List.map_toArray,List.map_cons,List.map_nil]);first | done | rfl | (simp only [List.length_drop,List.length_take];rfl)) ?_
          with_reducible refine (humusref04_Same.calls k t537 t538 _ _ t539 t542 t543 t544 t549 t550 _ _ t551 t554 t555 t556 false _ ?side1 ?side2 ?side3 ?side4 A27.out).mono ?_
          (case side1 => repeat (first | exact (Kd.R_reads' HO541.out).2.2 | (with_reducible refine Kd.C_alloc ?_ _) | (with_reducible refine Kd.C_drewN ?_ _) | (with_reducible refine Kd.C_drew ?_)))
          (case side2 => exact (Kd.R_reads' HO541.out).2.1)
          (case side3 => repeat (first | exact (Kd.R_reads' HO553.out).2.2 | (with_reducible refine Kd.C_alloc ?_ _) | (with_reducible refine Kd.C_drewN ?_ _) | (with_reducible refine Kd.C_drew ?_)))
          (case side4 => exact (Kd.R_reads' HO553.out).2.1)
          rintro e w40 ⟨rfl,hb⟩
          refine ⟨_,rfl,?_⟩
          have n0_:=Aside0.mk (Kd.R_below (by (with_reducible repeat (first | apply Kd.R_alloc | apply Kd.R_drewN | apply Kd.R_drew));exact HO541.out) hb)
          have n1_:=Aside0.mk (Kd.R_below (by (with_reducible repeat (first | apply Kd.R_alloc | apply Kd.R_drewN | apply Kd.R_drew));exact HO553.out) hb)
          have n2_:=Aside0.mk (blk_below (g:=gb546) (o:=.cells #[.float .f64 t537,.bool t538,.slice Ao24 t539.length co24,.int .i64 t542,.int .i64 t543,.int .i64 t544] 30 (0,0)) (by (with_reducible repeat (first | refine blk_drewN ?_ _ | refine blk_drew ?_ | refine blk_alloc ?_ _));exact BK546.out) hb)
          have n3_:=Aside0.mk (below_step (by repeat (first | (with_reducible first | exact HB.out | apply below_alloc | apply pw_below_drewN | apply below_drew1 | refine below_set ?_ GE546.out) | exact HB.out)) hb)
          clear HO541
          clear HO553
          clear BK546
          clear HB
          have HO541:=n0_
          have HO553:=n1_
          have BK546:=n2_
          have HB:=n3_
          clear n0_ n1_ n2_ n3_
          (try clear hb)
          (try clear hb2)
          (try clear hk)
          (try clear hi)
          refine hK.out _ _ ?_
          clear hK K
          refine norm_ (a':=?_) ?_ ?_
          rotate_left
          · show Act.put _ (some 37) _ = _
            simp only [Act.put,List.setIfInBounds_toArray,List.set_cons_zero,List.set_cons_succ,i64_w,i32_w]
            rfl
          refine pure_ (i:=8) (N:=some 38) (v:=?_) (a':=?_) #[true,true,true,true,true,true,true,true,true,false,false,false,false,false,false] rfl rfl (any_of HT_.out (by kernel_rfl)) (fun _ _ _ h => h) (Or.inl ⟨by rfl,?_⟩) ?_ ?_
          rotate_left
          · intro w'
            go_simp
            with_reducible rfl
          rotate_left
          · simp only [Act.put,List.setIfInBounds_toArray,List.set_cons_zero,List.set_cons_succ,i64_w,i32_w]
            rfl
          refine pure_ (i:=9) (N:=some 39) (v:=?_) (a':=?_) #[true,true,true,true,true,true,true,true,true,true,false,false,false,false,false] rfl rfl (any_of HT_.out (by kernel_rfl)) (fun _ _ _ h => h) (Or.inl ⟨by rfl,?_⟩) ?_ ?_
          rotate_left
          · intro w'
            go_simp
            with_reducible rfl
          rotate_left
          · simp only [Act.put,List.setIfInBounds_toArray,List.set_cons_zero,List.set_cons_succ,i64_w,i32_w]
            rfl
          refine pure_ (i:=10) (N:=some 40) (v:=?_) (a':=?_) #[true,true,true,true,true,true,true,true,true,true,true,false,false,false,false] rfl rfl (any_of HT_.out (by kernel_rfl)) (fun _ _ _ h => h) (Or.inl ⟨by rfl,?_⟩) ?_ ?_
          rotate_left
          · intro w'
            go_simp
            with_reducible rfl
          rotate_left
          · simp only [Act.put,List.setIfInBounds_toArray,List.set_cons_zero,List.set_cons_succ,i64_w,i32_w]
            rfl
          refine pure_ (i:=11) (N:=some 41) (v:=undef) (a':=?_) #[true,true,true,true,true,true,true,true,true,true,true,true,false,false,false] rfl rfl (any_of HT_.out (by kernel_rfl)) (fun _ _ _ h => h) (Or.inr ⟨by rfl,rfl⟩) ?_ ?_
          rotate_left
          · simp only [Act.put,List.setIfInBounds_toArray,List.set_cons_zero,List.set_cons_succ,i64_w,i32_w]
            rfl
          refine pure_ (i:=12) (N:=some 42) (v:=undef) (a':=?_) #[true,true,true,true,true,true,true,true,true,true,true,true,true,false,false] rfl rfl (any_of HT_.out (by kernel_rfl)) (fun _ _ _ h => h) (Or.inr ⟨by rfl,rfl⟩) ?_ ?_
          rotate_left
          · simp only [Act.put,List.setIfInBounds_toArray,List.set_cons_zero,List.set_cons_succ,i64_w,i32_w]
            rfl
          refine pure_ (i:=13) (N:=some 43) (v:=undef) (a':=?_) #[true,true,true,true,true,true,true,true,true,true,true,true,true,true,false] rfl rfl (any_of HT_.out (by kernel_rfl)) (fun _ _ _ h => h) (Or.inr ⟨by rfl,rfl⟩) ?_ ?_
          rotate_left
          · simp only [Act.put,List.setIfInBounds_toArray,List.set_cons_zero,List.set_cons_succ,i64_w,i32_w]
            rfl
          refine pure_ (i:=14) (N:=some 44) (v:=?_) (a':=?_) #[true,true,true,true,true,true,true,true,true,true,true,true,true,true,true] rfl rfl (any_of HT_.out (by kernel_rfl)) (fun _ _ _ h => h) (Or.inl ⟨by rfl,?_⟩) ?_ ?_
          rotate_left
          · intro w'
            go_simp
            with_reducible rfl
          rotate_left
          · simp only [Act.put,List.setIfInBounds_toArray,List.set_cons_zero,List.set_cons_succ,i64_w,i32_w]
            rfl
          refine done_ (done_of HT_.out (by kernel_rfl)) ?_
          try go_wp2
          go_meet
          case rel => exact ⟨_,(true),(by first | rfl | (simp;done) | (simp [*];done)),H',⟨by first | omega | exact Nat.le_refl _⟩,⟨by (with_reducible repeat (first | apply Kd.R_alloc | apply Kd.R_drewN | apply Kd.R_drew));exact Kd.R_mono HO541.out (fun _ hk => trivial)⟩,⟨by (with_reducible repeat (first | refine blk_drewN ?_ _ | refine blk_drew ?_ | refine blk_alloc ?_ _));exact BK546.out⟩,⟨by repeat (first | (with_reducible first | exact HB.out | apply below_alloc | apply pw_below_drewN | apply below_drew1 | refine below_set ?_ GE546.out) | exact HB.out)⟩⟩
      · rw [if_neg c25] at H
        have c25b0 : (t545 == 0) = false:=beq_eq_false_iff_ne.mpr c25
        have c25b1 : (t545 != 0) = true:=bne_iff_ne.mpr c25
        (first | rw [c25b0] | (simp only [i64_w,i32_w];rw [c25b0]) | skip)
        have H':=Aside0.mk H
        clear H
        try go_wp2
        have n0_ : Aside0 (Kd.R Kd.f64 25 ((((((w22.setCell ⟨gb546,0,none⟩ (.float .f64 t537)).setCell ⟨gb546,1,none⟩ (.bool t538)).setCell ⟨gb546,2,none⟩ (.slice Ao24 t539.length co24)).setCell ⟨gb546,3,none⟩ (.int .i64 t542)).setCell ⟨gb546,4,none⟩ (.int .i64 t543)).setCell ⟨gb546,5,none⟩ (.int .i64 t544)) w.heap.size (fun _ => True) (.slice Ao24 t539.length co24) t539):=⟨by (with_reducible repeat (first | apply Kd.R_alloc | apply Kd.R_drewN | apply Kd.R_drew));exact Kd.R_mono (Kd.R_far (p:=⟨gb546,5,none⟩) (Kd.R_far (p:=⟨gb546,4,none⟩) (Kd.R_far (p:=⟨gb546,3,none⟩) (Kd.R_far (p:=⟨gb546,2,none⟩) (Kd.R_far (p:=⟨gb546,1,none⟩) (Kd.R_far (p:=⟨gb546,0,none⟩) (Kd.R_types HO541.out BK546.out (by decide)) (fun _ hk => hk.2) (.float .f64 t537)) (fun _ hk => hk.2) (.bool t538)) (fun _ hk => hk.2) (.slice Ao24 t539.length co24)) (fun _ hk => hk.2) (.int .i64 t542)) (fun _ hk => hk.2) (.int .i64 t543)) (fun _ hk => hk.2) (.int .i64 t544)) (fun _ hk => trivial)⟩
        have n1_ : Aside0 (((((((w22.setCell ⟨gb546,0,none⟩ (.float .f64 t537)).setCell ⟨gb546,1,none⟩ (.bool t538)).setCell ⟨gb546,2,none⟩ (.slice Ao24 t539.length co24)).setCell ⟨gb546,3,none⟩ (.int .i64 t542)).setCell ⟨gb546,4,none⟩ (.int .i64 t543)).setCell ⟨gb546,5,none⟩ (.int .i64 t544)).heap[gb546]? = some (.cells #[.float .f64 t537,.bool t538,.slice Ao24 t539.length co24,.int .i64 t542,.int .i64 t543,.int .i64 t544] 30 (0,0))):=⟨by (with_reducible repeat (first | refine blk_drewN ?_ _ | refine blk_drew ?_ | refine blk_alloc ?_ _));refine blk_put (cs:=#[.float .f64 t537,.bool t538,.slice Ao24 t539.length co24,.int .i64 t542,.int .i64 t543,.int .i64 0]) ?_ 5 _ rfl;(with_reducible repeat (first | refine blk_drewN ?_ _ | refine blk_drew ?_ | refine blk_alloc ?_ _));refine blk_put (cs:=#[.float .f64 t537,.bool t538,.slice Ao24 t539.length co24,.int .i64 t542,.int .i64 0,.int .i64 0]) ?_ 4 _ rfl;(with_reducible repeat (first | refine blk_drewN ?_ _ | refine blk_drew ?_ | refine blk_alloc ?_ _));refine blk_put (cs:=#[.float .f64 t537,.bool t538,.slice Ao24 t539.length co24,.int .i64 0,.int .i64 0,.int .i64 0]) ?_ 3 _ rfl;(with_reducible repeat (first | refine blk_drewN ?_ _ | refine blk_drew ?_ | refine blk_alloc ?_ _));refine blk_put (cs:=#[.float .f64 t537,.bool t538,.slice none 0 0,.int .i64 0,.int .i64 0,.int .i64 0]) ?_ 2 _ rfl;(with_reducible repeat (first | refine blk_drewN ?_ _ | refine blk_drew ?_ | refine blk_alloc ?_ _));refine blk_put (cs:=#[.float .f64 t537,.bool false,.slice none 0 0,.int .i64 0,.int .i64 0,.int .i64 0]) ?_ 1 _ rfl;(with_reducible repeat (first | refine blk_drewN ?_ _ | refine blk_drew ?_ | refine blk_alloc ?_ _));refine blk_put (cs:=#[.float .f64 0,.bool false,.slice none 0 0,.int .i64 0,.int .i64 0,.int .i64 0]) ?_ 0 _ rfl;(with_reducible repeat (first | refine blk_drewN ?_ _ | refine blk_drew ?_ | refine blk_alloc ?_ _));exact BK546.out⟩
        have n2_ : Aside0 (Below w.heap.size w ((((((w22.setCell ⟨gb546,0,none⟩ (.float .f64 t537)).setCell ⟨gb546,1,none⟩ (.bool t538)).setCell ⟨gb546,2,none⟩ (.slice Ao24 t539.length co24)).setCell ⟨gb546,3,none⟩ (.int .i64 t542)).setCell ⟨gb546,4,none⟩ (.int .i64 t543)).setCell ⟨gb546,5,none⟩ (.int .i64 t544))):=⟨by repeat (first | (with_reducible first | exact HB.out | apply below_alloc | apply pw_below_drewN | apply below_drew1 | refine below_set ?_ GE546.out) | exact HB.out)⟩
        (try clear HO541)
        (try clear BK546)
        (try clear HB)
        generalize ((((((w22.setCell ⟨gb546,0,none⟩ (.float .f64 t537)).setCell ⟨gb546,1,none⟩ (.bool t538)).setCell ⟨gb546,2,none⟩ (.slice Ao24 t539.length co24)).setCell ⟨gb546,3,none⟩ (.int .i64 t542)).setCell ⟨gb546,4,none⟩ (.int .i64 t543)).setCell ⟨gb546,5,none⟩ (.int .i64 t544)) = w41 at n0_ n1_ n2_ ⊢
        have HO541:=n0_
        have BK546:=n1_
        have HB:=n2_
        clear n0_ n1_ n2_
        have n0_:=Aside0.mk (Kd.R_drew HO541.out)
        have n1_:=Aside0.mk (blk_drew BK546.out)
        have n2_:=Aside0.mk (below_drew1 HB.out)
        clear HO541
        clear BK546
        clear HB
        have HO541:=n0_
        have BK546:=n1_
        have HB:=n2_
        clear n0_ n1_ n2_
        refine start_ (n:=15) (S:=fun w' => True) (ds:=[]) #[false,false,false,false,false,false,false,false,false,false,false,false,false,false,false] (by kernel_rfl) rfl rfl trivial (fun hHeld => ?_);refine with_tabW humuslaw04_RowMakes.tab4 humuslaw04_RowMakes.bits4 (fun HT_ HW_ => ?_)
        generalize w41.drew = w42 at HO541 BK546 HB hHeld ⊢
        refine pure_ (i:=0) (N:=some 30) (v:=?_) (a':=?_) #[true,false,false,false,false,false,false,false,false,false,false,false,false,false,false] rfl rfl (any_of HT_.out (by kernel_rfl)) (fun _ _ _ h => h) (Or.inl ⟨by rfl,?_⟩) ?_ ?_
        rotate_left
        · intro w'
          go_simp
          with_reducible rfl
        rotate_left
        · simp only [Act.put,List.setIfInBounds_toArray,List.set_cons_zero,List.set_cons_succ,i64_w,i32_w]
          rfl
        refine pure_ (i:=1) (N:=some 31) (v:=?_) (a':=?_) #[true,true,false,false,false,false,false,false,false,false,false,false,false,false,false] rfl rfl (any_of HT_.out (by kernel_rfl)) (fun _ _ _ h => h) (Or.inl ⟨by rfl,?_⟩) ?_ ?_
        rotate_left
        · intro w'
          go_simp
          with_reducible rfl
        rotate_left
        · simp only [Act.put,List.setIfInBounds_toArray,List.set_cons_zero,List.set_cons_succ,i64_w,i32_w]
          rfl
        refine pure_ (i:=2) (N:=some 32) (v:=?_) (a':=?_) #[true,true,true,false,false,false,false,false,false,false,false,false,false,false,false] rfl rfl (any_of HT_.out (by kernel_rfl)) (fun _ _ _ h => h) (Or.inl ⟨by rfl,?_⟩) ?_ ?_
        rotate_left
        · intro w'
          go_simp
          with_reducible rfl
        rotate_left
        · simp only [Act.put,List.setIfInBounds_toArray,List.set_cons_zero,List.set_cons_succ,i64_w,i32_w]
          rfl
        refine pure_ (i:=3) (N:=some 33) (v:=undef) (a':=?_) #[true,true,true,true,false,false,false,false,false,false,false,false,false,false,false] rfl rfl (any_of HT_.out (by kernel_rfl)) (fun _ _ _ h => h) (Or.inr ⟨by rfl,rfl⟩) ?_ ?_
        rotate_left
        · simp only [Act.put,List.setIfInBounds_toArray,List.set_cons_zero,List.set_cons_succ,i64_w,i32_w]
          rfl
        refine pure_ (i:=4) (N:=some 34) (v:=undef) (a':=?_) #[true,true,true,true,true,false,false,false,false,false,false,false,false,false,false] rfl rfl (any_of HT_.out (by kernel_rfl)) (fun _ _ _ h => h) (Or.inr ⟨by rfl,rfl⟩) ?_ ?_
        rotate_left
        · simp only [Act.put,List.setIfInBounds_toArray,List.set_cons_zero,List.set_cons_succ,i64_w,i32_w]
          rfl
        refine pure_ (i:=5) (N:=some 35) (v:=undef) (a':=?_) #[true,true,true,true,true,true,false,false,false,false,false,false,false,false,false] rfl rfl (any_of HT_.out (by kernel_rfl)) (fun _ _ _ h => h) (Or.inr ⟨by rfl,rfl⟩) ?_ ?_
        rotate_left
        · simp only [Act.put,List.setIfInBounds_toArray,List.set_cons_zero,List.set_cons_succ,i64_w,i32_w]
          rfl
        refine pure_ (i:=6) (N:=some 36) (v:=undef) (a':=?_) #[true,true,true,true,true,true,true,false,false,false,false,false,false,false,false] rfl rfl (any_of HT_.out (by kernel_rfl)) (fun _ _ _ h => h) (Or.inr ⟨by rfl,rfl⟩) ?_ ?_
        rotate_left
        · simp only [Act.put,List.setIfInBounds_toArray,List.set_cons_zero,List.set_cons_succ,i64_w,i32_w]
          rfl
        refine pure_ (i:=7) (N:=some 37) (v:=undef) (a':=?_) #[true,true,true,true,true,true,true,true,false,false,false,false,false,false,false] rfl rfl (any_of HT_.out (by kernel_rfl)) (fun _ _ _ h => h) (Or.inr ⟨by rfl,rfl⟩) ?_ ?_
        rotate_left
        · simp only [Act.put,List.setIfInBounds_toArray,List.set_cons_zero,List.set_cons_succ,i64_w,i32_w]
          rfl
        refine pure_ (i:=8) (N:=some 38) (v:=undef) (a':=?_) #[true,true,true,true,true,true,true,true,true,false,false,false,false,false,false] rfl rfl (any_of HT_.out (by kernel_rfl)) (fun _ _ _ h => h) (Or.inr ⟨by rfl,rfl⟩) ?_ ?_
        rotate_left
        · simp only [Act.put,List.setIfInBounds_toArray,List.set_cons_zero,List.set_cons_succ,i64_w,i32_w]
          rfl
        refine pure_ (i:=9) (N:=some 39) (v:=?_) (a':=?_) #[true,true,true,true,true,true,true,true,true,true,false,false,false,false,false] rfl rfl (any_of HT_.out (by kernel_rfl)) (fun _ _ _ h => h) (Or.inl ⟨by rfl,?_⟩) ?_ ?_
        rotate_left
        · intro w'
          go_simp
          with_reducible rfl
        rotate_left
        · simp only [Act.put,List.setIfInBounds_toArray,List.set_cons_zero,List.set_cons_succ,i64_w,i32_w]
          rfl
        refine pure_ (i:=10) (N:=some 40) (v:=?_) (a':=?_) #[true,true,true,true,true,true,true,true,true,true,true,false,false,false,false] rfl rfl (any_of HT_.out (by kernel_rfl)) (fun _ _ _ h => h) (Or.inl ⟨by rfl,?_⟩) ?_ ?_
        rotate_left
        · intro w'
          go_simp
          with_reducible rfl
        rotate_left
        · simp only [Act.put,List.setIfInBounds_toArray,List.set_cons_zero,List.set_cons_succ,i64_w,i32_w]
          rfl
        refine pure_ (i:=11) (N:=some 41) (v:=undef) (a':=?_) #[true,true,true,true,true,true,true,true,true,true,true,true,false,false,false] rfl rfl (any_of HT_.out (by kernel_rfl)) (fun _ _ _ h => h) (Or.inr ⟨by rfl,rfl⟩) ?_ ?_
        rotate_left
        · simp only [Act.put,List.setIfInBounds_toArray,List.set_cons_zero,List.set_cons_succ,i64_w,i32_w]
          rfl
        refine pure_ (i:=12) (N:=some 42) (v:=undef) (a':=?_) #[true,true,true,true,true,true,true,true,true,true,true,true,true,false,false] rfl rfl (any_of HT_.out (by kernel_rfl)) (fun _ _ _ h => h) (Or.inr ⟨by rfl,rfl⟩) ?_ ?_
        rotate_left
        · simp only [Act.put,List.setIfInBounds_toArray,List.set_cons_zero,List.set_cons_succ,i64_w,i32_w]
          rfl
        refine pure_ (i:=13) (N:=some 43) (v:=undef) (a':=?_) #[true,true,true,true,true,true,true,true,true,true,true,true,true,true,false] rfl rfl (any_of HT_.out (by kernel_rfl)) (fun _ _ _ h => h) (Or.inr ⟨by rfl,rfl⟩) ?_ ?_
        rotate_left
        · simp only [Act.put,List.setIfInBounds_toArray,List.set_cons_zero,List.set_cons_succ,i64_w,i32_w]
          rfl
        refine pure_ (i:=14) (N:=some 44) (v:=?_) (a':=?_) #[true,true,true,true,true,true,true,true,true,true,true,true,true,true,true] rfl rfl (any_of HT_.out (by kernel_rfl)) (fun _ _ _ h => h) (Or.inl ⟨by rfl,?_⟩) ?_ ?_
        rotate_left
        · intro w'
          go_simp
          with_reducible rfl
        rotate_left
        · simp only [Act.put,List.setIfInBounds_toArray,List.set_cons_zero,List.set_cons_succ,i64_w,i32_w]
          rfl
        refine done_ (done_of HT_.out (by kernel_rfl)) ?_
        try go_wp2
        go_meet
        case rel => exact ⟨_,(true),(by first | rfl | (simp;done) | (simp [*];done)),H',⟨by first | omega | exact Nat.le_refl _⟩,⟨by (with_reducible repeat (first | apply Kd.R_alloc | apply Kd.R_drewN | apply Kd.R_drew));exact HO541.out⟩,⟨by (with_reducible repeat (first | refine blk_drewN ?_ _ | refine blk_drew ?_ | refine blk_alloc ?_ _));exact BK546.out⟩,⟨by repeat (first | (with_reducible first | exact HB.out | apply below_alloc | apply pw_below_drewN | apply below_drew1 | refine below_set ?_ GE546.out) | exact HB.out)⟩⟩
    case rest =>
      clear HC20
      try clear c1
      try clear c2
      try clear p2
      try clear c3
      try clear c4
      try clear c5
      try clear c5b0
      try clear c5b1
      try clear c8
      try clear c25
      try clear c25b0
      try clear c25b1
      try clear c28
      try clear c34
      try clear c37
      try clear c39
      try clear c40
      try clear hcz23_0
      try clear hcz23_1
      try clear hcz23_2
      try clear hcz23_3
      try clear hcz23_4
      try clear hcz23_5
      try clear hfz18_0
      try clear hfz18_1
      try clear hfz18_2
      try clear hfz18_3
      try clear hfz18_4
      try clear hfz18_5
      try clear hfz23_0
      try clear hfz23_1
      try clear hfz23_2
      try clear hfz23_3
      try clear hfz23_4
      try clear hfz23_5
      try clear hfz9_0
      try clear hfz9_1
      try clear hfz9_2
      try clear hfz9_3
      try clear hfz9_4
      try clear hfz9_5
      obtain ⟨kq,x44_19,rfl,HA,HJ19,HO_547002,BK546,HB⟩:=hcut
      cases kq with
      | zero => exact absurd HA.out (by simp [humuslaw04_RowMakes.j1])
      | succ kj19 =>
        have H:=HA.out
        clear HA
        simp only [humuslaw04_RowMakes.j1] at H
        by_cases c43 : x44_19 = true
        · subst c43
          have H1 : (humuslaw04_RowMakes.j2 kj19 false) = some r:=by rw [if_pos rfl] at H;exact H
          clear H
          have H:=H1
          clear H1
          have HC44:=Aside0.mk H
          clear H
          go_upto_region 5 with (fail)
          go_cut [6] (fun v6 wc => ∃ (kq : Nat) (x6_43 : Bool),v6 = .bool x6_43 ∧ Aside0 (humuslaw04_RowMakes.j2 kq x6_43 = some r) ∧ Aside0 (kq ≤ kj19) ∧ Aside0 (Kd.R Kd.f64 25 wc w.heap.size (fun _ => True) (.slice Ao24 t539.length co24) t539) ∧ Aside0 (wc.heap[gb546]? = some (.cells #[.float .f64 t537,.bool t538,(.slice Ao24 t539.length co24),.int .i64 t542,.int .i64 t543,.int .i64 t544] 30 (0,0))) ∧ Aside0 (Below w.heap.size w wc))
          case first =>
            have H:=HC44.out
            clear HC44
            have H':=Aside0.mk H
            clear H
            go_wp2
            go_meet
            case rel => exact ⟨_,(false),(by first | rfl | (simp;done) | (simp [*];done)),H',⟨by have:=HJ19.out;first | omega | exact Nat.le_refl _⟩,⟨by (with_reducible repeat (first | apply Kd.R_alloc | apply Kd.R_drewN | apply Kd.R_drew));exact HO_547002.out⟩,⟨by (with_reducible repeat (first | refine blk_drewN ?_ _ | refine blk_drew ?_ | refine blk_alloc ?_ _));exact BK546.out⟩,⟨by repeat (first | (with_reducible first | exact HB.out | apply below_alloc | apply pw_below_drewN | apply below_drew1 | refine below_set ?_ GE546.out) | exact HB.out)⟩⟩
          case rest =>
            clear HC44
            try clear c1
            try clear c2
            try clear p2
            try clear c3
            try clear c4
            try clear c5
            try clear c5b0
            try clear c5b1
            try clear c8
            try clear c25
            try clear c25b0
            try clear c25b1
            try clear c28
            try clear c34
            try clear c37
            try clear c39
            try clear c40
            try clear c43
            try clear hcz23_0
            try clear hcz23_1
            try clear hcz23_2
            try clear hcz23_3
            try clear hcz23_4
            try clear hcz23_5
            try clear hfz18_0
            try clear hfz18_1
            try clear hfz18_2
            try clear hfz18_3
            try clear hfz18_4
            try clear hfz18_5
            try clear hfz23_0
            try clear hfz23_1
            try clear hfz23_2
            try clear hfz23_3
            try clear hfz23_4
            try clear hfz23_5
            try clear hfz9_0
            try clear hfz9_1
            try clear hfz9_2
            try clear hfz9_3
            try clear hfz9_4
            try clear hfz9_5
            try clear p2
            obtain ⟨kq,x6_43,rfl,HA,HJ43,HO_547002,BK546,HB⟩:=hcut
            cases kq with
            | zero => exact absurd HA.out (by simp [humuslaw04_RowMakes.j2])
            | succ kj43 =>
              have H:=HA.out
              clear HA
              simp only [humuslaw04_RowMakes.j2] at H
              obtain rfl:=Option.some.inj H
              go_wp2
              go_ret
              exact ⟨by first | rfl | (simp [errW_none,errW_some] <;> rfl) | (simp [*,errW_none,errW_some] <;> rfl),by repeat (first | (with_reducible first | exact HB.out | apply below_alloc | apply pw_below_drewN | apply below_drew1 | refine below_set ?_ GE546.out) | exact HB.out)⟩
        · replace c43:=Bool.eq_false_iff.mpr c43
          subst c43
          have H1 : ((row_Plus.f kj19 t537 t538 t539 t542 t543 t544 a2).bind fun bt559 => (if (l1.length : Int) = 0 then (if bt559.2.2.2.2.2.2 = 1 then ((humusref04_Same.f kj19 bt559.1 bt559.2.1 bt559.2.2.1 bt559.2.2.2.1 bt559.2.2.2.2.1 bt559.2.2.2.2.2.1 0 false ([] : List Nat) 0 0 0).bind fun t569 => (if t569 = true then ((humuslaw04_awake.f kj19).bind fun t570 => (humuslaw04_RowMakes.j3 kj19 t570)) else (humuslaw04_RowMakes.j3 kj19 false))) else (humuslaw04_RowMakes.j3 kj19 false)) else (if bt559.2.2.2.2.2.2 = 0 then ((humusref04_Plus.f t537 t538 t539 t542 t543 t544 a2).bind fun bt571 => ((humusref04_Same.f kj19 bt559.1 bt559.2.1 bt559.2.2.1 bt559.2.2.2.1 bt559.2.2.2.2.1 bt559.2.2.2.2.2.1 bt571.1 bt571.2.1 bt571.2.2.1 bt571.2.2.2.1 bt571.2.2.2.2.1 bt571.2.2.2.2.2).bind fun t579 => (if t579 = true then ((humusref04_May.f kj19 bt559.1 bt559.2.1 bt559.2.2.1 bt559.2.2.2.1 bt559.2.2.2.2.1 bt559.2.2.2.2.2.1).bind fun t580 => (if t580 = true then ((humuslaw04_awake.f kj19).bind fun t581 => (humuslaw04_RowMakes.j4 kj19 t581)) else (humuslaw04_RowMakes.j4 kj19 false))) else (humuslaw04_RowMakes.j4 kj19 false)))) else (humuslaw04_RowMakes.j4 kj19 false)))) = some r:=by rw [if_neg (show ¬ (false = true) by decide)] at H;exact H
          clear H
          have H:=H1
          clear H1
          replace H:=Option.bind_eq_some_iff.mp H
          obtain ⟨⟨t559,t560,t561,t564,t565,t566,t567⟩,A450,H⟩:=H
          replace H : (if (l1.length : Int) = 0 then (if t567 = 1 then ((humusref04_Same.f kj19 t559 t560 t561 t564 t565 t566 0 false ([] : List Nat) 0 0 0).bind fun t569 => (if t569 = true then ((humuslaw04_awake.f kj19).bind fun t570 => (humuslaw04_RowMakes.j3 kj19 t570)) else (humuslaw04_RowMakes.j3 kj19 false))) else (humuslaw04_RowMakes.j3 kj19 false)) else (if t567 = 0 then ((humusref04_Plus.f t537 t538 t539 t542 t543 t544 a2).bind fun bt571 => ((humusref04_Same.f kj19 t559 t560 t561 t564 t565 t566 bt571.1 bt571.2.1 bt571.2.2.1 bt571.2.2.2.1 bt571.2.2.2.2.1 bt571.2.2.2.2.2).bind fun t579 => (if t579 = true then ((humusref04_May.f kj19 t559 t560 t561 t564 t565 t566).bind fun t580 => (if t580 = true then ((humuslaw04_awake.f kj19).bind fun t581 => (humuslaw04_RowMakes.j4 kj19 t581)) else (humuslaw04_RowMakes.j4 kj19 false))) else (humuslaw04_RowMakes.j4 kj19 false)))) else (humuslaw04_RowMakes.j4 kj19 false))) = some r:=H
          have A45:=Aside0.mk A450
          clear A450
          by_cases c46 : (l1.length : Int) = 0
          · rw [if_pos c46] at H
            have c46b0 : ((l1.length : Int) == 0) = true:=beq_iff_eq.mpr c46
            have c46b1 : ((l1.length : Int) != 0) = false:=bne_eq_false_iff_eq.mpr c46
            clear c46
            have HC47:=Aside0.mk H
            clear H
            have hcz48_0 : wc.cell? ⟨gb546,0,none⟩ = some (.float .f64 t537):=(blk_cell BK546.out 0).trans rfl
            have hcz48_1 : wc.cell? ⟨gb546,1,none⟩ = some (.bool t538):=(blk_cell BK546.out 1).trans rfl
            have hcz48_2 : wc.cell? ⟨gb546,2,none⟩ = some (.slice Ao24 t539.length co24):=(blk_cell BK546.out 2).trans rfl
            have hcz48_3 : wc.cell? ⟨gb546,3,none⟩ = some (.int .i64 t542):=(blk_cell BK546.out 3).trans rfl
            have hcz48_4 : wc.cell? ⟨gb546,4,none⟩ = some (.int .i64 t543):=(blk_cell BK546.out 4).trans rfl
            have hcz48_5 : wc.cell? ⟨gb546,5,none⟩ = some (.int .i64 t544):=(blk_cell BK546.out 5).trans rfl
            have hfz48_0:=blk_frozen BK546.out 0
            have hfz48_1:=blk_frozen BK546.out 1
            have hfz48_2:=blk_frozen BK546.out 2
            have hfz48_3:=blk_frozen BK546.out 3
            have hfz48_4:=blk_frozen BK546.out 4
            have hfz48_5:=blk_frozen BK546.out 5
            go_upto_region 8 with (first | ((with_reducible refine gate_callee (f:=41) rfl ?_);refine goesL_ (some 48) rfl rfl Try.func41 (by kernel_rfl) rfl #[.agg #[.float .f64 t537,.bool t538,.slice Ao24 t539.length co24,.int .i64 t542,.int .i64 t543,.int .i64 t544],.float .f64 a2] rfl (by (try simp only [List.map_toArray,List.map_cons,List.map_nil]);first | done | rfl | (simp only [List.length_drop,List.length_take];rfl)) ?_;(with_reducible refine (row_Plus.calls kj19 t537 t538 _ _ t539 t542 t543 t544 a2 t559 t560 t561 t564 t565 t566 t567 _ ?side1 ?side2 A45.out).mono ?_);(case side1 => repeat (first | exact (Kd.R_reads' HO_547002.out).2.2 | (with_reducible refine Kd.C_alloc ?_ _) | (with_reducible refine Kd.C_drewN ?_ _) | (with_reducible refine Kd.C_drew ?_)));(case side2 => exact (Kd.R_reads' HO_547002.out).2.1);rintro e w49 ⟨v562,rfl,ho0,hb⟩;refine ⟨_,rfl,?_⟩;have n0_:=Aside0.mk (Kd.R_elder' (by (with_reducible repeat (first | apply Kd.R_alloc | apply Kd.R_drewN | apply Kd.R_drew));exact HO_547002.out) (Kd.R_base ho0) hb);have n1_:=Aside0.mk (Kd.R_lower (Kd.R_new' ho0 (Kd.R_lt (by (with_reducible repeat (first | apply Kd.R_alloc | apply Kd.R_drewN | apply Kd.R_drew));exact HO_547002.out))) (below_size (by repeat (first | (with_reducible first | exact HB.out | apply below_alloc | apply pw_below_drewN | apply below_drew1 | refine below_set ?_ GE546.out) | exact HB.out))));have n2_:=Aside0.mk (blk_below (g:=gb546) (o:=.cells #[.float .f64 t537,.bool t538,.slice Ao24 t539.length co24,.int .i64 t542,.int .i64 t543,.int .i64 t544] 30 (0,0)) (by (with_reducible repeat (first | refine blk_drewN ?_ _ | refine blk_drew ?_ | refine blk_alloc ?_ _));exact BK546.out) hb);have n3_:=Aside0.mk (below_step (by repeat (first | (with_reducible first | exact HB.out | apply below_alloc | apply pw_below_drewN | apply below_drew1 | refine below_set ?_ GE546.out) | exact HB.out)) hb);clear HO_547002;clear BK546;clear HB;have HO_547002:=n0_;have HO563:=n1_;have BK546:=n2_;have HB:=n3_;clear n0_ n1_ n2_ n3_;(try clear hb);(try clear hb2);(try clear hk);(try clear hi);(try clear ho0)) | ((with_reducible refine gate_dst (N:=9) rfl ?_);refine box_event ?hg (N:=9) ?hd (cs:=#[.float .f64 0,.bool false,.slice none 0 0,.int .i64 0,.int .i64 0,.int .i64 0]) (t:=30) ?hr ?_;(case hd => rfl);(case hg => rfl);(case hr => first | (go_simp;done) | (go_simp;rfl));intro gb568 hg w50 hbox hb;have n0_:=Aside0.mk (Kd.R_below (by (with_reducible repeat (first | apply Kd.R_alloc | apply Kd.R_drewN | apply Kd.R_drew));exact HO_547002.out) hb);have n1_:=Aside0.mk (Kd.R_below (by (with_reducible repeat (first | apply Kd.R_alloc | apply Kd.R_drewN | apply Kd.R_drew));exact HO563.out) hb);have n2_:=Aside0.mk (blk_below (g:=gb546) (o:=.cells #[.float .f64 t537,.bool t538,.slice Ao24 t539.length co24,.int .i64 t542,.int .i64 t543,.int .i64 t544] 30 (0,0)) (by (with_reducible repeat (first | refine blk_drewN ?_ _ | refine blk_drew ?_ | refine blk_alloc ?_ _));exact BK546.out) hb);have n3_:=Aside0.mk (below_step (by repeat (first | (with_reducible first | exact HB.out | apply below_alloc | apply pw_below_drewN | apply below_drew1 | refine below_set ?_ GE546.out) | exact HB.out)) hb);have n4_:=Aside0.mk (hbox);have n5_:=Aside0.mk ((by rw [hg];exact (below_size (by repeat (first | (with_reducible first | exact HB.out | apply below_alloc | apply pw_below_drewN | apply below_drew1 | refine below_set ?_ GE546.out) | exact HB.out))) : w.heap.size ≤ gb568));have n6_:=Aside0.mk ((by rw [hg];exact (below_size (by repeat (first | (with_reducible first | exact HB.out | apply below_alloc | apply pw_below_drewN | apply below_drew1 | refine below_set ?_ GE546.out) | exact HB.out))) : w.heap.size ≤ gb568));have n7_:=Aside0.mk ((by rw [hg];exact Nat.ne_of_lt (blk_lt (g:=gb546) (o:=.cells #[.float .f64 t537,.bool t538,.slice Ao24 t539.length co24,.int .i64 t542,.int .i64 t543,.int .i64 t544] 30 (0,0)) (by (with_reducible repeat (first | refine blk_drewN ?_ _ | refine blk_drew ?_ | refine blk_alloc ?_ _));exact BK546.out)) : gb546 ≠ gb568));have n8_:=Aside0.mk ((by rw [hg];exact Nat.ne_of_gt (blk_lt (g:=gb546) (o:=.cells #[.float .f64 t537,.bool t538,.slice Ao24 t539.length co24,.int .i64 t542,.int .i64 t543,.int .i64 t544] 30 (0,0)) (by (with_reducible repeat (first | refine blk_drewN ?_ _ | refine blk_drew ?_ | refine blk_alloc ?_ _));exact BK546.out)) : gb568 ≠ gb546));clear HO_547002;clear HO563;clear BK546;clear HB;have HO_547002:=n0_;have HO563:=n1_;have BK546:=n2_;have HB:=n3_;have BK568:=n4_;have GW568:=n5_;have GE568:=n6_;have NB546_568:=n7_;have NB568_546:=n8_;clear n0_ n1_ n2_ n3_ n4_ n5_ n6_ n7_ n8_;clear hb hbox hg;have hnb51:=NB568_546.out;have hnc51:=NB546_568.out;have hcz52_0 : w50.cell? ⟨gb568,0,none⟩ = some (.float .f64 0):=(blk_cell BK568.out 0).trans rfl;have hcz52_1 : w50.cell? ⟨gb568,1,none⟩ = some (.bool false):=(blk_cell BK568.out 1).trans rfl;have hcz52_2 : w50.cell? ⟨gb568,2,none⟩ = some (.slice none 0 0):=(blk_cell BK568.out 2).trans rfl;have hcz52_3 : w50.cell? ⟨gb568,3,none⟩ = some (.int .i64 0):=(blk_cell BK568.out 3).trans rfl;have hcz52_4 : w50.cell? ⟨gb568,4,none⟩ = some (.int .i64 0):=(blk_cell BK568.out 4).trans rfl;have hcz52_5 : w50.cell? ⟨gb568,5,none⟩ = some (.int .i64 0):=(blk_cell BK568.out 5).trans rfl;have hfz52_0:=blk_frozen BK568.out 0;have hfz52_1:=blk_frozen BK568.out 1;have hfz52_2:=blk_frozen BK568.out 2;have hfz52_3:=blk_frozen BK568.out 3;have hfz52_4:=blk_frozen BK568.out 4;have hfz52_5:=blk_frozen BK568.out 5;obtain ⟨Ao53,co53,eo53⟩:=Kd.R_slice HO563.out;subst eo53))
            (try simp only [Act.put,List.setIfInBounds_toArray,List.set_cons_zero,List.set_cons_succ])
            go_cut [6] (fun v6 wc => ∃ (kq : Nat) (x6_46 : Bool),v6 = .bool x6_46 ∧ Aside0 (humuslaw04_RowMakes.j3 kq x6_46 = some r) ∧ Aside0 (kq ≤ kj19) ∧ Aside0 (Kd.R Kd.f64 25 wc w.heap.size (fun k_ => some k_ ≠ ((.slice Ao53 t561.length co53) : Value).ownBlock) (.slice Ao24 t539.length co24) t539) ∧ Aside0 (Kd.R Kd.f64 25 wc w.heap.size (fun k_ => some k_ ≠ ((.slice Ao24 t539.length co24) : Value).ownBlock) (.slice Ao53 t561.length co53) t561) ∧ Aside0 (wc.heap[gb546]? = some (.cells #[.float .f64 t537,.bool t538,(.slice Ao24 t539.length co24),.int .i64 t542,.int .i64 t543,.int .i64 t544] 30 (0,0))) ∧ Aside0 (wc.heap[gb568]? = some (.cells #[.float .f64 t559,.bool t560,(.slice Ao53 t561.length co53),.int .i64 t564,.int .i64 t565,.int .i64 t566] 30 (0,0))) ∧ Aside0 (Below w.heap.size w wc))
            case first =>
              have H:=HC47.out
              clear HC47
              by_cases c54 : t567 = 1
              · rw [if_pos c54] at H
                have c54b0 : (t567 == 1) = true:=beq_iff_eq.mpr c54
                have c54b1 : (t567 != 1) = false:=bne_eq_false_iff_eq.mpr c54
                clear c54
                (first | rw [c54b0] | (simp only [i64_w,i32_w];rw [c54b0]) | skip)
                replace H:=Option.bind_eq_some_iff.mp H
                obtain ⟨t569,A550,H⟩:=H
                replace H : (if t569 = true then ((humuslaw04_awake.f kj19).bind fun t570 => (humuslaw04_RowMakes.j3 kj19 t570)) else (humuslaw04_RowMakes.j3 kj19 false)) = some r:=H
                have A55:=Aside0.mk A550
                clear A550
                by_cases c56 : t569 = true
                · subst c56
                  have H1 : ((humuslaw04_awake.f kj19).bind fun t570 => (humuslaw04_RowMakes.j3 kj19 t570)) = some r:=by rw [if_pos rfl] at H;exact H
                  clear H
                  have H:=H1
                  clear H1
                  replace H:=Option.bind_eq_some_iff.mp H
                  obtain ⟨t570,A570,H⟩:=H
                  replace H : (humuslaw04_RowMakes.j3 kj19 t570) = some r:=H
                  have A57:=Aside0.mk A570
                  clear A570
                  have H':=Aside0.mk H
                  clear H
                  have hnb58:=NB568_546.out
                  have hnc58:=NB546_568.out
                  have hcz59_0 : w50.cell? ⟨gb568,0,none⟩ = some (.float .f64 0):=(blk_cell BK568.out 0).trans rfl
                  have hcz59_1 : w50.cell? ⟨gb568,1,none⟩ = some (.bool false):=(blk_cell BK568.out 1).trans rfl
                  have hcz59_2 : w50.cell? ⟨gb568,2,none⟩ = some (.slice none 0 0):=(blk_cell BK568.out 2).trans rfl
                  have hcz59_3 : w50.cell? ⟨gb568,3,none⟩ = some (.int .i64 0):=(blk_cell BK568.out 3).trans rfl
                  have hcz59_4 : w50.cell? ⟨gb568,4,none⟩ = some (.int .i64 0):=(blk_cell BK568.out 4).trans rfl
                  have hcz59_5 : w50.cell? ⟨gb568,5,none⟩ = some (.int .i64 0):=(blk_cell BK568.out 5).trans rfl
                  have hfz59_0:=blk_frozen BK568.out 0
                  have hfz59_1:=blk_frozen BK568.out 1
                  have hfz59_2:=blk_frozen BK568.out 2
                  have hfz59_3:=blk_frozen BK568.out 3
                  have hfz59_4:=blk_frozen BK568.out 4
                  have hfz59_5:=blk_frozen BK568.out 5
                  go_wp2_with (first | (go_at_call 37;(refine (humusref04_Same.calls kj19 t559 t560 _ _ t561 t564 t565 t566 0 false _ _ ([] : List Nat) 0 0 0 true _ ?side1 ?side2 ?side3 ?side4 A55.out).mono ?_);(case side1 => refine (Kd.R_reads' (e:=25) (base:=w.heap.size) (ok:=fun k_ => (True ∧ some k_ ≠ (.slice Ao24 t539.length co24 : Value).ownBlock)) (n:=t561.length) (c:=co53) ?_).2.2;exact (by (with_reducible repeat (first | apply Kd.R_alloc | apply Kd.R_drewN | apply Kd.R_drew));exact (Kd.R_mono (Kd.R_far (p:=⟨gb568,5,none⟩) (Kd.R_far (p:=⟨gb568,4,none⟩) (Kd.R_far (p:=⟨gb568,3,none⟩) (Kd.R_far (p:=⟨gb568,2,none⟩) (Kd.R_far (p:=⟨gb568,1,none⟩) (Kd.R_far (p:=⟨gb568,0,none⟩) (Kd.R_types HO563.out BK568.out (by decide)) (fun _ hk => hk.2) (.float .f64 t559)) (fun _ hk => hk.2) (.bool t560)) (fun _ hk => hk.2) (.slice Ao53 t561.length co53)) (fun _ hk => hk.2) (.int .i64 t564)) (fun _ hk => hk.2) (.int .i64 t565)) (fun _ hk => hk.2) (.int .i64 t566)) (fun _ h_ => h_.1))));(case side2 => exact (Kd.R_reads' HO563.out).2.1);(case side3 => exact Kd.C_nil _ _);(case side4 => exact Nat.le_refl _);rintro e w60 ⟨rfl,hb⟩;have n0_:=Aside0.mk (Kd.R_below (by (with_reducible repeat (first | apply Kd.R_alloc | apply Kd.R_drewN | apply Kd.R_drew));exact (Kd.R_mono (Kd.R_far (p:=⟨gb568,5,none⟩) (Kd.R_far (p:=⟨gb568,4,none⟩) (Kd.R_far (p:=⟨gb568,3,none⟩) (Kd.R_far (p:=⟨gb568,2,none⟩) (Kd.R_far (p:=⟨gb568,1,none⟩) (Kd.R_far (p:=⟨gb568,0,none⟩) (Kd.R_types HO_547002.out BK568.out (by decide)) (fun _ hk => hk.2) (.float .f64 t559)) (fun _ hk => hk.2) (.bool t560)) (fun _ hk => hk.2) (.slice Ao53 t561.length co53)) (fun _ hk => hk.2) (.int .i64 t564)) (fun _ hk => hk.2) (.int .i64 t565)) (fun _ hk => hk.2) (.int .i64 t566)) (fun _ h_ => h_.1))) hb);have n1_:=Aside0.mk (Kd.R_below (by (with_reducible repeat (first | apply Kd.R_alloc | apply Kd.R_drewN | apply Kd.R_drew));exact (Kd.R_mono (Kd.R_far (p:=⟨gb568,5,none⟩) (Kd.R_far (p:=⟨gb568,4,none⟩) (Kd.R_far (p:=⟨gb568,3,none⟩) (Kd.R_far (p:=⟨gb568,2,none⟩) (Kd.R_far (p:=⟨gb568,1,none⟩) (Kd.R_far (p:=⟨gb568,0,none⟩) (Kd.R_types HO563.out BK568.out (by decide)) (fun _ hk => hk.2) (.float .f64 t559)) (fun _ hk => hk.2) (.bool t560)) (fun _ hk => hk.2) (.slice Ao53 t561.length co53)) (fun _ hk => hk.2) (.int .i64 t564)) (fun _ hk => hk.2) (.int .i64 t565)) (fun _ hk => hk.2) (.int .i64 t566)) (fun _ h_ => h_.1))) hb);have n2_:=Aside0.mk (blk_below (g:=gb546) (o:=.cells #[.float .f64 t537,.bool t538,.slice Ao24 t539.length co24,.int .i64 t542,.int .i64 t543,.int .i64 t544] 30 (0,0)) (by (with_reducible repeat (first | refine blk_drewN ?_ _ | refine blk_drew ?_ | refine blk_alloc ?_ _));refine blk_far ?_ NB546_568.out _;(with_reducible repeat (first | refine blk_drewN ?_ _ | refine blk_drew ?_ | refine blk_alloc ?_ _));refine blk_far ?_ NB546_568.out _;(with_reducible repeat (first | refine blk_drewN ?_ _ | refine blk_drew ?_ | refine blk_alloc ?_ _));refine blk_far ?_ NB546_568.out _;(with_reducible repeat (first | refine blk_drewN ?_ _ | refine blk_drew ?_ | refine blk_alloc ?_ _));refine blk_far ?_ NB546_568.out _;(with_reducible repeat (first | refine blk_drewN ?_ _ | refine blk_drew ?_ | refine blk_alloc ?_ _));refine blk_far ?_ NB546_568.out _;(with_reducible repeat (first | refine blk_drewN ?_ _ | refine blk_drew ?_ | refine blk_alloc ?_ _));refine blk_far ?_ NB546_568.out _;(with_reducible repeat (first | refine blk_drewN ?_ _ | refine blk_drew ?_ | refine blk_alloc ?_ _));exact BK546.out) hb);have n3_:=Aside0.mk (blk_below (g:=gb568) (o:=.cells #[.float .f64 t559,.bool t560,.slice Ao53 t561.length co53,.int .i64 t564,.int .i64 t565,.int .i64 t566] 30 (0,0)) (by (with_reducible repeat (first | refine blk_drewN ?_ _ | refine blk_drew ?_ | refine blk_alloc ?_ _));refine blk_put (cs:=#[.float .f64 t559,.bool t560,.slice Ao53 t561.length co53,.int .i64 t564,.int .i64 t565,.int .i64 0]) ?_ 5 _ rfl;(with_reducible repeat (first | refine blk_drewN ?_ _ | refine blk_drew ?_ | refine blk_alloc ?_ _));refine blk_put (cs:=#[.float .f64 t559,.bool t560,.slice Ao53 t561.length co53,.int .i64 t564,.int .i64 0,.int .i64 0]) ?_ 4 _ rfl;(with_reducible repeat (first | refine blk_drewN ?_ _ | refine blk_drew ?_ | refine blk_alloc ?_ _));refine blk_put (cs:=#[.float .f64 t559,.bool t560,.slice Ao53 t561.length co53,.int .i64 0,.int .i64 0,.int .i64 0]) ?_ 3 _ rfl;(with_reducible repeat (first | refine blk_drewN ?_ _ | refine blk_drew ?_ | refine blk_alloc ?_ _));refine blk_put (cs:=#[.float .f64 t559,.bool t560,.slice none 0 0,.int .i64 0,.int .i64 0,.int .i64 0]) ?_ 2 _ rfl;(with_reducible repeat (first | refine blk_drewN ?_ _ | refine blk_drew ?_ | refine blk_alloc ?_ _));refine blk_put (cs:=#[.float .f64 t559,.bool false,.slice none 0 0,.int .i64 0,.int .i64 0,.int .i64 0]) ?_ 1 _ rfl;(with_reducible repeat (first | refine blk_drewN ?_ _ | refine blk_drew ?_ | refine blk_alloc ?_ _));refine blk_put (cs:=#[.float .f64 0,.bool false,.slice none 0 0,.int .i64 0,.int .i64 0,.int .i64 0]) ?_ 0 _ rfl;(with_reducible repeat (first | refine blk_drewN ?_ _ | refine blk_drew ?_ | refine blk_alloc ?_ _));exact BK568.out) hb);have n4_:=Aside0.mk (below_step (by repeat (first | (with_reducible first | exact HB.out | apply below_alloc | apply pw_below_drewN | apply below_drew1 | refine below_set ?_ GE546.out | refine below_set ?_ GE568.out) | exact HB.out)) hb);clear HO_547002;clear HO563;clear BK546;clear BK568;clear HB;have HO_547002:=n0_;have HO563:=n1_;have BK546:=n2_;have BK568:=n3_;have HB:=n4_;clear n0_ n1_ n2_ n3_ n4_;(try clear hb);(try clear hb2);(try clear hk);(try clear hi)) | (go_at_call 31;(with_reducible refine (humuslaw04_awake.calls kj19  t570 _ A57.out).mono ?_);rintro e w61 ⟨rfl,hb⟩;have n0_:=Aside0.mk (Kd.R_below (by (with_reducible repeat (first | apply Kd.R_alloc | apply Kd.R_drewN | apply Kd.R_drew));exact HO_547002.out) hb);have n1_:=Aside0.mk (Kd.R_below (by (with_reducible repeat (first | apply Kd.R_alloc | apply Kd.R_drewN | apply Kd.R_drew));exact HO563.out) hb);have n2_:=Aside0.mk (blk_below (g:=gb546) (o:=.cells #[.float .f64 t537,.bool t538,.slice Ao24 t539.length co24,.int .i64 t542,.int .i64 t543,.int .i64 t544] 30 (0,0)) (by (with_reducible repeat (first | refine blk_drewN ?_ _ | refine blk_drew ?_ | refine blk_alloc ?_ _));exact BK546.out) hb);have n3_:=Aside0.mk (blk_below (g:=gb568) (o:=.cells #[.float .f64 t559,.bool t560,.slice Ao53 t561.length co53,.int .i64 t564,.int .i64 t565,.int .i64 t566] 30 (0,0)) (by (with_reducible repeat (first | refine blk_drewN ?_ _ | refine blk_drew ?_ | refine blk_alloc ?_ _));exact BK568.out) hb);have n4_:=Aside0.mk (below_step (by repeat (first | (with_reducible first | exact HB.out | apply below_alloc | apply pw_below_drewN | apply below_drew1 | refine below_set ?_ GE546.out | refine below_set ?_ GE568.out) | exact HB.out)) hb);clear HO_547002;clear HO563;clear BK546;clear BK568;clear HB;have HO_547002:=n0_;have HO563:=n1_;have BK546:=n2_;have BK568:=n3_;have HB:=n4_;clear n0_ n1_ n2_ n3_ n4_;(try clear hb);(try clear hb2);(try clear hk);(try clear hi)))
                  go_meet
                  case rel => exact ⟨_,(t570),(by first | rfl | (simp;done) | (simp [*];done)),H',⟨by have:=HJ19.out;first | omega | exact Nat.le_refl _⟩,⟨by (with_reducible repeat (first | apply Kd.R_alloc | apply Kd.R_drewN | apply Kd.R_drew));exact Kd.R_mono HO_547002.out (fun _ hk => hk.2)⟩,⟨by (with_reducible repeat (first | apply Kd.R_alloc | apply Kd.R_drewN | apply Kd.R_drew));exact Kd.R_mono HO563.out (fun _ hk => hk.2)⟩,⟨by (with_reducible repeat (first | refine blk_drewN ?_ _ | refine blk_drew ?_ | refine blk_alloc ?_ _));exact BK546.out⟩,⟨by (with_reducible repeat (first | refine blk_drewN ?_ _ | refine blk_drew ?_ | refine blk_alloc ?_ _));exact BK568.out⟩,⟨by repeat (first | (with_reducible first | exact HB.out | apply below_alloc | apply pw_below_drewN | apply below_drew1 | refine below_set ?_ GE546.out | refine below_set ?_ GE568.out) | exact HB.out)⟩⟩
                · replace c56:=Bool.eq_false_iff.mpr c56
                  subst c56
                  have H1 : (humuslaw04_RowMakes.j3 kj19 false) = some r:=by rw [if_neg (show ¬ (false = true) by decide)] at H;exact H
                  clear H
                  have H:=H1
                  clear H1
                  have H':=Aside0.mk H
                  clear H
                  have hnb62:=NB568_546.out
                  have hnc62:=NB546_568.out
                  have hcz63_0 : w50.cell? ⟨gb568,0,none⟩ = some (.float .f64 0):=(blk_cell BK568.out 0).trans rfl
                  have hcz63_1 : w50.cell? ⟨gb568,1,none⟩ = some (.bool false):=(blk_cell BK568.out 1).trans rfl
                  have hcz63_2 : w50.cell? ⟨gb568,2,none⟩ = some (.slice none 0 0):=(blk_cell BK568.out 2).trans rfl
                  have hcz63_3 : w50.cell? ⟨gb568,3,none⟩ = some (.int .i64 0):=(blk_cell BK568.out 3).trans rfl
                  have hcz63_4 : w50.cell? ⟨gb568,4,none⟩ = some (.int .i64 0):=(blk_cell BK568.out 4).trans rfl
                  have hcz63_5 : w50.cell? ⟨gb568,5,none⟩ = some (.int .i64 0):=(blk_cell BK568.out 5).trans rfl
                  have hfz63_0:=blk_frozen BK568.out 0
                  have hfz63_1:=blk_frozen BK568.out 1
                  have hfz63_2:=blk_frozen BK568.out 2
                  have hfz63_3:=blk_frozen BK568.out 3
                  have hfz63_4:=blk_frozen BK568.out 4
                  have hfz63_5:=blk_frozen BK568.out 5
                  go_wp2_with (first | (go_at_call 37;(refine (humusref04_Same.calls kj19 t559 t560 _ _ t561 t564 t565 t566 0 false _ _ ([] : List Nat) 0 0 0 false _ ?side1 ?side2 ?side3 ?side4 A55.out).mono ?_);(case side1 => refine (Kd.R_reads' (e:=25) (base:=w.heap.size) (ok:=fun k_ => (True ∧ some k_ ≠ (.slice Ao24 t539.length co24 : Value).ownBlock)) (n:=t561.length) (c:=co53) ?_).2.2;exact (by (with_reducible repeat (first | apply Kd.R_alloc | apply Kd.R_drewN | apply Kd.R_drew));exact (Kd.R_mono (Kd.R_far (p:=⟨gb568,5,none⟩) (Kd.R_far (p:=⟨gb568,4,none⟩) (Kd.R_far (p:=⟨gb568,3,none⟩) (Kd.R_far (p:=⟨gb568,2,none⟩) (Kd.R_far (p:=⟨gb568,1,none⟩) (Kd.R_far (p:=⟨gb568,0,none⟩) (Kd.R_types HO563.out BK568.out (by decide)) (fun _ hk => hk.2) (.float .f64 t559)) (fun _ hk => hk.2) (.bool t560)) (fun _ hk => hk.2) (.slice Ao53 t561.length co53)) (fun _ hk => hk.2) (.int .i64 t564)) (fun _ hk => hk.2) (.int .i64 t565)) (fun _ hk => hk.2) (.int .i64 t566)) (fun _ h_ => h_.1))));(case side2 => exact (Kd.R_reads' HO563.out).2.1);(case side3 => exact Kd.C_nil _ _);(case side4 => exact Nat.le_refl _);rintro e w64 ⟨rfl,hb⟩;have n0_:=Aside0.mk (Kd.R_below (by (with_reducible repeat (first | apply Kd.R_alloc | apply Kd.R_drewN | apply Kd.R_drew));exact (Kd.R_mono (Kd.R_far (p:=⟨gb568,5,none⟩) (Kd.R_far (p:=⟨gb568,4,none⟩) (Kd.R_far (p:=⟨gb568,3,none⟩) (Kd.R_far (p:=⟨gb568,2,none⟩) (Kd.R_far (p:=⟨gb568,1,none⟩) (Kd.R_far (p:=⟨gb568,0,none⟩) (Kd.R_types HO_547002.out BK568.out (by decide)) (fun _ hk => hk.2) (.float .f64 t559)) (fun _ hk => hk.2) (.bool t560)) (fun _ hk => hk.2) (.slice Ao53 t561.length co53)) (fun _ hk => hk.2) (.int .i64 t564)) (fun _ hk => hk.2) (.int .i64 t565)) (fun _ hk => hk.2) (.int .i64 t566)) (fun _ h_ => h_.1))) hb);have n1_:=Aside0.mk (Kd.R_below (by (with_reducible repeat (first | apply Kd.R_alloc | apply Kd.R_drewN | apply Kd.R_drew));exact (Kd.R_mono (Kd.R_far (p:=⟨gb568,5,none⟩) (Kd.R_far (p:=⟨gb568,4,none⟩) (Kd.R_far (p:=⟨gb568,3,none⟩) (Kd.R_far (p:=⟨gb568,2,none⟩) (Kd.R_far (p:=⟨gb568,1,none⟩) (Kd.R_far (p:=⟨gb568,0,none⟩) (Kd.R_types HO563.out BK568.out (by decide)) (fun _ hk => hk.2) (.float .f64 t559)) (fun _ hk => hk.2) (.bool t560)) (fun _ hk => hk.2) (.slice Ao53 t561.length co53)) (fun _ hk => hk.2) (.int .i64 t564)) (fun _ hk => hk.2) (.int .i64 t565)) (fun _ hk => hk.2) (.int .i64 t566)) (fun _ h_ => h_.1))) hb);have n2_:=Aside0.mk (blk_below (g:=gb546) (o:=.cells #[.float .f64 t537,.bool t538,.slice Ao24 t539.length co24,.int .i64 t542,.int .i64 t543,.int .i64 t544] 30 (0,0)) (by (with_reducible repeat (first | refine blk_drewN ?_ _ | refine blk_drew ?_ | refine blk_alloc ?_ _));refine blk_far ?_ NB546_568.out _;(with_reducible repeat (first | refine blk_drewN ?_ _ | refine blk_drew ?_ | refine blk_alloc ?_ _));refine blk_far ?_ NB546_568.out _;(with_reducible repeat (first | refine blk_drewN ?_ _ | refine blk_drew ?_ | refine blk_alloc ?_ _));refine blk_far ?_ NB546_568.out _;(with_reducible repeat (first | refine blk_drewN ?_ _ | refine blk_drew ?_ | refine blk_alloc ?_ _));refine blk_far ?_ NB546_568.out _;(with_reducible repeat (first | refine blk_drewN ?_ _ | refine blk_drew ?_ | refine blk_alloc ?_ _));refine blk_far ?_ NB546_568.out _;(with_reducible repeat (first | refine blk_drewN ?_ _ | refine blk_drew ?_ | refine blk_alloc ?_ _));refine blk_far ?_ NB546_568.out _;(with_reducible repeat (first | refine blk_drewN ?_ _ | refine blk_drew ?_ | refine blk_alloc ?_ _));exact BK546.out) hb);have n3_:=Aside0.mk (blk_below (g:=gb568) (o:=.cells #[.float .f64 t559,.bool t560,.slice Ao53 t561.length co53,.int .i64 t564,.int .i64 t565,.int .i64 t566] 30 (0,0)) (by (with_reducible repeat (first | refine blk_drewN ?_ _ | refine blk_drew ?_ | refine blk_alloc ?_ _));refine blk_put (cs:=#[.float .f64 t559,.bool t560,.slice Ao53 t561.length co53,.int .i64 t564,.int .i64 t565,.int .i64 0]) ?_ 5 _ rfl;(with_reducible repeat (first | refine blk_drewN ?_ _ | refine blk_drew ?_ | refine blk_alloc ?_ _));refine blk_put (cs:=#[.float .f64 t559,.bool t560,.slice Ao53 t561.length co53,.int .i64 t564,.int .i64 0,.int .i64 0]) ?_ 4 _ rfl;(with_reducible repeat (first | refine blk_drewN ?_ _ | refine blk_drew ?_ | refine blk_alloc ?_ _));refine blk_put (cs:=#[.float .f64 t559,.bool t560,.slice Ao53 t561.length co53,.int .i64 0,.int .i64 0,.int .i64 0]) ?_ 3 _ rfl;(with_reducible repeat (first | refine blk_drewN ?_ _ | refine blk_drew ?_ | refine blk_alloc ?_ _));refine blk_put (cs:=#[.float .f64 t559,.bool t560,.slice none 0 0,.int .i64 0,.int .i64 0,.int .i64 0]) ?_ 2 _ rfl;(with_reducible repeat (first | refine blk_drewN ?_ _ | refine blk_drew ?_ | refine blk_alloc ?_ _));refine blk_put (cs:=#[.float .f64 t559,.bool false,.slice none 0 0,.int .i64 0,.int .i64 0,.int .i64 0]) ?_ 1 _ rfl;(with_reducible repeat (first | refine blk_drewN ?_ _ | refine blk_drew ?_ | refine blk_alloc ?_ _));refine blk_put (cs:=#[.float .f64 0,.bool false,.slice none 0 0,.int .i64 0,.int .i64 0,.int .i64 0]) ?_ 0 _ rfl;(with_reducible repeat (first | refine blk_drewN ?_ _ | refine blk_drew ?_ | refine blk_alloc ?_ _));exact BK568.out) hb);have n4_:=Aside0.mk (below_step (by repeat (first | (with_reducible first | exact HB.out | apply below_alloc | apply pw_below_drewN | apply below_drew1 | refine below_set ?_ GE546.out | refine below_set ?_ GE568.out) | exact HB.out)) hb);clear HO_547002;clear HO563;clear BK546;clear BK568;clear HB;have HO_547002:=n0_;have HO563:=n1_;have BK546:=n2_;have BK568:=n3_;have HB:=n4_;clear n0_ n1_ n2_ n3_ n4_;(try clear hb);(try clear hb2);(try clear hk);(try clear hi)))
                  go_meet
                  case rel => exact ⟨_,(false),(by first | rfl | (simp;done) | (simp [*];done)),H',⟨by have:=HJ19.out;first | omega | exact Nat.le_refl _⟩,⟨by (with_reducible repeat (first | apply Kd.R_alloc | apply Kd.R_drewN | apply Kd.R_drew));exact Kd.R_mono HO_547002.out (fun _ hk => hk.2)⟩,⟨by (with_reducible repeat (first | apply Kd.R_alloc | apply Kd.R_drewN | apply Kd.R_drew));exact Kd.R_mono HO563.out (fun _ hk => hk.2)⟩,⟨by (with_reducible repeat (first | refine blk_drewN ?_ _ | refine blk_drew ?_ | refine blk_alloc ?_ _));exact BK546.out⟩,⟨by (with_reducible repeat (first | refine blk_drewN ?_ _ | refine blk_drew ?_ | refine blk_alloc ?_ _));exact BK568.out⟩,⟨by repeat (first | (with_reducible first | exact HB.out | apply below_alloc | apply pw_below_drewN | apply below_drew1 | refine below_set ?_ GE546.out | refine below_set ?_ GE568.out) | exact HB.out)⟩⟩
              · rw [if_neg c54] at H
                have c54b0 : (t567 == 1) = false:=beq_eq_false_iff_ne.mpr c54
                have c54b1 : (t567 != 1) = true:=bne_iff_ne.mpr c54
                (first | rw [c54b0] | (simp only [i64_w,i32_w];rw [c54b0]) | skip)
                have H':=Aside0.mk H
                clear H
                go_wp2
                go_meet
                case rel => exact ⟨_,(false),(by first | rfl | (simp;done) | (simp [*];done)),H',⟨by have:=HJ19.out;first | omega | exact Nat.le_refl _⟩,⟨by (with_reducible repeat (first | apply Kd.R_alloc | apply Kd.R_drewN | apply Kd.R_drew));exact Kd.R_mono (Kd.R_far (p:=⟨gb568,5,none⟩) (Kd.R_far (p:=⟨gb568,4,none⟩) (Kd.R_far (p:=⟨gb568,3,none⟩) (Kd.R_far (p:=⟨gb568,2,none⟩) (Kd.R_far (p:=⟨gb568,1,none⟩) (Kd.R_far (p:=⟨gb568,0,none⟩) (Kd.R_types HO_547002.out BK568.out (by decide)) (fun _ hk => hk.2) (.float .f64 t559)) (fun _ hk => hk.2) (.bool t560)) (fun _ hk => hk.2) (.slice Ao53 t561.length co53)) (fun _ hk => hk.2) (.int .i64 t564)) (fun _ hk => hk.2) (.int .i64 t565)) (fun _ hk => hk.2) (.int .i64 t566)) (fun _ hk => hk.1.2)⟩,⟨by (with_reducible repeat (first | apply Kd.R_alloc | apply Kd.R_drewN | apply Kd.R_drew));exact Kd.R_mono (Kd.R_far (p:=⟨gb568,5,none⟩) (Kd.R_far (p:=⟨gb568,4,none⟩) (Kd.R_far (p:=⟨gb568,3,none⟩) (Kd.R_far (p:=⟨gb568,2,none⟩) (Kd.R_far (p:=⟨gb568,1,none⟩) (Kd.R_far (p:=⟨gb568,0,none⟩) (Kd.R_types HO563.out BK568.out (by decide)) (fun _ hk => hk.2) (.float .f64 t559)) (fun _ hk => hk.2) (.bool t560)) (fun _ hk => hk.2) (.slice Ao53 t561.length co53)) (fun _ hk => hk.2) (.int .i64 t564)) (fun _ hk => hk.2) (.int .i64 t565)) (fun _ hk => hk.2) (.int .i64 t566)) (fun _ hk => hk.1.2)⟩,⟨by (with_reducible repeat (first | refine blk_drewN ?_ _ | refine blk_drew ?_ | refine blk_alloc ?_ _));refine blk_far ?_ NB546_568.out _;(with_reducible repeat (first | refine blk_drewN ?_ _ | refine blk_drew ?_ | refine blk_alloc ?_ _));refine blk_far ?_ NB546_568.out _;(with_reducible repeat (first | refine blk_drewN ?_ _ | refine blk_drew ?_ | refine blk_alloc ?_ _));refine blk_far ?_ NB546_568.out _;(with_reducible repeat (first | refine blk_drewN ?_ _ | refine blk_drew ?_ | refine blk_alloc ?_ _));refine blk_far ?_ NB546_568.out _;(with_reducible repeat (first | refine blk_drewN ?_ _ | refine blk_drew ?_ | refine blk_alloc ?_ _));refine blk_far ?_ NB546_568.out _;(with_reducible repeat (first | refine blk_drewN ?_ _ | refine blk_drew ?_ | refine blk_alloc ?_ _));refine blk_far ?_ NB546_568.out _;(with_reducible repeat (first | refine blk_drewN ?_ _ | refine blk_drew ?_ | refine blk_alloc ?_ _));exact BK546.out⟩,⟨by (with_reducible repeat (first | refine blk_drewN ?_ _ | refine blk_drew ?_ | refine blk_alloc ?_ _));refine blk_put (cs:=#[.float .f64 t559,.bool t560,.slice Ao53 t561.length co53,.int .i64 t564,.int .i64 t565,.int .i64 0]) ?_ 5 _ rfl;(with_reducible repeat (first | refine blk_drewN ?_ _ | refine blk_drew ?_ | refine blk_alloc ?_ _));refine blk_put (cs:=#[.float .f64 t559,.bool t560,.slice Ao53 t561.length co53,.int .i64 t564,.int .i64 0,.int .i64 0]) ?_ 4 _ rfl;(with_reducible repeat (first | refine blk_drewN ?_ _ | refine blk_drew ?_ | refine blk_alloc ?_ _));refine blk_put (cs:=#[.float .f64 t559,.bool t560,.slice Ao53 t561.length co53,.int .i64 0,.int .i64 0,.int .i64 0]) ?_ 3 _ rfl;(with_reducible repeat (first | refine blk_drewN ?_ _ | refine blk_drew ?_ | refine blk_alloc ?_ _));refine blk_put (cs:=#[.float .f64 t559,.bool t560,.slice none 0 0,.int .i64 0,.int .i64 0,.int .i64 0]) ?_ 2 _ rfl;(with_reducible repeat (first | refine blk_drewN ?_ _ | refine blk_drew ?_ | refine blk_alloc ?_ _));refine blk_put (cs:=#[.float .f64 t559,.bool false,.slice none 0 0,.int .i64 0,.int .i64 0,.int .i64 0]) ?_ 1 _ rfl;(with_reducible repeat (first | refine blk_drewN ?_ _ | refine blk_drew ?_ | refine blk_alloc ?_ _));refine blk_put (cs:=#[.float .f64 0,.bool false,.slice none 0 0,.int .i64 0,.int .i64 0,.int .i64 0]) ?_ 0 _ rfl;(with_reducible repeat (first | refine blk_drewN ?_ _ | refine blk_drew ?_ | refine blk_alloc ?_ _));exact BK568.out⟩,⟨by repeat (first | (with_reducible first | exact HB.out | apply below_alloc | apply pw_below_drewN | apply below_drew1 | refine below_set ?_ GE546.out | refine below_set ?_ GE568.out) | exact HB.out)⟩⟩
            case rest =>
              clear HC47
              try clear c1
              try clear c2
              try clear p2
              try clear c3
              try clear c4
              try clear c5
              try clear c5b0
              try clear c5b1
              try clear c6
              try clear c8
              try clear c25
              try clear c25b0
              try clear c25b1
              try clear c28
              try clear c34
              try clear c37
              try clear c39
              try clear c40
              try clear c41
              try clear c43
              try clear c46
              try clear c46b0
              try clear c46b1
              try clear c51
              try clear c54
              try clear c54b0
              try clear c54b1
              try clear c56
              try clear c58
              try clear c62
              try clear hcz23_0
              try clear hcz23_1
              try clear hcz23_2
              try clear hcz23_3
              try clear hcz23_4
              try clear hcz23_5
              try clear hcz48_0
              try clear hcz48_1
              try clear hcz48_2
              try clear hcz48_3
              try clear hcz48_4
              try clear hcz48_5
              try clear hcz52_0
              try clear hcz52_1
              try clear hcz52_2
              try clear hcz52_3
              try clear hcz52_4
              try clear hcz52_5
              try clear hcz59_0
              try clear hcz59_1
              try clear hcz59_2
              try clear hcz59_3
              try clear hcz59_4
              try clear hcz59_5
              try clear hcz63_0
              try clear hcz63_1
              try clear hcz63_2
              try clear hcz63_3
              try clear hcz63_4
              try clear hcz63_5
              try clear hfz18_0
              try clear hfz18_1
              try clear hfz18_2
              try clear hfz18_3
              try clear hfz18_4
              try clear hfz18_5
              try clear hfz23_0
              try clear hfz23_1
              try clear hfz23_2
              try clear hfz23_3
              try clear hfz23_4
              try clear hfz23_5
              try clear hfz48_0
              try clear hfz48_1
              try clear hfz48_2
              try clear hfz48_3
              try clear hfz48_4
              try clear hfz48_5
              try clear hfz52_0
              try clear hfz52_1
              try clear hfz52_2
              try clear hfz52_3
              try clear hfz52_4
              try clear hfz52_5
              try clear hfz59_0
              try clear hfz59_1
              try clear hfz59_2
              try clear hfz59_3
              try clear hfz59_4
              try clear hfz59_5
              try clear hfz63_0
              try clear hfz63_1
              try clear hfz63_2
              try clear hfz63_3
              try clear hfz63_4
              try clear hfz63_5
              try clear hfz9_0
              try clear hfz9_1
              try clear hfz9_2
              try clear hfz9_3
              try clear hfz9_4
              try clear hfz9_5
              try clear p2
              obtain ⟨kq,x6_46,rfl,HA,HJ46,HO_547002,HO_569002,BK546,BK568,HB⟩:=hcut
              cases kq with
              | zero => exact absurd HA.out (by simp [humuslaw04_RowMakes.j3])
              | succ kj46 =>
                have H:=HA.out
                clear HA
                simp only [humuslaw04_RowMakes.j3] at H
                obtain rfl:=Option.some.inj H
                go_wp2
                go_ret
                exact ⟨by first | rfl | (simp [errW_none,errW_some] <;> rfl) | (simp [*,errW_none,errW_some] <;> rfl),by repeat (first | (with_reducible first | exact HB.out | apply below_alloc | apply pw_below_drewN | apply below_drew1 | refine below_set ?_ GE546.out | refine below_set ?_ GE568.out) | exact HB.out)⟩
          · rw [if_neg c46] at H
            have c46b0 : ((l1.length : Int) == 0) = false:=beq_eq_false_iff_ne.mpr c46
            have c46b1 : ((l1.length : Int) != 0) = true:=bne_iff_ne.mpr c46
            have c46b2 : ¬ (l1 = []):=fun h_ => c46 (by rw [h_];rfl)
            have HC65:=Aside0.mk H
            clear H
            have hcz66_0 : wc.cell? ⟨gb546,0,none⟩ = some (.float .f64 t537):=(blk_cell BK546.out 0).trans rfl
            have hcz66_1 : wc.cell? ⟨gb546,1,none⟩ = some (.bool t538):=(blk_cell BK546.out 1).trans rfl
            have hcz66_2 : wc.cell? ⟨gb546,2,none⟩ = some (.slice Ao24 t539.length co24):=(blk_cell BK546.out 2).trans rfl
            have hcz66_3 : wc.cell? ⟨gb546,3,none⟩ = some (.int .i64 t542):=(blk_cell BK546.out 3).trans rfl
            have hcz66_4 : wc.cell? ⟨gb546,4,none⟩ = some (.int .i64 t543):=(blk_cell BK546.out 4).trans rfl
            have hcz66_5 : wc.cell? ⟨gb546,5,none⟩ = some (.int .i64 t544):=(blk_cell BK546.out 5).trans rfl
            have hfz66_0:=blk_frozen BK546.out 0
            have hfz66_1:=blk_frozen BK546.out 1
            have hfz66_2:=blk_frozen BK546.out 2
            have hfz66_3:=blk_frozen BK546.out 3
            have hfz66_4:=blk_frozen BK546.out 4
            have hfz66_5:=blk_frozen BK546.out 5
            go_upto_region 9 with (first | ((with_reducible refine gate_callee (f:=41) rfl ?_);refine goesL_ (some 48) rfl rfl Try.func41 (by kernel_rfl) rfl #[.agg #[.float .f64 t537,.bool t538,.slice Ao24 t539.length co24,.int .i64 t542,.int .i64 t543,.int .i64 t544],.float .f64 a2] rfl (by (try simp only [List.map_toArray,List.map_cons,List.map_nil]);first | done | rfl | (simp only [List.length_drop,List.length_take];rfl)) ?_;(with_reducible refine (row_Plus.calls kj19 t537 t538 _ _ t539 t542 t543 t544 a2 t559 t560 t561 t564 t565 t566 t567 _ ?side1 ?side2 A45.out).mono ?_);(case side1 => repeat (first | exact (Kd.R_reads' HO_547002.out).2.2 | (with_reducible refine Kd.C_alloc ?_ _) | (with_reducible refine Kd.C_drewN ?_ _) | (with_reducible refine Kd.C_drew ?_)));(case side2 => exact (Kd.R_reads' HO_547002.out).2.1);rintro e w67 ⟨v562,rfl,ho0,hb⟩;refine ⟨_,rfl,?_⟩;have n0_:=Aside0.mk (Kd.R_elder' (by (with_reducible repeat (first | apply Kd.R_alloc | apply Kd.R_drewN | apply Kd.R_drew));exact HO_547002.out) (Kd.R_base ho0) hb);have n1_:=Aside0.mk (Kd.R_lower (Kd.R_new' ho0 (Kd.R_lt (by (with_reducible repeat (first | apply Kd.R_alloc | apply Kd.R_drewN | apply Kd.R_drew));exact HO_547002.out))) (below_size (by repeat (first | (with_reducible first | exact HB.out | apply below_alloc | apply pw_below_drewN | apply below_drew1 | refine below_set ?_ GE546.out) | exact HB.out))));have n2_:=Aside0.mk (blk_below (g:=gb546) (o:=.cells #[.float .f64 t537,.bool t538,.slice Ao24 t539.length co24,.int .i64 t542,.int .i64 t543,.int .i64 t544] 30 (0,0)) (by (with_reducible repeat (first | refine blk_drewN ?_ _ | refine blk_drew ?_ | refine blk_alloc ?_ _));exact BK546.out) hb);have n3_:=Aside0.mk (below_step (by repeat (first | (with_reducible first | exact HB.out | apply below_alloc | apply pw_below_drewN | apply below_drew1 | refine below_set ?_ GE546.out) | exact HB.out)) hb);clear HO_547002;clear BK546;clear HB;have HO_547002:=n0_;have HO563:=n1_;have BK546:=n2_;have HB:=n3_;clear n0_ n1_ n2_ n3_;(try clear hb);(try clear hb2);(try clear hk);(try clear hi);(try clear ho0)) | ((with_reducible refine gate_dst (N:=9) rfl ?_);refine box_event ?hg (N:=9) ?hd (cs:=#[.float .f64 0,.bool false,.slice none 0 0,.int .i64 0,.int .i64 0,.int .i64 0]) (t:=30) ?hr ?_;(case hd => rfl);(case hg => rfl);(case hr => first | (go_simp;done) | (go_simp;rfl));intro gb568 hg w68 hbox hb;have n0_:=Aside0.mk (Kd.R_below (by (with_reducible repeat (first | apply Kd.R_alloc | apply Kd.R_drewN | apply Kd.R_drew));exact HO_547002.out) hb);have n1_:=Aside0.mk (Kd.R_below (by (with_reducible repeat (first | apply Kd.R_alloc | apply Kd.R_drewN | apply Kd.R_drew));exact HO563.out) hb);have n2_:=Aside0.mk (blk_below (g:=gb546) (o:=.cells #[.float .f64 t537,.bool t538,.slice Ao24 t539.length co24,.int .i64 t542,.int .i64 t543,.int .i64 t544] 30 (0,0)) (by (with_reducible repeat (first | refine blk_drewN ?_ _ | refine blk_drew ?_ | refine blk_alloc ?_ _));exact BK546.out) hb);have n3_:=Aside0.mk (below_step (by repeat (first | (with_reducible first | exact HB.out | apply below_alloc | apply pw_below_drewN | apply below_drew1 | refine below_set ?_ GE546.out) | exact HB.out)) hb);have n4_:=Aside0.mk (hbox);have n5_:=Aside0.mk ((by rw [hg];exact (below_size (by repeat (first | (with_reducible first | exact HB.out | apply below_alloc | apply pw_below_drewN | apply below_drew1 | refine below_set ?_ GE546.out) | exact HB.out))) : w.heap.size ≤ gb568));have n6_:=Aside0.mk ((by rw [hg];exact (below_size (by repeat (first | (with_reducible first | exact HB.out | apply below_alloc | apply pw_below_drewN | apply below_drew1 | refine below_set ?_ GE546.out) | exact HB.out))) : w.heap.size ≤ gb568));have n7_:=Aside0.mk ((by rw [hg];exact Nat.ne_of_lt (blk_lt (g:=gb546) (o:=.cells #[.float .f64 t537,.bool t538,.slice Ao24 t539.length co24,.int .i64 t542,.int .i64 t543,.int .i64 t544] 30 (0,0)) (by (with_reducible repeat (first | refine blk_drewN ?_ _ | refine blk_drew ?_ | refine blk_alloc ?_ _));exact BK546.out)) : gb546 ≠ gb568));have n8_:=Aside0.mk ((by rw [hg];exact Nat.ne_of_gt (blk_lt (g:=gb546) (o:=.cells #[.float .f64 t537,.bool t538,.slice Ao24 t539.length co24,.int .i64 t542,.int .i64 t543,.int .i64 t544] 30 (0,0)) (by (with_reducible repeat (first | refine blk_drewN ?_ _ | refine blk_drew ?_ | refine blk_alloc ?_ _));exact BK546.out)) : gb568 ≠ gb546));clear HO_547002;clear HO563;clear BK546;clear HB;have HO_547002:=n0_;have HO563:=n1_;have BK546:=n2_;have HB:=n3_;have BK568:=n4_;have GW568:=n5_;have GE568:=n6_;have NB546_568:=n7_;have NB568_546:=n8_;clear n0_ n1_ n2_ n3_ n4_ n5_ n6_ n7_ n8_;clear hb hbox hg;have hnb69:=NB568_546.out;have hnc69:=NB546_568.out;have hcz70_0 : w68.cell? ⟨gb568,0,none⟩ = some (.float .f64 0):=(blk_cell BK568.out 0).trans rfl;have hcz70_1 : w68.cell? ⟨gb568,1,none⟩ = some (.bool false):=(blk_cell BK568.out 1).trans rfl;have hcz70_2 : w68.cell? ⟨gb568,2,none⟩ = some (.slice none 0 0):=(blk_cell BK568.out 2).trans rfl;have hcz70_3 : w68.cell? ⟨gb568,3,none⟩ = some (.int .i64 0):=(blk_cell BK568.out 3).trans rfl;have hcz70_4 : w68.cell? ⟨gb568,4,none⟩ = some (.int .i64 0):=(blk_cell BK568.out 4).trans rfl;have hcz70_5 : w68.cell? ⟨gb568,5,none⟩ = some (.int .i64 0):=(blk_cell BK568.out 5).trans rfl;have hfz70_0:=blk_frozen BK568.out 0;have hfz70_1:=blk_frozen BK568.out 1;have hfz70_2:=blk_frozen BK568.out 2;have hfz70_3:=blk_frozen BK568.out 3;have hfz70_4:=blk_frozen BK568.out 4;have hfz70_5:=blk_frozen BK568.out 5;obtain ⟨Ao71,co71,eo71⟩:=Kd.R_slice HO563.out;subst eo71))
            (try simp only [Act.put,List.setIfInBounds_toArray,List.set_cons_zero,List.set_cons_succ])
            go_cut [6] (fun v6 wc => ∃ (kq : Nat) (x6_64 : Bool),v6 = .bool x6_64 ∧ Aside0 (humuslaw04_RowMakes.j4 kq x6_64 = some r) ∧ Aside0 (kq ≤ kj19) ∧ Aside0 (Kd.R Kd.f64 25 wc w.heap.size (fun k_ => some k_ ≠ ((.slice Ao71 t561.length co71) : Value).ownBlock) (.slice Ao24 t539.length co24) t539) ∧ Aside0 (Kd.R Kd.f64 25 wc w.heap.size (fun k_ => some k_ ≠ ((.slice Ao24 t539.length co24) : Value).ownBlock) (.slice Ao71 t561.length co71) t561) ∧ Aside0 (wc.heap[gb546]? = some (.cells #[.float .f64 t537,.bool t538,(.slice Ao24 t539.length co24),.int .i64 t542,.int .i64 t543,.int .i64 t544] 30 (0,0))) ∧ Aside0 (wc.heap[gb568]? = some (.cells #[.float .f64 t559,.bool t560,(.slice Ao71 t561.length co71),.int .i64 t564,.int .i64 t565,.int .i64 t566] 30 (0,0))) ∧ Aside0 (Below w.heap.size w wc))
            case first =>
              have H:=HC65.out
              clear HC65
              by_cases c72 : t567 = 0
              · rw [if_pos c72] at H
                have c72b0 : (t567 == 0) = true:=beq_iff_eq.mpr c72
                have c72b1 : (t567 != 0) = false:=bne_eq_false_iff_eq.mpr c72
                clear c72
                (first | rw [c72b0] | (simp only [i64_w,i32_w];rw [c72b0]) | skip)
                replace H:=Option.bind_eq_some_iff.mp H
                obtain ⟨⟨t571,t572,t573,t576,t577,t578⟩,A730,H⟩:=H
                replace H : ((humusref04_Same.f kj19 t559 t560 t561 t564 t565 t566 t571 t572 t573 t576 t577 t578).bind fun t579 => (if t579 = true then ((humusref04_May.f kj19 t559 t560 t561 t564 t565 t566).bind fun t580 => (if t580 = true then ((humuslaw04_awake.f kj19).bind fun t581 => (humuslaw04_RowMakes.j4 kj19 t581)) else (humuslaw04_RowMakes.j4 kj19 false))) else (humuslaw04_RowMakes.j4 kj19 false))) = some r:=H
                have A73:=Aside0.mk A730
                clear A730
                replace H:=Option.bind_eq_some_iff.mp H
                obtain ⟨t579,A740,H⟩:=H
                replace H : (if t579 = true then ((humusref04_May.f kj19 t559 t560 t561 t564 t565 t566).bind fun t580 => (if t580 = true then ((humuslaw04_awake.f kj19).bind fun t581 => (humuslaw04_RowMakes.j4 kj19 t581)) else (humuslaw04_RowMakes.j4 kj19 false))) else (humuslaw04_RowMakes.j4 kj19 false)) = some r:=H
                have A74:=Aside0.mk A740
                clear A740
                by_cases c75 : t579 = true
                · subst c75
                  have H1 : ((humusref04_May.f kj19 t559 t560 t561 t564 t565 t566).bind fun t580 => (if t580 = true then ((humuslaw04_awake.f kj19).bind fun t581 => (humuslaw04_RowMakes.j4 kj19 t581)) else (humuslaw04_RowMakes.j4 kj19 false))) = some r:=by rw [if_pos rfl] at H;exact H
                  clear H
                  have H:=H1
                  clear H1
                  replace H:=Option.bind_eq_some_iff.mp H
                  obtain ⟨t580,A760,H⟩:=H
                  replace H : (if t580 = true then ((humuslaw04_awake.f kj19).bind fun t581 => (humuslaw04_RowMakes.j4 kj19 t581)) else (humuslaw04_RowMakes.j4 kj19 false)) = some r:=H
                  have A76:=Aside0.mk A760
                  clear A760
                  by_cases c77 : t580 = true
                  · subst c77
                    have H1 : ((humuslaw04_awake.f kj19).bind fun t581 => (humuslaw04_RowMakes.j4 kj19 t581)) = some r:=by rw [if_pos rfl] at H;exact H
                    clear H
                    have H:=H1
                    clear H1
                    replace H:=Option.bind_eq_some_iff.mp H
                    obtain ⟨t581,A780,H⟩:=H
                    replace H : (humuslaw04_RowMakes.j4 kj19 t581) = some r:=H
                    have A78:=Aside0.mk A780
                    clear A780
                    have H':=Aside0.mk H
                    clear H
                    try go_wp2
                    have n0_ : Aside0 (Kd.R Kd.f64 25 ((((((w68.setCell ⟨gb568,0,none⟩ (.float .f64 t559)).setCell ⟨gb568,1,none⟩ (.bool t560)).setCell ⟨gb568,2,none⟩ (.slice Ao71 t561.length co71)).setCell ⟨gb568,3,none⟩ (.int .i64 t564)).setCell ⟨gb568,4,none⟩ (.int .i64 t565)).setCell ⟨gb568,5,none⟩ (.int .i64 t566)) w.heap.size (fun k_ => some k_ ≠ (.slice Ao71 t561.length co71 : Value).ownBlock) (.slice Ao24 t539.length co24) t539):=⟨by (with_reducible repeat (first | apply Kd.R_alloc | apply Kd.R_drewN | apply Kd.R_drew));exact Kd.R_mono (Kd.R_far (p:=⟨gb568,5,none⟩) (Kd.R_far (p:=⟨gb568,4,none⟩) (Kd.R_far (p:=⟨gb568,3,none⟩) (Kd.R_far (p:=⟨gb568,2,none⟩) (Kd.R_far (p:=⟨gb568,1,none⟩) (Kd.R_far (p:=⟨gb568,0,none⟩) (Kd.R_types HO_547002.out BK568.out (by decide)) (fun _ hk => hk.2) (.float .f64 t559)) (fun _ hk => hk.2) (.bool t560)) (fun _ hk => hk.2) (.slice Ao71 t561.length co71)) (fun _ hk => hk.2) (.int .i64 t564)) (fun _ hk => hk.2) (.int .i64 t565)) (fun _ hk => hk.2) (.int .i64 t566)) (fun _ hk => hk.1.2)⟩
                    have n1_ : Aside0 (Kd.R Kd.f64 25 ((((((w68.setCell ⟨gb568,0,none⟩ (.float .f64 t559)).setCell ⟨gb568,1,none⟩ (.bool t560)).setCell ⟨gb568,2,none⟩ (.slice Ao71 t561.length co71)).setCell ⟨gb568,3,none⟩ (.int .i64 t564)).setCell ⟨gb568,4,none⟩ (.int .i64 t565)).setCell ⟨gb568,5,none⟩ (.int .i64 t566)) w.heap.size (fun k_ => some k_ ≠ (.slice Ao24 t539.length co24 : Value).ownBlock) (.slice Ao71 t561.length co71) t561):=⟨by (with_reducible repeat (first | apply Kd.R_alloc | apply Kd.R_drewN | apply Kd.R_drew));exact Kd.R_mono (Kd.R_far (p:=⟨gb568,5,none⟩) (Kd.R_far (p:=⟨gb568,4,none⟩) (Kd.R_far (p:=⟨gb568,3,none⟩) (Kd.R_far (p:=⟨gb568,2,none⟩) (Kd.R_far (p:=⟨gb568,1,none⟩) (Kd.R_far (p:=⟨gb568,0,none⟩) (Kd.R_types HO563.out BK568.out (by decide)) (fun _ hk => hk.2) (.float .f64 t559)) (fun _ hk => hk.2) (.bool t560)) (fun _ hk => hk.2) (.slice Ao71 t561.length co71)) (fun _ hk => hk.2) (.int .i64 t564)) (fun _ hk => hk.2) (.int .i64 t565)) (fun _ hk => hk.2) (.int .i64 t566)) (fun _ hk => hk.1.2)⟩
                    have n2_ : Aside0 (((((((w68.setCell ⟨gb568,0,none⟩ (.float .f64 t559)).setCell ⟨gb568,1,none⟩ (.bool t560)).setCell ⟨gb568,2,none⟩ (.slice Ao71 t561.length co71)).setCell ⟨gb568,3,none⟩ (.int .i64 t564)).setCell ⟨gb568,4,none⟩ (.int .i64 t565)).setCell ⟨gb568,5,none⟩ (.int .i64 t566)).heap[gb546]? = some (.cells #[.float .f64 t537,.bool t538,.slice Ao24 t539.length co24,.int .i64 t542,.int .i64 t543,.int .i64 t544] 30 (0,0))):=⟨by (with_reducible repeat (first | refine blk_drewN ?_ _ | refine blk_drew ?_ | refine blk_alloc ?_ _));refine blk_far ?_ NB546_568.out _;(with_reducible repeat (first | refine blk_drewN ?_ _ | refine blk_drew ?_ | refine blk_alloc ?_ _));refine blk_far ?_ NB546_568.out _;(with_reducible repeat (first | refine blk_drewN ?_ _ | refine blk_drew ?_ | refine blk_alloc ?_ _));refine blk_far ?_ NB546_568.out _;(with_reducible repeat (first | refine blk_drewN ?_ _ | refine blk_drew ?_ | refine blk_alloc ?_ _));refine blk_far ?_ NB546_568.out _;(with_reducible repeat (first | refine blk_drewN ?_ _ | refine blk_drew ?_ | refine blk_alloc ?_ _));refine blk_far ?_ NB546_568.out _;(with_reducible repeat (first | refine blk_drewN ?_ _ | refine blk_drew ?_ | refine blk_alloc ?_ _));refine blk_far ?_ NB546_568.out _;(with_reducible repeat (first | refine blk_drewN ?_ _ | refine blk_drew ?_ | refine blk_alloc ?_ _));exact BK546.out⟩
                    have n3_ : Aside0 (((((((w68.setCell ⟨gb568,0,none⟩ (.float .f64 t559)).setCell ⟨gb568,1,none⟩ (.bool t560)).setCell ⟨gb568,2,none⟩ (.slice Ao71 t561.length co71)).setCell ⟨gb568,3,none⟩ (.int .i64 t564)).setCell ⟨gb568,4,none⟩ (.int .i64 t565)).setCell ⟨gb568,5,none⟩ (.int .i64 t566)).heap[gb568]? = some (.cells #[.float .f64 t559,.bool t560,.slice Ao71 t561.length co71,.int .i64 t564,.int .i64 t565,.int .i64 t566] 30 (0,0))):=⟨by (with_reducible repeat (first | refine blk_drewN ?_ _ | refine blk_drew ?_ | refine blk_alloc ?_ _));refine blk_put (cs:=#[.float .f64 t559,.bool t560,.slice Ao71 t561.length co71,.int .i64 t564,.int .i64 t565,.int .i64 0]) ?_ 5 _ rfl;(with_reducible repeat (first | refine blk_drewN ?_ _ | refine blk_drew ?_ | refine blk_alloc ?_ _));refine blk_put (cs:=#[.float .f64 t559,.bool t560,.slice Ao71 t561.length co71,.int .i64 t564,.int .i64 0,.int .i64 0]) ?_ 4 _ rfl;(with_reducible repeat (first | refine blk_drewN ?_ _ | refine blk_drew ?_ | refine blk_alloc ?_ _));refine blk_put (cs:=#[.float .f64 t559,.bool t560,.slice Ao71 t561.length co71,.int .i64 0,.int .i64 0,.int .i64 0]) ?_ 3 _ rfl;(with_reducible repeat (first | refine blk_drewN ?_ _ | refine blk_drew ?_ | refine blk_alloc ?_ _));refine blk_put (cs:=#[.float .f64 t559,.bool t560,.slice none 0 0,.int .i64 0,.int .i64 0,.int .i64 0]) ?_ 2 _ rfl;(with_reducible repeat (first | refine blk_drewN ?_ _ | refine blk_drew ?_ | refine blk_alloc ?_ _));refine blk_put (cs:=#[.float .f64 t559,.bool false,.slice none 0 0,.int .i64 0,.int .i64 0,.int .i64 0]) ?_ 1 _ rfl;(with_reducible repeat (first | refine blk_drewN ?_ _ | refine blk_drew ?_ | refine blk_alloc ?_ _));refine blk_put (cs:=#[.float .f64 0,.bool false,.slice none 0 0,.int .i64 0,.int .i64 0,.int .i64 0]) ?_ 0 _ rfl;(with_reducible repeat (first | refine blk_drewN ?_ _ | refine blk_drew ?_ | refine blk_alloc ?_ _));exact BK568.out⟩
                    have n4_ : Aside0 (Below w.heap.size w ((((((w68.setCell ⟨gb568,0,none⟩ (.float .f64 t559)).setCell ⟨gb568,1,none⟩ (.bool t560)).setCell ⟨gb568,2,none⟩ (.slice Ao71 t561.length co71)).setCell ⟨gb568,3,none⟩ (.int .i64 t564)).setCell ⟨gb568,4,none⟩ (.int .i64 t565)).setCell ⟨gb568,5,none⟩ (.int .i64 t566))):=⟨by repeat (first | (with_reducible first | exact HB.out | apply below_alloc | apply pw_below_drewN | apply below_drew1 | refine below_set ?_ GE546.out | refine below_set ?_ GE568.out) | exact HB.out)⟩
                    (try clear HO_547002)
                    (try clear HO563)
                    (try clear BK546)
                    (try clear BK568)
                    (try clear HB)
                    generalize ((((((w68.setCell ⟨gb568,0,none⟩ (.float .f64 t559)).setCell ⟨gb568,1,none⟩ (.bool t560)).setCell ⟨gb568,2,none⟩ (.slice Ao71 t561.length co71)).setCell ⟨gb568,3,none⟩ (.int .i64 t564)).setCell ⟨gb568,4,none⟩ (.int .i64 t565)).setCell ⟨gb568,5,none⟩ (.int .i64 t566)) = w79 at n0_ n1_ n2_ n3_ n4_ ⊢
                    have HO_547002:=n0_
                    have HO563:=n1_
                    have BK546:=n2_
                    have BK568:=n3_
                    have HB:=n4_
                    clear n0_ n1_ n2_ n3_ n4_
                    have n0_:=Aside0.mk (Kd.R_drew HO_547002.out)
                    have n1_:=Aside0.mk (Kd.R_drew HO563.out)
                    have n2_:=Aside0.mk (blk_drew BK546.out)
                    have n3_:=Aside0.mk (blk_drew BK568.out)
                    have n4_:=Aside0.mk (below_drew1 HB.out)
                    clear HO_547002
                    clear HO563
                    clear BK546
                    clear BK568
                    clear HB
                    have HO_547002:=n0_
                    have HO563:=n1_
                    have BK546:=n2_
                    have BK568:=n3_
                    have HB:=n4_
                    clear n0_ n1_ n2_ n3_ n4_
                    refine start_ (n:=17) (S:=fun w' => w'.cell? ⟨gb568,0,none⟩ = some (.float .f64 t559) ∧ w'.cell? ⟨gb568,1,none⟩ = some (.bool t560) ∧ w'.cell? ⟨gb568,2,none⟩ = some (.slice Ao71 t561.length co71) ∧ w'.cell? ⟨gb568,3,none⟩ = some (.int .i64 t564) ∧ w'.cell? ⟨gb568,4,none⟩ = some (.int .i64 t565) ∧ w'.cell? ⟨gb568,5,none⟩ = some (.int .i64 t566) ∧ w'.cell? ⟨gb546,0,none⟩ = some (.float .f64 t537) ∧ w'.cell? ⟨gb546,1,none⟩ = some (.bool t538) ∧ w'.cell? ⟨gb546,2,none⟩ = some (.slice Ao24 t539.length co24) ∧ w'.cell? ⟨gb546,3,none⟩ = some (.int .i64 t542) ∧ w'.cell? ⟨gb546,4,none⟩ = some (.int .i64 t543) ∧ w'.cell? ⟨gb546,5,none⟩ = some (.int .i64 t544)) (ds:=[11,14]) #[false,false,false,false,false,false,false,false,false,false,false,false,false,false,false,false,false] (by kernel_rfl) rfl rfl ⟨(blk_cell BK568.out 0).trans rfl,(blk_cell BK568.out 1).trans rfl,(blk_cell BK568.out 2).trans rfl,(blk_cell BK568.out 3).trans rfl,(blk_cell BK568.out 4).trans rfl,(blk_cell BK568.out 5).trans rfl,(blk_cell BK546.out 0).trans rfl,(blk_cell BK546.out 1).trans rfl,(blk_cell BK546.out 2).trans rfl,(blk_cell BK546.out 3).trans rfl,(blk_cell BK546.out 4).trans rfl,(blk_cell BK546.out 5).trans rfl⟩ (fun hHeld => ?_);refine with_tabW humuslaw04_RowMakes.tab9 humuslaw04_RowMakes.bits9 (fun HT_ HW_ => ?_)
                    generalize w79.drew = w80 at HO_547002 HO563 BK546 BK568 HB hHeld ⊢
                    refine pure_ (i:=0) (N:=some 64) (v:=?_) (a':=?_) #[true,false,false,false,false,false,false,false,false,false,false,false,false,false,false,false,false] rfl rfl (any_of HT_.out (by kernel_rfl)) (fun _ _ _ h => h) (Or.inl ⟨by rfl,?_⟩) ?_ ?_
                    rotate_left
                    · intro w'
                      go_simp
                      with_reducible rfl
                    rotate_left
                    · simp only [Act.put,List.setIfInBounds_toArray,List.set_cons_zero,List.set_cons_succ,i64_w,i32_w]
                      rfl
                    refine pure_ (i:=1) (N:=some 65) (v:=?_) (a':=?_) #[true,true,false,false,false,false,false,false,false,false,false,false,false,false,false,false,false] rfl rfl (any_of HT_.out (by kernel_rfl)) (fun _ _ _ h => h) (Or.inl ⟨by rfl,?_⟩) ?_ ?_
                    rotate_left
                    · intro w'
                      go_simp
                      with_reducible rfl
                    rotate_left
                    · simp only [Act.put,List.setIfInBounds_toArray,List.set_cons_zero,List.set_cons_succ,i64_w,i32_w]
                      rfl
                    refine pure_ (i:=2) (N:=some 66) (v:=?_) (a':=?_) #[true,true,true,false,false,false,false,false,false,false,false,false,false,false,false,false,false] rfl rfl (any_of HT_.out (by kernel_rfl)) (fun _ _ _ h => h) (Or.inl ⟨by rfl,?_⟩) ?_ ?_
                    rotate_left
                    · intro w'
                      go_simp
                      with_reducible rfl
                    rotate_left
                    · simp only [Act.put,List.setIfInBounds_toArray,List.set_cons_zero,List.set_cons_succ,i64_w,i32_w]
                      rfl
                    refine pure_ (i:=5) (N:=some 69) (v:=?_) (a':=?_) #[true,true,true,false,false,true,false,false,false,false,false,false,false,false,false,false,false] rfl rfl (any_of HT_.out (by kernel_rfl)) (fun _ _ _ h => h) (Or.inl ⟨by rfl,?_⟩) ?_ ?_
                    rotate_left
                    · intro w'
                      go_simp
                      with_reducible rfl
                    rotate_left
                    · simp only [Act.put,List.setIfInBounds_toArray,List.set_cons_zero,List.set_cons_succ,i64_w,i32_w]
                      rfl
                    refine take_ (i:=3) (N:=some 67) (v:=?_) (a':=?_) #[true,true,true,true,false,true,false,false,false,false,false,false,false,false,false,false,false] rfl rfl (take_ofW HT_.out HW_.out (by kernel_rfl)) (fun _ _ _ h => h) (Or.inl ⟨by rfl,?_⟩) hHeld ?_ ?_
                    rotate_left
                    · rintro w' ⟨s0,s1,s2,s3,s4,s5,s6,s7,s8,s9,s10,s11⟩
                      go_simp
                      with_reducible rfl
                    rotate_left
                    · simp only [Act.put,List.setIfInBounds_toArray,List.set_cons_zero,List.set_cons_succ,i64_w,i32_w]
                      rfl
                    refine take_ (i:=4) (N:=some 68) (v:=?_) (a':=?_) #[true,true,true,true,true,true,false,false,false,false,false,false,false,false,false,false,false] rfl rfl (take_ofW HT_.out HW_.out (by kernel_rfl)) (fun _ _ _ h => h) (Or.inl ⟨by rfl,?_⟩) hHeld ?_ ?_
                    rotate_left
                    · rintro w' ⟨s0,s1,s2,s3,s4,s5,s6,s7,s8,s9,s10,s11⟩
                      go_simp
                      with_reducible rfl
                    rotate_left
                    · simp only [Act.put,List.setIfInBounds_toArray,List.set_cons_zero,List.set_cons_succ,i64_w,i32_w]
                      rfl
                    refine one_ (i:=6) (N:=some 70) #[true,true,true,true,true,true,true,false,false,false,false,false,false,false,false,false,false] rfl rfl (one_of HT_.out (by kernel_rfl)) (by decide) (fun K hK => ?_)
                    refine goes_ Try.func42 (by kernel_rfl) rfl #[.agg #[.float .f64 t537,.bool t538,.slice Ao24 t539.length co24,.int .i64 t542,.int .i64 t543,.int .i64 t544],.float .f64 a2] (by rfl) rfl rfl (by (try simp only [List.map_toArray,List.map_cons,List.map_nil]);first | done | rfl | (simp only [List.length_drop,List.length_take];rfl)) ?_
                    with_reducible refine (humusref04_Plus.calls t537 t538 _ _ t539 t542 t543 t544 a2 t571 t572 t573 t576 t577 t578 _ ?side1 ?side2 A73.out).mono ?_
                    (case side1 => repeat (first | exact (Kd.R_reads' HO_547002.out).2.2 | (with_reducible refine Kd.C_alloc ?_ _) | (with_reducible refine Kd.C_drewN ?_ _) | (with_reducible refine Kd.C_drew ?_)))
                    (case side2 => exact (Kd.R_reads' HO_547002.out).2.1)
                    rintro e w81 ⟨v574,rfl,ho0,hb⟩
                    refine ⟨_,rfl,?_⟩
                    have n0_:=Aside0.mk (Kd.R_elder' (by (with_reducible repeat (first | apply Kd.R_alloc | apply Kd.R_drewN | apply Kd.R_drew));exact HO_547002.out) (Kd.R_base ho0) hb)
                    have n1_:=Aside0.mk (Kd.R_elder' (by (with_reducible repeat (first | apply Kd.R_alloc | apply Kd.R_drewN | apply Kd.R_drew));exact HO563.out) (Kd.R_base ho0) hb)
                    have n2_:=Aside0.mk (Kd.R_lower (Kd.R_new' (Kd.R_new' ho0 (Kd.R_lt (by (with_reducible repeat (first | apply Kd.R_alloc | apply Kd.R_drewN | apply Kd.R_drew));exact HO_547002.out))) (Kd.R_lt (by (with_reducible repeat (first | apply Kd.R_alloc | apply Kd.R_drewN | apply Kd.R_drew));exact HO563.out))) (below_size (by repeat (first | (with_reducible first | exact HB.out | apply below_alloc | apply pw_below_drewN | apply below_drew1 | refine below_set ?_ GE546.out | refine below_set ?_ GE568.out) | exact HB.out))))
                    have n3_:=Aside0.mk (blk_below (g:=gb546) (o:=.cells #[.float .f64 t537,.bool t538,.slice Ao24 t539.length co24,.int .i64 t542,.int .i64 t543,.int .i64 t544] 30 (0,0)) (by (with_reducible repeat (first | refine blk_drewN ?_ _ | refine blk_drew ?_ | refine blk_alloc ?_ _));exact BK546.out) hb)
                    have n4_:=Aside0.mk (blk_below (g:=gb568) (o:=.cells #[.float .f64 t559,.bool t560,.slice Ao71 t561.length co71,.int .i64 t564,.int .i64 t565,.int .i64 t566] 30 (0,0)) (by (with_reducible repeat (first | refine blk_drewN ?_ _ | refine blk_drew ?_ | refine blk_alloc ?_ _));exact BK568.out) hb)
                    have n5_:=Aside0.mk (below_step (by repeat (first | (with_reducible first | exact HB.out | apply below_alloc | apply pw_below_drewN | apply below_drew1 | refine below_set ?_ GE546.out | refine below_set ?_ GE568.out) | exact HB.out)) hb)
                    clear HO_547002
                    clear HO563
                    clear BK546
                    clear BK568
                    clear HB
                    have HO_547002:=n0_
                    have HO563:=n1_
                    have HO575:=n2_
                    have BK546:=n3_
                    have BK568:=n4_
                    have HB:=n5_
                    clear n0_ n1_ n2_ n3_ n4_ n5_
                    (try clear hb)
                    (try clear hb2)
                    (try clear hk)
                    (try clear hi)
                    (try clear ho0)
                    obtain ⟨Ao82,co82,eo82⟩:=Kd.R_slice HO575.out
                    (first | subst eo82 | (injection eo82 with f1_ f2_ f3_;have f4_:=f1_.symm;have f5_:=f3_.symm;clear f1_ f2_ f3_;subst f4_;subst f5_))
                    refine hK.out _ _ ⟨(blk_cell BK568.out 0).trans rfl,(blk_cell BK568.out 1).trans rfl,(blk_cell BK568.out 2).trans rfl,(blk_cell BK568.out 3).trans rfl,(blk_cell BK568.out 4).trans rfl,(blk_cell BK568.out 5).trans rfl,(blk_cell BK546.out 0).trans rfl,(blk_cell BK546.out 1).trans rfl,(blk_cell BK546.out 2).trans rfl,(blk_cell BK546.out 3).trans rfl,(blk_cell BK546.out 4).trans rfl,(blk_cell BK546.out 5).trans rfl⟩ (fun hHeld => ?_)
                    clear hK K
                    refine norm_ (a':=?_) ?_ ?_
                    rotate_left
                    · show Act.put _ (some 70) _ = _
                      simp only [Act.put,List.setIfInBounds_toArray,List.set_cons_zero,List.set_cons_succ,i64_w,i32_w]
                      rfl
                    refine one_ (i:=7) (N:=some 71) #[true,true,true,true,true,true,true,true,false,false,false,false,false,false,false,false,false] rfl rfl (one_of HT_.out (by kernel_rfl)) (by decide) (fun K hK => ?_)
                    refine goes_ Try.func37 (by kernel_rfl) rfl #[.agg #[.float .f64 t559,.bool t560,.slice Ao71 t561.length co71,.int .i64 t564,.int .i64 t565,.int .i64 t566],.agg #[.float .f64 t571,.bool t572,.slice Ao82 t573.length co82,.int .i64 t576,.int .i64 t577,.int .i64 t578]] (by rfl) rfl rfl (by (try simp only [List.map_toArray,List.map_cons,List.map_nil]);first | done | rfl | (simp only [List.length_drop,List.length_take];rfl)) ?_
                    with_reducible refine (humusref04_Same.calls kj19 t559 t560 _ _ t561 t564 t565 t566 t571 t572 _ _ t573 t576 t577 t578 true _ ?side1 ?side2 ?side3 ?side4 A74.out).mono ?_
                    (case side1 => repeat (first | exact (Kd.R_reads' HO563.out).2.2 | (with_reducible refine Kd.C_alloc ?_ _) | (with_reducible refine Kd.C_drewN ?_ _) | (with_reducible refine Kd.C_drew ?_)))
                    (case side2 => exact (Kd.R_reads' HO563.out).2.1)
                    (case side3 => repeat (first | exact (Kd.R_reads' HO575.out).2.2 | (with_reducible refine Kd.C_alloc ?_ _) | (with_reducible refine Kd.C_drewN ?_ _) | (with_reducible refine Kd.C_drew ?_)))
                    (case side4 => exact (Kd.R_reads' HO575.out).2.1)
                    rintro e w83 ⟨rfl,hb⟩
                    refine ⟨_,rfl,?_⟩
                    have n0_:=Aside0.mk (Kd.R_below (by (with_reducible repeat (first | apply Kd.R_alloc | apply Kd.R_drewN | apply Kd.R_drew));exact HO_547002.out) hb)
                    have n1_:=Aside0.mk (Kd.R_below (by (with_reducible repeat (first | apply Kd.R_alloc | apply Kd.R_drewN | apply Kd.R_drew));exact HO563.out) hb)
                    have n2_:=Aside0.mk (Kd.R_below (by (with_reducible repeat (first | apply Kd.R_alloc | apply Kd.R_drewN | apply Kd.R_drew));exact HO575.out) hb)
                    have n3_:=Aside0.mk (blk_below (g:=gb546) (o:=.cells #[.float .f64 t537,.bool t538,.slice Ao24 t539.length co24,.int .i64 t542,.int .i64 t543,.int .i64 t544] 30 (0,0)) (by (with_reducible repeat (first | refine blk_drewN ?_ _ | refine blk_drew ?_ | refine blk_alloc ?_ _));exact BK546.out) hb)
                    have n4_:=Aside0.mk (blk_below (g:=gb568) (o:=.cells #[.float .f64 t559,.bool t560,.slice Ao71 t561.length co71,.int .i64 t564,.int .i64 t565,.int .i64 t566] 30 (0,0)) (by (with_reducible repeat (first | refine blk_drewN ?_ _ | refine blk_drew ?_ | refine blk_alloc ?_ _));exact BK568.out) hb)
                    have n5_:=Aside0.mk (below_step (by repeat (first | (with_reducible first | exact HB.out | apply below_alloc | apply pw_below_drewN | apply below_drew1 | refine below_set ?_ GE546.out | refine below_set ?_ GE568.out) | exact HB.out)) hb)
                    clear HO_547002
                    clear HO563
                    clear HO575
                    clear BK546
                    clear BK568
                    clear HB
                    have HO_547002:=n0_
                    have HO563:=n1_
                    have HO575:=n2_
                    have BK546:=n3_
                    have BK568:=n4_
                    have HB:=n5_
                    clear n0_ n1_ n2_ n3_ n4_ n5_
                    (try clear hb)
                    (try clear hb2)
                    (try clear hk)
                    (try clear hi)
                    refine hK.out _ _ ⟨(blk_cell BK568.out 0).trans rfl,(blk_cell BK568.out 1).trans rfl,(blk_cell BK568.out 2).trans rfl,(blk_cell BK568.out 3).trans rfl,(blk_cell BK568.out 4).trans rfl,(blk_cell BK568.out 5).trans rfl,(blk_cell BK546.out 0).trans rfl,(blk_cell BK546.out 1).trans rfl,(blk_cell BK546.out 2).trans rfl,(blk_cell BK546.out 3).trans rfl,(blk_cell BK546.out 4).trans rfl,(blk_cell BK546.out 5).trans rfl⟩ (fun hHeld => ?_)
                    clear hK K
                    refine norm_ (a':=?_) ?_ ?_
                    rotate_left
                    · show Act.put _ (some 71) _ = _
                      simp only [Act.put,List.setIfInBounds_toArray,List.set_cons_zero,List.set_cons_succ,i64_w,i32_w]
                      rfl
                    refine pure_ (i:=8) (N:=some 72) (v:=?_) (a':=?_) #[true,true,true,true,true,true,true,true,true,false,false,false,false,false,false,false,false] rfl rfl (any_of HT_.out (by kernel_rfl)) (fun _ _ _ h => h) (Or.inl ⟨by rfl,?_⟩) ?_ ?_
                    rotate_left
                    · intro w'
                      go_simp
                      with_reducible rfl
                    rotate_left
                    · simp only [Act.put,List.setIfInBounds_toArray,List.set_cons_zero,List.set_cons_succ,i64_w,i32_w]
                      rfl
                    refine pure_ (i:=9) (N:=some 73) (v:=?_) (a':=?_) #[true,true,true,true,true,true,true,true,true,true,false,false,false,false,false,false,false] rfl rfl (any_of HT_.out (by kernel_rfl)) (fun _ _ _ h => h) (Or.inl ⟨by rfl,?_⟩) ?_ ?_
                    rotate_left
                    · intro w'
                      go_simp
                      with_reducible rfl
                    rotate_left
                    · simp only [Act.put,List.setIfInBounds_toArray,List.set_cons_zero,List.set_cons_succ,i64_w,i32_w]
                      rfl
                    refine take_ (i:=10) (N:=some 74) (v:=?_) (a':=?_) #[true,true,true,true,true,true,true,true,true,true,true,false,false,false,false,false,false] rfl rfl (take_ofW HT_.out HW_.out (by kernel_rfl)) (fun _ _ _ h => h) (Or.inl ⟨by rfl,?_⟩) hHeld ?_ ?_
                    rotate_left
                    · rintro w' ⟨s0,s1,s2,s3,s4,s5,s6,s7,s8,s9,s10,s11⟩
                      go_simp
                      with_reducible rfl
                    rotate_left
                    · simp only [Act.put,List.setIfInBounds_toArray,List.set_cons_zero,List.set_cons_succ,i64_w,i32_w]
                      rfl
                    refine last_ (i:=11) (N:=some 75) #[true,true,true,true,true,true,true,true,true,true,true,true,false,false,false,false,false] rfl rfl (one_of HT_.out (by kernel_rfl)) (by decide) (fun K hK => ?_)
                    refine goes_ Try.func34 (by kernel_rfl) rfl #[.agg #[.float .f64 t559,.bool t560,.slice Ao71 t561.length co71,.int .i64 t564,.int .i64 t565,.int .i64 t566]] (by rfl) rfl rfl (by (try simp only [List.map_toArray,List.map_cons,List.map_nil]);first | done | rfl | (simp only [List.length_drop,List.length_take];rfl)) ?_
                    with_reducible refine (humusref04_May.calls kj19 t559 t560 _ _ t561 t564 t565 t566 true _ ?side1 ?side2 A76.out).mono ?_
                    (case side1 => repeat (first | exact (Kd.R_reads' HO563.out).2.2 | (with_reducible refine Kd.C_alloc ?_ _) | (with_reducible refine Kd.C_drewN ?_ _) | (with_reducible refine Kd.C_drew ?_)))
                    (case side2 => exact (Kd.R_reads' HO563.out).2.1)
                    rintro e w84 ⟨rfl,hb⟩
                    refine ⟨_,rfl,?_⟩
                    have n0_:=Aside0.mk (Kd.R_below (by (with_reducible repeat (first | apply Kd.R_alloc | apply Kd.R_drewN | apply Kd.R_drew));exact HO_547002.out) hb)
                    have n1_:=Aside0.mk (Kd.R_below (by (with_reducible repeat (first | apply Kd.R_alloc | apply Kd.R_drewN | apply Kd.R_drew));exact HO563.out) hb)
                    have n2_:=Aside0.mk (Kd.R_below (by (with_reducible repeat (first | apply Kd.R_alloc | apply Kd.R_drewN | apply Kd.R_drew));exact HO575.out) hb)
                    have n3_:=Aside0.mk (blk_below (g:=gb546) (o:=.cells #[.float .f64 t537,.bool t538,.slice Ao24 t539.length co24,.int .i64 t542,.int .i64 t543,.int .i64 t544] 30 (0,0)) (by (with_reducible repeat (first | refine blk_drewN ?_ _ | refine blk_drew ?_ | refine blk_alloc ?_ _));exact BK546.out) hb)
                    have n4_:=Aside0.mk (blk_below (g:=gb568) (o:=.cells #[.float .f64 t559,.bool t560,.slice Ao71 t561.length co71,.int .i64 t564,.int .i64 t565,.int .i64 t566] 30 (0,0)) (by (with_reducible repeat (first | refine blk_drewN ?_ _ | refine blk_drew ?_ | refine blk_alloc ?_ _));exact BK568.out) hb)
                    have n5_:=Aside0.mk (below_step (by repeat (first | (with_reducible first | exact HB.out | apply below_alloc | apply pw_below_drewN | apply below_drew1 | refine below_set ?_ GE546.out | refine below_set ?_ GE568.out) | exact HB.out)) hb)
                    clear HO_547002
                    clear HO563
                    clear HO575
                    clear BK546
                    clear BK568
                    clear HB
                    have HO_547002:=n0_
                    have HO563:=n1_
                    have HO575:=n2_
                    have BK546:=n3_
                    have BK568:=n4_
                    have HB:=n5_
                    clear n0_ n1_ n2_ n3_ n4_ n5_
                    (try clear hb)
                    (try clear hb2)
                    (try clear hk)
                    (try clear hi)
                    refine hK.out _ _ ?_
                    clear hK K
                    refine norm_ (a':=?_) ?_ ?_
                    rotate_left
                    · show Act.put _ (some 75) _ = _
                      simp only [Act.put,List.setIfInBounds_toArray,List.set_cons_zero,List.set_cons_succ,i64_w,i32_w]
                      rfl
                    refine pure_ (i:=12) (N:=some 76) (v:=?_) (a':=?_) #[true,true,true,true,true,true,true,true,true,true,true,true,true,false,false,false,false] rfl rfl (any_of HT_.out (by kernel_rfl)) (fun _ _ _ h => h) (Or.inl ⟨by rfl,?_⟩) ?_ ?_
                    rotate_left
                    · intro w'
                      go_simp
                      with_reducible rfl
                    rotate_left
                    · simp only [Act.put,List.setIfInBounds_toArray,List.set_cons_zero,List.set_cons_succ,i64_w,i32_w]
                      rfl
                    refine pure_ (i:=13) (N:=some 77) (v:=?_) (a':=?_) #[true,true,true,true,true,true,true,true,true,true,true,true,true,true,false,false,false] rfl rfl (any_of HT_.out (by kernel_rfl)) (fun _ _ _ h => h) (Or.inl ⟨by rfl,?_⟩) ?_ ?_
                    rotate_left
                    · intro w'
                      go_simp
                      with_reducible rfl
                    rotate_left
                    · simp only [Act.put,List.setIfInBounds_toArray,List.set_cons_zero,List.set_cons_succ,i64_w,i32_w]
                      rfl
                    refine last_ (i:=14) (N:=some 78) #[true,true,true,true,true,true,true,true,true,true,true,true,true,true,true,false,false] rfl rfl (one_of HT_.out (by kernel_rfl)) (by decide) (fun K hK => ?_)
                    refine goes_ Try.func31 (by kernel_rfl) rfl #[] (by rfl) rfl rfl (by (try simp only [List.map_toArray,List.map_cons,List.map_nil]);first | done | rfl | (simp only [List.length_drop,List.length_take];rfl)) ?_
                    with_reducible refine (humuslaw04_awake.calls kj19  t581 _ A78.out).mono ?_
                    rintro e w85 ⟨rfl,hb⟩
                    refine ⟨_,rfl,?_⟩
                    have n0_:=Aside0.mk (Kd.R_below (by (with_reducible repeat (first | apply Kd.R_alloc | apply Kd.R_drewN | apply Kd.R_drew));exact HO_547002.out) hb)
                    have n1_:=Aside0.mk (Kd.R_below (by (with_reducible repeat (first | apply Kd.R_alloc | apply Kd.R_drewN | apply Kd.R_drew));exact HO563.out) hb)
                    have n2_:=Aside0.mk (Kd.R_below (by (with_reducible repeat (first | apply Kd.R_alloc | apply Kd.R_drewN | apply Kd.R_drew));exact HO575.out) hb)
                    have n3_:=Aside0.mk (blk_below (g:=gb546) (o:=.cells #[.float .f64 t537,.bool t538,.slice Ao24 t539.length co24,.int .i64 t542,.int .i64 t543,.int .i64 t544] 30 (0,0)) (by (with_reducible repeat (first | refine blk_drewN ?_ _ | refine blk_drew ?_ | refine blk_alloc ?_ _));exact BK546.out) hb)
                    have n4_:=Aside0.mk (blk_below (g:=gb568) (o:=.cells #[.float .f64 t559,.bool t560,.slice Ao71 t561.length co71,.int .i64 t564,.int .i64 t565,.int .i64 t566] 30 (0,0)) (by (with_reducible repeat (first | refine blk_drewN ?_ _ | refine blk_drew ?_ | refine blk_alloc ?_ _));exact BK568.out) hb)
                    have n5_:=Aside0.mk (below_step (by repeat (first | (with_reducible first | exact HB.out | apply below_alloc | apply pw_below_drewN | apply below_drew1 | refine below_set ?_ GE546.out | refine below_set ?_ GE568.out) | exact HB.out)) hb)
                    clear HO_547002
                    clear HO563
                    clear HO575
                    clear BK546
                    clear BK568
                    clear HB
                    have HO_547002:=n0_
                    have HO563:=n1_
                    have HO575:=n2_
                    have BK546:=n3_
                    have BK568:=n4_
                    have HB:=n5_
                    clear n0_ n1_ n2_ n3_ n4_ n5_
                    (try clear hb)
                    (try clear hb2)
                    (try clear hk)
                    (try clear hi)
                    refine hK.out _ _ ?_
                    clear hK K
                    refine norm_ (a':=?_) ?_ ?_
                    rotate_left
                    · show Act.put _ (some 78) _ = _
                      simp only [Act.put,List.setIfInBounds_toArray,List.set_cons_zero,List.set_cons_succ,i64_w,i32_w]
                      rfl
                    refine pure_ (i:=15) (N:=some 79) (v:=?_) (a':=?_) #[true,true,true,true,true,true,true,true,true,true,true,true,true,true,true,true,false] rfl rfl (any_of HT_.out (by kernel_rfl)) (fun _ _ _ h => h) (Or.inl ⟨by rfl,?_⟩) ?_ ?_
                    rotate_left
                    · intro w'
                      go_simp
                      with_reducible rfl
                    rotate_left
                    · simp only [Act.put,List.setIfInBounds_toArray,List.set_cons_zero,List.set_cons_succ,i64_w,i32_w]
                      rfl
                    refine pure_ (i:=16) (N:=some 6) (v:=?_) (a':=?_) #[true,true,true,true,true,true,true,true,true,true,true,true,true,true,true,true,true] rfl rfl (any_of HT_.out (by kernel_rfl)) (fun _ _ _ h => h) (Or.inl ⟨by rfl,?_⟩) ?_ ?_
                    rotate_left
                    · intro w'
                      go_simp
                      with_reducible rfl
                    rotate_left
                    · simp only [Act.put,List.setIfInBounds_toArray,List.set_cons_zero,List.set_cons_succ,i64_w,i32_w]
                      rfl
                    refine done_ (done_of HT_.out (by kernel_rfl)) ?_
                    try go_wp2
                    go_meet
                    case rel => exact ⟨_,(t581),(by first | rfl | (simp;done) | (simp [*];done)),H',⟨by have:=HJ19.out;first | omega | exact Nat.le_refl _⟩,⟨by (with_reducible repeat (first | apply Kd.R_alloc | apply Kd.R_drewN | apply Kd.R_drew));exact Kd.R_mono HO_547002.out (fun _ hk => hk.1)⟩,⟨by (with_reducible repeat (first | apply Kd.R_alloc | apply Kd.R_drewN | apply Kd.R_drew));exact Kd.R_mono HO563.out (fun _ hk => hk.1)⟩,⟨by (with_reducible repeat (first | refine blk_drewN ?_ _ | refine blk_drew ?_ | refine blk_alloc ?_ _));exact BK546.out⟩,⟨by (with_reducible repeat (first | refine blk_drewN ?_ _ | refine blk_drew ?_ | refine blk_alloc ?_ _));exact BK568.out⟩,⟨by repeat (first | (with_reducible first | exact HB.out | apply below_alloc | apply pw_below_drewN | apply below_drew1 | refine below_set ?_ GE546.out | refine below_set ?_ GE568.out) | exact HB.out)⟩⟩
                  · replace c77:=Bool.eq_false_iff.mpr c77
                    subst c77
                    have H1 : (humuslaw04_RowMakes.j4 kj19 false) = some r:=by rw [if_neg (show ¬ (false = true) by decide)] at H;exact H
                    clear H
                    have H:=H1
                    clear H1
                    have H':=Aside0.mk H
                    clear H
                    try go_wp2
                    have n0_ : Aside0 (Kd.R Kd.f64 25 ((((((w68.setCell ⟨gb568,0,none⟩ (.float .f64 t559)).setCell ⟨gb568,1,none⟩ (.bool t560)).setCell ⟨gb568,2,none⟩ (.slice Ao71 t561.length co71)).setCell ⟨gb568,3,none⟩ (.int .i64 t564)).setCell ⟨gb568,4,none⟩ (.int .i64 t565)).setCell ⟨gb568,5,none⟩ (.int .i64 t566)) w.heap.size (fun k_ => some k_ ≠ (.slice Ao71 t561.length co71 : Value).ownBlock) (.slice Ao24 t539.length co24) t539):=⟨by (with_reducible repeat (first | apply Kd.R_alloc | apply Kd.R_drewN | apply Kd.R_drew));exact Kd.R_mono (Kd.R_far (p:=⟨gb568,5,none⟩) (Kd.R_far (p:=⟨gb568,4,none⟩) (Kd.R_far (p:=⟨gb568,3,none⟩) (Kd.R_far (p:=⟨gb568,2,none⟩) (Kd.R_far (p:=⟨gb568,1,none⟩) (Kd.R_far (p:=⟨gb568,0,none⟩) (Kd.R_types HO_547002.out BK568.out (by decide)) (fun _ hk => hk.2) (.float .f64 t559)) (fun _ hk => hk.2) (.bool t560)) (fun _ hk => hk.2) (.slice Ao71 t561.length co71)) (fun _ hk => hk.2) (.int .i64 t564)) (fun _ hk => hk.2) (.int .i64 t565)) (fun _ hk => hk.2) (.int .i64 t566)) (fun _ hk => hk.1.2)⟩
                    have n1_ : Aside0 (Kd.R Kd.f64 25 ((((((w68.setCell ⟨gb568,0,none⟩ (.float .f64 t559)).setCell ⟨gb568,1,none⟩ (.bool t560)).setCell ⟨gb568,2,none⟩ (.slice Ao71 t561.length co71)).setCell ⟨gb568,3,none⟩ (.int .i64 t564)).setCell ⟨gb568,4,none⟩ (.int .i64 t565)).setCell ⟨gb568,5,none⟩ (.int .i64 t566)) w.heap.size (fun k_ => some k_ ≠ (.slice Ao24 t539.length co24 : Value).ownBlock) (.slice Ao71 t561.length co71) t561):=⟨by (with_reducible repeat (first | apply Kd.R_alloc | apply Kd.R_drewN | apply Kd.R_drew));exact Kd.R_mono (Kd.R_far (p:=⟨gb568,5,none⟩) (Kd.R_far (p:=⟨gb568,4,none⟩) (Kd.R_far (p:=⟨gb568,3,none⟩) (Kd.R_far (p:=⟨gb568,2,none⟩) (Kd.R_far (p:=⟨gb568,1,none⟩) (Kd.R_far (p:=⟨gb568,0,none⟩) (Kd.R_types HO563.out BK568.out (by decide)) (fun _ hk => hk.2) (.float .f64 t559)) (fun _ hk => hk.2) (.bool t560)) (fun _ hk => hk.2) (.slice Ao71 t561.length co71)) (fun _ hk => hk.2) (.int .i64 t564)) (fun _ hk => hk.2) (.int .i64 t565)) (fun _ hk => hk.2) (.int .i64 t566)) (fun _ hk => hk.1.2)⟩
                    have n2_ : Aside0 (((((((w68.setCell ⟨gb568,0,none⟩ (.float .f64 t559)).setCell ⟨gb568,1,none⟩ (.bool t560)).setCell ⟨gb568,2,none⟩ (.slice Ao71 t561.length co71)).setCell ⟨gb568,3,none⟩ (.int .i64 t564)).setCell ⟨gb568,4,none⟩ (.int .i64 t565)).setCell ⟨gb568,5,none⟩ (.int .i64 t566)).heap[gb546]? = some (.cells #[.float .f64 t537,.bool t538,.slice Ao24 t539.length co24,.int .i64 t542,.int .i64 t543,.int .i64 t544] 30 (0,0))):=⟨by (with_reducible repeat (first | refine blk_drewN ?_ _ | refine blk_drew ?_ | refine blk_alloc ?_ _));refine blk_far ?_ NB546_568.out _;(with_reducible repeat (first | refine blk_drewN ?_ _ | refine blk_drew ?_ | refine blk_alloc ?_ _));refine blk_far ?_ NB546_568.out _;(with_reducible repeat (first | refine blk_drewN ?_ _ | refine blk_drew ?_ | refine blk_alloc ?_ _));refine blk_far ?_ NB546_568.out _;(with_reducible repeat (first | refine blk_drewN ?_ _ | refine blk_drew ?_ | refine blk_alloc ?_ _));refine blk_far ?_ NB546_568.out _;(with_reducible repeat (first | refine blk_drewN ?_ _ | refine blk_drew ?_ | refine blk_alloc ?_ _));refine blk_far ?_ NB546_568.out _;(with_reducible repeat (first | refine blk_drewN ?_ _ | refine blk_drew ?_ | refine blk_alloc ?_ _));refine blk_far ?_ NB546_568.out _;(with_reducible repeat (first | refine blk_drewN ?_ _ | refine blk_drew ?_ | refine blk_alloc ?_ _));exact BK546.out⟩
                    have n3_ : Aside0 (((((((w68.setCell ⟨gb568,0,none⟩ (.float .f64 t559)).setCell ⟨gb568,1,none⟩ (.bool t560)).setCell ⟨gb568,2,none⟩ (.slice Ao71 t561.length co71)).setCell ⟨gb568,3,none⟩ (.int .i64 t564)).setCell ⟨gb568,4,none⟩ (.int .i64 t565)).setCell ⟨gb568,5,none⟩ (.int .i64 t566)).heap[gb568]? = some (.cells #[.float .f64 t559,.bool t560,.slice Ao71 t561.length co71,.int .i64 t564,.int .i64 t565,.int .i64 t566] 30 (0,0))):=⟨by (with_reducible repeat (first | refine blk_drewN ?_ _ | refine blk_drew ?_ | refine blk_alloc ?_ _));refine blk_put (cs:=#[.float .f64 t559,.bool t560,.slice Ao71 t561.length co71,.int .i64 t564,.int .i64 t565,.int .i64 0]) ?_ 5 _ rfl;(with_reducible repeat (first | refine blk_drewN ?_ _ | refine blk_drew ?_ | refine blk_alloc ?_ _));refine blk_put (cs:=#[.float .f64 t559,.bool t560,.slice Ao71 t561.length co71,.int .i64 t564,.int .i64 0,.int .i64 0]) ?_ 4 _ rfl;(with_reducible repeat (first | refine blk_drewN ?_ _ | refine blk_drew ?_ | refine blk_alloc ?_ _));refine blk_put (cs:=#[.float .f64 t559,.bool t560,.slice Ao71 t561.length co71,.int .i64 0,.int .i64 0,.int .i64 0]) ?_ 3 _ rfl;(with_reducible repeat (first | refine blk_drewN ?_ _ | refine blk_drew ?_ | refine blk_alloc ?_ _));refine blk_put (cs:=#[.float .f64 t559,.bool t560,.slice none 0 0,.int .i64 0,.int .i64 0,.int .i64 0]) ?_ 2 _ rfl;(with_reducible repeat (first | refine blk_drewN ?_ _ | refine blk_drew ?_ | refine blk_alloc ?_ _));refine blk_put (cs:=#[.float .f64 t559,.bool false,.slice none 0 0,.int .i64 0,.int .i64 0,.int .i64 0]) ?_ 1 _ rfl;(with_reducible repeat (first | refine blk_drewN ?_ _ | refine blk_drew ?_ | refine blk_alloc ?_ _));refine blk_put (cs:=#[.float .f64 0,.bool false,.slice none 0 0,.int .i64 0,.int .i64 0,.int .i64 0]) ?_ 0 _ rfl;(with_reducible repeat (first | refine blk_drewN ?_ _ | refine blk_drew ?_ | refine blk_alloc ?_ _));exact BK568.out⟩
                    have n4_ : Aside0 (Below w.heap.size w ((((((w68.setCell ⟨gb568,0,none⟩ (.float .f64 t559)).setCell ⟨gb568,1,none⟩ (.bool t560)).setCell ⟨gb568,2,none⟩ (.slice Ao71 t561.length co71)).setCell ⟨gb568,3,none⟩ (.int .i64 t564)).setCell ⟨gb568,4,none⟩ (.int .i64 t565)).setCell ⟨gb568,5,none⟩ (.int .i64 t566))):=⟨by repeat (first | (with_reducible first | exact HB.out | apply below_alloc | apply pw_below_drewN | apply below_drew1 | refine below_set ?_ GE546.out | refine below_set ?_ GE568.out) | exact HB.out)⟩
                    (try clear HO_547002)
                    (try clear HO563)
                    (try clear BK546)
                    (try clear BK568)
                    (try clear HB)
                    generalize ((((((w68.setCell ⟨gb568,0,none⟩ (.float .f64 t559)).setCell ⟨gb568,1,none⟩ (.bool t560)).setCell ⟨gb568,2,none⟩ (.slice Ao71 t561.length co71)).setCell ⟨gb568,3,none⟩ (.int .i64 t564)).setCell ⟨gb568,4,none⟩ (.int .i64 t565)).setCell ⟨gb568,5,none⟩ (.int .i64 t566)) = w86 at n0_ n1_ n2_ n3_ n4_ ⊢
                    have HO_547002:=n0_
                    have HO563:=n1_
                    have BK546:=n2_
                    have BK568:=n3_
                    have HB:=n4_
                    clear n0_ n1_ n2_ n3_ n4_
                    have n0_:=Aside0.mk (Kd.R_drew HO_547002.out)
                    have n1_:=Aside0.mk (Kd.R_drew HO563.out)
                    have n2_:=Aside0.mk (blk_drew BK546.out)
                    have n3_:=Aside0.mk (blk_drew BK568.out)
                    have n4_:=Aside0.mk (below_drew1 HB.out)
                    clear HO_547002
                    clear HO563
                    clear BK546
                    clear BK568
                    clear HB
                    have HO_547002:=n0_
                    have HO563:=n1_
                    have BK546:=n2_
                    have BK568:=n3_
                    have HB:=n4_
                    clear n0_ n1_ n2_ n3_ n4_
                    refine start_ (n:=17) (S:=fun w' => w'.cell? ⟨gb568,0,none⟩ = some (.float .f64 t559) ∧ w'.cell? ⟨gb568,1,none⟩ = some (.bool t560) ∧ w'.cell? ⟨gb568,2,none⟩ = some (.slice Ao71 t561.length co71) ∧ w'.cell? ⟨gb568,3,none⟩ = some (.int .i64 t564) ∧ w'.cell? ⟨gb568,4,none⟩ = some (.int .i64 t565) ∧ w'.cell? ⟨gb568,5,none⟩ = some (.int .i64 t566) ∧ w'.cell? ⟨gb546,0,none⟩ = some (.float .f64 t537) ∧ w'.cell? ⟨gb546,1,none⟩ = some (.bool t538) ∧ w'.cell? ⟨gb546,2,none⟩ = some (.slice Ao24 t539.length co24) ∧ w'.cell? ⟨gb546,3,none⟩ = some (.int .i64 t542) ∧ w'.cell? ⟨gb546,4,none⟩ = some (.int .i64 t543) ∧ w'.cell? ⟨gb546,5,none⟩ = some (.int .i64 t544)) (ds:=[11]) #[false,false,false,false,false,false,false,false,false,false,false,false,false,false,false,false,false] (by kernel_rfl) rfl rfl ⟨(blk_cell BK568.out 0).trans rfl,(blk_cell BK568.out 1).trans rfl,(blk_cell BK568.out 2).trans rfl,(blk_cell BK568.out 3).trans rfl,(blk_cell BK568.out 4).trans rfl,(blk_cell BK568.out 5).trans rfl,(blk_cell BK546.out 0).trans rfl,(blk_cell BK546.out 1).trans rfl,(blk_cell BK546.out 2).trans rfl,(blk_cell BK546.out 3).trans rfl,(blk_cell BK546.out 4).trans rfl,(blk_cell BK546.out 5).trans rfl⟩ (fun hHeld => ?_);refine with_tabW humuslaw04_RowMakes.tab9 humuslaw04_RowMakes.bits9 (fun HT_ HW_ => ?_)
                    generalize w86.drew = w87 at HO_547002 HO563 BK546 BK568 HB hHeld ⊢
                    refine pure_ (i:=0) (N:=some 64) (v:=?_) (a':=?_) #[true,false,false,false,false,false,false,false,false,false,false,false,false,false,false,false,false] rfl rfl (any_of HT_.out (by kernel_rfl)) (fun _ _ _ h => h) (Or.inl ⟨by rfl,?_⟩) ?_ ?_
                    rotate_left
                    · intro w'
                      go_simp
                      with_reducible rfl
                    rotate_left
                    · simp only [Act.put,List.setIfInBounds_toArray,List.set_cons_zero,List.set_cons_succ,i64_w,i32_w]
                      rfl
                    refine pure_ (i:=1) (N:=some 65) (v:=?_) (a':=?_) #[true,true,false,false,false,false,false,false,false,false,false,false,false,false,false,false,false] rfl rfl (any_of HT_.out (by kernel_rfl)) (fun _ _ _ h => h) (Or.inl ⟨by rfl,?_⟩) ?_ ?_
                    rotate_left
                    · intro w'
                      go_simp
                      with_reducible rfl
                    rotate_left
                    · simp only [Act.put,List.setIfInBounds_toArray,List.set_cons_zero,List.set_cons_succ,i64_w,i32_w]
                      rfl
                    refine pure_ (i:=2) (N:=some 66) (v:=?_) (a':=?_) #[true,true,true,false,false,false,false,false,false,false,false,false,false,false,false,false,false] rfl rfl (any_of HT_.out (by kernel_rfl)) (fun _ _ _ h => h) (Or.inl ⟨by rfl,?_⟩) ?_ ?_
                    rotate_left
                    · intro w'
                      go_simp
                      with_reducible rfl
                    rotate_left
                    · simp only [Act.put,List.setIfInBounds_toArray,List.set_cons_zero,List.set_cons_succ,i64_w,i32_w]
                      rfl
                    refine pure_ (i:=5) (N:=some 69) (v:=?_) (a':=?_) #[true,true,true,false,false,true,false,false,false,false,false,false,false,false,false,false,false] rfl rfl (any_of HT_.out (by kernel_rfl)) (fun _ _ _ h => h) (Or.inl ⟨by rfl,?_⟩) ?_ ?_
                    rotate_left
                    · intro w'
                      go_simp
                      with_reducible rfl
                    rotate_left
                    · simp only [Act.put,List.setIfInBounds_toArray,List.set_cons_zero,List.set_cons_succ,i64_w,i32_w]
                      rfl
                    refine take_ (i:=3) (N:=some 67) (v:=?_) (a':=?_) #[true,true,true,true,false,true,false,false,false,false,false,false,false,false,false,false,false] rfl rfl (take_ofW HT_.out HW_.out (by kernel_rfl)) (fun _ _ _ h => h) (Or.inl ⟨by rfl,?_⟩) hHeld ?_ ?_
                    rotate_left
                    · rintro w' ⟨s0,s1,s2,s3,s4,s5,s6,s7,s8,s9,s10,s11⟩
                      go_simp
                      with_reducible rfl
                    rotate_left
                    · simp only [Act.put,List.setIfInBounds_toArray,List.set_cons_zero,List.set_cons_succ,i64_w,i32_w]
                      rfl
                    refine take_ (i:=4) (N:=some 68) (v:=?_) (a':=?_) #[true,true,true,true,true,true,false,false,false,false,false,false,false,false,false,false,false] rfl rfl (take_ofW HT_.out HW_.out (by kernel_rfl)) (fun _ _ _ h => h) (Or.inl ⟨by rfl,?_⟩) hHeld ?_ ?_
                    rotate_left
                    · rintro w' ⟨s0,s1,s2,s3,s4,s5,s6,s7,s8,s9,s10,s11⟩
                      go_simp
                      with_reducible rfl
                    rotate_left
                    · simp only [Act.put,List.setIfInBounds_toArray,List.set_cons_zero,List.set_cons_succ,i64_w,i32_w]
                      rfl
                    refine one_ (i:=6) (N:=some 70) #[true,true,true,true,true,true,true,false,false,false,false,false,false,false,false,false,false] rfl rfl (one_of HT_.out (by kernel_rfl)) (by decide) (fun K hK => ?_)
                    refine goes_ Try.func42 (by kernel_rfl) rfl #[.agg #[.float .f64 t537,.bool t538,.slice Ao24 t539.length co24,.int .i64 t542,.int .i64 t543,.int .i64 t544],.float .f64 a2] (by rfl) rfl rfl (by (try simp only [List.map_toArray,List.map_cons,List.map_nil]);first | done | rfl | (simp only [List.length_drop,List.length_take];rfl)) ?_
                    with_reducible refine (humusref04_Plus.calls t537 t538 _ _ t539 t542 t543 t544 a2 t571 t572 t573 t576 t577 t578 _ ?side1 ?side2 A73.out).mono ?_
                    (case side1 => repeat (first | exact (Kd.R_reads' HO_547002.out).2.2 | (with_reducible refine Kd.C_alloc ?_ _) | (with_reducible refine Kd.C_drewN ?_ _) | (with_reducible refine Kd.C_drew ?_)))
                    (case side2 => exact (Kd.R_reads' HO_547002.out).2.1)
                    rintro e w88 ⟨v574,rfl,ho0,hb⟩
                    refine ⟨_,rfl,?_⟩
                    have n0_:=Aside0.mk (Kd.R_elder' (by (with_reducible repeat (first | apply Kd.R_alloc | apply Kd.R_drewN | apply Kd.R_drew));exact HO_547002.out) (Kd.R_base ho0) hb)
                    have n1_:=Aside0.mk (Kd.R_elder' (by (with_reducible repeat (first | apply Kd.R_alloc | apply Kd.R_drewN | apply Kd.R_drew));exact HO563.out) (Kd.R_base ho0) hb)
                    have n2_:=Aside0.mk (Kd.R_lower (Kd.R_new' (Kd.R_new' ho0 (Kd.R_lt (by (with_reducible repeat (first | apply Kd.R_alloc | apply Kd.R_drewN | apply Kd.R_drew));exact HO_547002.out))) (Kd.R_lt (by (with_reducible repeat (first | apply Kd.R_alloc | apply Kd.R_drewN | apply Kd.R_drew));exact HO563.out))) (below_size (by repeat (first | (with_reducible first | exact HB.out | apply below_alloc | apply pw_below_drewN | apply below_drew1 | refine below_set ?_ GE546.out | refine below_set ?_ GE568.out) | exact HB.out))))
                    have n3_:=Aside0.mk (blk_below (g:=gb546) (o:=.cells #[.float .f64 t537,.bool t538,.slice Ao24 t539.length co24,.int .i64 t542,.int .i64 t543,.int .i64 t544] 30 (0,0)) (by (with_reducible repeat (first | refine blk_drewN ?_ _ | refine blk_drew ?_ | refine blk_alloc ?_ _));exact BK546.out) hb)
                    have n4_:=Aside0.mk (blk_below (g:=gb568) (o:=.cells #[.float .f64 t559,.bool t560,.slice Ao71 t561.length co71,.int .i64 t564,.int .i64 t565,.int .i64 t566] 30 (0,0)) (by (with_reducible repeat (first | refine blk_drewN ?_ _ | refine blk_drew ?_ | refine blk_alloc ?_ _));exact BK568.out) hb)
                    have n5_:=Aside0.mk (below_step (by repeat (first | (with_reducible first | exact HB.out | apply below_alloc | apply pw_below_drewN | apply below_drew1 | refine below_set ?_ GE546.out | refine below_set ?_ GE568.out) | exact HB.out)) hb)
                    clear HO_547002
                    clear HO563
                    clear BK546
                    clear BK568
                    clear HB
                    have HO_547002:=n0_
                    have HO563:=n1_
                    have HO575:=n2_
                    have BK546:=n3_
                    have BK568:=n4_
                    have HB:=n5_
                    clear n0_ n1_ n2_ n3_ n4_ n5_
                    (try clear hb)
                    (try clear hb2)
                    (try clear hk)
                    (try clear hi)
                    (try clear ho0)
                    obtain ⟨Ao89,co89,eo89⟩:=Kd.R_slice HO575.out
                    (first | subst eo89 | (injection eo89 with f1_ f2_ f3_;have f4_:=f1_.symm;have f5_:=f3_.symm;clear f1_ f2_ f3_;subst f4_;subst f5_))
                    refine hK.out _ _ ⟨(blk_cell BK568.out 0).trans rfl,(blk_cell BK568.out 1).trans rfl,(blk_cell BK568.out 2).trans rfl,(blk_cell BK568.out 3).trans rfl,(blk_cell BK568.out 4).trans rfl,(blk_cell BK568.out 5).trans rfl,(blk_cell BK546.out 0).trans rfl,(blk_cell BK546.out 1).trans rfl,(blk_cell BK546.out 2).trans rfl,(blk_cell BK546.out 3).trans rfl,(blk_cell BK546.out 4).trans rfl,(blk_cell BK546.out 5).trans rfl⟩ (fun hHeld => ?_)
                    clear hK K
                    refine norm_ (a':=?_) ?_ ?_
                    rotate_left
                    · show Act.put _ (some 70) _ = _
                      simp only [Act.put,List.setIfInBounds_toArray,List.set_cons_zero,List.set_cons_succ,i64_w,i32_w]
                      rfl
                    refine one_ (i:=7) (N:=some 71) #[true,true,true,true,true,true,true,true,false,false,false,false,false,false,false,false,false] rfl rfl (one_of HT_.out (by kernel_rfl)) (by decide) (fun K hK => ?_)
                    refine goes_ Try.func37 (by kernel_rfl) rfl #[.agg #[.float .f64 t559,.bool t560,.slice Ao71 t561.length co71,.int .i64 t564,.int .i64 t565,.int .i64 t566],.agg #[.float .f64 t571,.bool t572,.slice Ao89 t573.length co89,.int .i64 t576,.int .i64 t577,.int .i64 t578]] (by rfl) rfl rfl (by (try simp only [List.map_toArray,List.map_cons,List.map_nil]);first | done | rfl | (simp only [List.length_drop,List.length_take];rfl)) ?_
                    with_reducible refine (humusref04_Same.calls kj19 t559 t560 _ _ t561 t564 t565 t566 t571 t572 _ _ t573 t576 t577 t578 true _ ?side1 ?side2 ?side3 ?side4 A74.out).mono ?_
                    (case side1 => repeat (first | exact (Kd.R_reads' HO563.out).2.2 | (with_reducible refine Kd.C_alloc ?_ _) | (with_reducible refine Kd.C_drewN ?_ _) | (with_reducible refine Kd.C_drew ?_)))
                    (case side2 => exact (Kd.R_reads' HO563.out).2.1)
                    (case side3 => repeat (first | exact (Kd.R_reads' HO575.out).2.2 | (with_reducible refine Kd.C_alloc ?_ _) | (with_reducible refine Kd.C_drewN ?_ _) | (with_reducible refine Kd.C_drew ?_)))
                    (case side4 => exact (Kd.R_reads' HO575.out).2.1)
                    rintro e w90 ⟨rfl,hb⟩
                    refine ⟨_,rfl,?_⟩
                    have n0_:=Aside0.mk (Kd.R_below (by (with_reducible repeat (first | apply Kd.R_alloc | apply Kd.R_drewN | apply Kd.R_drew));exact HO_547002.out) hb)
                    have n1_:=Aside0.mk (Kd.R_below (by (with_reducible repeat (first | apply Kd.R_alloc | apply Kd.R_drewN | apply Kd.R_drew));exact HO563.out) hb)
                    have n2_:=Aside0.mk (Kd.R_below (by (with_reducible repeat (first | apply Kd.R_alloc | apply Kd.R_drewN | apply Kd.R_drew));exact HO575.out) hb)
                    have n3_:=Aside0.mk (blk_below (g:=gb546) (o:=.cells #[.float .f64 t537,.bool t538,.slice Ao24 t539.length co24,.int .i64 t542,.int .i64 t543,.int .i64 t544] 30 (0,0)) (by (with_reducible repeat (first | refine blk_drewN ?_ _ | refine blk_drew ?_ | refine blk_alloc ?_ _));exact BK546.out) hb)
                    have n4_:=Aside0.mk (blk_below (g:=gb568) (o:=.cells #[.float .f64 t559,.bool t560,.slice Ao71 t561.length co71,.int .i64 t564,.int .i64 t565,.int .i64 t566] 30 (0,0)) (by (with_reducible repeat (first | refine blk_drewN ?_ _ | refine blk_drew ?_ | refine blk_alloc ?_ _));exact BK568.out) hb)
                    have n5_:=Aside0.mk (below_step (by repeat (first | (with_reducible first | exact HB.out | apply below_alloc | apply pw_below_drewN | apply below_drew1 | refine below_set ?_ GE546.out | refine below_set ?_ GE568.out) | exact HB.out)) hb)
                    clear HO_547002
                    clear HO563
                    clear HO575
                    clear BK546
                    clear BK568
                    clear HB
                    have HO_547002:=n0_
                    have HO563:=n1_
                    have HO575:=n2_
                    have BK546:=n3_
                    have BK568:=n4_
                    have HB:=n5_
                    clear n0_ n1_ n2_ n3_ n4_ n5_
                    (try clear hb)
                    (try clear hb2)
                    (try clear hk)
                    (try clear hi)
                    refine hK.out _ _ ⟨(blk_cell BK568.out 0).trans rfl,(blk_cell BK568.out 1).trans rfl,(blk_cell BK568.out 2).trans rfl,(blk_cell BK568.out 3).trans rfl,(blk_cell BK568.out 4).trans rfl,(blk_cell BK568.out 5).trans rfl,(blk_cell BK546.out 0).trans rfl,(blk_cell BK546.out 1).trans rfl,(blk_cell BK546.out 2).trans rfl,(blk_cell BK546.out 3).trans rfl,(blk_cell BK546.out 4).trans rfl,(blk_cell BK546.out 5).trans rfl⟩ (fun hHeld => ?_)
                    clear hK K
                    refine norm_ (a':=?_) ?_ ?_
                    rotate_left
                    · show Act.put _ (some 71) _ = _
                      simp only [Act.put,List.setIfInBounds_toArray,List.set_cons_zero,List.set_cons_succ,i64_w,i32_w]
                      rfl
                    refine pure_ (i:=8) (N:=some 72) (v:=?_) (a':=?_) #[true,true,true,true,true,true,true,true,true,false,false,false,false,false,false,false,false] rfl rfl (any_of HT_.out (by kernel_rfl)) (fun _ _ _ h => h) (Or.inl ⟨by rfl,?_⟩) ?_ ?_
                    rotate_left
                    · intro w'
                      go_simp
                      with_reducible rfl
                    rotate_left
                    · simp only [Act.put,List.setIfInBounds_toArray,List.set_cons_zero,List.set_cons_succ,i64_w,i32_w]
                      rfl
                    refine pure_ (i:=9) (N:=some 73) (v:=?_) (a':=?_) #[true,true,true,true,true,true,true,true,true,true,false,false,false,false,false,false,false] rfl rfl (any_of HT_.out (by kernel_rfl)) (fun _ _ _ h => h) (Or.inl ⟨by rfl,?_⟩) ?_ ?_
                    rotate_left
                    · intro w'
                      go_simp
                      with_reducible rfl
                    rotate_left
                    · simp only [Act.put,List.setIfInBounds_toArray,List.set_cons_zero,List.set_cons_succ,i64_w,i32_w]
                      rfl
                    refine take_ (i:=10) (N:=some 74) (v:=?_) (a':=?_) #[true,true,true,true,true,true,true,true,true,true,true,false,false,false,false,false,false] rfl rfl (take_ofW HT_.out HW_.out (by kernel_rfl)) (fun _ _ _ h => h) (Or.inl ⟨by rfl,?_⟩) hHeld ?_ ?_
                    rotate_left
                    · rintro w' ⟨s0,s1,s2,s3,s4,s5,s6,s7,s8,s9,s10,s11⟩
                      go_simp
                      with_reducible rfl
                    rotate_left
                    · simp only [Act.put,List.setIfInBounds_toArray,List.set_cons_zero,List.set_cons_succ,i64_w,i32_w]
                      rfl
                    refine last_ (i:=11) (N:=some 75) #[true,true,true,true,true,true,true,true,true,true,true,true,false,false,false,false,false] rfl rfl (one_of HT_.out (by kernel_rfl)) (by decide) (fun K hK => ?_)
                    refine goes_ Try.func34 (by kernel_rfl) rfl #[.agg #[.float .f64 t559,.bool t560,.slice Ao71 t561.length co71,.int .i64 t564,.int .i64 t565,.int .i64 t566]] (by rfl) rfl rfl (by (try simp only [List.map_toArray,List.map_cons,List.map_nil]);first | done | rfl | (simp only [List.length_drop,List.length_take];rfl)) ?_
                    with_reducible refine (humusref04_May.calls kj19 t559 t560 _ _ t561 t564 t565 t566 false _ ?side1 ?side2 A76.out).mono ?_
                    (case side1 => repeat (first | exact (Kd.R_reads' HO563.out).2.2 | (with_reducible refine Kd.C_alloc ?_ _) | (with_reducible refine Kd.C_drewN ?_ _) | (with_reducible refine Kd.C_drew ?_)))
                    (case side2 => exact (Kd.R_reads' HO563.out).2.1)
                    rintro e w91 ⟨rfl,hb⟩
                    refine ⟨_,rfl,?_⟩
                    have n0_:=Aside0.mk (Kd.R_below (by (with_reducible repeat (first | apply Kd.R_alloc | apply Kd.R_drewN | apply Kd.R_drew));exact HO_547002.out) hb)
                    have n1_:=Aside0.mk (Kd.R_below (by (with_reducible repeat (first | apply Kd.R_alloc | apply Kd.R_drewN | apply Kd.R_drew));exact HO563.out) hb)
                    have n2_:=Aside0.mk (Kd.R_below (by (with_reducible repeat (first | apply Kd.R_alloc | apply Kd.R_drewN | apply Kd.R_drew));exact HO575.out) hb)
                    have n3_:=Aside0.mk (blk_below (g:=gb546) (o:=.cells #[.float .f64 t537,.bool t538,.slice Ao24 t539.length co24,.int .i64 t542,.int .i64 t543,.int .i64 t544] 30 (0,0)) (by (with_reducible repeat (first | refine blk_drewN ?_ _ | refine blk_drew ?_ | refine blk_alloc ?_ _));exact BK546.out) hb)
                    have n4_:=Aside0.mk (blk_below (g:=gb568) (o:=.cells #[.float .f64 t559,.bool t560,.slice Ao71 t561.length co71,.int .i64 t564,.int .i64 t565,.int .i64 t566] 30 (0,0)) (by (with_reducible repeat (first | refine blk_drewN ?_ _ | refine blk_drew ?_ | refine blk_alloc ?_ _));exact BK568.out) hb)
                    have n5_:=Aside0.mk (below_step (by repeat (first | (with_reducible first | exact HB.out | apply below_alloc | apply pw_below_drewN | apply below_drew1 | refine below_set ?_ GE546.out | refine below_set ?_ GE568.out) | exact HB.out)) hb)
                    clear HO_547002
                    clear HO563
                    clear HO575
                    clear BK546
                    clear BK568
                    clear HB
                    have HO_547002:=n0_
                    have HO563:=n1_
                    have HO575:=n2_
                    have BK546:=n3_
                    have BK568:=n4_
                    have HB:=n5_
                    clear n0_ n1_ n2_ n3_ n4_ n5_
                    (try clear hb)
                    (try clear hb2)
                    (try clear hk)
                    (try clear hi)
                    refine hK.out _ _ ?_
                    clear hK K
                    refine norm_ (a':=?_) ?_ ?_
                    rotate_left
                    · show Act.put _ (some 75) _ = _
                      simp only [Act.put,List.setIfInBounds_toArray,List.set_cons_zero,List.set_cons_succ,i64_w,i32_w]
                      rfl
                    refine pure_ (i:=12) (N:=some 76) (v:=?_) (a':=?_) #[true,true,true,true,true,true,true,true,true,true,true,true,true,false,false,false,false] rfl rfl (any_of HT_.out (by kernel_rfl)) (fun _ _ _ h => h) (Or.inl ⟨by rfl,?_⟩) ?_ ?_
                    rotate_left
                    · intro w'
                      go_simp
                      with_reducible rfl
                    rotate_left
                    · simp only [Act.put,List.setIfInBounds_toArray,List.set_cons_zero,List.set_cons_succ,i64_w,i32_w]
                      rfl
                    refine pure_ (i:=13) (N:=some 77) (v:=?_) (a':=?_) #[true,true,true,true,true,true,true,true,true,true,true,true,true,true,false,false,false] rfl rfl (any_of HT_.out (by kernel_rfl)) (fun _ _ _ h => h) (Or.inl ⟨by rfl,?_⟩) ?_ ?_
                    rotate_left
                    · intro w'
                      go_simp
                      with_reducible rfl
                    rotate_left
                    · simp only [Act.put,List.setIfInBounds_toArray,List.set_cons_zero,List.set_cons_succ,i64_w,i32_w]
                      rfl
                    refine pure_ (i:=14) (N:=some 78) (v:=undef) (a':=?_) #[true,true,true,true,true,true,true,true,true,true,true,true,true,true,true,false,false] rfl rfl (any_of HT_.out (by kernel_rfl)) (fun _ _ _ h => h) (Or.inr ⟨by rfl,rfl⟩) ?_ ?_
                    rotate_left
                    · simp only [Act.put,List.setIfInBounds_toArray,List.set_cons_zero,List.set_cons_succ,i64_w,i32_w]
                      rfl
                    refine pure_ (i:=15) (N:=some 79) (v:=?_) (a':=?_) #[true,true,true,true,true,true,true,true,true,true,true,true,true,true,true,true,false] rfl rfl (any_of HT_.out (by kernel_rfl)) (fun _ _ _ h => h) (Or.inl ⟨by rfl,?_⟩) ?_ ?_
                    rotate_left
                    · intro w'
                      go_simp
                      with_reducible rfl
                    rotate_left
                    · simp only [Act.put,List.setIfInBounds_toArray,List.set_cons_zero,List.set_cons_succ,i64_w,i32_w]
                      rfl
                    refine pure_ (i:=16) (N:=some 6) (v:=?_) (a':=?_) #[true,true,true,true,true,true,true,true,true,true,true,true,true,true,true,true,true] rfl rfl (any_of HT_.out (by kernel_rfl)) (fun _ _ _ h => h) (Or.inl ⟨by rfl,?_⟩) ?_ ?_
                    rotate_left
                    · intro w'
                      go_simp
                      with_reducible rfl
                    rotate_left
                    · simp only [Act.put,List.setIfInBounds_toArray,List.set_cons_zero,List.set_cons_succ,i64_w,i32_w]
                      rfl
                    refine done_ (done_of HT_.out (by kernel_rfl)) ?_
                    try go_wp2
                    go_meet
                    case rel => exact ⟨_,(false),(by first | rfl | (simp;done) | (simp [*];done)),H',⟨by have:=HJ19.out;first | omega | exact Nat.le_refl _⟩,⟨by (with_reducible repeat (first | apply Kd.R_alloc | apply Kd.R_drewN | apply Kd.R_drew));exact Kd.R_mono HO_547002.out (fun _ hk => hk.1)⟩,⟨by (with_reducible repeat (first | apply Kd.R_alloc | apply Kd.R_drewN | apply Kd.R_drew));exact Kd.R_mono HO563.out (fun _ hk => hk.1)⟩,⟨by (with_reducible repeat (first | refine blk_drewN ?_ _ | refine blk_drew ?_ | refine blk_alloc ?_ _));exact BK546.out⟩,⟨by (with_reducible repeat (first | refine blk_drewN ?_ _ | refine blk_drew ?_ | refine blk_alloc ?_ _));exact BK568.out⟩,⟨by repeat (first | (with_reducible first | exact HB.out | apply below_alloc | apply pw_below_drewN | apply below_drew1 | refine below_set ?_ GE546.out | refine below_set ?_ GE568.out) | exact HB.out)⟩⟩
                · replace c75:=Bool.eq_false_iff.mpr c75
                  subst c75
                  have H1 : (humuslaw04_RowMakes.j4 kj19 false) = some r:=by rw [if_neg (show ¬ (false = true) by decide)] at H;exact H
                  clear H
                  have H:=H1
                  clear H1
                  have H':=Aside0.mk H
                  clear H
                  try go_wp2
                  have n0_ : Aside0 (Kd.R Kd.f64 25 ((((((w68.setCell ⟨gb568,0,none⟩ (.float .f64 t559)).setCell ⟨gb568,1,none⟩ (.bool t560)).setCell ⟨gb568,2,none⟩ (.slice Ao71 t561.length co71)).setCell ⟨gb568,3,none⟩ (.int .i64 t564)).setCell ⟨gb568,4,none⟩ (.int .i64 t565)).setCell ⟨gb568,5,none⟩ (.int .i64 t566)) w.heap.size (fun k_ => some k_ ≠ (.slice Ao71 t561.length co71 : Value).ownBlock) (.slice Ao24 t539.length co24) t539):=⟨by (with_reducible repeat (first | apply Kd.R_alloc | apply Kd.R_drewN | apply Kd.R_drew));exact Kd.R_mono (Kd.R_far (p:=⟨gb568,5,none⟩) (Kd.R_far (p:=⟨gb568,4,none⟩) (Kd.R_far (p:=⟨gb568,3,none⟩) (Kd.R_far (p:=⟨gb568,2,none⟩) (Kd.R_far (p:=⟨gb568,1,none⟩) (Kd.R_far (p:=⟨gb568,0,none⟩) (Kd.R_types HO_547002.out BK568.out (by decide)) (fun _ hk => hk.2) (.float .f64 t559)) (fun _ hk => hk.2) (.bool t560)) (fun _ hk => hk.2) (.slice Ao71 t561.length co71)) (fun _ hk => hk.2) (.int .i64 t564)) (fun _ hk => hk.2) (.int .i64 t565)) (fun _ hk => hk.2) (.int .i64 t566)) (fun _ hk => hk.1.2)⟩
                  have n1_ : Aside0 (Kd.R Kd.f64 25 ((((((w68.setCell ⟨gb568,0,none⟩ (.float .f64 t559)).setCell ⟨gb568,1,none⟩ (.bool t560)).setCell ⟨gb568,2,none⟩ (.slice Ao71 t561.length co71)).setCell ⟨gb568,3,none⟩ (.int .i64 t564)).setCell ⟨gb568,4,none⟩ (.int .i64 t565)).setCell ⟨gb568,5,none⟩ (.int .i64 t566)) w.heap.size (fun k_ => some k_ ≠ (.slice Ao24 t539.length co24 : Value).ownBlock) (.slice Ao71 t561.length co71) t561):=⟨by (with_reducible repeat (first | apply Kd.R_alloc | apply Kd.R_drewN | apply Kd.R_drew));exact Kd.R_mono (Kd.R_far (p:=⟨gb568,5,none⟩) (Kd.R_far (p:=⟨gb568,4,none⟩) (Kd.R_far (p:=⟨gb568,3,none⟩) (Kd.R_far (p:=⟨gb568,2,none⟩) (Kd.R_far (p:=⟨gb568,1,none⟩) (Kd.R_far (p:=⟨gb568,0,none⟩) (Kd.R_types HO563.out BK568.out (by decide)) (fun _ hk => hk.2) (.float .f64 t559)) (fun _ hk => hk.2) (.bool t560)) (fun _ hk => hk.2) (.slice Ao71 t561.length co71)) (fun _ hk => hk.2) (.int .i64 t564)) (fun _ hk => hk.2) (.int .i64 t565)) (fun _ hk => hk.2) (.int .i64 t566)) (fun _ hk => hk.1.2)⟩
                  have n2_ : Aside0 (((((((w68.setCell ⟨gb568,0,none⟩ (.float .f64 t559)).setCell ⟨gb568,1,none⟩ (.bool t560)).setCell ⟨gb568,2,none⟩ (.slice Ao71 t561.length co71)).setCell ⟨gb568,3,none⟩ (.int .i64 t564)).setCell ⟨gb568,4,none⟩ (.int .i64 t565)).setCell ⟨gb568,5,none⟩ (.int .i64 t566)).heap[gb546]? = some (.cells #[.float .f64 t537,.bool t538,.slice Ao24 t539.length co24,.int .i64 t542,.int .i64 t543,.int .i64 t544] 30 (0,0))):=⟨by (with_reducible repeat (first | refine blk_drewN ?_ _ | refine blk_drew ?_ | refine blk_alloc ?_ _));refine blk_far ?_ NB546_568.out _;(with_reducible repeat (first | refine blk_drewN ?_ _ | refine blk_drew ?_ | refine blk_alloc ?_ _));refine blk_far ?_ NB546_568.out _;(with_reducible repeat (first | refine blk_drewN ?_ _ | refine blk_drew ?_ | refine blk_alloc ?_ _));refine blk_far ?_ NB546_568.out _;(with_reducible repeat (first | refine blk_drewN ?_ _ | refine blk_drew ?_ | refine blk_alloc ?_ _));refine blk_far ?_ NB546_568.out _;(with_reducible repeat (first | refine blk_drewN ?_ _ | refine blk_drew ?_ | refine blk_alloc ?_ _));refine blk_far ?_ NB546_568.out _;(with_reducible repeat (first | refine blk_drewN ?_ _ | refine blk_drew ?_ | refine blk_alloc ?_ _));refine blk_far ?_ NB546_568.out _;(with_reducible repeat (first | refine blk_drewN ?_ _ | refine blk_drew ?_ | refine blk_alloc ?_ _));exact BK546.out⟩
                  have n3_ : Aside0 (((((((w68.setCell ⟨gb568,0,none⟩ (.float .f64 t559)).setCell ⟨gb568,1,none⟩ (.bool t560)).setCell ⟨gb568,2,none⟩ (.slice Ao71 t561.length co71)).setCell ⟨gb568,3,none⟩ (.int .i64 t564)).setCell ⟨gb568,4,none⟩ (.int .i64 t565)).setCell ⟨gb568,5,none⟩ (.int .i64 t566)).heap[gb568]? = some (.cells #[.float .f64 t559,.bool t560,.slice Ao71 t561.length co71,.int .i64 t564,.int .i64 t565,.int .i64 t566] 30 (0,0))):=⟨by (with_reducible repeat (first | refine blk_drewN ?_ _ | refine blk_drew ?_ | refine blk_alloc ?_ _));refine blk_put (cs:=#[.float .f64 t559,.bool t560,.slice Ao71 t561.length co71,.int .i64 t564,.int .i64 t565,.int .i64 0]) ?_ 5 _ rfl;(with_reducible repeat (first | refine blk_drewN ?_ _ | refine blk_drew ?_ | refine blk_alloc ?_ _));refine blk_put (cs:=#[.float .f64 t559,.bool t560,.slice Ao71 t561.length co71,.int .i64 t564,.int .i64 0,.int .i64 0]) ?_ 4 _ rfl;(with_reducible repeat (first | refine blk_drewN ?_ _ | refine blk_drew ?_ | refine blk_alloc ?_ _));refine blk_put (cs:=#[.float .f64 t559,.bool t560,.slice Ao71 t561.length co71,.int .i64 0,.int .i64 0,.int .i64 0]) ?_ 3 _ rfl;(with_reducible repeat (first | refine blk_drewN ?_ _ | refine blk_drew ?_ | refine blk_alloc ?_ _));refine blk_put (cs:=#[.float .f64 t559,.bool t560,.slice none 0 0,.int .i64 0,.int .i64 0,.int .i64 0]) ?_ 2 _ rfl;(with_reducible repeat (first | refine blk_drewN ?_ _ | refine blk_drew ?_ | refine blk_alloc ?_ _));refine blk_put (cs:=#[.float .f64 t559,.bool false,.slice none 0 0,.int .i64 0,.int .i64 0,.int .i64 0]) ?_ 1 _ rfl;(with_reducible repeat (first | refine blk_drewN ?_ _ | refine blk_drew ?_ | refine blk_alloc ?_ _));refine blk_put (cs:=#[.float .f64 0,.bool false,.slice none 0 0,.int .i64 0,.int .i64 0,.int .i64 0]) ?_ 0 _ rfl;(with_reducible repeat (first | refine blk_drewN ?_ _ | refine blk_drew ?_ | refine blk_alloc ?_ _));exact BK568.out⟩
                  have n4_ : Aside0 (Below w.heap.size w ((((((w68.setCell ⟨gb568,0,none⟩ (.float .f64 t559)).setCell ⟨gb568,1,none⟩ (.bool t560)).setCell ⟨gb568,2,none⟩ (.slice Ao71 t561.length co71)).setCell ⟨gb568,3,none⟩ (.int .i64 t564)).setCell ⟨gb568,4,none⟩ (.int .i64 t565)).setCell ⟨gb568,5,none⟩ (.int .i64 t566))):=⟨by repeat (first | (with_reducible first | exact HB.out | apply below_alloc | apply pw_below_drewN | apply below_drew1 | refine below_set ?_ GE546.out | refine below_set ?_ GE568.out) | exact HB.out)⟩
                  (try clear HO_547002)
                  (try clear HO563)
                  (try clear BK546)
                  (try clear BK568)
                  (try clear HB)
                  generalize ((((((w68.setCell ⟨gb568,0,none⟩ (.float .f64 t559)).setCell ⟨gb568,1,none⟩ (.bool t560)).setCell ⟨gb568,2,none⟩ (.slice Ao71 t561.length co71)).setCell ⟨gb568,3,none⟩ (.int .i64 t564)).setCell ⟨gb568,4,none⟩ (.int .i64 t565)).setCell ⟨gb568,5,none⟩ (.int .i64 t566)) = w92 at n0_ n1_ n2_ n3_ n4_ ⊢
                  have HO_547002:=n0_
                  have HO563:=n1_
                  have BK546:=n2_
                  have BK568:=n3_
                  have HB:=n4_
                  clear n0_ n1_ n2_ n3_ n4_
                  have n0_:=Aside0.mk (Kd.R_drew HO_547002.out)
                  have n1_:=Aside0.mk (Kd.R_drew HO563.out)
                  have n2_:=Aside0.mk (blk_drew BK546.out)
                  have n3_:=Aside0.mk (blk_drew BK568.out)
                  have n4_:=Aside0.mk (below_drew1 HB.out)
                  clear HO_547002
                  clear HO563
                  clear BK546
                  clear BK568
                  clear HB
                  have HO_547002:=n0_
                  have HO563:=n1_
                  have BK546:=n2_
                  have BK568:=n3_
                  have HB:=n4_
                  clear n0_ n1_ n2_ n3_ n4_
                  refine start_ (n:=17) (S:=fun w' => w'.cell? ⟨gb568,0,none⟩ = some (.float .f64 t559) ∧ w'.cell? ⟨gb568,1,none⟩ = some (.bool t560) ∧ w'.cell? ⟨gb568,2,none⟩ = some (.slice Ao71 t561.length co71) ∧ w'.cell? ⟨gb568,3,none⟩ = some (.int .i64 t564) ∧ w'.cell? ⟨gb568,4,none⟩ = some (.int .i64 t565) ∧ w'.cell? ⟨gb568,5,none⟩ = some (.int .i64 t566) ∧ w'.cell? ⟨gb546,0,none⟩ = some (.float .f64 t537) ∧ w'.cell? ⟨gb546,1,none⟩ = some (.bool t538) ∧ w'.cell? ⟨gb546,2,none⟩ = some (.slice Ao24 t539.length co24) ∧ w'.cell? ⟨gb546,3,none⟩ = some (.int .i64 t542) ∧ w'.cell? ⟨gb546,4,none⟩ = some (.int .i64 t543) ∧ w'.cell? ⟨gb546,5,none⟩ = some (.int .i64 t544)) (ds:=[7]) #[false,false,false,false,false,false,false,false,false,false,false,false,false,false,false,false,false] (by kernel_rfl) rfl rfl ⟨(blk_cell BK568.out 0).trans rfl,(blk_cell BK568.out 1).trans rfl,(blk_cell BK568.out 2).trans rfl,(blk_cell BK568.out 3).trans rfl,(blk_cell BK568.out 4).trans rfl,(blk_cell BK568.out 5).trans rfl,(blk_cell BK546.out 0).trans rfl,(blk_cell BK546.out 1).trans rfl,(blk_cell BK546.out 2).trans rfl,(blk_cell BK546.out 3).trans rfl,(blk_cell BK546.out 4).trans rfl,(blk_cell BK546.out 5).trans rfl⟩ (fun hHeld => ?_);refine with_tabW humuslaw04_RowMakes.tab9 humuslaw04_RowMakes.bits9 (fun HT_ HW_ => ?_)
                  generalize w92.drew = w93 at HO_547002 HO563 BK546 BK568 HB hHeld ⊢
                  refine pure_ (i:=0) (N:=some 64) (v:=?_) (a':=?_) #[true,false,false,false,false,false,false,false,false,false,false,false,false,false,false,false,false] rfl rfl (any_of HT_.out (by kernel_rfl)) (fun _ _ _ h => h) (Or.inl ⟨by rfl,?_⟩) ?_ ?_
                  rotate_left
                  · intro w'
                    go_simp
                    with_reducible rfl
                  rotate_left
                  · simp only [Act.put,List.setIfInBounds_toArray,List.set_cons_zero,List.set_cons_succ,i64_w,i32_w]
                    rfl
                  refine pure_ (i:=1) (N:=some 65) (v:=?_) (a':=?_) #[true,true,false,false,false,false,false,false,false,false,false,false,false,false,false,false,false] rfl rfl (any_of HT_.out (by kernel_rfl)) (fun _ _ _ h => h) (Or.inl ⟨by rfl,?_⟩) ?_ ?_
                  rotate_left
                  · intro w'
                    go_simp
                    with_reducible rfl
                  rotate_left
                  · simp only [Act.put,List.setIfInBounds_toArray,List.set_cons_zero,List.set_cons_succ,i64_w,i32_w]
                    rfl
                  refine pure_ (i:=2) (N:=some 66) (v:=?_) (a':=?_) #[true,true,true,false,false,false,false,false,false,false,false,false,false,false,false,false,false] rfl rfl (any_of HT_.out (by kernel_rfl)) (fun _ _ _ h => h) (Or.inl ⟨by rfl,?_⟩) ?_ ?_
                  rotate_left
                  · intro w'
                    go_simp
                    with_reducible rfl
                  rotate_left
                  · simp only [Act.put,List.setIfInBounds_toArray,List.set_cons_zero,List.set_cons_succ,i64_w,i32_w]
                    rfl
                  refine pure_ (i:=5) (N:=some 69) (v:=?_) (a':=?_) #[true,true,true,false,false,true,false,false,false,false,false,false,false,false,false,false,false] rfl rfl (any_of HT_.out (by kernel_rfl)) (fun _ _ _ h => h) (Or.inl ⟨by rfl,?_⟩) ?_ ?_
                  rotate_left
                  · intro w'
                    go_simp
                    with_reducible rfl
                  rotate_left
                  · simp only [Act.put,List.setIfInBounds_toArray,List.set_cons_zero,List.set_cons_succ,i64_w,i32_w]
                    rfl
                  refine take_ (i:=3) (N:=some 67) (v:=?_) (a':=?_) #[true,true,true,true,false,true,false,false,false,false,false,false,false,false,false,false,false] rfl rfl (take_ofW HT_.out HW_.out (by kernel_rfl)) (fun _ _ _ h => h) (Or.inl ⟨by rfl,?_⟩) hHeld ?_ ?_
                  rotate_left
                  · rintro w' ⟨s0,s1,s2,s3,s4,s5,s6,s7,s8,s9,s10,s11⟩
                    go_simp
                    with_reducible rfl
                  rotate_left
                  · simp only [Act.put,List.setIfInBounds_toArray,List.set_cons_zero,List.set_cons_succ,i64_w,i32_w]
                    rfl
                  refine take_ (i:=4) (N:=some 68) (v:=?_) (a':=?_) #[true,true,true,true,true,true,false,false,false,false,false,false,false,false,false,false,false] rfl rfl (take_ofW HT_.out HW_.out (by kernel_rfl)) (fun _ _ _ h => h) (Or.inl ⟨by rfl,?_⟩) hHeld ?_ ?_
                  rotate_left
                  · rintro w' ⟨s0,s1,s2,s3,s4,s5,s6,s7,s8,s9,s10,s11⟩
                    go_simp
                    with_reducible rfl
                  rotate_left
                  · simp only [Act.put,List.setIfInBounds_toArray,List.set_cons_zero,List.set_cons_succ,i64_w,i32_w]
                    rfl
                  refine one_ (i:=6) (N:=some 70) #[true,true,true,true,true,true,true,false,false,false,false,false,false,false,false,false,false] rfl rfl (one_of HT_.out (by kernel_rfl)) (by decide) (fun K hK => ?_)
                  refine goes_ Try.func42 (by kernel_rfl) rfl #[.agg #[.float .f64 t537,.bool t538,.slice Ao24 t539.length co24,.int .i64 t542,.int .i64 t543,.int .i64 t544],.float .f64 a2] (by rfl) rfl rfl (by (try simp only [List.map_toArray,List.map_cons,List.map_nil]);first | done | rfl | (simp only [List.length_drop,List.length_take];rfl)) ?_
                  with_reducible refine (humusref04_Plus.calls t537 t538 _ _ t539 t542 t543 t544 a2 t571 t572 t573 t576 t577 t578 _ ?side1 ?side2 A73.out).mono ?_
                  (case side1 => repeat (first | exact (Kd.R_reads' HO_547002.out).2.2 | (with_reducible refine Kd.C_alloc ?_ _) | (with_reducible refine Kd.C_drewN ?_ _) | (with_reducible refine Kd.C_drew ?_)))
                  (case side2 => exact (Kd.R_reads' HO_547002.out).2.1)
                  rintro e w94 ⟨v574,rfl,ho0,hb⟩
                  refine ⟨_,rfl,?_⟩
                  have n0_:=Aside0.mk (Kd.R_elder' (by (with_reducible repeat (first | apply Kd.R_alloc | apply Kd.R_drewN | apply Kd.R_drew));exact HO_547002.out) (Kd.R_base ho0) hb)
                  have n1_:=Aside0.mk (Kd.R_elder' (by (with_reducible repeat (first | apply Kd.R_alloc | apply Kd.R_drewN | apply Kd.R_drew));exact HO563.out) (Kd.R_base ho0) hb)
                  have n2_:=Aside0.mk (Kd.R_lower (Kd.R_new' (Kd.R_new' ho0 (Kd.R_lt (by (with_reducible repeat (first | apply Kd.R_alloc | apply Kd.R_drewN | apply Kd.R_drew));exact HO_547002.out))) (Kd.R_lt (by (with_reducible repeat (first | apply Kd.R_alloc | apply Kd.R_drewN | apply Kd.R_drew));exact HO563.out))) (below_size (by repeat (first | (with_reducible first | exact HB.out | apply below_alloc | apply pw_below_drewN | apply below_drew1 | refine below_set ?_ GE546.out | refine below_set ?_ GE568.out) | exact HB.out))))
                  have n3_:=Aside0.mk (blk_below (g:=gb546) (o:=.cells #[.float .f64 t537,.bool t538,.slice Ao24 t539.length co24,.int .i64 t542,.int .i64 t543,.int .i64 t544] 30 (0,0)) (by (with_reducible repeat (first | refine blk_drewN ?_ _ | refine blk_drew ?_ | refine blk_alloc ?_ _));exact BK546.out) hb)
                  have n4_:=Aside0.mk (blk_below (g:=gb568) (o:=.cells #[.float .f64 t559,.bool t560,.slice Ao71 t561.length co71,.int .i64 t564,.int .i64 t565,.int .i64 t566] 30 (0,0)) (by (with_reducible repeat (first | refine blk_drewN ?_ _ | refine blk_drew ?_ | refine blk_alloc ?_ _));exact BK568.out) hb)
                  have n5_:=Aside0.mk (below_step (by repeat (first | (with_reducible first | exact HB.out | apply below_alloc | apply pw_below_drewN | apply below_drew1 | refine below_set ?_ GE546.out | refine below_set ?_ GE568.out) | exact HB.out)) hb)
                  clear HO_547002
                  clear HO563
                  clear BK546
                  clear BK568
                  clear HB
                  have HO_547002:=n0_
                  have HO563:=n1_
                  have HO575:=n2_
                  have BK546:=n3_
                  have BK568:=n4_
                  have HB:=n5_
                  clear n0_ n1_ n2_ n3_ n4_ n5_
                  (try clear hb)
                  (try clear hb2)
                  (try clear hk)
                  (try clear hi)
                  (try clear ho0)
                  obtain ⟨Ao95,co95,eo95⟩:=Kd.R_slice HO575.out
                  (first | subst eo95 | (injection eo95 with f1_ f2_ f3_;have f4_:=f1_.symm;have f5_:=f3_.symm;clear f1_ f2_ f3_;subst f4_;subst f5_))
                  refine hK.out _ _ ⟨(blk_cell BK568.out 0).trans rfl,(blk_cell BK568.out 1).trans rfl,(blk_cell BK568.out 2).trans rfl,(blk_cell BK568.out 3).trans rfl,(blk_cell BK568.out 4).trans rfl,(blk_cell BK568.out 5).trans rfl,(blk_cell BK546.out 0).trans rfl,(blk_cell BK546.out 1).trans rfl,(blk_cell BK546.out 2).trans rfl,(blk_cell BK546.out 3).trans rfl,(blk_cell BK546.out 4).trans rfl,(blk_cell BK546.out 5).trans rfl⟩ (fun hHeld => ?_)
                  clear hK K
                  refine norm_ (a':=?_) ?_ ?_
                  rotate_left
                  · show Act.put _ (some 70) _ = _
                    simp only [Act.put,List.setIfInBounds_toArray,List.set_cons_zero,List.set_cons_succ,i64_w,i32_w]
                    rfl
                  refine last_ (i:=7) (N:=some 71) #[true,true,true,true,true,true,true,true,false,false,false,false,false,false,false,false,false] rfl rfl (one_of HT_.out (by kernel_rfl)) (by decide) (fun K hK => ?_)
                  refine goes_ Try.func37 (by kernel_rfl) rfl #[.agg #[.float .f64 t559,.bool t560,.slice Ao71 t561.length co71,.int .i64 t564,.int .i64 t565,.int .i64 t566],.agg #[.float .f64 t571,.bool t572,.slice Ao95 t573.length co95,.int .i64 t576,.int .i64 t577,.int .i64 t578]] (by rfl) rfl rfl (by (try simp only [List.map_toArray,List.map_cons,List.map_nil]);first | done | rfl | (simp only [List.length_drop,List.length_take];rfl)) ?_
                  with_reducible refine (humusref04_Same.calls kj19 t559 t560 _ _ t561 t564 t565 t566 t571 t572 _ _ t573 t576 t577 t578 false _ ?side1 ?side2 ?side3 ?side4 A74.out).mono ?_
                  (case side1 => repeat (first | exact (Kd.R_reads' HO563.out).2.2 | (with_reducible refine Kd.C_alloc ?_ _) | (with_reducible refine Kd.C_drewN ?_ _) | (with_reducible refine Kd.C_drew ?_)))
                  (case side2 => exact (Kd.R_reads' HO563.out).2.1)
                  (case side3 => repeat (first | exact (Kd.R_reads' HO575.out).2.2 | (with_reducible refine Kd.C_alloc ?_ _) | (with_reducible refine Kd.C_drewN ?_ _) | (with_reducible refine Kd.C_drew ?_)))
                  (case side4 => exact (Kd.R_reads' HO575.out).2.1)
                  rintro e w96 ⟨rfl,hb⟩
                  refine ⟨_,rfl,?_⟩
                  have n0_:=Aside0.mk (Kd.R_below (by (with_reducible repeat (first | apply Kd.R_alloc | apply Kd.R_drewN | apply Kd.R_drew));exact HO_547002.out) hb)
                  have n1_:=Aside0.mk (Kd.R_below (by (with_reducible repeat (first | apply Kd.R_alloc | apply Kd.R_drewN | apply Kd.R_drew));exact HO563.out) hb)
                  have n2_:=Aside0.mk (Kd.R_below (by (with_reducible repeat (first | apply Kd.R_alloc | apply Kd.R_drewN | apply Kd.R_drew));exact HO575.out) hb)
                  have n3_:=Aside0.mk (blk_below (g:=gb546) (o:=.cells #[.float .f64 t537,.bool t538,.slice Ao24 t539.length co24,.int .i64 t542,.int .i64 t543,.int .i64 t544] 30 (0,0)) (by (with_reducible repeat (first | refine blk_drewN ?_ _ | refine blk_drew ?_ | refine blk_alloc ?_ _));exact BK546.out) hb)
                  have n4_:=Aside0.mk (blk_below (g:=gb568) (o:=.cells #[.float .f64 t559,.bool t560,.slice Ao71 t561.length co71,.int .i64 t564,.int .i64 t565,.int .i64 t566] 30 (0,0)) (by (with_reducible repeat (first | refine blk_drewN ?_ _ | refine blk_drew ?_ | refine blk_alloc ?_ _));exact BK568.out) hb)
                  have n5_:=Aside0.mk (below_step (by repeat (first | (with_reducible first | exact HB.out | apply below_alloc | apply pw_below_drewN | apply below_drew1 | refine below_set ?_ GE546.out | refine below_set ?_ GE568.out) | exact HB.out)) hb)
                  clear HO_547002
                  clear HO563
                  clear HO575
                  clear BK546
                  clear BK568
                  clear HB
                  have HO_547002:=n0_
                  have HO563:=n1_
                  have HO575:=n2_
                  have BK546:=n3_
                  have BK568:=n4_
                  have HB:=n5_
                  clear n0_ n1_ n2_ n3_ n4_ n5_
                  (try clear hb)
                  (try clear hb2)
                  (try clear hk)
                  (try clear hi)
                  refine hK.out _ _ ?_
                  clear hK K
                  refine norm_ (a':=?_) ?_ ?_
                  rotate_left
                  · show Act.put _ (some 71) _ = _
                    simp only [Act.put,List.setIfInBounds_toArray,List.set_cons_zero,List.set_cons_succ,i64_w,i32_w]
                    rfl
                  refine pure_ (i:=8) (N:=some 72) (v:=?_) (a':=?_) #[true,true,true,true,true,true,true,true,true,false,false,false,false,false,false,false,false] rfl rfl (any_of HT_.out (by kernel_rfl)) (fun _ _ _ h => h) (Or.inl ⟨by rfl,?_⟩) ?_ ?_
                  rotate_left
                  · intro w'
                    go_simp
                    with_reducible rfl
                  rotate_left
                  · simp only [Act.put,List.setIfInBounds_toArray,List.set_cons_zero,List.set_cons_succ,i64_w,i32_w]
                    rfl
                  refine pure_ (i:=9) (N:=some 73) (v:=?_) (a':=?_) #[true,true,true,true,true,true,true,true,true,true,false,false,false,false,false,false,false] rfl rfl (any_of HT_.out (by kernel_rfl)) (fun _ _ _ h => h) (Or.inl ⟨by rfl,?_⟩) ?_ ?_
                  rotate_left
                  · intro w'
                    go_simp
                    with_reducible rfl
                  rotate_left
                  · simp only [Act.put,List.setIfInBounds_toArray,List.set_cons_zero,List.set_cons_succ,i64_w,i32_w]
                    rfl
                  refine pure_ (i:=10) (N:=some 74) (v:=undef) (a':=?_) #[true,true,true,true,true,true,true,true,true,true,true,false,false,false,false,false,false] rfl rfl (any_of HT_.out (by kernel_rfl)) (fun _ _ _ h => h) (Or.inr ⟨by rfl,rfl⟩) ?_ ?_
                  rotate_left
                  · simp only [Act.put,List.setIfInBounds_toArray,List.set_cons_zero,List.set_cons_succ,i64_w,i32_w]
                    rfl
                  refine pure_ (i:=11) (N:=some 75) (v:=undef) (a':=?_) #[true,true,true,true,true,true,true,true,true,true,true,true,false,false,false,false,false] rfl rfl (any_of HT_.out (by kernel_rfl)) (fun _ _ _ h => h) (Or.inr ⟨by rfl,rfl⟩) ?_ ?_
                  rotate_left
                  · simp only [Act.put,List.setIfInBounds_toArray,List.set_cons_zero,List.set_cons_succ,i64_w,i32_w]
                    rfl
                  refine pure_ (i:=12) (N:=some 76) (v:=?_) (a':=?_) #[true,true,true,true,true,true,true,true,true,true,true,true,true,false,false,false,false] rfl rfl (any_of HT_.out (by kernel_rfl)) (fun _ _ _ h => h) (Or.inl ⟨by rfl,?_⟩) ?_ ?_
                  rotate_left
                  · intro w'
                    go_simp
                    with_reducible rfl
                  rotate_left
                  · simp only [Act.put,List.setIfInBounds_toArray,List.set_cons_zero,List.set_cons_succ,i64_w,i32_w]
                    rfl
                  refine pure_ (i:=13) (N:=some 77) (v:=?_) (a':=?_) #[true,true,true,true,true,true,true,true,true,true,true,true,true,true,false,false,false] rfl rfl (any_of HT_.out (by kernel_rfl)) (fun _ _ _ h => h) (Or.inl ⟨by rfl,?_⟩) ?_ ?_
                  rotate_left
                  · intro w'
                    go_simp
                    with_reducible rfl
                  rotate_left
                  · simp only [Act.put,List.setIfInBounds_toArray,List.set_cons_zero,List.set_cons_succ,i64_w,i32_w]
                    rfl
                  refine pure_ (i:=14) (N:=some 78) (v:=undef) (a':=?_) #[true,true,true,true,true,true,true,true,true,true,true,true,true,true,true,false,false] rfl rfl (any_of HT_.out (by kernel_rfl)) (fun _ _ _ h => h) (Or.inr ⟨by rfl,rfl⟩) ?_ ?_
                  rotate_left
                  · simp only [Act.put,List.setIfInBounds_toArray,List.set_cons_zero,List.set_cons_succ,i64_w,i32_w]
                    rfl
                  refine pure_ (i:=15) (N:=some 79) (v:=?_) (a':=?_) #[true,true,true,true,true,true,true,true,true,true,true,true,true,true,true,true,false] rfl rfl (any_of HT_.out (by kernel_rfl)) (fun _ _ _ h => h) (Or.inl ⟨by rfl,?_⟩) ?_ ?_
                  rotate_left
                  · intro w'
                    go_simp
                    with_reducible rfl
                  rotate_left
                  · simp only [Act.put,List.setIfInBounds_toArray,List.set_cons_zero,List.set_cons_succ,i64_w,i32_w]
                    rfl
                  refine pure_ (i:=16) (N:=some 6) (v:=?_) (a':=?_) #[true,true,true,true,true,true,true,true,true,true,true,true,true,true,true,true,true] rfl rfl (any_of HT_.out (by kernel_rfl)) (fun _ _ _ h => h) (Or.inl ⟨by rfl,?_⟩) ?_ ?_
                  rotate_left
                  · intro w'
                    go_simp
                    with_reducible rfl
                  rotate_left
                  · simp only [Act.put,List.setIfInBounds_toArray,List.set_cons_zero,List.set_cons_succ,i64_w,i32_w]
                    rfl
                  refine done_ (done_of HT_.out (by kernel_rfl)) ?_
                  try go_wp2
                  go_meet
                  case rel => exact ⟨_,(false),(by first | rfl | (simp;done) | (simp [*];done)),H',⟨by have:=HJ19.out;first | omega | exact Nat.le_refl _⟩,⟨by (with_reducible repeat (first | apply Kd.R_alloc | apply Kd.R_drewN | apply Kd.R_drew));exact Kd.R_mono HO_547002.out (fun _ hk => hk.1)⟩,⟨by (with_reducible repeat (first | apply Kd.R_alloc | apply Kd.R_drewN | apply Kd.R_drew));exact Kd.R_mono HO563.out (fun _ hk => hk.1)⟩,⟨by (with_reducible repeat (first | refine blk_drewN ?_ _ | refine blk_drew ?_ | refine blk_alloc ?_ _));exact BK546.out⟩,⟨by (with_reducible repeat (first | refine blk_drewN ?_ _ | refine blk_drew ?_ | refine blk_alloc ?_ _));exact BK568.out⟩,⟨by repeat (first | (with_reducible first | exact HB.out | apply below_alloc | apply pw_below_drewN | apply below_drew1 | refine below_set ?_ GE546.out | refine below_set ?_ GE568.out) | exact HB.out)⟩⟩
              · rw [if_neg c72] at H
                have c72b0 : (t567 == 0) = false:=beq_eq_false_iff_ne.mpr c72
                have c72b1 : (t567 != 0) = true:=bne_iff_ne.mpr c72
                (first | rw [c72b0] | (simp only [i64_w,i32_w];rw [c72b0]) | skip)
                have H':=Aside0.mk H
                clear H
                try go_wp2
                have n0_ : Aside0 (Kd.R Kd.f64 25 ((((((w68.setCell ⟨gb568,0,none⟩ (.float .f64 t559)).setCell ⟨gb568,1,none⟩ (.bool t560)).setCell ⟨gb568,2,none⟩ (.slice Ao71 t561.length co71)).setCell ⟨gb568,3,none⟩ (.int .i64 t564)).setCell ⟨gb568,4,none⟩ (.int .i64 t565)).setCell ⟨gb568,5,none⟩ (.int .i64 t566)) w.heap.size (fun k_ => some k_ ≠ (.slice Ao71 t561.length co71 : Value).ownBlock) (.slice Ao24 t539.length co24) t539):=⟨by (with_reducible repeat (first | apply Kd.R_alloc | apply Kd.R_drewN | apply Kd.R_drew));exact Kd.R_mono (Kd.R_far (p:=⟨gb568,5,none⟩) (Kd.R_far (p:=⟨gb568,4,none⟩) (Kd.R_far (p:=⟨gb568,3,none⟩) (Kd.R_far (p:=⟨gb568,2,none⟩) (Kd.R_far (p:=⟨gb568,1,none⟩) (Kd.R_far (p:=⟨gb568,0,none⟩) (Kd.R_types HO_547002.out BK568.out (by decide)) (fun _ hk => hk.2) (.float .f64 t559)) (fun _ hk => hk.2) (.bool t560)) (fun _ hk => hk.2) (.slice Ao71 t561.length co71)) (fun _ hk => hk.2) (.int .i64 t564)) (fun _ hk => hk.2) (.int .i64 t565)) (fun _ hk => hk.2) (.int .i64 t566)) (fun _ hk => hk.1.2)⟩
                have n1_ : Aside0 (Kd.R Kd.f64 25 ((((((w68.setCell ⟨gb568,0,none⟩ (.float .f64 t559)).setCell ⟨gb568,1,none⟩ (.bool t560)).setCell ⟨gb568,2,none⟩ (.slice Ao71 t561.length co71)).setCell ⟨gb568,3,none⟩ (.int .i64 t564)).setCell ⟨gb568,4,none⟩ (.int .i64 t565)).setCell ⟨gb568,5,none⟩ (.int .i64 t566)) w.heap.size (fun k_ => some k_ ≠ (.slice Ao24 t539.length co24 : Value).ownBlock) (.slice Ao71 t561.length co71) t561):=⟨by (with_reducible repeat (first | apply Kd.R_alloc | apply Kd.R_drewN | apply Kd.R_drew));exact Kd.R_mono (Kd.R_far (p:=⟨gb568,5,none⟩) (Kd.R_far (p:=⟨gb568,4,none⟩) (Kd.R_far (p:=⟨gb568,3,none⟩) (Kd.R_far (p:=⟨gb568,2,none⟩) (Kd.R_far (p:=⟨gb568,1,none⟩) (Kd.R_far (p:=⟨gb568,0,none⟩) (Kd.R_types HO563.out BK568.out (by decide)) (fun _ hk => hk.2) (.float .f64 t559)) (fun _ hk => hk.2) (.bool t560)) (fun _ hk => hk.2) (.slice Ao71 t561.length co71)) (fun _ hk => hk.2) (.int .i64 t564)) (fun _ hk => hk.2) (.int .i64 t565)) (fun _ hk => hk.2) (.int .i64 t566)) (fun _ hk => hk.1.2)⟩
                have n2_ : Aside0 (((((((w68.setCell ⟨gb568,0,none⟩ (.float .f64 t559)).setCell ⟨gb568,1,none⟩ (.bool t560)).setCell ⟨gb568,2,none⟩ (.slice Ao71 t561.length co71)).setCell ⟨gb568,3,none⟩ (.int .i64 t564)).setCell ⟨gb568,4,none⟩ (.int .i64 t565)).setCell ⟨gb568,5,none⟩ (.int .i64 t566)).heap[gb546]? = some (.cells #[.float .f64 t537,.bool t538,.slice Ao24 t539.length co24,.int .i64 t542,.int .i64 t543,.int .i64 t544] 30 (0,0))):=⟨by (with_reducible repeat (first | refine blk_drewN ?_ _ | refine blk_drew ?_ | refine blk_alloc ?_ _));refine blk_far ?_ NB546_568.out _;(with_reducible repeat (first | refine blk_drewN ?_ _ | refine blk_drew ?_ | refine blk_alloc ?_ _));refine blk_far ?_ NB546_568.out _;(with_reducible repeat (first | refine blk_drewN ?_ _ | refine blk_drew ?_ | refine blk_alloc ?_ _));refine blk_far ?_ NB546_568.out _;(with_reducible repeat (first | refine blk_drewN ?_ _ | refine blk_drew ?_ | refine blk_alloc ?_ _));refine blk_far ?_ NB546_568.out _;(with_reducible repeat (first | refine blk_drewN ?_ _ | refine blk_drew ?_ | refine blk_alloc ?_ _));refine blk_far ?_ NB546_568.out _;(with_reducible repeat (first | refine blk_drewN ?_ _ | refine blk_drew ?_ | refine blk_alloc ?_ _));refine blk_far ?_ NB546_568.out _;(with_reducible repeat (first | refine blk_drewN ?_ _ | refine blk_drew ?_ | refine blk_alloc ?_ _));exact BK546.out⟩
                have n3_ : Aside0 (((((((w68.setCell ⟨gb568,0,none⟩ (.float .f64 t559)).setCell ⟨gb568,1,none⟩ (.bool t560)).setCell ⟨gb568,2,none⟩ (.slice Ao71 t561.length co71)).setCell ⟨gb568,3,none⟩ (.int .i64 t564)).setCell ⟨gb568,4,none⟩ (.int .i64 t565)).setCell ⟨gb568,5,none⟩ (.int .i64 t566)).heap[gb568]? = some (.cells #[.float .f64 t559,.bool t560,.slice Ao71 t561.length co71,.int .i64 t564,.int .i64 t565,.int .i64 t566] 30 (0,0))):=⟨by (with_reducible repeat (first | refine blk_drewN ?_ _ | refine blk_drew ?_ | refine blk_alloc ?_ _));refine blk_put (cs:=#[.float .f64 t559,.bool t560,.slice Ao71 t561.length co71,.int .i64 t564,.int .i64 t565,.int .i64 0]) ?_ 5 _ rfl;(with_reducible repeat (first | refine blk_drewN ?_ _ | refine blk_drew ?_ | refine blk_alloc ?_ _));refine blk_put (cs:=#[.float .f64 t559,.bool t560,.slice Ao71 t561.length co71,.int .i64 t564,.int .i64 0,.int .i64 0]) ?_ 4 _ rfl;(with_reducible repeat (first | refine blk_drewN ?_ _ | refine blk_drew ?_ | refine blk_alloc ?_ _));refine blk_put (cs:=#[.float .f64 t559,.bool t560,.slice Ao71 t561.length co71,.int .i64 0,.int .i64 0,.int .i64 0]) ?_ 3 _ rfl;(with_reducible repeat (first | refine blk_drewN ?_ _ | refine blk_drew ?_ | refine blk_alloc ?_ _));refine blk_put (cs:=#[.float .f64 t559,.bool t560,.slice none 0 0,.int .i64 0,.int .i64 0,.int .i64 0]) ?_ 2 _ rfl;(with_reducible repeat (first | refine blk_drewN ?_ _ | refine blk_drew ?_ | refine blk_alloc ?_ _));refine blk_put (cs:=#[.float .f64 t559,.bool false,.slice none 0 0,.int .i64 0,.int .i64 0,.int .i64 0]) ?_ 1 _ rfl;(with_reducible repeat (first | refine blk_drewN ?_ _ | refine blk_drew ?_ | refine blk_alloc ?_ _));refine blk_put (cs:=#[.float .f64 0,.bool false,.slice none 0 0,.int .i64 0,.int .i64 0,.int .i64 0]) ?_ 0 _ rfl;(with_reducible repeat (first | refine blk_drewN ?_ _ | refine blk_drew ?_ | refine blk_alloc ?_ _));exact BK568.out⟩
                have n4_ : Aside0 (Below w.heap.size w ((((((w68.setCell ⟨gb568,0,none⟩ (.float .f64 t559)).setCell ⟨gb568,1,none⟩ (.bool t560)).setCell ⟨gb568,2,none⟩ (.slice Ao71 t561.length co71)).setCell ⟨gb568,3,none⟩ (.int .i64 t564)).setCell ⟨gb568,4,none⟩ (.int .i64 t565)).setCell ⟨gb568,5,none⟩ (.int .i64 t566))):=⟨by repeat (first | (with_reducible first | exact HB.out | apply below_alloc | apply pw_below_drewN | apply below_drew1 | refine below_set ?_ GE546.out | refine below_set ?_ GE568.out) | exact HB.out)⟩
                (try clear HO_547002)
                (try clear HO563)
                (try clear BK546)
                (try clear BK568)
                (try clear HB)
                generalize ((((((w68.setCell ⟨gb568,0,none⟩ (.float .f64 t559)).setCell ⟨gb568,1,none⟩ (.bool t560)).setCell ⟨gb568,2,none⟩ (.slice Ao71 t561.length co71)).setCell ⟨gb568,3,none⟩ (.int .i64 t564)).setCell ⟨gb568,4,none⟩ (.int .i64 t565)).setCell ⟨gb568,5,none⟩ (.int .i64 t566)) = w97 at n0_ n1_ n2_ n3_ n4_ ⊢
                have HO_547002:=n0_
                have HO563:=n1_
                have BK546:=n2_
                have BK568:=n3_
                have HB:=n4_
                clear n0_ n1_ n2_ n3_ n4_
                have n0_:=Aside0.mk (Kd.R_drew HO_547002.out)
                have n1_:=Aside0.mk (Kd.R_drew HO563.out)
                have n2_:=Aside0.mk (blk_drew BK546.out)
                have n3_:=Aside0.mk (blk_drew BK568.out)
                have n4_:=Aside0.mk (below_drew1 HB.out)
                clear HO_547002
                clear HO563
                clear BK546
                clear BK568
                clear HB
                have HO_547002:=n0_
                have HO563:=n1_
                have BK546:=n2_
                have BK568:=n3_
                have HB:=n4_
                clear n0_ n1_ n2_ n3_ n4_
                refine start_ (n:=17) (S:=fun w' => True) (ds:=[]) #[false,false,false,false,false,false,false,false,false,false,false,false,false,false,false,false,false] (by kernel_rfl) rfl rfl trivial (fun hHeld => ?_);refine with_tabW humuslaw04_RowMakes.tab9 humuslaw04_RowMakes.bits9 (fun HT_ HW_ => ?_)
                generalize w97.drew = w98 at HO_547002 HO563 BK546 BK568 HB hHeld ⊢
                refine pure_ (i:=0) (N:=some 64) (v:=?_) (a':=?_) #[true,false,false,false,false,false,false,false,false,false,false,false,false,false,false,false,false] rfl rfl (any_of HT_.out (by kernel_rfl)) (fun _ _ _ h => h) (Or.inl ⟨by rfl,?_⟩) ?_ ?_
                rotate_left
                · intro w'
                  go_simp
                  with_reducible rfl
                rotate_left
                · simp only [Act.put,List.setIfInBounds_toArray,List.set_cons_zero,List.set_cons_succ,i64_w,i32_w]
                  rfl
                refine pure_ (i:=1) (N:=some 65) (v:=?_) (a':=?_) #[true,true,false,false,false,false,false,false,false,false,false,false,false,false,false,false,false] rfl rfl (any_of HT_.out (by kernel_rfl)) (fun _ _ _ h => h) (Or.inl ⟨by rfl,?_⟩) ?_ ?_
                rotate_left
                · intro w'
                  go_simp
                  with_reducible rfl
                rotate_left
                · simp only [Act.put,List.setIfInBounds_toArray,List.set_cons_zero,List.set_cons_succ,i64_w,i32_w]
                  rfl
                refine pure_ (i:=2) (N:=some 66) (v:=?_) (a':=?_) #[true,true,true,false,false,false,false,false,false,false,false,false,false,false,false,false,false] rfl rfl (any_of HT_.out (by kernel_rfl)) (fun _ _ _ h => h) (Or.inl ⟨by rfl,?_⟩) ?_ ?_
                rotate_left
                · intro w'
                  go_simp
                  with_reducible rfl
                rotate_left
                · simp only [Act.put,List.setIfInBounds_toArray,List.set_cons_zero,List.set_cons_succ,i64_w,i32_w]
                  rfl
                refine pure_ (i:=3) (N:=some 67) (v:=undef) (a':=?_) #[true,true,true,true,false,false,false,false,false,false,false,false,false,false,false,false,false] rfl rfl (any_of HT_.out (by kernel_rfl)) (fun _ _ _ h => h) (Or.inr ⟨by rfl,rfl⟩) ?_ ?_
                rotate_left
                · simp only [Act.put,List.setIfInBounds_toArray,List.set_cons_zero,List.set_cons_succ,i64_w,i32_w]
                  rfl
                refine pure_ (i:=4) (N:=some 68) (v:=undef) (a':=?_) #[true,true,true,true,true,false,false,false,false,false,false,false,false,false,false,false,false] rfl rfl (any_of HT_.out (by kernel_rfl)) (fun _ _ _ h => h) (Or.inr ⟨by rfl,rfl⟩) ?_ ?_
                rotate_left
                · simp only [Act.put,List.setIfInBounds_toArray,List.set_cons_zero,List.set_cons_succ,i64_w,i32_w]
                  rfl
                refine pure_ (i:=5) (N:=some 69) (v:=undef) (a':=?_) #[true,true,true,true,true,true,false,false,false,false,false,false,false,false,false,false,false] rfl rfl (any_of HT_.out (by kernel_rfl)) (fun _ _ _ h => h) (Or.inr ⟨by rfl,rfl⟩) ?_ ?_
                rotate_left
                · simp only [Act.put,List.setIfInBounds_toArray,List.set_cons_zero,List.set_cons_succ,i64_w,i32_w]
                  rfl
                refine pure_ (i:=6) (N:=some 70) (v:=undef) (a':=?_) #[true,true,true,true,true,true,true,false,false,false,false,false,false,false,false,false,false] rfl rfl (any_of HT_.out (by kernel_rfl)) (fun _ _ _ h => h) (Or.inr ⟨by rfl,rfl⟩) ?_ ?_
                rotate_left
                · simp only [Act.put,List.setIfInBounds_toArray,List.set_cons_zero,List.set_cons_succ,i64_w,i32_w]
                  rfl
                refine pure_ (i:=7) (N:=some 71) (v:=undef) (a':=?_) #[true,true,true,true,true,true,true,true,false,false,false,false,false,false,false,false,false] rfl rfl (any_of HT_.out (by kernel_rfl)) (fun _ _ _ h => h) (Or.inr ⟨by rfl,rfl⟩) ?_ ?_
                rotate_left
                · simp only [Act.put,List.setIfInBounds_toArray,List.set_cons_zero,List.set_cons_succ,i64_w,i32_w]
                  rfl
                refine pure_ (i:=8) (N:=some 72) (v:=?_) (a':=?_) #[true,true,true,true,true,true,true,true,true,false,false,false,false,false,false,false,false] rfl rfl (any_of HT_.out (by kernel_rfl)) (fun _ _ _ h => h) (Or.inl ⟨by rfl,?_⟩) ?_ ?_
                rotate_left
                · intro w'
                  go_simp
                  with_reducible rfl
                rotate_left
                · simp only [Act.put,List.setIfInBounds_toArray,List.set_cons_zero,List.set_cons_succ,i64_w,i32_w]
                  rfl
                refine pure_ (i:=9) (N:=some 73) (v:=?_) (a':=?_) #[true,true,true,true,true,true,true,true,true,true,false,false,false,false,false,false,false] rfl rfl (any_of HT_.out (by kernel_rfl)) (fun _ _ _ h => h) (Or.inl ⟨by rfl,?_⟩) ?_ ?_
                rotate_left
                · intro w'
                  go_simp
                  with_reducible rfl
                rotate_left
                · simp only [Act.put,List.setIfInBounds_toArray,List.set_cons_zero,List.set_cons_succ,i64_w,i32_w]
                  rfl
                refine pure_ (i:=10) (N:=some 74) (v:=undef) (a':=?_) #[true,true,true,true,true,true,true,true,true,true,true,false,false,false,false,false,false] rfl rfl (any_of HT_.out (by kernel_rfl)) (fun _ _ _ h => h) (Or.inr ⟨by rfl,rfl⟩) ?_ ?_
                rotate_left
                · simp only [Act.put,List.setIfInBounds_toArray,List.set_cons_zero,List.set_cons_succ,i64_w,i32_w]
                  rfl
                refine pure_ (i:=11) (N:=some 75) (v:=undef) (a':=?_) #[true,true,true,true,true,true,true,true,true,true,true,true,false,false,false,false,false] rfl rfl (any_of HT_.out (by kernel_rfl)) (fun _ _ _ h => h) (Or.inr ⟨by rfl,rfl⟩) ?_ ?_
                rotate_left
                · simp only [Act.put,List.setIfInBounds_toArray,List.set_cons_zero,List.set_cons_succ,i64_w,i32_w]
                  rfl
                refine pure_ (i:=12) (N:=some 76) (v:=?_) (a':=?_) #[true,true,true,true,true,true,true,true,true,true,true,true,true,false,false,false,false] rfl rfl (any_of HT_.out (by kernel_rfl)) (fun _ _ _ h => h) (Or.inl ⟨by rfl,?_⟩) ?_ ?_
                rotate_left
                · intro w'
                  go_simp
                  with_reducible rfl
                rotate_left
                · simp only [Act.put,List.setIfInBounds_toArray,List.set_cons_zero,List.set_cons_succ,i64_w,i32_w]
                  rfl
                refine pure_ (i:=13) (N:=some 77) (v:=?_) (a':=?_) #[true,true,true,true,true,true,true,true,true,true,true,true,true,true,false,false,false] rfl rfl (any_of HT_.out (by kernel_rfl)) (fun _ _ _ h => h) (Or.inl ⟨by rfl,?_⟩) ?_ ?_
                rotate_left
                · intro w'
                  go_simp
                  with_reducible rfl
                rotate_left
                · simp only [Act.put,List.setIfInBounds_toArray,List.set_cons_zero,List.set_cons_succ,i64_w,i32_w]
                  rfl
                refine pure_ (i:=14) (N:=some 78) (v:=undef) (a':=?_) #[true,true,true,true,true,true,true,true,true,true,true,true,true,true,true,false,false] rfl rfl (any_of HT_.out (by kernel_rfl)) (fun _ _ _ h => h) (Or.inr ⟨by rfl,rfl⟩) ?_ ?_
                rotate_left
                · simp only [Act.put,List.setIfInBounds_toArray,List.set_cons_zero,List.set_cons_succ,i64_w,i32_w]
                  rfl
                refine pure_ (i:=15) (N:=some 79) (v:=?_) (a':=?_) #[true,true,true,true,true,true,true,true,true,true,true,true,true,true,true,true,false] rfl rfl (any_of HT_.out (by kernel_rfl)) (fun _ _ _ h => h) (Or.inl ⟨by rfl,?_⟩) ?_ ?_
                rotate_left
                · intro w'
                  go_simp
                  with_reducible rfl
                rotate_left
                · simp only [Act.put,List.setIfInBounds_toArray,List.set_cons_zero,List.set_cons_succ,i64_w,i32_w]
                  rfl
                refine pure_ (i:=16) (N:=some 6) (v:=?_) (a':=?_) #[true,true,true,true,true,true,true,true,true,true,true,true,true,true,true,true,true] rfl rfl (any_of HT_.out (by kernel_rfl)) (fun _ _ _ h => h) (Or.inl ⟨by rfl,?_⟩) ?_ ?_
                rotate_left
                · intro w'
                  go_simp
                  with_reducible rfl
                rotate_left
                · simp only [Act.put,List.setIfInBounds_toArray,List.set_cons_zero,List.set_cons_succ,i64_w,i32_w]
                  rfl
                refine done_ (done_of HT_.out (by kernel_rfl)) ?_
                try go_wp2
                go_meet
                case rel => exact ⟨_,(false),(by first | rfl | (simp;done) | (simp [*];done)),H',⟨by have:=HJ19.out;first | omega | exact Nat.le_refl _⟩,⟨by (with_reducible repeat (first | apply Kd.R_alloc | apply Kd.R_drewN | apply Kd.R_drew));exact HO_547002.out⟩,⟨by (with_reducible repeat (first | apply Kd.R_alloc | apply Kd.R_drewN | apply Kd.R_drew));exact HO563.out⟩,⟨by (with_reducible repeat (first | refine blk_drewN ?_ _ | refine blk_drew ?_ | refine blk_alloc ?_ _));exact BK546.out⟩,⟨by (with_reducible repeat (first | refine blk_drewN ?_ _ | refine blk_drew ?_ | refine blk_alloc ?_ _));exact BK568.out⟩,⟨by repeat (first | (with_reducible first | exact HB.out | apply below_alloc | apply pw_below_drewN | apply below_drew1 | refine below_set ?_ GE546.out | refine below_set ?_ GE568.out) | exact HB.out)⟩⟩
            case rest =>
              clear HC65
              try clear p2
              try clear c3
              try clear c4
              try clear c7
              try clear c34
              try clear c37
              try clear c42
              try clear c72
              try clear c72b0
              try clear c72b1
              try clear c75
              obtain ⟨kq,x6_64,rfl,HA,HJ64,HO_547002,HO_569002,BK546,BK568,HB⟩:=hcut
              cases kq with
              | zero => exact absurd HA.out (by simp [humuslaw04_RowMakes.j4])
              | succ kj64 =>
                have H:=HA.out
                clear HA
                simp only [humuslaw04_RowMakes.j4] at H
                obtain rfl:=Option.some.inj H
                go_wp2
                go_ret
                exact ⟨by first | rfl | (simp [errW_none,errW_some] <;> rfl) | (simp [*,errW_none,errW_some] <;> rfl),by repeat (first | (with_reducible first | exact HB.out | apply below_alloc | apply pw_below_drewN | apply below_drew1 | refine below_set ?_ GE546.out | refine below_set ?_ GE568.out) | exact HB.out)⟩
end Go.Proofs.Ytdcllbhkjcdnoaa.P
set_option linter.unusedVariables false
namespace Go.Proofs.Ytdcllbhkjcdnoaa.P
open Go.RowKit Go.Proofs.Ytdcllbhkjcdnoaa Go.Proofs.Ytdcllbhkjcdnoaa.Mem Go.Proofs.Ytdcllbhkjcdnoaa.Pac Go.Proofs.YtdcllbhkjcdnoaaW.PrintWords Go.Proofs.YtdcllbhkjcdnoaaW.PrintLast
theorem rowMakes_j1 (ke x : Nat) (hk : ke < 18446744073709551616) {co : List Nat} (hl : co.length ≤ 4) : humuslaw04_RowMakes.j1 300 co x false (Flt.key ke) false (co.map Flt.val) 0 0 0 = some true := by
  have hm := mayRow_made ke hl
  have hkk := Flt.key_lt ke hk
  have hlm : (co.map Flt.val).length ≤ 4 := by rw [List.length_map]; exact hl
  have hP := row_Plus_ev (k := 299) (by omega) (ke := Flt.key ke) (de := false) (co := co.map Flt.val) (wr := 0) (ce := 0) (no := 0) x (by omega)
  rw [show (300 : Nat) = 299 + 1 from rfl]
  simp only [humuslaw04_RowMakes.j1]
  rw [if_neg (by decide)]
  by_cases hc : co = []
  · rw [if_neg (fun h => h.2 (by rw [hc]; rfl))] at hP
    rw [hP]
    simp only [Option.bind_some]
    rw [if_pos (by rw [hc]; rfl), if_pos trivial, Same04_ev (by decide) (by decide), sameRow_self]
    simp only [Option.bind_some]
    rw [if_pos trivial, awake04_ev (by omega)]
    rfl
  · have hc' : co.map Flt.val ≠ [] := fun h => hc (List.map_eq_nil_iff.1 h)
    rw [if_pos ⟨hm, hc'⟩] at hP
    rw [hP]
    simp only [Option.bind_some]
    rw [if_neg (by have := List.length_pos_iff.2 hc; omega), if_pos trivial, rplus_ev x hc' (by omega)]
    simp only [Option.bind_some]
    rw [Same04_ev (by rw [List.length_set]; omega) (by rw [List.length_set]; omega), sameRow_self]
    simp only [Option.bind_some]
    rw [if_pos trivial, May04_ev (by rw [List.length_set]; omega) hkk (by rw [List.length_set]; omega), mayRow_set hm]
    simp only [Option.bind_some]
    rw [if_pos trivial, awake04_ev (by omega)]
    rfl
theorem rowMakes_ev (ke x : Nat) (hk : ke < 18446744073709551616) (co : List Nat) : humuslaw04_RowMakes.f 300 ke co x = some true := by
  have hO := row_Of_ev (k := 300) (ke := ke) (co := co) (by omega)
  unfold humuslaw04_RowMakes.f
  by_cases hl : co.length > 4
  · rw [if_pos hl] at hO
    rw [hO]
    simp only [Option.bind_some]
    rw [if_pos (by omega), if_pos trivial, Same04_ev (by decide) (by decide), sameRow_self]
    simp only [Option.bind_some]
    rw [if_pos trivial, awake04_ev (by omega)]
    rfl
  · rw [if_neg hl] at hO
    have hl' : co.length ≤ 4 := by omega
    rw [hO]
    simp only [Option.bind_some]
    rw [if_neg (by omega), if_pos trivial, rof_ev (by omega) (by omega) hk]
    simp only [Option.bind_some]
    rw [Same04_ev (by rw [List.length_map]; omega) (by rw [List.length_map]; omega), sameRow_self]
    simp only [Option.bind_some]
    rw [if_pos trivial, May04_ev (by rw [List.length_map]; omega) (Flt.key_lt ke hk) (by rw [List.length_map]; omega), mayRow_made ke hl']
    exact rowMakes_j1 ke x hk hl'
theorem RowMakes_walk {w : World} (ke : Nat) (hk : (Lit.float .f64 ke).wf = true) (co : List Nat) (A : Option Addr) (c : Nat) (hc : co.length ≤ c) (hr : Kd.C Kd.f64 w A co.length co) (hg : ∀ x ∈ co, x < 18446744073709551616) (hm : co.length ≤ maxLen) (x : Nat) (hx : (Lit.float .f64 x).wf = true) :
    Calls Try.prog 8 #[.float .f64 ke, .slice A co.length c, .float .f64 x] w fun e w' => e = .returned (.bool true) ∧ Below w.heap.size w w' :=
  humuslaw04_RowMakes.calls 300 _ _ _ _ _ true w hr hc (rowMakes_ev ke x (by simpa [Lit.wf] using hk) co)
end Go.Proofs.Ytdcllbhkjcdnoaa.P
