/- Put together by wip/prune.py out of this claim's texts. -/
import Derived.Test.YtdcllbhkjcdnoaaMUndorecCodes5
import Derived.Test.YtdcllbhkjcdnoaaMUndorecCodes15
import Derived.Test.YtdcllbhkjcdnoaaMUndorecCodes16
import Derived.Test.YtdcllbhkjcdnoaaMUndorecCodes17
namespace Go.Proofs.Ytdcllbhkjcdnoaa.P
open Go.RowKit Go.Proofs.YtdcllbhkjcdnoaaW.PrintWords Go.Proofs.YtdcllbhkjcdnoaaW.PrintLast Go.Proofs.YtdcllbhkjcdnoaaW.PrintMore
attribute [local go_sem] max2_int min2_int max_two min_two max_three min_three max_four min_four   -- for this text's walks alone
attribute [local go_sem] run_store_float
set_option linter.unusedVariables false
set_option linter.unusedSimpArgs false
mutual
def humuslaw09_UndorecCodes.j2 : Nat → Bool → Option (Bool)
 | 0,_ => none
 | k + 1,x2 => some x2
def humuslaw09_UndorecCodes.j1 : Nat → Bool → Option (Bool)
 | 0,_ => none
 | k + 1,x2 => some x2
end
def humuslaw09_UndorecCodes.f (k : Nat) (a0_0 : Int) (a0_1 : Int) (a0_2 : Int) (a0_3 : Int) (a0_4 : Int) (a0_5 : Int) (a0_6 : Nat) (a0_7 : Bool) (l0_8 : List Nat) (a0_9 : Int) (a0_10 : Int) (a0_11 : Int) : Option (Bool):=if (l0_8.length : Int) > 100 then ((humuslaw09_awake.f k).bind fun t542 => (some t542)) else ((undorec_Encode.f k a0_0 a0_1 a0_2 a0_3 a0_4 a0_5 a0_6 a0_7 l0_8 a0_9 a0_10 a0_11).bind fun bt543 => ((undorec_Check.f k a0_0 a0_1 a0_2 a0_3 a0_4 a0_5 a0_6 a0_7 l0_8 a0_9 a0_10 a0_11).bind fun t547 => ((humusref09_May.f k a0_0 a0_1 a0_2 a0_3 a0_4 a0_5 a0_6 a0_7 l0_8 a0_9 a0_10 a0_11).bind fun t548 => (if ((t547 == 0) != t548) = true then (none) else ((humusref09_May.f k a0_0 a0_1 a0_2 a0_3 a0_4 a0_5 a0_6 a0_7 l0_8 a0_9 a0_10 a0_11).bind fun t549 => (if t549 = true then ((undorec_Decode.f k bt543.1).bind fun bt551 => (if bt543.2 = 0 then (if (bt543.1.length : Int) ≤ 66 then ((humusref09_Bytes.f k a0_0 a0_1 a0_2 a0_3 a0_4 a0_5 a0_6 a0_7 l0_8 a0_9 a0_10 a0_11).bind fun t567 => (if (strOfNums bt543.1).toList = (strOfNums t567).toList then (if bt551.2.2.2.2.2.2.2.2.2.2.2.2 = 0 then ((humusref09_Same.f k bt551.1 bt551.2.1 bt551.2.2.1 bt551.2.2.2.1 bt551.2.2.2.2.1 bt551.2.2.2.2.2.1 bt551.2.2.2.2.2.2.1 bt551.2.2.2.2.2.2.2.1 bt551.2.2.2.2.2.2.2.2.1 bt551.2.2.2.2.2.2.2.2.2.1 bt551.2.2.2.2.2.2.2.2.2.2.1 bt551.2.2.2.2.2.2.2.2.2.2.2.1 a0_0 a0_1 a0_2 a0_3 a0_4 a0_5 a0_6 a0_7 l0_8 a0_9 a0_10 a0_11).bind fun t570 => (if t570 = true then ((humuslaw09_awake.f k).bind fun t571 => (humuslaw09_UndorecCodes.j2 k t571)) else (none))) else (none)) else (none))) else (none)) else (none))) else (if bt543.2 = 1 then (if (bt543.1.length : Int) = 0 then ((humuslaw09_awake.f k).bind fun t550 => (humuslaw09_UndorecCodes.j1 k t550)) else (none)) else (none))))))))
def humuslaw09_UndorecCodes.T9 : Bool × List (List Nat × List Nat):=(true,[([],[]),([0],[0]),([1],[1]),([2],[2]),([3,2],[2,3]),([4,2],[2,4]),([2,5],[2,5]),([6,2],[6]),([7],[7]),([8,7],[7,8]),([7],[7]),([10,7,7],[7,10]),([11,7],[7,11]),([9,12,7],[7,9,12]),([7,13],[7,13]),([14,11],[14]),([15],[15]),([16,15],[15,16]),([15,17],[15,17]),([18,15],[18]),([19],[19]),([19],[19]),([20,21,19,19],[19,20,21]),([19,22],[19,22]),([23,22],[23]),([24,24],[24]),([24,25],[24,25]),([26,25,0,1,2,3,4,5,6,7,8,9,10,11,12,13,14,15,16,17,18,19,20,21,22,23,24,25,26],[26])])
def humuslaw09_UndorecCodes.B9 : List Nat:=[0,1,3,7,15,31,63,127,255,511,255,1279,3327,8191,16383,32767,65535,131071,262143,524287,1048575,1048575,4194303,8388607,16777215,33554431,67108863,134217727]
theorem humuslaw09_UndorecCodes.tab9 : rtab .any (opsOf Try.f11 9) = humuslaw09_UndorecCodes.T9:=by kernel_rfl
theorem humuslaw09_UndorecCodes.bits9 : waitsOk humuslaw09_UndorecCodes.T9.2 humuslaw09_UndorecCodes.B9 = true:=by kernel_rfl
set_option maxHeartbeats 8000000 in
set_option maxRecDepth 100000 in
theorem humuslaw09_UndorecCodes.calls (k : Nat) (a0_0 : Int) (a0_1 : Int) (a0_2 : Int) (a0_3 : Int) (a0_4 : Int) (a0_5 : Int) (a0_6 : Nat) (a0_7 : Bool) (A0_8 : Option Addr) (c0_8 : Nat) (l0_8 : List Nat) (a0_9 : Int) (a0_10 : Int) (a0_11 : Int) (r : Bool) (w : World) (hr0_8 : Kd.C Kd.f64 w A0_8 l0_8.length l0_8) (hc0_8 : l0_8.length ≤ c0_8) (h : humuslaw09_UndorecCodes.f k a0_0 a0_1 a0_2 a0_3 a0_4 a0_5 a0_6 a0_7 l0_8 a0_9 a0_10 a0_11 = some r) :
  Calls Try.prog 11 #[.agg #[.int .i64 a0_0,.int .i64 a0_1,.int .i64 a0_2,.int .i64 a0_3,.int .i64 a0_4,.int .i64 a0_5,.float .f64 a0_6,.bool a0_7,.slice A0_8 l0_8.length c0_8,.int .i64 a0_9,.int .i64 a0_10,.int .i64 a0_11]] w fun e w' => e = .returned (.bool r) ∧ Below w.heap.size w w':=by
 have hu32:=Try.underlying32
 have HR0_8:=Aside0.mk hr0_8
 have HC0_8:=Aside0.mk hc0_8
 clear hr0_8 hc0_8
 have HB:=Aside0.mk (Below.refl w.heap.size w)
 have H : (if (l0_8.length : Int) > 100 then ((humuslaw09_awake.f k).bind fun t542 => (some t542)) else ((undorec_Encode.f k a0_0 a0_1 a0_2 a0_3 a0_4 a0_5 a0_6 a0_7 l0_8 a0_9 a0_10 a0_11).bind fun bt543 => ((undorec_Check.f k a0_0 a0_1 a0_2 a0_3 a0_4 a0_5 a0_6 a0_7 l0_8 a0_9 a0_10 a0_11).bind fun t547 => ((humusref09_May.f k a0_0 a0_1 a0_2 a0_3 a0_4 a0_5 a0_6 a0_7 l0_8 a0_9 a0_10 a0_11).bind fun t548 => (if ((t547 == 0) != t548) = true then (none) else ((humusref09_May.f k a0_0 a0_1 a0_2 a0_3 a0_4 a0_5 a0_6 a0_7 l0_8 a0_9 a0_10 a0_11).bind fun t549 => (if t549 = true then ((undorec_Decode.f k bt543.1).bind fun bt551 => (if bt543.2 = 0 then (if (bt543.1.length : Int) ≤ 66 then ((humusref09_Bytes.f k a0_0 a0_1 a0_2 a0_3 a0_4 a0_5 a0_6 a0_7 l0_8 a0_9 a0_10 a0_11).bind fun t567 => (if (strOfNums bt543.1).toList = (strOfNums t567).toList then (if bt551.2.2.2.2.2.2.2.2.2.2.2.2 = 0 then ((humusref09_Same.f k bt551.1 bt551.2.1 bt551.2.2.1 bt551.2.2.2.1 bt551.2.2.2.2.1 bt551.2.2.2.2.2.1 bt551.2.2.2.2.2.2.1 bt551.2.2.2.2.2.2.2.1 bt551.2.2.2.2.2.2.2.2.1 bt551.2.2.2.2.2.2.2.2.2.1 bt551.2.2.2.2.2.2.2.2.2.2.1 bt551.2.2.2.2.2.2.2.2.2.2.2.1 a0_0 a0_1 a0_2 a0_3 a0_4 a0_5 a0_6 a0_7 l0_8 a0_9 a0_10 a0_11).bind fun t570 => (if t570 = true then ((humuslaw09_awake.f k).bind fun t571 => (humuslaw09_UndorecCodes.j2 k t571)) else (none))) else (none)) else (none))) else (none)) else (none))) else (if bt543.2 = 1 then (if (bt543.1.length : Int) = 0 then ((humuslaw09_awake.f k).bind fun t550 => (humuslaw09_UndorecCodes.j1 k t550)) else (none)) else (none))))))))) = some r:=h
 clear h
 by_cases c2 : (l0_8.length : Int) > 100
 ·rw [if_pos c2] at H
  have c2b0 : decide (100 < (l0_8.length : Int)) = true:=decide_eq_true c2
  have c2b1 : decide (100 < l0_8.length) = true:=decide_eq_true (by omega)
  clear c2
  replace H:=Option.bind_eq_some_iff.mp H
  obtain ⟨t542,A30,H⟩:=H
  replace H : (some t542) = some r:=H
  have A3:=Aside0.mk A30
  clear A30
  obtain rfl:=Option.some.inj H
  go_enter Try.func11,Try.ntmps11
  go_wp2_with (first | ((with_reducible refine gate_dst (N:=1) rfl ?_);(try (refine gate_guard (by rfl) ?_;dsimp only));refine box_event ?hg (N:=1) ?hd (cs:=#[.int .i64 a0_0,.int .i64 a0_1,.int .i64 a0_2,.int .i64 a0_3,.int .i64 a0_4,.int .i64 a0_5,.float .f64 a0_6,.bool a0_7,.slice A0_8 l0_8.length c0_8,.int .i64 a0_9,.int .i64 a0_10,.int .i64 a0_11]) (t:=32) ?hr ?_;(case hd => rfl);(case hg => rfl);(case hr => first | (go_simp;done) | (go_simp;rfl));intro gb541 hg w4 hbox hb;have n0_:=Aside0.mk (below_step (by repeat (first | (with_reducible first | exact HB.out | apply below_alloc | apply pw_below_drewN | apply below_drew1) | exact HB.out)) hb);have n1_:=Aside0.mk (hbox);have n2_:=Aside0.mk ((by rw [hg];exact (below_size (by repeat (first | (with_reducible first | exact HB.out | apply below_alloc | apply pw_below_drewN | apply below_drew1) | exact HB.out))) : w.heap.size ≤ gb541));have n3_:=Aside0.mk ((by rw [hg];exact (below_size (by repeat (first | (with_reducible first | exact HB.out | apply below_alloc | apply pw_below_drewN | apply below_drew1) | exact HB.out))) : w.heap.size ≤ gb541));clear HB;have HB:=n0_;have BK541:=n1_;have GW541:=n2_;have GE541:=n3_;clear n0_ n1_ n2_ n3_;clear hb hbox hg;obtain ⟨hcz5_0,hcz5_1,hcz5_2,hcz5_3,hcz5_4,hcz5_5,hcz5_6,hcz5_7,hcz5_8,hcz5_9,hcz5_10,hcz5_11⟩:=blkc_12 BK541.out;obtain ⟨hfz5_0,hfz5_1,hfz5_2,hfz5_3,hfz5_4,hfz5_5,hfz5_6,hfz5_7,hfz5_8,hfz5_9,hfz5_10⟩:=blkz_11 BK541.out;have hfz5_11:=blk_frozen BK541.out 11) | ((with_reducible refine gate_callee (f:=45) rfl ?_);refine goesL_ (some 12) rfl rfl Try.func45 (by kernel_rfl) rfl #[] rfl (by (try simp only [List.map_toArray,List.map_cons,List.map_nil]);first | done | rfl | (simp only [List.length_drop,List.length_take];rfl)) ?_;(with_reducible refine (humuslaw09_awake.calls k  t542 _ A3.out).mono ?_);rintro e w6 ⟨rfl,hb⟩;refine ⟨_,rfl,?_⟩;have n0_:=Aside0.mk (blk_below (g:=gb541) (o:=.cells #[.int .i64 a0_0,.int .i64 a0_1,.int .i64 a0_2,.int .i64 a0_3,.int .i64 a0_4,.int .i64 a0_5,.float .f64 a0_6,.bool a0_7,.slice A0_8 l0_8.length c0_8,.int .i64 a0_9,.int .i64 a0_10,.int .i64 a0_11] 32 (0,0)) (by (with_reducible repeat (first | refine blk_drewN ?_ _ | refine blk_drew ?_ | refine blk_alloc ?_ _));exact BK541.out) hb);have n1_:=Aside0.mk (below_step (by repeat (first | (with_reducible first | exact HB.out | apply below_alloc | apply pw_below_drewN | apply below_drew1 | refine below_set ?_ GE541.out) | exact HB.out)) hb);clear BK541;clear HB;have BK541:=n0_;have HB:=n1_;clear n0_ n1_;(try clear hb);(try clear hb2);(try clear hk);(try clear hi)))
  go_ret
  exact ⟨by first | rfl | (simp [errW_none,errW_some] <;> rfl) | (simp [*,errW_none,errW_some] <;> rfl),by repeat (first | (with_reducible first | exact HB.out | apply below_alloc | apply pw_below_drewN | apply below_drew1 | refine below_set ?_ GE541.out) | exact HB.out)⟩
 ·rw [if_neg c2] at H
  have c2b0 : decide (100 < (l0_8.length : Int)) = false:=decide_eq_false c2
  have c2b1 : decide (100 < l0_8.length) = false:=decide_eq_false (by omega)
  clear c2
  replace H:=Option.bind_eq_some_iff.mp H
  obtain ⟨⟨t543,t546⟩,A70,H⟩:=H
  replace H : ((undorec_Check.f k a0_0 a0_1 a0_2 a0_3 a0_4 a0_5 a0_6 a0_7 l0_8 a0_9 a0_10 a0_11).bind fun t547 => ((humusref09_May.f k a0_0 a0_1 a0_2 a0_3 a0_4 a0_5 a0_6 a0_7 l0_8 a0_9 a0_10 a0_11).bind fun t548 => (if ((t547 == 0) != t548) = true then (none) else ((humusref09_May.f k a0_0 a0_1 a0_2 a0_3 a0_4 a0_5 a0_6 a0_7 l0_8 a0_9 a0_10 a0_11).bind fun t549 => (if t549 = true then ((undorec_Decode.f k t543).bind fun bt551 => (if t546 = 0 then (if (t543.length : Int) ≤ 66 then ((humusref09_Bytes.f k a0_0 a0_1 a0_2 a0_3 a0_4 a0_5 a0_6 a0_7 l0_8 a0_9 a0_10 a0_11).bind fun t567 => (if (strOfNums t543).toList = (strOfNums t567).toList then (if bt551.2.2.2.2.2.2.2.2.2.2.2.2 = 0 then ((humusref09_Same.f k bt551.1 bt551.2.1 bt551.2.2.1 bt551.2.2.2.1 bt551.2.2.2.2.1 bt551.2.2.2.2.2.1 bt551.2.2.2.2.2.2.1 bt551.2.2.2.2.2.2.2.1 bt551.2.2.2.2.2.2.2.2.1 bt551.2.2.2.2.2.2.2.2.2.1 bt551.2.2.2.2.2.2.2.2.2.2.1 bt551.2.2.2.2.2.2.2.2.2.2.2.1 a0_0 a0_1 a0_2 a0_3 a0_4 a0_5 a0_6 a0_7 l0_8 a0_9 a0_10 a0_11).bind fun t570 => (if t570 = true then ((humuslaw09_awake.f k).bind fun t571 => (humuslaw09_UndorecCodes.j2 k t571)) else (none))) else (none)) else (none))) else (none)) else (none))) else (if t546 = 1 then (if (t543.length : Int) = 0 then ((humuslaw09_awake.f k).bind fun t550 => (humuslaw09_UndorecCodes.j1 k t550)) else (none)) else (none))))))) = some r:=H
  have A7:=Aside0.mk A70
  clear A70
  replace H:=Option.bind_eq_some_iff.mp H
  obtain ⟨t547,A80,H⟩:=H
  replace H : ((humusref09_May.f k a0_0 a0_1 a0_2 a0_3 a0_4 a0_5 a0_6 a0_7 l0_8 a0_9 a0_10 a0_11).bind fun t548 => (if ((t547 == 0) != t548) = true then (none) else ((humusref09_May.f k a0_0 a0_1 a0_2 a0_3 a0_4 a0_5 a0_6 a0_7 l0_8 a0_9 a0_10 a0_11).bind fun t549 => (if t549 = true then ((undorec_Decode.f k t543).bind fun bt551 => (if t546 = 0 then (if (t543.length : Int) ≤ 66 then ((humusref09_Bytes.f k a0_0 a0_1 a0_2 a0_3 a0_4 a0_5 a0_6 a0_7 l0_8 a0_9 a0_10 a0_11).bind fun t567 => (if (strOfNums t543).toList = (strOfNums t567).toList then (if bt551.2.2.2.2.2.2.2.2.2.2.2.2 = 0 then ((humusref09_Same.f k bt551.1 bt551.2.1 bt551.2.2.1 bt551.2.2.2.1 bt551.2.2.2.2.1 bt551.2.2.2.2.2.1 bt551.2.2.2.2.2.2.1 bt551.2.2.2.2.2.2.2.1 bt551.2.2.2.2.2.2.2.2.1 bt551.2.2.2.2.2.2.2.2.2.1 bt551.2.2.2.2.2.2.2.2.2.2.1 bt551.2.2.2.2.2.2.2.2.2.2.2.1 a0_0 a0_1 a0_2 a0_3 a0_4 a0_5 a0_6 a0_7 l0_8 a0_9 a0_10 a0_11).bind fun t570 => (if t570 = true then ((humuslaw09_awake.f k).bind fun t571 => (humuslaw09_UndorecCodes.j2 k t571)) else (none))) else (none)) else (none))) else (none)) else (none))) else (if t546 = 1 then (if (t543.length : Int) = 0 then ((humuslaw09_awake.f k).bind fun t550 => (humuslaw09_UndorecCodes.j1 k t550)) else (none)) else (none)))))) = some r:=H
  have A8:=Aside0.mk A80
  clear A80
  replace H:=Option.bind_eq_some_iff.mp H
  obtain ⟨t548,A90,H⟩:=H
  replace H : (if ((t547 == 0) != t548) = true then (none) else ((humusref09_May.f k a0_0 a0_1 a0_2 a0_3 a0_4 a0_5 a0_6 a0_7 l0_8 a0_9 a0_10 a0_11).bind fun t549 => (if t549 = true then ((undorec_Decode.f k t543).bind fun bt551 => (if t546 = 0 then (if (t543.length : Int) ≤ 66 then ((humusref09_Bytes.f k a0_0 a0_1 a0_2 a0_3 a0_4 a0_5 a0_6 a0_7 l0_8 a0_9 a0_10 a0_11).bind fun t567 => (if (strOfNums t543).toList = (strOfNums t567).toList then (if bt551.2.2.2.2.2.2.2.2.2.2.2.2 = 0 then ((humusref09_Same.f k bt551.1 bt551.2.1 bt551.2.2.1 bt551.2.2.2.1 bt551.2.2.2.2.1 bt551.2.2.2.2.2.1 bt551.2.2.2.2.2.2.1 bt551.2.2.2.2.2.2.2.1 bt551.2.2.2.2.2.2.2.2.1 bt551.2.2.2.2.2.2.2.2.2.1 bt551.2.2.2.2.2.2.2.2.2.2.1 bt551.2.2.2.2.2.2.2.2.2.2.2.1 a0_0 a0_1 a0_2 a0_3 a0_4 a0_5 a0_6 a0_7 l0_8 a0_9 a0_10 a0_11).bind fun t570 => (if t570 = true then ((humuslaw09_awake.f k).bind fun t571 => (humuslaw09_UndorecCodes.j2 k t571)) else (none))) else (none)) else (none))) else (none)) else (none))) else (if t546 = 1 then (if (t543.length : Int) = 0 then ((humuslaw09_awake.f k).bind fun t550 => (humuslaw09_UndorecCodes.j1 k t550)) else (none)) else (none))))) = some r:=H
  have A9:=Aside0.mk A90
  clear A90
  by_cases c10 : ((t547 == 0) != t548) = true
  ·rw [if_pos c10] at H
   exact absurd H (by simp)
  ·rw [if_neg c10] at H
   have c10b0 : ((t547 == 0) != t548) = false:=by simpa using c10
   (try (have c10b1 : decide ((t547 == 0) = t548) = true:=by simpa using c10))
   (try (have c10b2 : ((t547 == 0) == t548) = true:=by simpa using c10))
   clear c10
   replace H:=Option.bind_eq_some_iff.mp H
   obtain ⟨t549,A110,H⟩:=H
   replace H : (if t549 = true then ((undorec_Decode.f k t543).bind fun bt551 => (if t546 = 0 then (if (t543.length : Int) ≤ 66 then ((humusref09_Bytes.f k a0_0 a0_1 a0_2 a0_3 a0_4 a0_5 a0_6 a0_7 l0_8 a0_9 a0_10 a0_11).bind fun t567 => (if (strOfNums t543).toList = (strOfNums t567).toList then (if bt551.2.2.2.2.2.2.2.2.2.2.2.2 = 0 then ((humusref09_Same.f k bt551.1 bt551.2.1 bt551.2.2.1 bt551.2.2.2.1 bt551.2.2.2.2.1 bt551.2.2.2.2.2.1 bt551.2.2.2.2.2.2.1 bt551.2.2.2.2.2.2.2.1 bt551.2.2.2.2.2.2.2.2.1 bt551.2.2.2.2.2.2.2.2.2.1 bt551.2.2.2.2.2.2.2.2.2.2.1 bt551.2.2.2.2.2.2.2.2.2.2.2.1 a0_0 a0_1 a0_2 a0_3 a0_4 a0_5 a0_6 a0_7 l0_8 a0_9 a0_10 a0_11).bind fun t570 => (if t570 = true then ((humuslaw09_awake.f k).bind fun t571 => (humuslaw09_UndorecCodes.j2 k t571)) else (none))) else (none)) else (none))) else (none)) else (none))) else (if t546 = 1 then (if (t543.length : Int) = 0 then ((humuslaw09_awake.f k).bind fun t550 => (humuslaw09_UndorecCodes.j1 k t550)) else (none)) else (none))) = some r:=H
   have A11:=Aside0.mk A110
   clear A110
   by_cases c12 : t549 = true
   ·subst c12
    have H1 : ((undorec_Decode.f k t543).bind fun bt551 => (if t546 = 0 then (if (t543.length : Int) ≤ 66 then ((humusref09_Bytes.f k a0_0 a0_1 a0_2 a0_3 a0_4 a0_5 a0_6 a0_7 l0_8 a0_9 a0_10 a0_11).bind fun t567 => (if (strOfNums t543).toList = (strOfNums t567).toList then (if bt551.2.2.2.2.2.2.2.2.2.2.2.2 = 0 then ((humusref09_Same.f k bt551.1 bt551.2.1 bt551.2.2.1 bt551.2.2.2.1 bt551.2.2.2.2.1 bt551.2.2.2.2.2.1 bt551.2.2.2.2.2.2.1 bt551.2.2.2.2.2.2.2.1 bt551.2.2.2.2.2.2.2.2.1 bt551.2.2.2.2.2.2.2.2.2.1 bt551.2.2.2.2.2.2.2.2.2.2.1 bt551.2.2.2.2.2.2.2.2.2.2.2.1 a0_0 a0_1 a0_2 a0_3 a0_4 a0_5 a0_6 a0_7 l0_8 a0_9 a0_10 a0_11).bind fun t570 => (if t570 = true then ((humuslaw09_awake.f k).bind fun t571 => (humuslaw09_UndorecCodes.j2 k t571)) else (none))) else (none)) else (none))) else (none)) else (none))) = some r:=by rw [if_pos rfl] at H;exact H
    clear H
    have H:=H1
    clear H1
    replace H:=Option.bind_eq_some_iff.mp H
    obtain ⟨⟨t551,t552,t553,t554,t555,t556,t557,t558,t559,t562,t563,t564,t565⟩,A130,H⟩:=H
    replace H : (if t546 = 0 then (if (t543.length : Int) ≤ 66 then ((humusref09_Bytes.f k a0_0 a0_1 a0_2 a0_3 a0_4 a0_5 a0_6 a0_7 l0_8 a0_9 a0_10 a0_11).bind fun t567 => (if (strOfNums t543).toList = (strOfNums t567).toList then (if t565 = 0 then ((humusref09_Same.f k t551 t552 t553 t554 t555 t556 t557 t558 t559 t562 t563 t564 a0_0 a0_1 a0_2 a0_3 a0_4 a0_5 a0_6 a0_7 l0_8 a0_9 a0_10 a0_11).bind fun t570 => (if t570 = true then ((humuslaw09_awake.f k).bind fun t571 => (humuslaw09_UndorecCodes.j2 k t571)) else (none))) else (none)) else (none))) else (none)) else (none)) = some r:=H
    have A13:=Aside0.mk A130
    clear A130
    have HC14:=Aside0.mk H
    clear H
    go_enter Try.func11,Try.ntmps11
    try go_wp2_with (first | ((with_reducible refine gate_dst (N:=1) rfl ?_);(try (refine gate_guard (by rfl) ?_;dsimp only));refine box_event ?hg (N:=1) ?hd (cs:=#[.int .i64 a0_0,.int .i64 a0_1,.int .i64 a0_2,.int .i64 a0_3,.int .i64 a0_4,.int .i64 a0_5,.float .f64 a0_6,.bool a0_7,.slice A0_8 l0_8.length c0_8,.int .i64 a0_9,.int .i64 a0_10,.int .i64 a0_11]) (t:=32) ?hr ?_;(case hd => rfl);(case hg => rfl);(case hr => first | (go_simp;done) | (go_simp;rfl));intro gb541 hg w15 hbox hb;have n0_:=Aside0.mk (below_step (by repeat (first | (with_reducible first | exact HB.out | apply below_alloc | apply pw_below_drewN | apply below_drew1) | exact HB.out)) hb);have n1_:=Aside0.mk (hbox);have n2_:=Aside0.mk ((by rw [hg];exact (below_size (by repeat (first | (with_reducible first | exact HB.out | apply below_alloc | apply pw_below_drewN | apply below_drew1) | exact HB.out))) : w.heap.size ≤ gb541));have n3_:=Aside0.mk ((by rw [hg];exact (below_size (by repeat (first | (with_reducible first | exact HB.out | apply below_alloc | apply pw_below_drewN | apply below_drew1) | exact HB.out))) : w.heap.size ≤ gb541));clear HB;have HB:=n0_;have BK541:=n1_;have GW541:=n2_;have GE541:=n3_;clear n0_ n1_ n2_ n3_;clear hb hbox hg;obtain ⟨hcz16_0,hcz16_1,hcz16_2,hcz16_3,hcz16_4,hcz16_5,hcz16_6,hcz16_7,hcz16_8,hcz16_9,hcz16_10,hcz16_11⟩:=blkc_12 BK541.out;obtain ⟨hfz16_0,hfz16_1,hfz16_2,hfz16_3,hfz16_4,hfz16_5,hfz16_6,hfz16_7,hfz16_8,hfz16_9,hfz16_10⟩:=blkz_11 BK541.out;have hfz16_11:=blk_frozen BK541.out 11) | ((with_reducible refine gate_callee (f:=46) rfl ?_);refine goesL_ (some 15) rfl rfl Try.func46 (by kernel_rfl) rfl #[.agg #[.int .i64 a0_0,.int .i64 a0_1,.int .i64 a0_2,.int .i64 a0_3,.int .i64 a0_4,.int .i64 a0_5,.float .f64 a0_6,.bool a0_7,.slice A0_8 l0_8.length c0_8,.int .i64 a0_9,.int .i64 a0_10,.int .i64 a0_11]] rfl (by (try simp only [List.map_toArray,List.map_cons,List.map_nil]);first | done | rfl | (simp only [List.length_drop,List.length_take];rfl)) ?_;(with_reducible refine (undorec_Encode.calls k a0_0 a0_1 a0_2 a0_3 a0_4 a0_5 a0_6 a0_7 _ _ l0_8 a0_9 a0_10 a0_11 t543 t546 _ ?side1 ?side2 A7.out).mono ?_);(case side1 => repeat (first | exact (Kd.C_below HR0_8.out HB.out) | (with_reducible refine Kd.C_alloc ?_ _) | (with_reducible refine Kd.C_drewN ?_ _) | (with_reducible refine Kd.C_drew ?_)));(case side2 => exact HC0_8.out);rintro e w17 ⟨v544,rfl,ho0,hb⟩;refine ⟨_,rfl,?_⟩;have n0_:=Aside0.mk (Kd.R_lower ho0 (below_size (by repeat (first | (with_reducible first | exact HB.out | apply below_alloc | apply pw_below_drewN | apply below_drew1 | refine below_set ?_ GE541.out) | exact HB.out))));have n1_:=Aside0.mk (blk_below (g:=gb541) (o:=.cells #[.int .i64 a0_0,.int .i64 a0_1,.int .i64 a0_2,.int .i64 a0_3,.int .i64 a0_4,.int .i64 a0_5,.float .f64 a0_6,.bool a0_7,.slice A0_8 l0_8.length c0_8,.int .i64 a0_9,.int .i64 a0_10,.int .i64 a0_11] 32 (0,0)) (by (with_reducible repeat (first | refine blk_drewN ?_ _ | refine blk_drew ?_ | refine blk_alloc ?_ _));exact BK541.out) hb);have n2_:=Aside0.mk (below_step (by repeat (first | (with_reducible first | exact HB.out | apply below_alloc | apply pw_below_drewN | apply below_drew1 | refine below_set ?_ GE541.out) | exact HB.out)) hb);clear BK541;clear HB;have HO545:=n0_;have BK541:=n1_;have HB:=n2_;clear n0_ n1_ n2_;(try clear hb);(try clear hb2);(try clear hk);(try clear hi);(try clear ho0)))
    have n0_:=Aside0.mk (Kd.R_drew HO545.out)
    have n1_:=Aside0.mk (blk_drew BK541.out)
    have n2_:=Aside0.mk (below_drew1 HB.out)
    clear HO545
    clear BK541
    clear HB
    have HO545:=n0_
    have BK541:=n1_
    have HB:=n2_
    clear n0_ n1_ n2_
    refine start_ (n:=6) (S:=fun w' => w'.cell? ⟨gb541,0,none⟩ = some (.int .i64 a0_0) ∧ w'.cell? ⟨gb541,1,none⟩ = some (.int .i64 a0_1) ∧ w'.cell? ⟨gb541,2,none⟩ = some (.int .i64 a0_2) ∧ w'.cell? ⟨gb541,3,none⟩ = some (.int .i64 a0_3) ∧ w'.cell? ⟨gb541,4,none⟩ = some (.int .i64 a0_4) ∧ w'.cell? ⟨gb541,5,none⟩ = some (.int .i64 a0_5) ∧ w'.cell? ⟨gb541,6,none⟩ = some (.float .f64 a0_6) ∧ w'.cell? ⟨gb541,7,none⟩ = some (.bool a0_7) ∧ w'.cell? ⟨gb541,8,none⟩ = some (.slice A0_8 l0_8.length c0_8) ∧ w'.cell? ⟨gb541,9,none⟩ = some (.int .i64 a0_9) ∧ w'.cell? ⟨gb541,10,none⟩ = some (.int .i64 a0_10) ∧ w'.cell? ⟨gb541,11,none⟩ = some (.int .i64 a0_11)) (ds:=[4]) #[ff,ff,ff,ff,ff,ff] (by kernel_rfl) rfl rfl ⟨(blk_cell BK541.out 0).trans rfl,(blk_cell BK541.out 1).trans rfl,(blk_cell BK541.out 2).trans rfl,(blk_cell BK541.out 3).trans rfl,(blk_cell BK541.out 4).trans rfl,(blk_cell BK541.out 5).trans rfl,(blk_cell BK541.out 6).trans rfl,(blk_cell BK541.out 7).trans rfl,(blk_cell BK541.out 8).trans rfl,(blk_cell BK541.out 9).trans rfl,(blk_cell BK541.out 10).trans rfl,(blk_cell BK541.out 11).trans rfl⟩ (fun hHeld => ?_)
    generalize w17.drew = w18 at HO545 BK541 HB hHeld ⊢
    refine take_ (i:=0) (N:=some 18) (v:=?_) (a':=?_) #[tt,ff,ff,ff,ff,ff] rfl rfl (by kernel_rfl) (fun _ _ _ h => h) (Or.inl ⟨by rfl,?_⟩) hHeld ?_ ?_
    rotate_left
    ·rintro w' ⟨s0,s1,s2,s3,s4,s5,s6,s7,s8,s9,s10,s11⟩
     go_simp
     with_reducible rfl
    rotate_left
    ·simp only [Act.put,q1_,q2_,q3_,i64_w,i32_w]
     rfl
    refine take_ (i:=3) (N:=some 21) (v:=?_) (a':=?_) #[tt,ff,ff,tt,ff,ff] rfl rfl (by kernel_rfl) (fun _ _ _ h => h) (Or.inl ⟨by rfl,?_⟩) hHeld ?_ ?_
    rotate_left
    ·rintro w' ⟨s0,s1,s2,s3,s4,s5,s6,s7,s8,s9,s10,s11⟩
     go_simp
     with_reducible rfl
    rotate_left
    ·simp only [Act.put,q1_,q2_,q3_,i64_w,i32_w]
     rfl
    refine one_ (i:=1) (N:=some 19) #[tt,tt,ff,tt,ff,ff] rfl rfl (by kernel_rfl) (by decide) (fun K hK => ?_)
    refine goes_ Try.func47 (by kernel_rfl) rfl #[.agg #[.int .i64 a0_0,.int .i64 a0_1,.int .i64 a0_2,.int .i64 a0_3,.int .i64 a0_4,.int .i64 a0_5,.float .f64 a0_6,.bool a0_7,.slice A0_8 l0_8.length c0_8,.int .i64 a0_9,.int .i64 a0_10,.int .i64 a0_11]] (by rfl) rfl rfl (by (try simp only [List.map_toArray,List.map_cons,List.map_nil]);first | done | rfl | (simp only [List.length_drop,List.length_take];rfl)) ?_
    with_reducible refine (undorec_Check.calls k a0_0 a0_1 a0_2 a0_3 a0_4 a0_5 a0_6 a0_7 _ _ l0_8 a0_9 a0_10 a0_11 t547 _ ?side1 ?side2 A8.out).mono ?_
    (case side1 => repeat (first | exact (Kd.C_below HR0_8.out HB.out) | (with_reducible refine Kd.C_alloc ?_ _) | (with_reducible refine Kd.C_drewN ?_ _) | (with_reducible refine Kd.C_drew ?_)))
    (case side2 => exact HC0_8.out)
    rintro e w19 ⟨rfl,hb⟩
    refine ⟨_,rfl,?_⟩
    have n0_:=Aside0.mk (Kd.R_below (by (with_reducible repeat (first | apply Kd.R_alloc | apply Kd.R_drewN | apply Kd.R_drew));exact HO545.out) hb)
    have n1_:=Aside0.mk (blk_below (g:=gb541) (o:=.cells #[.int .i64 a0_0,.int .i64 a0_1,.int .i64 a0_2,.int .i64 a0_3,.int .i64 a0_4,.int .i64 a0_5,.float .f64 a0_6,.bool a0_7,.slice A0_8 l0_8.length c0_8,.int .i64 a0_9,.int .i64 a0_10,.int .i64 a0_11] 32 (0,0)) (by (with_reducible repeat (first | refine blk_drewN ?_ _ | refine blk_drew ?_ | refine blk_alloc ?_ _));exact BK541.out) hb)
    have n2_:=Aside0.mk (below_step (by repeat (first | (with_reducible first | exact HB.out | apply below_alloc | apply pw_below_drewN | apply below_drew1 | refine below_set ?_ GE541.out) | exact HB.out)) hb)
    clear HO545
    clear BK541
    clear HB
    have HO545:=n0_
    have BK541:=n1_
    have HB:=n2_
    clear n0_ n1_ n2_
    (try clear hb)
    (try clear hb2)
    (try clear hk)
    (try clear hi)
    refine hK.out _ _ ⟨(blk_cell BK541.out 0).trans rfl,(blk_cell BK541.out 1).trans rfl,(blk_cell BK541.out 2).trans rfl,(blk_cell BK541.out 3).trans rfl,(blk_cell BK541.out 4).trans rfl,(blk_cell BK541.out 5).trans rfl,(blk_cell BK541.out 6).trans rfl,(blk_cell BK541.out 7).trans rfl,(blk_cell BK541.out 8).trans rfl,(blk_cell BK541.out 9).trans rfl,(blk_cell BK541.out 10).trans rfl,(blk_cell BK541.out 11).trans rfl⟩ (fun hHeld => ?_)
    clear hK K
    refine norm_ (a':=?_) ?_ ?_
    rotate_left
    ·show Act.put _ (some 19) _ = _
     simp only [Act.put,q1_,q2_,q3_,i64_w,i32_w]
     rfl
    refine pure_ (i:=2) (N:=some 20) (v:=?_) (a':=?_) #[tt,tt,tt,tt,ff,ff] rfl rfl (by kernel_rfl) (fun _ _ _ h => h) (Or.inl ⟨by rfl,?_⟩) ?_ ?_
    rotate_left
    ·intro w'
     go_simp
     with_reducible rfl
    rotate_left
    ·simp only [Act.put,q1_,q2_,q3_,i64_w,i32_w]
     rfl
    refine last_ (i:=4) (N:=some 22) #[tt,tt,tt,tt,tt,ff] rfl rfl (by kernel_rfl) (by decide) (fun K hK => ?_)
    refine goes_ Try.func48 (by kernel_rfl) rfl #[.agg #[.int .i64 a0_0,.int .i64 a0_1,.int .i64 a0_2,.int .i64 a0_3,.int .i64 a0_4,.int .i64 a0_5,.float .f64 a0_6,.bool a0_7,.slice A0_8 l0_8.length c0_8,.int .i64 a0_9,.int .i64 a0_10,.int .i64 a0_11]] (by rfl) rfl rfl (by (try simp only [List.map_toArray,List.map_cons,List.map_nil]);first | done | rfl | (simp only [List.length_drop,List.length_take];rfl)) ?_
    with_reducible refine (humusref09_May.calls k a0_0 a0_1 a0_2 a0_3 a0_4 a0_5 a0_6 a0_7 _ _ l0_8 a0_9 a0_10 a0_11 t548 _ ?side1 ?side2 A9.out).mono ?_
    (case side1 => repeat (first | exact (Kd.C_below HR0_8.out HB.out) | (with_reducible refine Kd.C_alloc ?_ _) | (with_reducible refine Kd.C_drewN ?_ _) | (with_reducible refine Kd.C_drew ?_)))
    (case side2 => exact HC0_8.out)
    rintro e w20 ⟨rfl,hb⟩
    refine ⟨_,rfl,?_⟩
    have n0_:=Aside0.mk (Kd.R_below (by (with_reducible repeat (first | apply Kd.R_alloc | apply Kd.R_drewN | apply Kd.R_drew));exact HO545.out) hb)
    have n1_:=Aside0.mk (blk_below (g:=gb541) (o:=.cells #[.int .i64 a0_0,.int .i64 a0_1,.int .i64 a0_2,.int .i64 a0_3,.int .i64 a0_4,.int .i64 a0_5,.float .f64 a0_6,.bool a0_7,.slice A0_8 l0_8.length c0_8,.int .i64 a0_9,.int .i64 a0_10,.int .i64 a0_11] 32 (0,0)) (by (with_reducible repeat (first | refine blk_drewN ?_ _ | refine blk_drew ?_ | refine blk_alloc ?_ _));exact BK541.out) hb)
    have n2_:=Aside0.mk (below_step (by repeat (first | (with_reducible first | exact HB.out | apply below_alloc | apply pw_below_drewN | apply below_drew1 | refine below_set ?_ GE541.out) | exact HB.out)) hb)
    clear HO545
    clear BK541
    clear HB
    have HO545:=n0_
    have BK541:=n1_
    have HB:=n2_
    clear n0_ n1_ n2_
    (try clear hb)
    (try clear hb2)
    (try clear hk)
    (try clear hi)
    refine hK.out _ _ ?_
    clear hK K
    refine norm_ (a':=?_) ?_ ?_
    rotate_left
    ·show Act.put _ (some 22) _ = _
     simp only [Act.put,q1_,q2_,q3_,i64_w,i32_w]
     rfl
    refine pure_ (i:=5) (N:=some 23) (v:=?_) (a':=?_) #[tt,tt,tt,tt,tt,tt] rfl rfl (by kernel_rfl) (fun _ _ _ h => h) (Or.inl ⟨by rfl,?_⟩) ?_ ?_
    rotate_left
    ·intro w'
     go_simp
     with_reducible rfl
    rotate_left
    ·simp only [Act.put,q1_,q2_,q3_,i64_w,i32_w]
     rfl
    refine done_ (by kernel_rfl) ?_
    obtain ⟨hcz21_0,hcz21_1,hcz21_2,hcz21_3,hcz21_4,hcz21_5,hcz21_6,hcz21_7,hcz21_8,hcz21_9,hcz21_10,hcz21_11⟩:=blkc_12 BK541.out
    obtain ⟨hfz21_0,hfz21_1,hfz21_2,hfz21_3,hfz21_4,hfz21_5,hfz21_6,hfz21_7,hfz21_8,hfz21_9,hfz21_10,hfz21_11⟩:=blkz_12 BK541.out
    go_upto_region 9 with (first | ((with_reducible refine gate_callee (f:=48) rfl ?_);refine goesL_ (some 25) rfl rfl Try.func48 (by kernel_rfl) rfl #[.agg #[.int .i64 a0_0,.int .i64 a0_1,.int .i64 a0_2,.int .i64 a0_3,.int .i64 a0_4,.int .i64 a0_5,.float .f64 a0_6,.bool a0_7,.slice A0_8 l0_8.length c0_8,.int .i64 a0_9,.int .i64 a0_10,.int .i64 a0_11]] rfl (by (try simp only [List.map_toArray,List.map_cons,List.map_nil]);first | done | rfl | (simp only [List.length_drop,List.length_take];rfl)) ?_;(with_reducible refine (humusref09_May.calls k a0_0 a0_1 a0_2 a0_3 a0_4 a0_5 a0_6 a0_7 _ _ l0_8 a0_9 a0_10 a0_11 true _ ?side1 ?side2 A11.out).mono ?_);(case side1 => repeat (first | exact (Kd.C_below HR0_8.out HB.out) | (with_reducible refine Kd.C_alloc ?_ _) | (with_reducible refine Kd.C_drewN ?_ _) | (with_reducible refine Kd.C_drew ?_)));(case side2 => exact HC0_8.out);rintro e w22 ⟨rfl,hb⟩;refine ⟨_,rfl,?_⟩;have n0_:=Aside0.mk (Kd.R_below (by (with_reducible repeat (first | apply Kd.R_alloc | apply Kd.R_drewN | apply Kd.R_drew));exact HO545.out) hb);have n1_:=Aside0.mk (blk_below (g:=gb541) (o:=.cells #[.int .i64 a0_0,.int .i64 a0_1,.int .i64 a0_2,.int .i64 a0_3,.int .i64 a0_4,.int .i64 a0_5,.float .f64 a0_6,.bool a0_7,.slice A0_8 l0_8.length c0_8,.int .i64 a0_9,.int .i64 a0_10,.int .i64 a0_11] 32 (0,0)) (by (with_reducible repeat (first | refine blk_drewN ?_ _ | refine blk_drew ?_ | refine blk_alloc ?_ _));exact BK541.out) hb);have n2_:=Aside0.mk (below_step (by repeat (first | (with_reducible first | exact HB.out | apply below_alloc | apply pw_below_drewN | apply below_drew1 | refine below_set ?_ GE541.out) | exact HB.out)) hb);clear HO545;clear BK541;clear HB;have HO545:=n0_;have BK541:=n1_;have HB:=n2_;clear n0_ n1_ n2_;(try clear hb);(try clear hb2);(try clear hk);(try clear hi);obtain ⟨Ao23,co23,eo23⟩:=Kd.R_slice HO545.out;subst eo23) | ((with_reducible refine gate_callee (f:=49) rfl ?_);refine goesL_ (some 39) rfl rfl Try.func49 (by kernel_rfl) rfl #[.slice Ao23 t543.length co23] rfl (by (try simp only [List.map_toArray,List.map_cons,List.map_nil]);first | done | rfl | (simp only [List.length_drop,List.length_take];rfl)) ?_;(with_reducible refine (undorec_Decode.calls k _ _ t543 t551 t552 t553 t554 t555 t556 t557 t558 t559 t562 t563 t564 t565 _ ?side1 ?side2 A13.out).mono ?_);(case side1 => repeat (first | exact (Kd.R_reads' HO545.out).2.2 | (with_reducible refine Kd.C_alloc ?_ _) | (with_reducible refine Kd.C_drewN ?_ _) | (with_reducible refine Kd.C_drew ?_)));(case side2 => exact (Kd.R_reads' HO545.out).2.1);rintro e w24 ⟨v560,rfl,ho0,hb⟩;refine ⟨_,rfl,?_⟩;have n0_:=Aside0.mk (Kd.R_below (by (with_reducible repeat (first | apply Kd.R_alloc | apply Kd.R_drewN | apply Kd.R_drew));exact HO545.out) hb);have n1_:=Aside0.mk (Kd.R_lower ho0 (below_size (by repeat (first | (with_reducible first | exact HB.out | apply below_alloc | apply pw_below_drewN | apply below_drew1 | refine below_set ?_ GE541.out) | exact HB.out))));have n2_:=Aside0.mk (blk_below (g:=gb541) (o:=.cells #[.int .i64 a0_0,.int .i64 a0_1,.int .i64 a0_2,.int .i64 a0_3,.int .i64 a0_4,.int .i64 a0_5,.float .f64 a0_6,.bool a0_7,.slice A0_8 l0_8.length c0_8,.int .i64 a0_9,.int .i64 a0_10,.int .i64 a0_11] 32 (0,0)) (by (with_reducible repeat (first | refine blk_drewN ?_ _ | refine blk_drew ?_ | refine blk_alloc ?_ _));exact BK541.out) hb);have n3_:=Aside0.mk (below_step (by repeat (first | (with_reducible first | exact HB.out | apply below_alloc | apply pw_below_drewN | apply below_drew1 | refine below_set ?_ GE541.out) | exact HB.out)) hb);clear HO545;clear BK541;clear HB;have HO545:=n0_;have HO561:=n1_;have BK541:=n2_;have HB:=n3_;clear n0_ n1_ n2_ n3_;(try clear hb);(try clear hb2);(try clear hk);(try clear hi);(try clear ho0)) | ((with_reducible refine gate_dst (N:=5) rfl ?_);(try (refine gate_guard (by rfl) ?_;dsimp only));refine box_event ?hg (N:=5) ?hd (cs:=#[.int .i64 0,.int .i64 0,.int .i64 0,.int .i64 0,.int .i64 0,.int .i64 0,.float .f64 0,.bool false,.slice none 0 0,.int .i64 0,.int .i64 0,.int .i64 0]) (t:=32) ?hr ?_;(case hd => rfl);(case hg => rfl);(case hr => first | (go_simp;done) | (go_simp;rfl));intro gb566 hg w25 hbox hb;have n0_:=Aside0.mk (Kd.R_below (by (with_reducible repeat (first | apply Kd.R_alloc | apply Kd.R_drewN | apply Kd.R_drew));exact HO545.out) hb);have n1_:=Aside0.mk (Kd.R_below (by (with_reducible repeat (first | apply Kd.R_alloc | apply Kd.R_drewN | apply Kd.R_drew));exact HO561.out) hb);have n2_:=Aside0.mk (blk_below (g:=gb541) (o:=.cells #[.int .i64 a0_0,.int .i64 a0_1,.int .i64 a0_2,.int .i64 a0_3,.int .i64 a0_4,.int .i64 a0_5,.float .f64 a0_6,.bool a0_7,.slice A0_8 l0_8.length c0_8,.int .i64 a0_9,.int .i64 a0_10,.int .i64 a0_11] 32 (0,0)) (by (with_reducible repeat (first | refine blk_drewN ?_ _ | refine blk_drew ?_ | refine blk_alloc ?_ _));exact BK541.out) hb);have n3_:=Aside0.mk (below_step (by repeat (first | (with_reducible first | exact HB.out | apply below_alloc | apply pw_below_drewN | apply below_drew1 | refine below_set ?_ GE541.out) | exact HB.out)) hb);have n4_:=Aside0.mk (hbox);have n5_:=Aside0.mk ((by rw [hg];exact (below_size (by repeat (first | (with_reducible first | exact HB.out | apply below_alloc | apply pw_below_drewN | apply below_drew1 | refine below_set ?_ GE541.out) | exact HB.out))) : w.heap.size ≤ gb566));have n6_:=Aside0.mk ((by rw [hg];exact (below_size (by repeat (first | (with_reducible first | exact HB.out | apply below_alloc | apply pw_below_drewN | apply below_drew1 | refine below_set ?_ GE541.out) | exact HB.out))) : w.heap.size ≤ gb566));have n7_:=Aside0.mk ((by rw [hg];exact Nat.ne_of_lt (blk_lt (g:=gb541) (o:=.cells #[.int .i64 a0_0,.int .i64 a0_1,.int .i64 a0_2,.int .i64 a0_3,.int .i64 a0_4,.int .i64 a0_5,.float .f64 a0_6,.bool a0_7,.slice A0_8 l0_8.length c0_8,.int .i64 a0_9,.int .i64 a0_10,.int .i64 a0_11] 32 (0,0)) (by (with_reducible repeat (first | refine blk_drewN ?_ _ | refine blk_drew ?_ | refine blk_alloc ?_ _));exact BK541.out)) : gb541 ≠ gb566));have n8_:=Aside0.mk ((by rw [hg];exact Nat.ne_of_gt (blk_lt (g:=gb541) (o:=.cells #[.int .i64 a0_0,.int .i64 a0_1,.int .i64 a0_2,.int .i64 a0_3,.int .i64 a0_4,.int .i64 a0_5,.float .f64 a0_6,.bool a0_7,.slice A0_8 l0_8.length c0_8,.int .i64 a0_9,.int .i64 a0_10,.int .i64 a0_11] 32 (0,0)) (by (with_reducible repeat (first | refine blk_drewN ?_ _ | refine blk_drew ?_ | refine blk_alloc ?_ _));exact BK541.out)) : gb566 ≠ gb541));clear HO545;clear HO561;clear BK541;clear HB;have HO545:=n0_;have HO561:=n1_;have BK541:=n2_;have HB:=n3_;have BK566:=n4_;have GW566:=n5_;have GE566:=n6_;have NB541_566:=n7_;have NB566_541:=n8_;clear n0_ n1_ n2_ n3_ n4_ n5_ n6_ n7_ n8_;clear hb hbox hg;have hnb26:=NB566_541.out;have hnc26:=NB541_566.out;obtain ⟨hcz27_0,hcz27_1,hcz27_2,hcz27_3,hcz27_4,hcz27_5,hcz27_6,hcz27_7,hcz27_8,hcz27_9,hcz27_10,hcz27_11⟩:=blkc_12 BK566.out;obtain ⟨hfz27_0,hfz27_1,hfz27_2,hfz27_3,hfz27_4,hfz27_5,hfz27_6,hfz27_7,hfz27_8,hfz27_9,hfz27_10,hfz27_11⟩:=blkz_12 BK566.out;obtain ⟨Ao28,co28,eo28⟩:=Kd.R_slice HO561.out;subst eo28))
    (try simp only [Act.put,List.setIfInBounds_toArray,List.set_cons_zero,List.set_cons_succ])
    go_cut [2] (fun v2 wc => ∃ (kq : Nat) (x2_13 : Bool),v2 = .bool x2_13 ∧ Aside0 (humuslaw09_UndorecCodes.j2 kq x2_13 = some r) ∧ Aside0 (kq ≤ k) ∧ Aside0 (Kd.R Kd.f64 25 wc w.heap.size (fun _ => True) (.slice Ao28 t559.length co28) t559) ∧ Aside0 (wc.heap[gb541]? = some (.cells #[.int .i64 a0_0,.int .i64 a0_1,.int .i64 a0_2,.int .i64 a0_3,.int .i64 a0_4,.int .i64 a0_5,.float .f64 a0_6,.bool a0_7,(.slice A0_8 l0_8.length c0_8),.int .i64 a0_9,.int .i64 a0_10,.int .i64 a0_11] 32 (0,0))) ∧ Aside0 (wc.heap[gb566]? = some (.cells #[.int .i64 t551,.int .i64 t552,.int .i64 t553,.int .i64 t554,.int .i64 t555,.int .i64 t556,.float .f64 t557,.bool t558,(.slice Ao28 t559.length co28),.int .i64 t562,.int .i64 t563,.int .i64 t564] 32 (0,0))) ∧ Aside0 (Below w.heap.size w wc))
    case first =>
     have H:=HC14.out
     clear HC14
     by_cases c29 : t546 = 0
     ·rw [if_pos c29] at H
      have c29b0 : (t546 == 0) = true:=beq_iff_eq.mpr c29
      have c29b1 : (t546 != 0) = false:=bne_eq_false_iff_eq.mpr c29
      clear c29
      (first | rw [c29b0] | (simp only [i64_w,i32_w];rw [c29b0]) | skip)
      by_cases c30 : (t543.length : Int) ≤ 66
      ·rw [if_pos c30] at H
       have c30b0 : decide ((t543.length : Int) ≤ 66) = true:=decide_eq_true c30
       have c30b1 : decide (t543.length ≤ 66) = true:=decide_eq_true (by omega)
       clear c30
       replace H:=Option.bind_eq_some_iff.mp H
       obtain ⟨t567,A310,H⟩:=H
       replace H : (if (strOfNums t543).toList = (strOfNums t567).toList then (if t565 = 0 then ((humusref09_Same.f k t551 t552 t553 t554 t555 t556 t557 t558 t559 t562 t563 t564 a0_0 a0_1 a0_2 a0_3 a0_4 a0_5 a0_6 a0_7 l0_8 a0_9 a0_10 a0_11).bind fun t570 => (if t570 = true then ((humuslaw09_awake.f k).bind fun t571 => (humuslaw09_UndorecCodes.j2 k t571)) else (none))) else (none)) else (none)) = some r:=H
       have A31:=Aside0.mk A310
       clear A310
       by_cases c32 : (strOfNums t543).toList = (strOfNums t567).toList
       ·rw [if_pos c32] at H
        have c32b0 : ((strOfNums t543).toList == (strOfNums t567).toList) = true:=beq_iff_eq.mpr c32
        have c32b1 : ((strOfNums t543).toList != (strOfNums t567).toList) = false:=bne_eq_false_iff_eq.mpr c32
        clear c32
        by_cases c33 : t565 = 0
        ·rw [if_pos c33] at H
         have c33b0 : (t565 == 0) = true:=beq_iff_eq.mpr c33
         have c33b1 : (t565 != 0) = false:=bne_eq_false_iff_eq.mpr c33
         clear c33
         replace H:=Option.bind_eq_some_iff.mp H
         obtain ⟨t570,A340,H⟩:=H
         replace H : (if t570 = true then ((humuslaw09_awake.f k).bind fun t571 => (humuslaw09_UndorecCodes.j2 k t571)) else (none)) = some r:=H
         have A34:=Aside0.mk A340
         clear A340
         by_cases c35 : t570 = true
         ·subst c35
          have H1 : ((humuslaw09_awake.f k).bind fun t571 => (humuslaw09_UndorecCodes.j2 k t571)) = some r:=by rw [if_pos rfl] at H;exact H
          clear H
          have H:=H1
          clear H1
          replace H:=Option.bind_eq_some_iff.mp H
          obtain ⟨t571,A360,H⟩:=H
          replace H : (humuslaw09_UndorecCodes.j2 k t571) = some r:=H
          have A36:=Aside0.mk A360
          clear A360
          have H':=Aside0.mk H
          clear H
          try go_wp2
          have n0_ : Aside0 (Kd.R (Kd.int .u8) 5 ((((((((((((w25.setCell ⟨gb566,0,none⟩ (.int .i64 t551)).setCell ⟨gb566,1,none⟩ (.int .i64 t552)).setCell ⟨gb566,2,none⟩ (.int .i64 t553)).setCell ⟨gb566,3,none⟩ (.int .i64 t554)).setCell ⟨gb566,4,none⟩ (.int .i64 t555)).setCell ⟨gb566,5,none⟩ (.int .i64 t556)).setCell ⟨gb566,6,none⟩ (.float .f64 t557)).setCell ⟨gb566,7,none⟩ (.bool t558)).setCell ⟨gb566,8,none⟩ (.slice Ao28 t559.length co28)).setCell ⟨gb566,9,none⟩ (.int .i64 t562)).setCell ⟨gb566,10,none⟩ (.int .i64 t563)).setCell ⟨gb566,11,none⟩ (.int .i64 t564)) w.heap.size (fun _ => True) (.slice Ao23 t543.length co23) t543):=⟨by (with_reducible repeat (first | apply Kd.R_alloc | apply Kd.R_drewN | apply Kd.R_drew));exact Kd.R_mono (Kd.R_far (p:=⟨gb566,11,none⟩) (Kd.R_far (p:=⟨gb566,10,none⟩) (Kd.R_far (p:=⟨gb566,9,none⟩) (Kd.R_far (p:=⟨gb566,8,none⟩) (Kd.R_far (p:=⟨gb566,7,none⟩) (Kd.R_far (p:=⟨gb566,6,none⟩) (Kd.R_far (p:=⟨gb566,5,none⟩) (Kd.R_far (p:=⟨gb566,4,none⟩) (Kd.R_far (p:=⟨gb566,3,none⟩) (Kd.R_far (p:=⟨gb566,2,none⟩) (Kd.R_far (p:=⟨gb566,1,none⟩) (Kd.R_far (p:=⟨gb566,0,none⟩) (Kd.R_types HO545.out BK566.out (by decide)) (fun _ hk => hk.2) (.int .i64 t551)) (fun _ hk => hk.2) (.int .i64 t552)) (fun _ hk => hk.2) (.int .i64 t553)) (fun _ hk => hk.2) (.int .i64 t554)) (fun _ hk => hk.2) (.int .i64 t555)) (fun _ hk => hk.2) (.int .i64 t556)) (fun _ hk => hk.2) (.float .f64 t557)) (fun _ hk => hk.2) (.bool t558)) (fun _ hk => hk.2) (.slice Ao28 t559.length co28)) (fun _ hk => hk.2) (.int .i64 t562)) (fun _ hk => hk.2) (.int .i64 t563)) (fun _ hk => hk.2) (.int .i64 t564)) (fun _ hk => trivial)⟩
          have n1_ : Aside0 (Kd.R Kd.f64 25 ((((((((((((w25.setCell ⟨gb566,0,none⟩ (.int .i64 t551)).setCell ⟨gb566,1,none⟩ (.int .i64 t552)).setCell ⟨gb566,2,none⟩ (.int .i64 t553)).setCell ⟨gb566,3,none⟩ (.int .i64 t554)).setCell ⟨gb566,4,none⟩ (.int .i64 t555)).setCell ⟨gb566,5,none⟩ (.int .i64 t556)).setCell ⟨gb566,6,none⟩ (.float .f64 t557)).setCell ⟨gb566,7,none⟩ (.bool t558)).setCell ⟨gb566,8,none⟩ (.slice Ao28 t559.length co28)).setCell ⟨gb566,9,none⟩ (.int .i64 t562)).setCell ⟨gb566,10,none⟩ (.int .i64 t563)).setCell ⟨gb566,11,none⟩ (.int .i64 t564)) w.heap.size (fun _ => True) (.slice Ao28 t559.length co28) t559):=⟨by (with_reducible repeat (first | apply Kd.R_alloc | apply Kd.R_drewN | apply Kd.R_drew));exact Kd.R_mono (Kd.R_far (p:=⟨gb566,11,none⟩) (Kd.R_far (p:=⟨gb566,10,none⟩) (Kd.R_far (p:=⟨gb566,9,none⟩) (Kd.R_far (p:=⟨gb566,8,none⟩) (Kd.R_far (p:=⟨gb566,7,none⟩) (Kd.R_far (p:=⟨gb566,6,none⟩) (Kd.R_far (p:=⟨gb566,5,none⟩) (Kd.R_far (p:=⟨gb566,4,none⟩) (Kd.R_far (p:=⟨gb566,3,none⟩) (Kd.R_far (p:=⟨gb566,2,none⟩) (Kd.R_far (p:=⟨gb566,1,none⟩) (Kd.R_far (p:=⟨gb566,0,none⟩) (Kd.R_types HO561.out BK566.out (by decide)) (fun _ hk => hk.2) (.int .i64 t551)) (fun _ hk => hk.2) (.int .i64 t552)) (fun _ hk => hk.2) (.int .i64 t553)) (fun _ hk => hk.2) (.int .i64 t554)) (fun _ hk => hk.2) (.int .i64 t555)) (fun _ hk => hk.2) (.int .i64 t556)) (fun _ hk => hk.2) (.float .f64 t557)) (fun _ hk => hk.2) (.bool t558)) (fun _ hk => hk.2) (.slice Ao28 t559.length co28)) (fun _ hk => hk.2) (.int .i64 t562)) (fun _ hk => hk.2) (.int .i64 t563)) (fun _ hk => hk.2) (.int .i64 t564)) (fun _ hk => trivial)⟩
          have n2_ : Aside0 (((((((((((((w25.setCell ⟨gb566,0,none⟩ (.int .i64 t551)).setCell ⟨gb566,1,none⟩ (.int .i64 t552)).setCell ⟨gb566,2,none⟩ (.int .i64 t553)).setCell ⟨gb566,3,none⟩ (.int .i64 t554)).setCell ⟨gb566,4,none⟩ (.int .i64 t555)).setCell ⟨gb566,5,none⟩ (.int .i64 t556)).setCell ⟨gb566,6,none⟩ (.float .f64 t557)).setCell ⟨gb566,7,none⟩ (.bool t558)).setCell ⟨gb566,8,none⟩ (.slice Ao28 t559.length co28)).setCell ⟨gb566,9,none⟩ (.int .i64 t562)).setCell ⟨gb566,10,none⟩ (.int .i64 t563)).setCell ⟨gb566,11,none⟩ (.int .i64 t564)).heap[gb541]? = some (.cells #[.int .i64 a0_0,.int .i64 a0_1,.int .i64 a0_2,.int .i64 a0_3,.int .i64 a0_4,.int .i64 a0_5,.float .f64 a0_6,.bool a0_7,.slice A0_8 l0_8.length c0_8,.int .i64 a0_9,.int .i64 a0_10,.int .i64 a0_11] 32 (0,0))):=⟨by (with_reducible repeat (first | refine blk_drewN ?_ _ | refine blk_drew ?_ | refine blk_alloc ?_ _));refine blk_far ?_ NB541_566.out _;(with_reducible repeat (first | refine blk_drewN ?_ _ | refine blk_drew ?_ | refine blk_alloc ?_ _));refine blk_far ?_ NB541_566.out _;(with_reducible repeat (first | refine blk_drewN ?_ _ | refine blk_drew ?_ | refine blk_alloc ?_ _));refine blk_far ?_ NB541_566.out _;(with_reducible repeat (first | refine blk_drewN ?_ _ | refine blk_drew ?_ | refine blk_alloc ?_ _));refine blk_far ?_ NB541_566.out _;(with_reducible repeat (first | refine blk_drewN ?_ _ | refine blk_drew ?_ | refine blk_alloc ?_ _));refine blk_far ?_ NB541_566.out _;(with_reducible repeat (first | refine blk_drewN ?_ _ | refine blk_drew ?_ | refine blk_alloc ?_ _));refine blk_far ?_ NB541_566.out _;(with_reducible repeat (first | refine blk_drewN ?_ _ | refine blk_drew ?_ | refine blk_alloc ?_ _));refine blk_far ?_ NB541_566.out _;(with_reducible repeat (first | refine blk_drewN ?_ _ | refine blk_drew ?_ | refine blk_alloc ?_ _));refine blk_far ?_ NB541_566.out _;(with_reducible repeat (first | refine blk_drewN ?_ _ | refine blk_drew ?_ | refine blk_alloc ?_ _));refine blk_far ?_ NB541_566.out _;(with_reducible repeat (first | refine blk_drewN ?_ _ | refine blk_drew ?_ | refine blk_alloc ?_ _));refine blk_far ?_ NB541_566.out _;(with_reducible repeat (first | refine blk_drewN ?_ _ | refine blk_drew ?_ | refine blk_alloc ?_ _));refine blk_far ?_ NB541_566.out _;(with_reducible repeat (first | refine blk_drewN ?_ _ | refine blk_drew ?_ | refine blk_alloc ?_ _));refine blk_far ?_ NB541_566.out _;(with_reducible repeat (first | refine blk_drewN ?_ _ | refine blk_drew ?_ | refine blk_alloc ?_ _));exact BK541.out⟩
          have n3_ : Aside0 (((((((((((((w25.setCell ⟨gb566,0,none⟩ (.int .i64 t551)).setCell ⟨gb566,1,none⟩ (.int .i64 t552)).setCell ⟨gb566,2,none⟩ (.int .i64 t553)).setCell ⟨gb566,3,none⟩ (.int .i64 t554)).setCell ⟨gb566,4,none⟩ (.int .i64 t555)).setCell ⟨gb566,5,none⟩ (.int .i64 t556)).setCell ⟨gb566,6,none⟩ (.float .f64 t557)).setCell ⟨gb566,7,none⟩ (.bool t558)).setCell ⟨gb566,8,none⟩ (.slice Ao28 t559.length co28)).setCell ⟨gb566,9,none⟩ (.int .i64 t562)).setCell ⟨gb566,10,none⟩ (.int .i64 t563)).setCell ⟨gb566,11,none⟩ (.int .i64 t564)).heap[gb566]? = some (.cells #[.int .i64 t551,.int .i64 t552,.int .i64 t553,.int .i64 t554,.int .i64 t555,.int .i64 t556,.float .f64 t557,.bool t558,.slice Ao28 t559.length co28,.int .i64 t562,.int .i64 t563,.int .i64 t564] 32 (0,0))):=⟨by (with_reducible repeat (first | refine blk_drewN ?_ _ | refine blk_drew ?_ | refine blk_alloc ?_ _));apply blkf_12_0_11;(with_reducible repeat (first | refine blk_drewN ?_ _ | refine blk_drew ?_ | refine blk_alloc ?_ _));exact BK566.out⟩
          have n4_ : Aside0 (Below w.heap.size w ((((((((((((w25.setCell ⟨gb566,0,none⟩ (.int .i64 t551)).setCell ⟨gb566,1,none⟩ (.int .i64 t552)).setCell ⟨gb566,2,none⟩ (.int .i64 t553)).setCell ⟨gb566,3,none⟩ (.int .i64 t554)).setCell ⟨gb566,4,none⟩ (.int .i64 t555)).setCell ⟨gb566,5,none⟩ (.int .i64 t556)).setCell ⟨gb566,6,none⟩ (.float .f64 t557)).setCell ⟨gb566,7,none⟩ (.bool t558)).setCell ⟨gb566,8,none⟩ (.slice Ao28 t559.length co28)).setCell ⟨gb566,9,none⟩ (.int .i64 t562)).setCell ⟨gb566,10,none⟩ (.int .i64 t563)).setCell ⟨gb566,11,none⟩ (.int .i64 t564))):=⟨by repeat (first | (with_reducible first | exact HB.out | apply below_alloc | apply pw_below_drewN | apply below_drew1 | refine below_set ?_ GE541.out | refine below_set ?_ GE566.out) | exact HB.out)⟩
          (try clear HO545)
          (try clear HO561)
          (try clear BK541)
          (try clear BK566)
          (try clear HB)
          generalize ((((((((((((w25.setCell ⟨gb566,0,none⟩ (.int .i64 t551)).setCell ⟨gb566,1,none⟩ (.int .i64 t552)).setCell ⟨gb566,2,none⟩ (.int .i64 t553)).setCell ⟨gb566,3,none⟩ (.int .i64 t554)).setCell ⟨gb566,4,none⟩ (.int .i64 t555)).setCell ⟨gb566,5,none⟩ (.int .i64 t556)).setCell ⟨gb566,6,none⟩ (.float .f64 t557)).setCell ⟨gb566,7,none⟩ (.bool t558)).setCell ⟨gb566,8,none⟩ (.slice Ao28 t559.length co28)).setCell ⟨gb566,9,none⟩ (.int .i64 t562)).setCell ⟨gb566,10,none⟩ (.int .i64 t563)).setCell ⟨gb566,11,none⟩ (.int .i64 t564)) = w37 at n0_ n1_ n2_ n3_ n4_ ⊢
          have HO545:=n0_
          have HO561:=n1_
          have BK541:=n2_
          have BK566:=n3_
          have HB:=n4_
          clear n0_ n1_ n2_ n3_ n4_
          have n0_:=Aside0.mk (Kd.R_drew HO545.out)
          have n1_:=Aside0.mk (Kd.R_drew HO561.out)
          have n2_:=Aside0.mk (blk_drew BK541.out)
          have n3_:=Aside0.mk (blk_drew BK566.out)
          have n4_:=Aside0.mk (below_drew1 HB.out)
          clear HO545
          clear HO561
          clear BK541
          clear BK566
          clear HB
          have HO545:=n0_
          have HO561:=n1_
          have BK541:=n2_
          have BK566:=n3_
          have HB:=n4_
          clear n0_ n1_ n2_ n3_ n4_
          refine start_ (n:=28) (S:=fun w' => w'.cell? ⟨gb541,0,none⟩ = some (.int .i64 a0_0) ∧ w'.cell? ⟨gb541,1,none⟩ = some (.int .i64 a0_1) ∧ w'.cell? ⟨gb541,2,none⟩ = some (.int .i64 a0_2) ∧ w'.cell? ⟨gb541,3,none⟩ = some (.int .i64 a0_3) ∧ w'.cell? ⟨gb541,4,none⟩ = some (.int .i64 a0_4) ∧ w'.cell? ⟨gb541,5,none⟩ = some (.int .i64 a0_5) ∧ w'.cell? ⟨gb541,6,none⟩ = some (.float .f64 a0_6) ∧ w'.cell? ⟨gb541,7,none⟩ = some (.bool a0_7) ∧ w'.cell? ⟨gb541,8,none⟩ = some (.slice A0_8 l0_8.length c0_8) ∧ w'.cell? ⟨gb541,9,none⟩ = some (.int .i64 a0_9) ∧ w'.cell? ⟨gb541,10,none⟩ = some (.int .i64 a0_10) ∧ w'.cell? ⟨gb541,11,none⟩ = some (.int .i64 a0_11) ∧ w'.cell? ⟨gb566,0,none⟩ = some (.int .i64 t551) ∧ w'.cell? ⟨gb566,1,none⟩ = some (.int .i64 t552) ∧ w'.cell? ⟨gb566,2,none⟩ = some (.int .i64 t553) ∧ w'.cell? ⟨gb566,3,none⟩ = some (.int .i64 t554) ∧ w'.cell? ⟨gb566,4,none⟩ = some (.int .i64 t555) ∧ w'.cell? ⟨gb566,5,none⟩ = some (.int .i64 t556) ∧ w'.cell? ⟨gb566,6,none⟩ = some (.float .f64 t557) ∧ w'.cell? ⟨gb566,7,none⟩ = some (.bool t558) ∧ w'.cell? ⟨gb566,8,none⟩ = some (.slice Ao28 t559.length co28) ∧ w'.cell? ⟨gb566,9,none⟩ = some (.int .i64 t562) ∧ w'.cell? ⟨gb566,10,none⟩ = some (.int .i64 t563) ∧ w'.cell? ⟨gb566,11,none⟩ = some (.int .i64 t564) ∧ (convert 23 9 (.slice Ao23 t543.length co23)).run Try.prog w' = .ok (.string (strOfNums t543)) w') (ds:=[22,25]) #[ff,ff,ff,ff,ff,ff,ff,ff,ff,ff,ff,ff,ff,ff,ff,ff,ff,ff,ff,ff,ff,ff,ff,ff,ff,ff,ff,ff] (by kernel_rfl) rfl rfl ⟨(blk_cell BK541.out 0).trans rfl,(blk_cell BK541.out 1).trans rfl,(blk_cell BK541.out 2).trans rfl,(blk_cell BK541.out 3).trans rfl,(blk_cell BK541.out 4).trans rfl,(blk_cell BK541.out 5).trans rfl,(blk_cell BK541.out 6).trans rfl,(blk_cell BK541.out 7).trans rfl,(blk_cell BK541.out 8).trans rfl,(blk_cell BK541.out 9).trans rfl,(blk_cell BK541.out 10).trans rfl,(blk_cell BK541.out 11).trans rfl,(blk_cell BK566.out 0).trans rfl,(blk_cell BK566.out 1).trans rfl,(blk_cell BK566.out 2).trans rfl,(blk_cell BK566.out 3).trans rfl,(blk_cell BK566.out 4).trans rfl,(blk_cell BK566.out 5).trans rfl,(blk_cell BK566.out 6).trans rfl,(blk_cell BK566.out 7).trans rfl,(blk_cell BK566.out 8).trans rfl,(blk_cell BK566.out 9).trans rfl,(blk_cell BK566.out 10).trans rfl,(blk_cell BK566.out 11).trans rfl,own_string (P:=Try.prog) Try.underlying23 Try.underlying5 Try.underlying9 (Kd.own_of_R HO545.out)⟩ (fun hHeld => ?_);refine with_tabW humuslaw09_UndorecCodes.tab9 humuslaw09_UndorecCodes.bits9 (fun HT_ HW_ => ?_)
          generalize w37.drew = w38 at HO545 HO561 BK541 BK566 HB hHeld ⊢
          refine pure_ (i:=0) (N:=some 42) (v:=?_) (a':=?_) #[tt,ff,ff,ff,ff,ff,ff,ff,ff,ff,ff,ff,ff,ff,ff,ff,ff,ff,ff,ff,ff,ff,ff,ff,ff,ff,ff,ff] rfl rfl (any_of HT_.out (by kernel_rfl)) (fun _ _ _ h => h) (Or.inl ⟨by rfl,?_⟩) ?_ ?_
          rotate_left
          ·intro w'
           go_simp
           with_reducible rfl
          rotate_left
          ·simp only [Act.put,q1_,q2_,q3_,i64_w,i32_w]
           rfl
          refine pure_ (i:=1) (N:=some 43) (v:=?_) (a':=?_) #[tt,tt,ff,ff,ff,ff,ff,ff,ff,ff,ff,ff,ff,ff,ff,ff,ff,ff,ff,ff,ff,ff,ff,ff,ff,ff,ff,ff] rfl rfl (any_of HT_.out (by kernel_rfl)) (fun _ _ _ h => h) (Or.inl ⟨by rfl,?_⟩) ?_ ?_
          rotate_left
          ·intro w'
           go_simp
           with_reducible rfl
          rotate_left
          ·simp only [Act.put,q1_,q2_,q3_,i64_w,i32_w]
           rfl
          refine pure_ (i:=2) (N:=some 44) (v:=?_) (a':=?_) #[tt,tt,tt,ff,ff,ff,ff,ff,ff,ff,ff,ff,ff,ff,ff,ff,ff,ff,ff,ff,ff,ff,ff,ff,ff,ff,ff,ff] rfl rfl (any_of HT_.out (by kernel_rfl)) (fun _ _ _ h => h) (Or.inl ⟨by rfl,?_⟩) ?_ ?_
          rotate_left
          ·intro w'
           go_simp
           with_reducible rfl
          rotate_left
          ·simp only [Act.put,q1_,q2_,q3_,i64_w,i32_w]
           rfl
          refine pure_ (i:=3) (N:=some 45) (v:=?_) (a':=?_) #[tt,tt,tt,tt,ff,ff,ff,ff,ff,ff,ff,ff,ff,ff,ff,ff,ff,ff,ff,ff,ff,ff,ff,ff,ff,ff,ff,ff] rfl rfl (any_of HT_.out (by kernel_rfl)) (fun _ _ _ h => h) (Or.inl ⟨by rfl,?_⟩) ?_ ?_
          rotate_left
          ·intro w'
           go_simp
           with_reducible rfl
          rotate_left
          ·simp only [Act.put,q1_,q2_,q3_,i64_w,i32_w]
           rfl
          refine pure_ (i:=4) (N:=some 46) (v:=?_) (a':=?_) #[tt,tt,tt,tt,tt,ff,ff,ff,ff,ff,ff,ff,ff,ff,ff,ff,ff,ff,ff,ff,ff,ff,ff,ff,ff,ff,ff,ff] rfl rfl (any_of HT_.out (by kernel_rfl)) (fun _ _ _ h => h) (Or.inl ⟨by rfl,?_⟩) ?_ ?_
          rotate_left
          ·intro w'
           go_simp
           with_reducible rfl
          rotate_left
          ·simp only [Act.put,q1_,q2_,q3_,i64_w,i32_w]
           rfl
          refine pure_ (i:=5) (N:=some 47) (v:=?_) (a':=?_) #[tt,tt,tt,tt,tt,tt,ff,ff,ff,ff,ff,ff,ff,ff,ff,ff,ff,ff,ff,ff,ff,ff,ff,ff,ff,ff,ff,ff] rfl rfl (any_of HT_.out (by kernel_rfl)) (fun _ _ _ h => h) (Or.inl ⟨by rfl,?_⟩) ?_ ?_
          rotate_left
          ·intro w'
           go_simp
           with_reducible rfl
          rotate_left
          ·simp only [Act.put,q1_,q2_,q3_,i64_w,i32_w]
           rfl
          refine pure_ (i:=6) (N:=some 48) (v:=?_) (a':=?_) #[tt,tt,tt,tt,tt,tt,tt,ff,ff,ff,ff,ff,ff,ff,ff,ff,ff,ff,ff,ff,ff,ff,ff,ff,ff,ff,ff,ff] rfl rfl (any_of HT_.out (by kernel_rfl)) (fun _ _ _ h => h) (Or.inl ⟨by rfl,?_⟩) ?_ ?_
          rotate_left
          ·intro w'
           go_simp
           with_reducible rfl
          rotate_left
          ·simp only [Act.put,q1_,q2_,q3_,i64_w,i32_w]
           rfl
          refine pure_ (i:=7) (N:=some 49) (v:=?_) (a':=?_) #[tt,tt,tt,tt,tt,tt,tt,tt,ff,ff,ff,ff,ff,ff,ff,ff,ff,ff,ff,ff,ff,ff,ff,ff,ff,ff,ff,ff] rfl rfl (any_of HT_.out (by kernel_rfl)) (fun _ _ _ h => h) (Or.inl ⟨by rfl,?_⟩) ?_ ?_
          rotate_left
          ·intro w'
           go_simp
           with_reducible rfl
          rotate_left
          ·simp only [Act.put,q1_,q2_,q3_,i64_w,i32_w]
           rfl
          refine pure_ (i:=8) (N:=some 50) (v:=?_) (a':=?_) #[tt,tt,tt,tt,tt,tt,tt,tt,tt,ff,ff,ff,ff,ff,ff,ff,ff,ff,ff,ff,ff,ff,ff,ff,ff,ff,ff,ff] rfl rfl (any_of HT_.out (by kernel_rfl)) (fun _ _ _ h => h) (Or.inl ⟨by rfl,?_⟩) ?_ ?_
          rotate_left
          ·intro w'
           go_simp
           with_reducible rfl
          rotate_left
          ·simp only [Act.put,q1_,q2_,q3_,i64_w,i32_w]
           rfl
          refine take_ (i:=9) (N:=some 51) (v:=?_) (a':=?_) #[tt,tt,tt,tt,tt,tt,tt,tt,tt,tt,ff,ff,ff,ff,ff,ff,ff,ff,ff,ff,ff,ff,ff,ff,ff,ff,ff,ff] rfl rfl (take_ofW HT_.out HW_.out (by kernel_rfl)) (fun _ _ _ h => h) (Or.inl ⟨by rfl,?_⟩) hHeld ?_ ?_
          rotate_left
          ·rintro w' ⟨s0,s1,s2,s3,s4,s5,s6,s7,s8,s9,s10,s11,s12,s13,s14,s15,s16,s17,s18,s19,s20,s21,s22,s23,s24⟩
           go_simp
           with_reducible rfl
          rotate_left
          ·simp only [Act.put,q1_,q2_,q3_,i64_w,i32_w]
           rfl
          refine take_ (i:=10) (N:=some 52) (v:=?_) (a':=?_) #[tt,tt,tt,tt,tt,tt,tt,tt,tt,tt,tt,ff,ff,ff,ff,ff,ff,ff,ff,ff,ff,ff,ff,ff,ff,ff,ff,ff] rfl rfl (take_ofW HT_.out HW_.out (by kernel_rfl)) (fun _ _ _ h => h) (Or.inl ⟨by rfl,?_⟩) hHeld ?_ ?_
          rotate_left
          ·rintro w' ⟨s0,s1,s2,s3,s4,s5,s6,s7,s8,s9,s10,s11,s12,s13,s14,s15,s16,s17,s18,s19,s20,s21,s22,s23,s24⟩
           go_simp
           with_reducible rfl
          rotate_left
          ·simp only [Act.put,q1_,q2_,q3_,i64_w,i32_w]
           rfl
          refine one_ (i:=11) (N:=some 53) #[tt,tt,tt,tt,tt,tt,tt,tt,tt,tt,tt,tt,ff,ff,ff,ff,ff,ff,ff,ff,ff,ff,ff,ff,ff,ff,ff,ff] rfl rfl (one_of HT_.out (by kernel_rfl)) (by decide) (fun K hK => ?_)
          refine goes_ Try.func50 (by kernel_rfl) rfl #[.agg #[.int .i64 a0_0,.int .i64 a0_1,.int .i64 a0_2,.int .i64 a0_3,.int .i64 a0_4,.int .i64 a0_5,.float .f64 a0_6,.bool a0_7,.slice A0_8 l0_8.length c0_8,.int .i64 a0_9,.int .i64 a0_10,.int .i64 a0_11]] (by rfl) rfl rfl (by (try simp only [List.map_toArray,List.map_cons,List.map_nil]);first | done | rfl | (simp only [List.length_drop,List.length_take];rfl)) ?_
          with_reducible refine (humusref09_Bytes.calls k a0_0 a0_1 a0_2 a0_3 a0_4 a0_5 a0_6 a0_7 _ _ l0_8 a0_9 a0_10 a0_11 t567 _ ?side1 ?side2 A31.out).mono ?_
          (case side1 => repeat (first | exact (Kd.C_below HR0_8.out HB.out) | (with_reducible refine Kd.C_alloc ?_ _) | (with_reducible refine Kd.C_drewN ?_ _) | (with_reducible refine Kd.C_drew ?_)))
          (case side2 => exact HC0_8.out)
          rintro e w39 ⟨v568,rfl,ho0,hb⟩
          refine ⟨_,rfl,?_⟩
          have n0_:=Aside0.mk (Kd.R_elder' (by (with_reducible repeat (first | apply Kd.R_alloc | apply Kd.R_drewN | apply Kd.R_drew));exact HO545.out) (Kd.R_base ho0) hb)
          have n1_:=Aside0.mk (Kd.R_below (by (with_reducible repeat (first | apply Kd.R_alloc | apply Kd.R_drewN | apply Kd.R_drew));exact HO561.out) hb)
          have n2_:=Aside0.mk (Kd.R_lower (Kd.R_new' ho0 (Kd.R_lt (by (with_reducible repeat (first | apply Kd.R_alloc | apply Kd.R_drewN | apply Kd.R_drew));exact HO545.out))) (below_size (by repeat (first | (with_reducible first | exact HB.out | apply below_alloc | apply pw_below_drewN | apply below_drew1 | refine below_set ?_ GE541.out | refine below_set ?_ GE566.out) | exact HB.out))))
          have n3_:=Aside0.mk (blk_below (g:=gb541) (o:=.cells #[.int .i64 a0_0,.int .i64 a0_1,.int .i64 a0_2,.int .i64 a0_3,.int .i64 a0_4,.int .i64 a0_5,.float .f64 a0_6,.bool a0_7,.slice A0_8 l0_8.length c0_8,.int .i64 a0_9,.int .i64 a0_10,.int .i64 a0_11] 32 (0,0)) (by (with_reducible repeat (first | refine blk_drewN ?_ _ | refine blk_drew ?_ | refine blk_alloc ?_ _));exact BK541.out) hb)
          have n4_:=Aside0.mk (blk_below (g:=gb566) (o:=.cells #[.int .i64 t551,.int .i64 t552,.int .i64 t553,.int .i64 t554,.int .i64 t555,.int .i64 t556,.float .f64 t557,.bool t558,.slice Ao28 t559.length co28,.int .i64 t562,.int .i64 t563,.int .i64 t564] 32 (0,0)) (by (with_reducible repeat (first | refine blk_drewN ?_ _ | refine blk_drew ?_ | refine blk_alloc ?_ _));exact BK566.out) hb)
          have n5_:=Aside0.mk (below_step (by repeat (first | (with_reducible first | exact HB.out | apply below_alloc | apply pw_below_drewN | apply below_drew1 | refine below_set ?_ GE541.out | refine below_set ?_ GE566.out) | exact HB.out)) hb)
          clear HO545
          clear HO561
          clear BK541
          clear BK566
          clear HB
          have HO545:=n0_
          have HO561:=n1_
          have HO569:=n2_
          have BK541:=n3_
          have BK566:=n4_
          have HB:=n5_
          clear n0_ n1_ n2_ n3_ n4_ n5_
          (try clear hb)
          (try clear hb2)
          (try clear hk)
          (try clear hi)
          (try clear ho0)
          refine hK.out _ _ ⟨(blk_cell BK541.out 0).trans rfl,(blk_cell BK541.out 1).trans rfl,(blk_cell BK541.out 2).trans rfl,(blk_cell BK541.out 3).trans rfl,(blk_cell BK541.out 4).trans rfl,(blk_cell BK541.out 5).trans rfl,(blk_cell BK541.out 6).trans rfl,(blk_cell BK541.out 7).trans rfl,(blk_cell BK541.out 8).trans rfl,(blk_cell BK541.out 9).trans rfl,(blk_cell BK541.out 10).trans rfl,(blk_cell BK541.out 11).trans rfl,(blk_cell BK566.out 0).trans rfl,(blk_cell BK566.out 1).trans rfl,(blk_cell BK566.out 2).trans rfl,(blk_cell BK566.out 3).trans rfl,(blk_cell BK566.out 4).trans rfl,(blk_cell BK566.out 5).trans rfl,(blk_cell BK566.out 6).trans rfl,(blk_cell BK566.out 7).trans rfl,(blk_cell BK566.out 8).trans rfl,(blk_cell BK566.out 9).trans rfl,(blk_cell BK566.out 10).trans rfl,(blk_cell BK566.out 11).trans rfl,own_string (P:=Try.prog) Try.underlying23 Try.underlying5 Try.underlying9 (Kd.own_of_R HO545.out)⟩ (fun hHeld => ?_)
          clear hK K
          refine norm_ (a':=?_) ?_ ?_
          rotate_left
          ·show Act.put _ (some 53) _ = _
           simp only [Act.put,q1_,q2_,q3_,i64_w,i32_w]
           rfl
          refine one_ (i:=12) (N:=some 54) #[tt,tt,tt,tt,tt,tt,tt,tt,tt,tt,tt,tt,tt,ff,ff,ff,ff,ff,ff,ff,ff,ff,ff,ff,ff,ff,ff,ff] rfl rfl (one_of HT_.out (by kernel_rfl)) (by decide) (fun K hK => ?_)
          have hcv40:=own_string (P:=Try.prog) Try.underlying23 Try.underlying5 Try.underlying9 (Kd.own_of_R HO569.out)
          refine value_ (w1:=?_) (v:=?_) (by rfl) rfl ?_ ?_
          rotate_left 2
          ·go_simp
           constructor
           ·rfl
           ·rfl
          clear hcv40
          refine hK.out _ _ ⟨(blk_cell BK541.out 0).trans rfl,(blk_cell BK541.out 1).trans rfl,(blk_cell BK541.out 2).trans rfl,(blk_cell BK541.out 3).trans rfl,(blk_cell BK541.out 4).trans rfl,(blk_cell BK541.out 5).trans rfl,(blk_cell BK541.out 6).trans rfl,(blk_cell BK541.out 7).trans rfl,(blk_cell BK541.out 8).trans rfl,(blk_cell BK541.out 9).trans rfl,(blk_cell BK541.out 10).trans rfl,(blk_cell BK541.out 11).trans rfl,(blk_cell BK566.out 0).trans rfl,(blk_cell BK566.out 1).trans rfl,(blk_cell BK566.out 2).trans rfl,(blk_cell BK566.out 3).trans rfl,(blk_cell BK566.out 4).trans rfl,(blk_cell BK566.out 5).trans rfl,(blk_cell BK566.out 6).trans rfl,(blk_cell BK566.out 7).trans rfl,(blk_cell BK566.out 8).trans rfl,(blk_cell BK566.out 9).trans rfl,(blk_cell BK566.out 10).trans rfl,(blk_cell BK566.out 11).trans rfl,own_string (P:=Try.prog) Try.underlying23 Try.underlying5 Try.underlying9 (Kd.own_of_R HO545.out)⟩ (fun hHeld => ?_)
          clear hK K
          refine norm_ (a':=?_) ?_ ?_
          rotate_left
          ·show Act.put _ (some 54) _ = _
           simp only [Act.put,q1_,q2_,q3_,i64_w,i32_w]
           rfl
          refine pure_ (i:=13) (N:=some 55) (v:=?_) (a':=?_) #[tt,tt,tt,tt,tt,tt,tt,tt,tt,tt,tt,tt,tt,tt,ff,ff,ff,ff,ff,ff,ff,ff,ff,ff,ff,ff,ff,ff] rfl rfl (any_of HT_.out (by kernel_rfl)) (fun _ _ _ h => h) (Or.inl ⟨by rfl,?_⟩) ?_ ?_
          rotate_left
          ·intro w'
           go_simp
           with_reducible rfl
          rotate_left
          ·simp only [Act.put,q1_,q2_,q3_,i64_w,i32_w]
           rfl
          refine pure_ (i:=14) (N:=some 56) (v:=?_) (a':=?_) #[tt,tt,tt,tt,tt,tt,tt,tt,tt,tt,tt,tt,tt,tt,tt,ff,ff,ff,ff,ff,ff,ff,ff,ff,ff,ff,ff,ff] rfl rfl (any_of HT_.out (by kernel_rfl)) (fun _ _ _ h => h) (Or.inl ⟨by rfl,?_⟩) ?_ ?_
          rotate_left
          ·intro w'
           go_simp
           with_reducible rfl
          rotate_left
          ·simp only [Act.put,q1_,q2_,q3_,i64_w,i32_w]
           rfl
          refine pure_ (i:=15) (N:=some 57) (v:=?_) (a':=?_) #[tt,tt,tt,tt,tt,tt,tt,tt,tt,tt,tt,tt,tt,tt,tt,tt,ff,ff,ff,ff,ff,ff,ff,ff,ff,ff,ff,ff] rfl rfl (any_of HT_.out (by kernel_rfl)) (fun _ _ _ h => h) (Or.inl ⟨by rfl,?_⟩) ?_ ?_
          rotate_left
          ·intro w'
           go_simp
           with_reducible rfl
          rotate_left
          ·simp only [Act.put,q1_,q2_,q3_,i64_w,i32_w]
           rfl
          refine pure_ (i:=16) (N:=some 58) (v:=?_) (a':=?_) #[tt,tt,tt,tt,tt,tt,tt,tt,tt,tt,tt,tt,tt,tt,tt,tt,tt,ff,ff,ff,ff,ff,ff,ff,ff,ff,ff,ff] rfl rfl (any_of HT_.out (by kernel_rfl)) (fun _ _ _ h => h) (Or.inl ⟨by rfl,?_⟩) ?_ ?_
          rotate_left
          ·intro w'
           go_simp
           with_reducible rfl
          rotate_left
          ·simp only [Act.put,q1_,q2_,q3_,i64_w,i32_w]
           rfl
          refine pure_ (i:=17) (N:=some 59) (v:=?_) (a':=?_) #[tt,tt,tt,tt,tt,tt,tt,tt,tt,tt,tt,tt,tt,tt,tt,tt,tt,tt,ff,ff,ff,ff,ff,ff,ff,ff,ff,ff] rfl rfl (any_of HT_.out (by kernel_rfl)) (fun _ _ _ h => h) (Or.inl ⟨by rfl,?_⟩) ?_ ?_
          rotate_left
          ·intro w'
           go_simp
           with_reducible rfl
          rotate_left
          ·simp only [Act.put,q1_,q2_,q3_,i64_w,i32_w]
           rfl
          refine pure_ (i:=18) (N:=some 60) (v:=?_) (a':=?_) #[tt,tt,tt,tt,tt,tt,tt,tt,tt,tt,tt,tt,tt,tt,tt,tt,tt,tt,tt,ff,ff,ff,ff,ff,ff,ff,ff,ff] rfl rfl (any_of HT_.out (by kernel_rfl)) (fun _ _ _ h => h) (Or.inl ⟨by rfl,?_⟩) ?_ ?_
          rotate_left
          ·intro w'
           go_simp
           with_reducible rfl
          rotate_left
          ·simp only [Act.put,q1_,q2_,q3_,i64_w,i32_w]
           rfl
          refine pure_ (i:=19) (N:=some 61) (v:=?_) (a':=?_) #[tt,tt,tt,tt,tt,tt,tt,tt,tt,tt,tt,tt,tt,tt,tt,tt,tt,tt,tt,tt,ff,ff,ff,ff,ff,ff,ff,ff] rfl rfl (any_of HT_.out (by kernel_rfl)) (fun _ _ _ h => h) (Or.inl ⟨by rfl,?_⟩) ?_ ?_
          rotate_left
          ·intro w'
           go_simp
           with_reducible rfl
          rotate_left
          ·simp only [Act.put,q1_,q2_,q3_,i64_w,i32_w]
           rfl
          refine take_ (i:=20) (N:=some 62) (v:=?_) (a':=?_) #[tt,tt,tt,tt,tt,tt,tt,tt,tt,tt,tt,tt,tt,tt,tt,tt,tt,tt,tt,tt,tt,ff,ff,ff,ff,ff,ff,ff] rfl rfl (take_ofW HT_.out HW_.out (by kernel_rfl)) (fun _ _ _ h => h) (Or.inl ⟨by rfl,?_⟩) hHeld ?_ ?_
          rotate_left
          ·rintro w' ⟨s0,s1,s2,s3,s4,s5,s6,s7,s8,s9,s10,s11,s12,s13,s14,s15,s16,s17,s18,s19,s20,s21,s22,s23,s24⟩
           go_simp
           with_reducible rfl
          rotate_left
          ·simp only [Act.put,q1_,q2_,q3_,i64_w,i32_w]
           rfl
          refine take_ (i:=21) (N:=some 63) (v:=?_) (a':=?_) #[tt,tt,tt,tt,tt,tt,tt,tt,tt,tt,tt,tt,tt,tt,tt,tt,tt,tt,tt,tt,tt,tt,ff,ff,ff,ff,ff,ff] rfl rfl (take_ofW HT_.out HW_.out (by kernel_rfl)) (fun _ _ _ h => h) (Or.inl ⟨by rfl,?_⟩) hHeld ?_ ?_
          rotate_left
          ·rintro w' ⟨s0,s1,s2,s3,s4,s5,s6,s7,s8,s9,s10,s11,s12,s13,s14,s15,s16,s17,s18,s19,s20,s21,s22,s23,s24⟩
           go_simp
           with_reducible rfl
          rotate_left
          ·simp only [Act.put,q1_,q2_,q3_,i64_w,i32_w]
           rfl
          refine last_ (i:=22) (N:=some 64) #[tt,tt,tt,tt,tt,tt,tt,tt,tt,tt,tt,tt,tt,tt,tt,tt,tt,tt,tt,tt,tt,tt,tt,ff,ff,ff,ff,ff] rfl rfl (one_of HT_.out (by kernel_rfl)) (by decide) (fun K hK => ?_)
          refine goes_ Try.func51 (by kernel_rfl) rfl #[.agg #[.int .i64 t551,.int .i64 t552,.int .i64 t553,.int .i64 t554,.int .i64 t555,.int .i64 t556,.float .f64 t557,.bool t558,.slice Ao28 t559.length co28,.int .i64 t562,.int .i64 t563,.int .i64 t564],.agg #[.int .i64 a0_0,.int .i64 a0_1,.int .i64 a0_2,.int .i64 a0_3,.int .i64 a0_4,.int .i64 a0_5,.float .f64 a0_6,.bool a0_7,.slice A0_8 l0_8.length c0_8,.int .i64 a0_9,.int .i64 a0_10,.int .i64 a0_11]] (by rfl) rfl rfl (by (try simp only [List.map_toArray,List.map_cons,List.map_nil]);first | done | rfl | (simp only [List.length_drop,List.length_take];rfl)) ?_
          with_reducible refine (humusref09_Same.calls k t551 t552 t553 t554 t555 t556 t557 t558 _ _ t559 t562 t563 t564 a0_0 a0_1 a0_2 a0_3 a0_4 a0_5 a0_6 a0_7 _ _ l0_8 a0_9 a0_10 a0_11 true _ ?side1 ?side2 ?side3 ?side4 A34.out).mono ?_
          (case side1 => repeat (first | exact (Kd.R_reads' HO561.out).2.2 | (with_reducible refine Kd.C_alloc ?_ _) | (with_reducible refine Kd.C_drewN ?_ _) | (with_reducible refine Kd.C_drew ?_)))
          (case side2 => exact (Kd.R_reads' HO561.out).2.1)
          (case side3 => repeat (first | exact (Kd.C_below HR0_8.out HB.out) | (with_reducible refine Kd.C_alloc ?_ _) | (with_reducible refine Kd.C_drewN ?_ _) | (with_reducible refine Kd.C_drew ?_)))
          (case side4 => exact HC0_8.out)
          rintro e w41 ⟨rfl,hb⟩
          refine ⟨_,rfl,?_⟩
          have n0_:=Aside0.mk (Kd.R_below (by (with_reducible repeat (first | apply Kd.R_alloc | apply Kd.R_drewN | apply Kd.R_drew));exact HO545.out) hb)
          have n1_:=Aside0.mk (Kd.R_below (by (with_reducible repeat (first | apply Kd.R_alloc | apply Kd.R_drewN | apply Kd.R_drew));exact HO561.out) hb)
          have n2_:=Aside0.mk (Kd.R_below (by (with_reducible repeat (first | apply Kd.R_alloc | apply Kd.R_drewN | apply Kd.R_drew));exact HO569.out) hb)
          have n3_:=Aside0.mk (blk_below (g:=gb541) (o:=.cells #[.int .i64 a0_0,.int .i64 a0_1,.int .i64 a0_2,.int .i64 a0_3,.int .i64 a0_4,.int .i64 a0_5,.float .f64 a0_6,.bool a0_7,.slice A0_8 l0_8.length c0_8,.int .i64 a0_9,.int .i64 a0_10,.int .i64 a0_11] 32 (0,0)) (by (with_reducible repeat (first | refine blk_drewN ?_ _ | refine blk_drew ?_ | refine blk_alloc ?_ _));exact BK541.out) hb)
          have n4_:=Aside0.mk (blk_below (g:=gb566) (o:=.cells #[.int .i64 t551,.int .i64 t552,.int .i64 t553,.int .i64 t554,.int .i64 t555,.int .i64 t556,.float .f64 t557,.bool t558,.slice Ao28 t559.length co28,.int .i64 t562,.int .i64 t563,.int .i64 t564] 32 (0,0)) (by (with_reducible repeat (first | refine blk_drewN ?_ _ | refine blk_drew ?_ | refine blk_alloc ?_ _));exact BK566.out) hb)
          have n5_:=Aside0.mk (below_step (by repeat (first | (with_reducible first | exact HB.out | apply below_alloc | apply pw_below_drewN | apply below_drew1 | refine below_set ?_ GE541.out | refine below_set ?_ GE566.out) | exact HB.out)) hb)
          clear HO545
          clear HO561
          clear HO569
          clear BK541
          clear BK566
          clear HB
          have HO545:=n0_
          have HO561:=n1_
          have HO569:=n2_
          have BK541:=n3_
          have BK566:=n4_
          have HB:=n5_
          clear n0_ n1_ n2_ n3_ n4_ n5_
          (try clear hb)
          (try clear hb2)
          (try clear hk)
          (try clear hi)
          refine hK.out _ _ ?_
          clear hK K
          refine norm_ (a':=?_) ?_ ?_
          rotate_left
          ·show Act.put _ (some 64) _ = _
           simp only [Act.put,q1_,q2_,q3_,i64_w,i32_w]
           rfl
          refine pure_ (i:=23) (N:=some 65) (v:=?_) (a':=?_) #[tt,tt,tt,tt,tt,tt,tt,tt,tt,tt,tt,tt,tt,tt,tt,tt,tt,tt,tt,tt,tt,tt,tt,tt,ff,ff,ff,ff] rfl rfl (any_of HT_.out (by kernel_rfl)) (fun _ _ _ h => h) (Or.inl ⟨by rfl,?_⟩) ?_ ?_
          rotate_left
          ·intro w'
           go_simp
           with_reducible rfl
          rotate_left
          ·simp only [Act.put,q1_,q2_,q3_,i64_w,i32_w]
           rfl
          refine pure_ (i:=24) (N:=some 66) (v:=?_) (a':=?_) #[tt,tt,tt,tt,tt,tt,tt,tt,tt,tt,tt,tt,tt,tt,tt,tt,tt,tt,tt,tt,tt,tt,tt,tt,tt,ff,ff,ff] rfl rfl (any_of HT_.out (by kernel_rfl)) (fun _ _ _ h => h) (Or.inl ⟨by rfl,?_⟩) ?_ ?_
          rotate_left
          ·intro w'
           go_simp
           with_reducible rfl
          rotate_left
          ·simp only [Act.put,q1_,q2_,q3_,i64_w,i32_w]
           rfl
          refine last_ (i:=25) (N:=some 67) #[tt,tt,tt,tt,tt,tt,tt,tt,tt,tt,tt,tt,tt,tt,tt,tt,tt,tt,tt,tt,tt,tt,tt,tt,tt,tt,ff,ff] rfl rfl (one_of HT_.out (by kernel_rfl)) (by decide) (fun K hK => ?_)
          refine goes_ Try.func45 (by kernel_rfl) rfl #[] (by rfl) rfl rfl (by (try simp only [List.map_toArray,List.map_cons,List.map_nil]);first | done | rfl | (simp only [List.length_drop,List.length_take];rfl)) ?_
          with_reducible refine (humuslaw09_awake.calls k  t571 _ A36.out).mono ?_
          rintro e w42 ⟨rfl,hb⟩
          refine ⟨_,rfl,?_⟩
          have n0_:=Aside0.mk (Kd.R_below (by (with_reducible repeat (first | apply Kd.R_alloc | apply Kd.R_drewN | apply Kd.R_drew));exact HO545.out) hb)
          have n1_:=Aside0.mk (Kd.R_below (by (with_reducible repeat (first | apply Kd.R_alloc | apply Kd.R_drewN | apply Kd.R_drew));exact HO561.out) hb)
          have n2_:=Aside0.mk (Kd.R_below (by (with_reducible repeat (first | apply Kd.R_alloc | apply Kd.R_drewN | apply Kd.R_drew));exact HO569.out) hb)
          have n3_:=Aside0.mk (blk_below (g:=gb541) (o:=.cells #[.int .i64 a0_0,.int .i64 a0_1,.int .i64 a0_2,.int .i64 a0_3,.int .i64 a0_4,.int .i64 a0_5,.float .f64 a0_6,.bool a0_7,.slice A0_8 l0_8.length c0_8,.int .i64 a0_9,.int .i64 a0_10,.int .i64 a0_11] 32 (0,0)) (by (with_reducible repeat (first | refine blk_drewN ?_ _ | refine blk_drew ?_ | refine blk_alloc ?_ _));exact BK541.out) hb)
          have n4_:=Aside0.mk (blk_below (g:=gb566) (o:=.cells #[.int .i64 t551,.int .i64 t552,.int .i64 t553,.int .i64 t554,.int .i64 t555,.int .i64 t556,.float .f64 t557,.bool t558,.slice Ao28 t559.length co28,.int .i64 t562,.int .i64 t563,.int .i64 t564] 32 (0,0)) (by (with_reducible repeat (first | refine blk_drewN ?_ _ | refine blk_drew ?_ | refine blk_alloc ?_ _));exact BK566.out) hb)
          have n5_:=Aside0.mk (below_step (by repeat (first | (with_reducible first | exact HB.out | apply below_alloc | apply pw_below_drewN | apply below_drew1 | refine below_set ?_ GE541.out | refine below_set ?_ GE566.out) | exact HB.out)) hb)
          clear HO545
          clear HO561
          clear HO569
          clear BK541
          clear BK566
          clear HB
          have HO545:=n0_
          have HO561:=n1_
          have HO569:=n2_
          have BK541:=n3_
          have BK566:=n4_
          have HB:=n5_
          clear n0_ n1_ n2_ n3_ n4_ n5_
          (try clear hb)
          (try clear hb2)
          (try clear hk)
          (try clear hi)
          refine hK.out _ _ ?_
          clear hK K
          refine norm_ (a':=?_) ?_ ?_
          rotate_left
          ·show Act.put _ (some 67) _ = _
           simp only [Act.put,q1_,q2_,q3_,i64_w,i32_w]
           rfl
          refine pure_ (i:=26) (N:=some 68) (v:=?_) (a':=?_) #[tt,tt,tt,tt,tt,tt,tt,tt,tt,tt,tt,tt,tt,tt,tt,tt,tt,tt,tt,tt,tt,tt,tt,tt,tt,tt,tt,ff] rfl rfl (any_of HT_.out (by kernel_rfl)) (fun _ _ _ h => h) (Or.inl ⟨by rfl,?_⟩) ?_ ?_
          rotate_left
          ·intro w'
           go_simp
           with_reducible rfl
          rotate_left
          ·simp only [Act.put,q1_,q2_,q3_,i64_w,i32_w]
           rfl
          refine pure_ (i:=27) (N:=some 2) (v:=?_) (a':=?_) #[tt,tt,tt,tt,tt,tt,tt,tt,tt,tt,tt,tt,tt,tt,tt,tt,tt,tt,tt,tt,tt,tt,tt,tt,tt,tt,tt,tt] rfl rfl (any_of HT_.out (by kernel_rfl)) (fun _ _ _ h => h) (Or.inl ⟨by rfl,?_⟩) ?_ ?_
          rotate_left
          ·intro w'
           go_simp
           with_reducible rfl
          rotate_left
          ·simp only [Act.put,q1_,q2_,q3_,i64_w,i32_w]
           rfl
          refine done_ (done_of HT_.out (by kernel_rfl)) ?_
          try go_wp2
          go_meet
          case rel => exact ⟨_,(t571),(by first | rfl | (simp;done) | (simp [*];done)),H',⟨by first | omega | exact Nat.le_refl _⟩,⟨by (with_reducible repeat (first | apply Kd.R_alloc | apply Kd.R_drewN | apply Kd.R_drew));exact HO561.out⟩,⟨by (with_reducible repeat (first | refine blk_drewN ?_ _ | refine blk_drew ?_ | refine blk_alloc ?_ _));exact BK541.out⟩,⟨by (with_reducible repeat (first | refine blk_drewN ?_ _ | refine blk_drew ?_ | refine blk_alloc ?_ _));exact BK566.out⟩,⟨by repeat (first | (with_reducible first | exact HB.out | apply below_alloc | apply pw_below_drewN | apply below_drew1 | refine below_set ?_ GE541.out | refine below_set ?_ GE566.out) | exact HB.out)⟩⟩
         ·replace c35:=Bool.eq_false_iff.mpr c35
          subst c35
          have H1 : (none) = some r:=by rw [if_neg (show ¬ (false = true) by decide)] at H;exact H
          clear H
          have H:=H1
          clear H1
          exact absurd H (by simp)
        ·rw [if_neg c33] at H
         exact absurd H (by simp)
       ·rw [if_neg c32] at H
        exact absurd H (by simp)
      ·rw [if_neg c30] at H
       exact absurd H (by simp)
     ·rw [if_neg c29] at H
      exact absurd H (by simp)
    case rest =>
     clear HC14
     try clear c1
     try clear c2
     try clear c2b0
     try clear c2b1
     try clear p2
     try clear c3
     try clear c4
     try clear hcv4
     try clear c5
     try clear c10
     try clear c10b0
     try clear c10b1
     try clear c10b2
     try clear c11
     try clear c12
     try clear c26
     try clear c29
     try clear c29b0
     try clear c29b1
     try clear c30
     try clear c30b0
     try clear c30b1
     try clear c32
     try clear c32b0
     try clear c32b1
     try clear c33
     try clear c33b0
     try clear c33b1
     try clear c35
     try clear hcv40
     try clear hcz16_0
     try clear hcz16_1
     try clear hcz16_10
     try clear hcz16_11
     try clear hcz16_2
     try clear hcz16_3
     try clear hcz16_4
     try clear hcz16_5
     try clear hcz16_6
     try clear hcz16_7
     try clear hcz16_8
     try clear hcz16_9
     try clear hcz21_0
     try clear hcz21_1
     try clear hcz21_10
     try clear hcz21_11
     try clear hcz21_2
     try clear hcz21_3
     try clear hcz21_4
     try clear hcz21_5
     try clear hcz21_6
     try clear hcz21_7
     try clear hcz21_8
     try clear hcz21_9
     try clear hcz27_0
     try clear hcz27_1
     try clear hcz27_10
     try clear hcz27_11
     try clear hcz27_2
     try clear hcz27_3
     try clear hcz27_4
     try clear hcz27_5
     try clear hcz27_6
     try clear hcz27_7
     try clear hcz27_8
     try clear hcz27_9
     try clear hfz16_0
     try clear hfz16_1
     try clear hfz16_10
     try clear hfz16_11
     try clear hfz16_2
     try clear hfz16_3
     try clear hfz16_4
     try clear hfz16_5
     try clear hfz16_6
     try clear hfz16_7
     try clear hfz16_8
     try clear hfz16_9
     try clear hfz21_0
     try clear hfz21_1
     try clear hfz21_10
     try clear hfz21_11
     try clear hfz21_2
     try clear hfz21_3
     try clear hfz21_4
     try clear hfz21_5
     try clear hfz21_6
     try clear hfz21_7
     try clear hfz21_8
     try clear hfz21_9
     try clear hfz27_0
     try clear hfz27_1
     try clear hfz27_10
     try clear hfz27_11
     try clear hfz27_2
     try clear hfz27_3
     try clear hfz27_4
     try clear hfz27_5
     try clear hfz27_6
     try clear hfz27_7
     try clear hfz27_8
     try clear hfz27_9
     obtain ⟨kq,x2_13,rfl,HA,HJ13,HO_567008,BK541,BK566,HB⟩:=hcut
     cases kq with
     | zero => exact absurd HA.out (by simp [humuslaw09_UndorecCodes.j2])
     | succ kj13 =>
      have H:=HA.out
      clear HA
      simp only [humuslaw09_UndorecCodes.j2] at H
      obtain rfl:=Option.some.inj H
      go_wp2
      go_ret
      exact ⟨by first | rfl | (simp [errW_none,errW_some] <;> rfl) | (simp [*,errW_none,errW_some] <;> rfl),by repeat (first | (with_reducible first | exact HB.out | apply below_alloc | apply pw_below_drewN | apply below_drew1 | refine below_set ?_ GE541.out | refine below_set ?_ GE566.out) | exact HB.out)⟩
   ·replace c12:=Bool.eq_false_iff.mpr c12
    subst c12
    have H1 : (if t546 = 1 then (if (t543.length : Int) = 0 then ((humuslaw09_awake.f k).bind fun t550 => (humuslaw09_UndorecCodes.j1 k t550)) else (none)) else (none)) = some r:=by rw [if_neg (show ¬ (false = true) by decide)] at H;exact H
    clear H
    have H:=H1
    clear H1
    have HC43:=Aside0.mk H
    clear H
    go_enter Try.func11,Try.ntmps11
    try go_wp2_with (first | ((with_reducible refine gate_dst (N:=1) rfl ?_);(try (refine gate_guard (by rfl) ?_;dsimp only));refine box_event ?hg (N:=1) ?hd (cs:=#[.int .i64 a0_0,.int .i64 a0_1,.int .i64 a0_2,.int .i64 a0_3,.int .i64 a0_4,.int .i64 a0_5,.float .f64 a0_6,.bool a0_7,.slice A0_8 l0_8.length c0_8,.int .i64 a0_9,.int .i64 a0_10,.int .i64 a0_11]) (t:=32) ?hr ?_;(case hd => rfl);(case hg => rfl);(case hr => first | (go_simp;done) | (go_simp;rfl));intro gb541 hg w44 hbox hb;have n0_:=Aside0.mk (below_step (by repeat (first | (with_reducible first | exact HB.out | apply below_alloc | apply pw_below_drewN | apply below_drew1) | exact HB.out)) hb);have n1_:=Aside0.mk (hbox);have n2_:=Aside0.mk ((by rw [hg];exact (below_size (by repeat (first | (with_reducible first | exact HB.out | apply below_alloc | apply pw_below_drewN | apply below_drew1) | exact HB.out))) : w.heap.size ≤ gb541));have n3_:=Aside0.mk ((by rw [hg];exact (below_size (by repeat (first | (with_reducible first | exact HB.out | apply below_alloc | apply pw_below_drewN | apply below_drew1) | exact HB.out))) : w.heap.size ≤ gb541));clear HB;have HB:=n0_;have BK541:=n1_;have GW541:=n2_;have GE541:=n3_;clear n0_ n1_ n2_ n3_;clear hb hbox hg;obtain ⟨hcz45_0,hcz45_1,hcz45_2,hcz45_3,hcz45_4,hcz45_5,hcz45_6,hcz45_7,hcz45_8,hcz45_9,hcz45_10,hcz45_11⟩:=blkc_12 BK541.out;obtain ⟨hfz45_0,hfz45_1,hfz45_2,hfz45_3,hfz45_4,hfz45_5,hfz45_6,hfz45_7,hfz45_8,hfz45_9,hfz45_10⟩:=blkz_11 BK541.out;have hfz45_11:=blk_frozen BK541.out 11) | ((with_reducible refine gate_callee (f:=46) rfl ?_);refine goesL_ (some 15) rfl rfl Try.func46 (by kernel_rfl) rfl #[.agg #[.int .i64 a0_0,.int .i64 a0_1,.int .i64 a0_2,.int .i64 a0_3,.int .i64 a0_4,.int .i64 a0_5,.float .f64 a0_6,.bool a0_7,.slice A0_8 l0_8.length c0_8,.int .i64 a0_9,.int .i64 a0_10,.int .i64 a0_11]] rfl (by (try simp only [List.map_toArray,List.map_cons,List.map_nil]);first | done | rfl | (simp only [List.length_drop,List.length_take];rfl)) ?_;(with_reducible refine (undorec_Encode.calls k a0_0 a0_1 a0_2 a0_3 a0_4 a0_5 a0_6 a0_7 _ _ l0_8 a0_9 a0_10 a0_11 t543 t546 _ ?side1 ?side2 A7.out).mono ?_);(case side1 => repeat (first | exact (Kd.C_below HR0_8.out HB.out) | (with_reducible refine Kd.C_alloc ?_ _) | (with_reducible refine Kd.C_drewN ?_ _) | (with_reducible refine Kd.C_drew ?_)));(case side2 => exact HC0_8.out);rintro e w46 ⟨v544,rfl,ho0,hb⟩;refine ⟨_,rfl,?_⟩;have n0_:=Aside0.mk (Kd.R_lower ho0 (below_size (by repeat (first | (with_reducible first | exact HB.out | apply below_alloc | apply pw_below_drewN | apply below_drew1 | refine below_set ?_ GE541.out) | exact HB.out))));have n1_:=Aside0.mk (blk_below (g:=gb541) (o:=.cells #[.int .i64 a0_0,.int .i64 a0_1,.int .i64 a0_2,.int .i64 a0_3,.int .i64 a0_4,.int .i64 a0_5,.float .f64 a0_6,.bool a0_7,.slice A0_8 l0_8.length c0_8,.int .i64 a0_9,.int .i64 a0_10,.int .i64 a0_11] 32 (0,0)) (by (with_reducible repeat (first | refine blk_drewN ?_ _ | refine blk_drew ?_ | refine blk_alloc ?_ _));exact BK541.out) hb);have n2_:=Aside0.mk (below_step (by repeat (first | (with_reducible first | exact HB.out | apply below_alloc | apply pw_below_drewN | apply below_drew1 | refine below_set ?_ GE541.out) | exact HB.out)) hb);clear BK541;clear HB;have HO545:=n0_;have BK541:=n1_;have HB:=n2_;clear n0_ n1_ n2_;(try clear hb);(try clear hb2);(try clear hk);(try clear hi);(try clear ho0)))
    have n0_:=Aside0.mk (Kd.R_drew HO545.out)
    have n1_:=Aside0.mk (blk_drew BK541.out)
    have n2_:=Aside0.mk (below_drew1 HB.out)
    clear HO545
    clear BK541
    clear HB
    have HO545:=n0_
    have BK541:=n1_
    have HB:=n2_
    clear n0_ n1_ n2_
    refine start_ (n:=6) (S:=fun w' => w'.cell? ⟨gb541,0,none⟩ = some (.int .i64 a0_0) ∧ w'.cell? ⟨gb541,1,none⟩ = some (.int .i64 a0_1) ∧ w'.cell? ⟨gb541,2,none⟩ = some (.int .i64 a0_2) ∧ w'.cell? ⟨gb541,3,none⟩ = some (.int .i64 a0_3) ∧ w'.cell? ⟨gb541,4,none⟩ = some (.int .i64 a0_4) ∧ w'.cell? ⟨gb541,5,none⟩ = some (.int .i64 a0_5) ∧ w'.cell? ⟨gb541,6,none⟩ = some (.float .f64 a0_6) ∧ w'.cell? ⟨gb541,7,none⟩ = some (.bool a0_7) ∧ w'.cell? ⟨gb541,8,none⟩ = some (.slice A0_8 l0_8.length c0_8) ∧ w'.cell? ⟨gb541,9,none⟩ = some (.int .i64 a0_9) ∧ w'.cell? ⟨gb541,10,none⟩ = some (.int .i64 a0_10) ∧ w'.cell? ⟨gb541,11,none⟩ = some (.int .i64 a0_11)) (ds:=[4]) #[ff,ff,ff,ff,ff,ff] (by kernel_rfl) rfl rfl ⟨(blk_cell BK541.out 0).trans rfl,(blk_cell BK541.out 1).trans rfl,(blk_cell BK541.out 2).trans rfl,(blk_cell BK541.out 3).trans rfl,(blk_cell BK541.out 4).trans rfl,(blk_cell BK541.out 5).trans rfl,(blk_cell BK541.out 6).trans rfl,(blk_cell BK541.out 7).trans rfl,(blk_cell BK541.out 8).trans rfl,(blk_cell BK541.out 9).trans rfl,(blk_cell BK541.out 10).trans rfl,(blk_cell BK541.out 11).trans rfl⟩ (fun hHeld => ?_)
    generalize w46.drew = w47 at HO545 BK541 HB hHeld ⊢
    refine take_ (i:=0) (N:=some 18) (v:=?_) (a':=?_) #[tt,ff,ff,ff,ff,ff] rfl rfl (by kernel_rfl) (fun _ _ _ h => h) (Or.inl ⟨by rfl,?_⟩) hHeld ?_ ?_
    rotate_left
    ·rintro w' ⟨s0,s1,s2,s3,s4,s5,s6,s7,s8,s9,s10,s11⟩
     go_simp
     with_reducible rfl
    rotate_left
    ·simp only [Act.put,q1_,q2_,q3_,i64_w,i32_w]
     rfl
    refine take_ (i:=3) (N:=some 21) (v:=?_) (a':=?_) #[tt,ff,ff,tt,ff,ff] rfl rfl (by kernel_rfl) (fun _ _ _ h => h) (Or.inl ⟨by rfl,?_⟩) hHeld ?_ ?_
    rotate_left
    ·rintro w' ⟨s0,s1,s2,s3,s4,s5,s6,s7,s8,s9,s10,s11⟩
     go_simp
     with_reducible rfl
    rotate_left
    ·simp only [Act.put,q1_,q2_,q3_,i64_w,i32_w]
     rfl
    refine one_ (i:=1) (N:=some 19) #[tt,tt,ff,tt,ff,ff] rfl rfl (by kernel_rfl) (by decide) (fun K hK => ?_)
    refine goes_ Try.func47 (by kernel_rfl) rfl #[.agg #[.int .i64 a0_0,.int .i64 a0_1,.int .i64 a0_2,.int .i64 a0_3,.int .i64 a0_4,.int .i64 a0_5,.float .f64 a0_6,.bool a0_7,.slice A0_8 l0_8.length c0_8,.int .i64 a0_9,.int .i64 a0_10,.int .i64 a0_11]] (by rfl) rfl rfl (by (try simp only [List.map_toArray,List.map_cons,List.map_nil]);first | done | rfl | (simp only [List.length_drop,List.length_take];rfl)) ?_
    with_reducible refine (undorec_Check.calls k a0_0 a0_1 a0_2 a0_3 a0_4 a0_5 a0_6 a0_7 _ _ l0_8 a0_9 a0_10 a0_11 t547 _ ?side1 ?side2 A8.out).mono ?_
    (case side1 => repeat (first | exact (Kd.C_below HR0_8.out HB.out) | (with_reducible refine Kd.C_alloc ?_ _) | (with_reducible refine Kd.C_drewN ?_ _) | (with_reducible refine Kd.C_drew ?_)))
    (case side2 => exact HC0_8.out)
    rintro e w48 ⟨rfl,hb⟩
    refine ⟨_,rfl,?_⟩
    have n0_:=Aside0.mk (Kd.R_below (by (with_reducible repeat (first | apply Kd.R_alloc | apply Kd.R_drewN | apply Kd.R_drew));exact HO545.out) hb)
    have n1_:=Aside0.mk (blk_below (g:=gb541) (o:=.cells #[.int .i64 a0_0,.int .i64 a0_1,.int .i64 a0_2,.int .i64 a0_3,.int .i64 a0_4,.int .i64 a0_5,.float .f64 a0_6,.bool a0_7,.slice A0_8 l0_8.length c0_8,.int .i64 a0_9,.int .i64 a0_10,.int .i64 a0_11] 32 (0,0)) (by (with_reducible repeat (first | refine blk_drewN ?_ _ | refine blk_drew ?_ | refine blk_alloc ?_ _));exact BK541.out) hb)
    have n2_:=Aside0.mk (below_step (by repeat (first | (with_reducible first | exact HB.out | apply below_alloc | apply pw_below_drewN | apply below_drew1 | refine below_set ?_ GE541.out) | exact HB.out)) hb)
    clear HO545
    clear BK541
    clear HB
    have HO545:=n0_
    have BK541:=n1_
    have HB:=n2_
    clear n0_ n1_ n2_
    (try clear hb)
    (try clear hb2)
    (try clear hk)
    (try clear hi)
    refine hK.out _ _ ⟨(blk_cell BK541.out 0).trans rfl,(blk_cell BK541.out 1).trans rfl,(blk_cell BK541.out 2).trans rfl,(blk_cell BK541.out 3).trans rfl,(blk_cell BK541.out 4).trans rfl,(blk_cell BK541.out 5).trans rfl,(blk_cell BK541.out 6).trans rfl,(blk_cell BK541.out 7).trans rfl,(blk_cell BK541.out 8).trans rfl,(blk_cell BK541.out 9).trans rfl,(blk_cell BK541.out 10).trans rfl,(blk_cell BK541.out 11).trans rfl⟩ (fun hHeld => ?_)
    clear hK K
    refine norm_ (a':=?_) ?_ ?_
    rotate_left
    ·show Act.put _ (some 19) _ = _
     simp only [Act.put,q1_,q2_,q3_,i64_w,i32_w]
     rfl
    refine pure_ (i:=2) (N:=some 20) (v:=?_) (a':=?_) #[tt,tt,tt,tt,ff,ff] rfl rfl (by kernel_rfl) (fun _ _ _ h => h) (Or.inl ⟨by rfl,?_⟩) ?_ ?_
    rotate_left
    ·intro w'
     go_simp
     with_reducible rfl
    rotate_left
    ·simp only [Act.put,q1_,q2_,q3_,i64_w,i32_w]
     rfl
    refine last_ (i:=4) (N:=some 22) #[tt,tt,tt,tt,tt,ff] rfl rfl (by kernel_rfl) (by decide) (fun K hK => ?_)
    refine goes_ Try.func48 (by kernel_rfl) rfl #[.agg #[.int .i64 a0_0,.int .i64 a0_1,.int .i64 a0_2,.int .i64 a0_3,.int .i64 a0_4,.int .i64 a0_5,.float .f64 a0_6,.bool a0_7,.slice A0_8 l0_8.length c0_8,.int .i64 a0_9,.int .i64 a0_10,.int .i64 a0_11]] (by rfl) rfl rfl (by (try simp only [List.map_toArray,List.map_cons,List.map_nil]);first | done | rfl | (simp only [List.length_drop,List.length_take];rfl)) ?_
    with_reducible refine (humusref09_May.calls k a0_0 a0_1 a0_2 a0_3 a0_4 a0_5 a0_6 a0_7 _ _ l0_8 a0_9 a0_10 a0_11 t548 _ ?side1 ?side2 A9.out).mono ?_
    (case side1 => repeat (first | exact (Kd.C_below HR0_8.out HB.out) | (with_reducible refine Kd.C_alloc ?_ _) | (with_reducible refine Kd.C_drewN ?_ _) | (with_reducible refine Kd.C_drew ?_)))
    (case side2 => exact HC0_8.out)
    rintro e w49 ⟨rfl,hb⟩
    refine ⟨_,rfl,?_⟩
    have n0_:=Aside0.mk (Kd.R_below (by (with_reducible repeat (first | apply Kd.R_alloc | apply Kd.R_drewN | apply Kd.R_drew));exact HO545.out) hb)
    have n1_:=Aside0.mk (blk_below (g:=gb541) (o:=.cells #[.int .i64 a0_0,.int .i64 a0_1,.int .i64 a0_2,.int .i64 a0_3,.int .i64 a0_4,.int .i64 a0_5,.float .f64 a0_6,.bool a0_7,.slice A0_8 l0_8.length c0_8,.int .i64 a0_9,.int .i64 a0_10,.int .i64 a0_11] 32 (0,0)) (by (with_reducible repeat (first | refine blk_drewN ?_ _ | refine blk_drew ?_ | refine blk_alloc ?_ _));exact BK541.out) hb)
    have n2_:=Aside0.mk (below_step (by repeat (first | (with_reducible first | exact HB.out | apply below_alloc | apply pw_below_drewN | apply below_drew1 | refine below_set ?_ GE541.out) | exact HB.out)) hb)
    clear HO545
    clear BK541
    clear HB
    have HO545:=n0_
    have BK541:=n1_
    have HB:=n2_
    clear n0_ n1_ n2_
    (try clear hb)
    (try clear hb2)
    (try clear hk)
    (try clear hi)
    refine hK.out _ _ ?_
    clear hK K
    refine norm_ (a':=?_) ?_ ?_
    rotate_left
    ·show Act.put _ (some 22) _ = _
     simp only [Act.put,q1_,q2_,q3_,i64_w,i32_w]
     rfl
    refine pure_ (i:=5) (N:=some 23) (v:=?_) (a':=?_) #[tt,tt,tt,tt,tt,tt] rfl rfl (by kernel_rfl) (fun _ _ _ h => h) (Or.inl ⟨by rfl,?_⟩) ?_ ?_
    rotate_left
    ·intro w'
     go_simp
     with_reducible rfl
    rotate_left
    ·simp only [Act.put,q1_,q2_,q3_,i64_w,i32_w]
     rfl
    refine done_ (by kernel_rfl) ?_
    obtain ⟨hcz50_0,hcz50_1,hcz50_2,hcz50_3,hcz50_4,hcz50_5,hcz50_6,hcz50_7,hcz50_8,hcz50_9,hcz50_10,hcz50_11⟩:=blkc_12 BK541.out
    obtain ⟨hfz50_0,hfz50_1,hfz50_2,hfz50_3,hfz50_4,hfz50_5,hfz50_6,hfz50_7,hfz50_8,hfz50_9,hfz50_10,hfz50_11⟩:=blkz_12 BK541.out
    go_upto_region 7 with (first | ((with_reducible refine gate_callee (f:=48) rfl ?_);refine goesL_ (some 25) rfl rfl Try.func48 (by kernel_rfl) rfl #[.agg #[.int .i64 a0_0,.int .i64 a0_1,.int .i64 a0_2,.int .i64 a0_3,.int .i64 a0_4,.int .i64 a0_5,.float .f64 a0_6,.bool a0_7,.slice A0_8 l0_8.length c0_8,.int .i64 a0_9,.int .i64 a0_10,.int .i64 a0_11]] rfl (by (try simp only [List.map_toArray,List.map_cons,List.map_nil]);first | done | rfl | (simp only [List.length_drop,List.length_take];rfl)) ?_;(with_reducible refine (humusref09_May.calls k a0_0 a0_1 a0_2 a0_3 a0_4 a0_5 a0_6 a0_7 _ _ l0_8 a0_9 a0_10 a0_11 false _ ?side1 ?side2 A11.out).mono ?_);(case side1 => repeat (first | exact (Kd.C_below HR0_8.out HB.out) | (with_reducible refine Kd.C_alloc ?_ _) | (with_reducible refine Kd.C_drewN ?_ _) | (with_reducible refine Kd.C_drew ?_)));(case side2 => exact HC0_8.out);rintro e w51 ⟨rfl,hb⟩;refine ⟨_,rfl,?_⟩;have n0_:=Aside0.mk (Kd.R_below (by (with_reducible repeat (first | apply Kd.R_alloc | apply Kd.R_drewN | apply Kd.R_drew));exact HO545.out) hb);have n1_:=Aside0.mk (blk_below (g:=gb541) (o:=.cells #[.int .i64 a0_0,.int .i64 a0_1,.int .i64 a0_2,.int .i64 a0_3,.int .i64 a0_4,.int .i64 a0_5,.float .f64 a0_6,.bool a0_7,.slice A0_8 l0_8.length c0_8,.int .i64 a0_9,.int .i64 a0_10,.int .i64 a0_11] 32 (0,0)) (by (with_reducible repeat (first | refine blk_drewN ?_ _ | refine blk_drew ?_ | refine blk_alloc ?_ _));exact BK541.out) hb);have n2_:=Aside0.mk (below_step (by repeat (first | (with_reducible first | exact HB.out | apply below_alloc | apply pw_below_drewN | apply below_drew1 | refine below_set ?_ GE541.out) | exact HB.out)) hb);clear HO545;clear BK541;clear HB;have HO545:=n0_;have BK541:=n1_;have HB:=n2_;clear n0_ n1_ n2_;(try clear hb);(try clear hb2);(try clear hk);(try clear hi)))
    (try simp only [Act.put,List.setIfInBounds_toArray,List.set_cons_zero,List.set_cons_succ])
    go_cut [2] (fun v2 wc => ∃ (kq : Nat) (x2_42 : Bool),v2 = .bool x2_42 ∧ Aside0 (humuslaw09_UndorecCodes.j1 kq x2_42 = some r) ∧ Aside0 (kq ≤ k) ∧ Aside0 (wc.heap[gb541]? = some (.cells #[.int .i64 a0_0,.int .i64 a0_1,.int .i64 a0_2,.int .i64 a0_3,.int .i64 a0_4,.int .i64 a0_5,.float .f64 a0_6,.bool a0_7,(.slice A0_8 l0_8.length c0_8),.int .i64 a0_9,.int .i64 a0_10,.int .i64 a0_11] 32 (0,0))) ∧ Aside0 (Below w.heap.size w wc))
    case first =>
     have H:=HC43.out
     clear HC43
     by_cases c52 : t546 = 1
     ·rw [if_pos c52] at H
      have c52b0 : (t546 == 1) = true:=beq_iff_eq.mpr c52
      have c52b1 : (t546 != 1) = false:=bne_eq_false_iff_eq.mpr c52
      clear c52
      (first | rw [c52b0] | (simp only [i64_w,i32_w];rw [c52b0]) | skip)
      by_cases c53 : (t543.length : Int) = 0
      ·rw [if_pos c53] at H
       have c53b0 : ((t543.length : Int) == 0) = true:=beq_iff_eq.mpr c53
       have c53b1 : ((t543.length : Int) != 0) = false:=bne_eq_false_iff_eq.mpr c53
       clear c53
       replace H:=Option.bind_eq_some_iff.mp H
       obtain ⟨t550,A540,H⟩:=H
       replace H : (humuslaw09_UndorecCodes.j1 k t550) = some r:=H
       have A54:=Aside0.mk A540
       clear A540
       have H':=Aside0.mk H
       clear H
       obtain ⟨Ao55,co55,eo55⟩:=Kd.R_slice HO545.out
       subst eo55
       go_wp2_with (first | (go_at_call 45;(with_reducible refine (humuslaw09_awake.calls k  t550 _ A54.out).mono ?_);rintro e w56 ⟨rfl,hb⟩;have n0_:=Aside0.mk (Kd.R_below (by (with_reducible repeat (first | apply Kd.R_alloc | apply Kd.R_drewN | apply Kd.R_drew));exact HO545.out) hb);have n1_:=Aside0.mk (blk_below (g:=gb541) (o:=.cells #[.int .i64 a0_0,.int .i64 a0_1,.int .i64 a0_2,.int .i64 a0_3,.int .i64 a0_4,.int .i64 a0_5,.float .f64 a0_6,.bool a0_7,.slice A0_8 l0_8.length c0_8,.int .i64 a0_9,.int .i64 a0_10,.int .i64 a0_11] 32 (0,0)) (by (with_reducible repeat (first | refine blk_drewN ?_ _ | refine blk_drew ?_ | refine blk_alloc ?_ _));exact BK541.out) hb);have n2_:=Aside0.mk (below_step (by repeat (first | (with_reducible first | exact HB.out | apply below_alloc | apply pw_below_drewN | apply below_drew1 | refine below_set ?_ GE541.out) | exact HB.out)) hb);clear HO545;clear BK541;clear HB;have HO545:=n0_;have BK541:=n1_;have HB:=n2_;clear n0_ n1_ n2_;(try clear hb);(try clear hb2);(try clear hk);(try clear hi)))
       go_meet
       case rel => exact ⟨_,(t550),(by first | rfl | (simp;done) | (simp [*];done)),H',⟨by first | omega | exact Nat.le_refl _⟩,⟨by (with_reducible repeat (first | refine blk_drewN ?_ _ | refine blk_drew ?_ | refine blk_alloc ?_ _));exact BK541.out⟩,⟨by repeat (first | (with_reducible first | exact HB.out | apply below_alloc | apply pw_below_drewN | apply below_drew1 | refine below_set ?_ GE541.out) | exact HB.out)⟩⟩
      ·rw [if_neg c53] at H
       exact absurd H (by simp)
     ·rw [if_neg c52] at H
      exact absurd H (by simp)
    case rest =>
     clear HC43
     try clear c1
     try clear c2
     try clear c2b0
     try clear c2b1
     try clear p2
     try clear c3
     try clear c4
     try clear hcv4
     try clear c5
     try clear c10
     try clear c10b0
     try clear c10b1
     try clear c10b2
     try clear c11
     try clear c12
     try clear c26
     try clear c29
     try clear c29b0
     try clear c29b1
     try clear c30
     try clear c30b0
     try clear c30b1
     try clear c32
     try clear c32b0
     try clear c32b1
     try clear c33
     try clear c33b0
     try clear c33b1
     try clear c35
     try clear hcv40
     try clear c45
     try clear c46
     try clear c47
     try clear c48
     try clear c50
     try clear c51
     try clear c52
     try clear c52b0
     try clear c52b1
     try clear c53
     try clear c53b0
     try clear c53b1
     try clear hcz16_0
     try clear hcz16_1
     try clear hcz16_10
     try clear hcz16_11
     try clear hcz16_2
     try clear hcz16_3
     try clear hcz16_4
     try clear hcz16_5
     try clear hcz16_6
     try clear hcz16_7
     try clear hcz16_8
     try clear hcz16_9
     try clear hcz21_0
     try clear hcz21_1
     try clear hcz21_10
     try clear hcz21_11
     try clear hcz21_2
     try clear hcz21_3
     try clear hcz21_4
     try clear hcz21_5
     try clear hcz21_6
     try clear hcz21_7
     try clear hcz21_8
     try clear hcz21_9
     try clear hcz27_0
     try clear hcz27_1
     try clear hcz27_10
     try clear hcz27_11
     try clear hcz27_2
     try clear hcz27_3
     try clear hcz27_4
     try clear hcz27_5
     try clear hcz27_6
     try clear hcz27_7
     try clear hcz27_8
     try clear hcz27_9
     try clear hcz45_0
     try clear hcz45_1
     try clear hcz45_10
     try clear hcz45_11
     try clear hcz45_2
     try clear hcz45_3
     try clear hcz45_4
     try clear hcz45_5
     try clear hcz45_6
     try clear hcz45_7
     try clear hcz45_8
     try clear hcz45_9
     try clear hcz50_0
     try clear hcz50_1
     try clear hcz50_10
     try clear hcz50_11
     try clear hcz50_2
     try clear hcz50_3
     try clear hcz50_4
     try clear hcz50_5
     try clear hcz50_6
     try clear hcz50_7
     try clear hcz50_8
     try clear hcz50_9
     try clear hfz16_0
     try clear hfz16_1
     try clear hfz16_10
     try clear hfz16_11
     try clear hfz16_2
     try clear hfz16_3
     try clear hfz16_4
     try clear hfz16_5
     try clear hfz16_6
     try clear hfz16_7
     try clear hfz16_8
     try clear hfz16_9
     try clear hfz21_0
     try clear hfz21_1
     try clear hfz21_10
     try clear hfz21_11
     try clear hfz21_2
     try clear hfz21_3
     try clear hfz21_4
     try clear hfz21_5
     try clear hfz21_6
     try clear hfz21_7
     try clear hfz21_8
     try clear hfz21_9
     try clear hfz27_0
     try clear hfz27_1
     try clear hfz27_10
     try clear hfz27_11
     try clear hfz27_2
     try clear hfz27_3
     try clear hfz27_4
     try clear hfz27_5
     try clear hfz27_6
     try clear hfz27_7
     try clear hfz27_8
     try clear hfz27_9
     try clear hfz45_0
     try clear hfz45_1
     try clear hfz45_10
     try clear hfz45_11
     try clear hfz45_2
     try clear hfz45_3
     try clear hfz45_4
     try clear hfz45_5
     try clear hfz45_6
     try clear hfz45_7
     try clear hfz45_8
     try clear hfz45_9
     try clear hfz50_0
     try clear hfz50_1
     try clear hfz50_10
     try clear hfz50_11
     try clear hfz50_2
     try clear hfz50_3
     try clear hfz50_4
     try clear hfz50_5
     try clear hfz50_6
     try clear hfz50_7
     try clear hfz50_8
     try clear hfz50_9
     try clear p2
     obtain ⟨kq,x2_42,rfl,HA,HJ42,BK541,HB⟩:=hcut
     cases kq with
     | zero => exact absurd HA.out (by simp [humuslaw09_UndorecCodes.j1])
     | succ kj42 =>
      have H:=HA.out
      clear HA
      simp only [humuslaw09_UndorecCodes.j1] at H
      obtain rfl:=Option.some.inj H
      go_wp2
      go_ret
      exact ⟨by first | rfl | (simp [errW_none,errW_some] <;> rfl) | (simp [*,errW_none,errW_some] <;> rfl),by repeat (first | (with_reducible first | exact HB.out | apply below_alloc | apply pw_below_drewN | apply below_drew1 | refine below_set ?_ GE541.out) | exact HB.out)⟩
end Go.Proofs.Ytdcllbhkjcdnoaa.P
set_option linter.unusedVariables false
set_option linter.unusedSimpArgs false
namespace Go.Proofs.Ytdcllbhkjcdnoaa.P
open Go.RowKit Go.Proofs.Ytdcllbhkjcdnoaa Go.Proofs.Ytdcllbhkjcdnoaa.Mem Go.Proofs.Ytdcllbhkjcdnoaa.Pac Go.Proofs.YtdcllbhkjcdnoaaW.PrintWords Go.Proofs.YtdcllbhkjcdnoaaW.PrintLast
theorem undorecCodes_ev {tx no pr ki pa sl : Int} {ke : Nat} (de : Bool) (co : List Nat) (wr ce nn : Int) (hx : ke < 18446744073709551616) (hc : ∀ x ∈ co, x < 18446744073709551616) : humuslaw09_UndorecCodes.f 300 tx no pr ki pa sl ke de co wr ce nn = some true := by
  unfold humuslaw09_UndorecCodes.f
  by_cases hl : co.length > 100
  · rw [if_pos (by omega), awake09_ev (by omega)]
    rfl
  have hj2 : ∀ b, humuslaw09_UndorecCodes.j2 300 b = some b := fun b => by rw [show (300 : Nat) = 299 + 1 from rfl]; simp only [humuslaw09_UndorecCodes.j2]
  have hj1 : ∀ b, humuslaw09_UndorecCodes.j1 300 b = some b := fun b => by rw [show (300 : Nat) = 299 + 1 from rfl]; simp only [humuslaw09_UndorecCodes.j1]
  rw [if_neg (by omega), uEncode_ev (by omega) (by omega) hx hc, uCheck_ev (by omega) (by omega), uMay_ev (by omega) hx (by omega)]
  simp only [Option.bind_some]
  by_cases hm : mayU tx no pr ki pa sl ke de co wr ce nn = true
  · rw [hm]
    simp only [if_true]
    rw [if_neg (by decide), uDec_und (by omega) hm hx hc]
    simp only [Option.bind_some]
    have h4 := mayU_co hm
    rw [if_pos (by rw [bytesU_size]; split <;> omega), uBytes_ev (by omega) hx hc hm]
    simp only [Option.bind_some]
    rw [if_pos trivial, rSameU_ev (by omega) (by omega), sameU_self]
    simp only [Option.bind_some]
    rw [if_pos trivial, awake09_ev (by omega)]
    simp only [Option.bind_some]
    exact hj2 _
  · rw [(Bool.not_eq_true _).mp hm]
    simp only [Bool.false_eq_true, if_false]
    rw [if_neg (by decide), if_pos trivial, if_pos (by rw [List.length_nil]; rfl), awake09_ev (by omega)]
    simp only [Option.bind_some]
    exact hj1 _
theorem UndorecCodes_walk {w : World} (a : S32) (A : Option Addr) (c : Nat) (hc : a.f6.f2.length ≤ c) (hr : Kd.C Kd.f64 w A a.f6.f2.length a.f6.f2) (ga : good_undo a) :
    Calls Try.prog 11 #[.agg #[.int .i64 a.f0, .int .i64 a.f1, .int .i64 a.f2, .int .i64 a.f3, .int .i64 a.f4, .int .i64 a.f5, .float .f64 a.f6.f0, .bool a.f6.f1, .slice A a.f6.f2.length c, .int .i64 a.f6.f3, .int .i64 a.f6.f4.f0, .int .i64 a.f6.f4.f1]] w fun e w' => e = .returned (.bool true) ∧ Below w.heap.size w w' :=
  humuslaw09_UndorecCodes.calls 300 _ _ _ _ _ _ _ _ _ _ _ _ _ _ true w hr hc (undorecCodes_ev _ _ _ _ _ ga.2.2.2.2.2.2.1 ga.2.2.2.2.2.2.2.1.1)
end Go.Proofs.Ytdcllbhkjcdnoaa.P
