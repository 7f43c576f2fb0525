/- Put together by wip/prune.py out of this claim's texts. -/
import Derived.Test.YtdcllbhkjcdnoaaMUndorecSame5
import Derived.Test.YtdcllbhkjcdnoaaMUndorecSame15
import Derived.Test.YtdcllbhkjcdnoaaMUndorecSame16
import Derived.Test.YtdcllbhkjcdnoaaMUndorecSame17
namespace Go.Proofs.Ytdcllbhkjcdnoaa.P
open Go.RowKit Go.Proofs.YtdcllbhkjcdnoaaW.PrintWords Go.Proofs.YtdcllbhkjcdnoaaW.PrintLast Go.Proofs.YtdcllbhkjcdnoaaW.PrintMore
attribute [local go_sem] max2_int min2_int max_two min_two max_three min_three max_four min_four   -- for this text's walks alone
attribute [local go_sem] run_store_float
set_option linter.unusedVariables false
set_option linter.unusedSimpArgs false
mutual
def humuslaw09_UndorecSame.j0 : Nat → Bool → Int → Int → Int → Int → Int → Int → Nat → Bool → List Nat → Int → Int → Int → Int → Int → Int → Int → Int → Int → Nat → Bool → List Nat → Int → Int → Int → Option (Bool)
 | 0,_,_,_,_,_,_,_,_,_,_,_,_,_,_,_,_,_,_,_,_,_,_,_,_,_ => none
 | k + 1,x21,x679000,x679001,x679002,x679003,x679004,x679005,x679006,x679007,x679008,x679009,x679010,x679011,x680000,x680001,x680002,x680003,x680004,x680005,x680006,x680007,x680008,x680009,x680010,x680011 => if x21 = true then ((humuslaw09_awake.f k).bind fun t680 => (some t680)) else ((humusref09_Same.f k x679000 x679001 x679002 x679003 x679004 x679005 x679006 x679007 x679008 x679009 x679010 x679011 x680000 x680001 x680002 x680003 x680004 x680005 x680006 x680007 x680008 x680009 x680010 x680011).bind fun t681 => ((undorec_Encode.f k x679000 x679001 x679002 x679003 x679004 x679005 x679006 x679007 x679008 x679009 x679010 x679011).bind fun bt682 => ((undorec_Encode.f k x680000 x680001 x680002 x680003 x680004 x680005 x680006 x680007 x680008 x680009 x680010 x680011).bind fun bt686 => ((undorec_Same.f x679000 x679001 x679002 x679003 x679004 x679005 x679006 x679007 x679008 x679009 x679010 x679011 x680000 x680001 x680002 x680003 x680004 x680005 x680006 x680007 x680008 x680009 x680010 x680011).bind fun t690 => (if (t690 == t681) = true then ((undorec_Same.f x679000 x679001 x679002 x679003 x679004 x679005 x679006 x679007 x679008 x679009 x679010 x679011 x679000 x679001 x679002 x679003 x679004 x679005 x679006 x679007 x679008 x679009 x679010 x679011).bind fun t691 => (if t691 = true then (if bt682.2 = 0 then (if bt686.2 = 0 then (if (((strOfNums bt682.1).toList == (strOfNums bt686.1).toList) == t681) = true then ((humuslaw09_awake.f k).bind fun t692 => (humuslaw09_UndorecSame.j1 k t692)) else (none)) else ((humuslaw09_awake.f k).bind fun t693 => (humuslaw09_UndorecSame.j1 k t693))) else ((humuslaw09_awake.f k).bind fun t694 => (humuslaw09_UndorecSame.j1 k t694))) else (none))) else (none))))))
def humuslaw09_UndorecSame.j1 : Nat → Bool → Option (Bool)
 | 0,_ => none
 | k + 1,x4 => some x4
end
def humuslaw09_UndorecSame.f (k : Nat) (a0_0 : Int) (a0_1 : Int) (a0_2 : Int) (a0_3 : Int) (a0_4 : Int) (a0_5 : Int) (a0_6 : Nat) (a0_7 : Bool) (l0_8 : List Nat) (a0_9 : Int) (a0_10 : Int) (a0_11 : Int) (a1_0 : Int) (a1_1 : Int) (a1_2 : Int) (a1_3 : Int) (a1_4 : Int) (a1_5 : Int) (a1_6 : Nat) (a1_7 : Bool) (l1_8 : List Nat) (a1_9 : Int) (a1_10 : Int) (a1_11 : Int) : Option (Bool):=if (l0_8.length : Int) > 100 then (humuslaw09_UndorecSame.j0 k true a0_0 a0_1 a0_2 a0_3 a0_4 a0_5 a0_6 a0_7 l0_8 a0_9 a0_10 a0_11 a1_0 a1_1 a1_2 a1_3 a1_4 a1_5 a1_6 a1_7 l1_8 a1_9 a1_10 a1_11) else (humuslaw09_UndorecSame.j0 k (decide ((l1_8.length : Int) > 100)) a0_0 a0_1 a0_2 a0_3 a0_4 a0_5 a0_6 a0_7 l0_8 a0_9 a0_10 a0_11 a1_0 a1_1 a1_2 a1_3 a1_4 a1_5 a1_6 a1_7 l1_8 a1_9 a1_10 a1_11)
set_option maxHeartbeats 8000000 in
set_option maxRecDepth 100000 in
theorem humuslaw09_UndorecSame.calls (k : Nat) (a0_0 : Int) (a0_1 : Int) (a0_2 : Int) (a0_3 : Int) (a0_4 : Int) (a0_5 : Int) (a0_6 : Nat) (a0_7 : Bool) (A0_8 : Option Addr) (c0_8 : Nat) (l0_8 : List Nat) (a0_9 : Int) (a0_10 : Int) (a0_11 : Int) (a1_0 : Int) (a1_1 : Int) (a1_2 : Int) (a1_3 : Int) (a1_4 : Int) (a1_5 : Int) (a1_6 : Nat) (a1_7 : Bool) (A1_8 : Option Addr) (c1_8 : Nat) (l1_8 : List Nat) (a1_9 : Int) (a1_10 : Int) (a1_11 : Int) (r : Bool) (w : World) (hr0_8 : Kd.C Kd.f64 w A0_8 l0_8.length l0_8) (hc0_8 : l0_8.length ≤ c0_8) (hr1_8 : Kd.C Kd.f64 w A1_8 l1_8.length l1_8) (hc1_8 : l1_8.length ≤ c1_8) (h : humuslaw09_UndorecSame.f k a0_0 a0_1 a0_2 a0_3 a0_4 a0_5 a0_6 a0_7 l0_8 a0_9 a0_10 a0_11 a1_0 a1_1 a1_2 a1_3 a1_4 a1_5 a1_6 a1_7 l1_8 a1_9 a1_10 a1_11 = some r) :
  Calls Try.prog 14 #[.agg #[.int .i64 a0_0,.int .i64 a0_1,.int .i64 a0_2,.int .i64 a0_3,.int .i64 a0_4,.int .i64 a0_5,.float .f64 a0_6,.bool a0_7,.slice A0_8 l0_8.length c0_8,.int .i64 a0_9,.int .i64 a0_10,.int .i64 a0_11],.agg #[.int .i64 a1_0,.int .i64 a1_1,.int .i64 a1_2,.int .i64 a1_3,.int .i64 a1_4,.int .i64 a1_5,.float .f64 a1_6,.bool a1_7,.slice A1_8 l1_8.length c1_8,.int .i64 a1_9,.int .i64 a1_10,.int .i64 a1_11]] w fun e w' => e = .returned (.bool r) ∧ Below w.heap.size w w':=by
 have hu32:=Try.underlying32
 have HR0_8:=Aside0.mk hr0_8
 have HC0_8:=Aside0.mk hc0_8
 clear hr0_8 hc0_8
 have HR1_8:=Aside0.mk hr1_8
 have HC1_8:=Aside0.mk hc1_8
 clear hr1_8 hc1_8
 have HB:=Aside0.mk (Below.refl w.heap.size w)
 have H : (if (l0_8.length : Int) > 100 then (humuslaw09_UndorecSame.j0 k true a0_0 a0_1 a0_2 a0_3 a0_4 a0_5 a0_6 a0_7 l0_8 a0_9 a0_10 a0_11 a1_0 a1_1 a1_2 a1_3 a1_4 a1_5 a1_6 a1_7 l1_8 a1_9 a1_10 a1_11) else (humuslaw09_UndorecSame.j0 k (decide ((l1_8.length : Int) > 100)) a0_0 a0_1 a0_2 a0_3 a0_4 a0_5 a0_6 a0_7 l0_8 a0_9 a0_10 a0_11 a1_0 a1_1 a1_2 a1_3 a1_4 a1_5 a1_6 a1_7 l1_8 a1_9 a1_10 a1_11)) = some r:=h
 clear h
 have HC3:=Aside0.mk H
 clear H
 go_enter Try.func14,Try.ntmps14
 go_upto_region 1 with (first | ((with_reducible refine gate_dst (N:=2) rfl ?_);(try (refine gate_guard (by rfl) ?_;dsimp only));refine box_event ?hg (N:=2) ?hd (cs:=#[.int .i64 a0_0,.int .i64 a0_1,.int .i64 a0_2,.int .i64 a0_3,.int .i64 a0_4,.int .i64 a0_5,.float .f64 a0_6,.bool a0_7,.slice A0_8 l0_8.length c0_8,.int .i64 a0_9,.int .i64 a0_10,.int .i64 a0_11]) (t:=32) ?hr ?_;(case hd => rfl);(case hg => rfl);(case hr => first | (go_simp;done) | (go_simp;rfl));intro gb678 hg w4 hbox hb;have n0_:=Aside0.mk (below_step (by repeat (first | (with_reducible first | exact HB.out | apply below_alloc | apply pw_below_drewN | apply below_drew1) | exact HB.out)) hb);have n1_:=Aside0.mk (hbox);have n2_:=Aside0.mk ((by rw [hg];exact (below_size (by repeat (first | (with_reducible first | exact HB.out | apply below_alloc | apply pw_below_drewN | apply below_drew1) | exact HB.out))) : w.heap.size ≤ gb678));have n3_:=Aside0.mk ((by rw [hg];exact (below_size (by repeat (first | (with_reducible first | exact HB.out | apply below_alloc | apply pw_below_drewN | apply below_drew1) | exact HB.out))) : w.heap.size ≤ gb678));clear HB;have HB:=n0_;have BK678:=n1_;have GW678:=n2_;have GE678:=n3_;clear n0_ n1_ n2_ n3_;clear hb hbox hg) | ((with_reducible refine gate_dst (N:=3) rfl ?_);(try (refine gate_guard (by rfl) ?_;dsimp only));refine box_event ?hg (N:=3) ?hd (cs:=#[.int .i64 a1_0,.int .i64 a1_1,.int .i64 a1_2,.int .i64 a1_3,.int .i64 a1_4,.int .i64 a1_5,.float .f64 a1_6,.bool a1_7,.slice A1_8 l1_8.length c1_8,.int .i64 a1_9,.int .i64 a1_10,.int .i64 a1_11]) (t:=32) ?hr ?_;(case hd => rfl);(case hg => rfl);(case hr => first | (go_simp;done) | (go_simp;rfl));intro gb679 hg w5 hbox hb;have n0_:=Aside0.mk (blk_below (g:=gb678) (o:=.cells #[.int .i64 a0_0,.int .i64 a0_1,.int .i64 a0_2,.int .i64 a0_3,.int .i64 a0_4,.int .i64 a0_5,.float .f64 a0_6,.bool a0_7,.slice A0_8 l0_8.length c0_8,.int .i64 a0_9,.int .i64 a0_10,.int .i64 a0_11] 32 (0,0)) (by (with_reducible repeat (first | refine blk_drewN ?_ _ | refine blk_drew ?_ | refine blk_alloc ?_ _));exact BK678.out) hb);have n1_:=Aside0.mk (below_step (by repeat (first | (with_reducible first | exact HB.out | apply below_alloc | apply pw_below_drewN | apply below_drew1 | refine below_set ?_ GE678.out) | exact HB.out)) hb);have n2_:=Aside0.mk (hbox);have n3_:=Aside0.mk ((by rw [hg];exact (below_size (by repeat (first | (with_reducible first | exact HB.out | apply below_alloc | apply pw_below_drewN | apply below_drew1 | refine below_set ?_ GE678.out) | exact HB.out))) : w.heap.size ≤ gb679));have n4_:=Aside0.mk ((by rw [hg];exact (below_size (by repeat (first | (with_reducible first | exact HB.out | apply below_alloc | apply pw_below_drewN | apply below_drew1 | refine below_set ?_ GE678.out) | exact HB.out))) : w.heap.size ≤ gb679));have n5_:=Aside0.mk ((by rw [hg];exact Nat.ne_of_lt (blk_lt (g:=gb678) (o:=.cells #[.int .i64 a0_0,.int .i64 a0_1,.int .i64 a0_2,.int .i64 a0_3,.int .i64 a0_4,.int .i64 a0_5,.float .f64 a0_6,.bool a0_7,.slice A0_8 l0_8.length c0_8,.int .i64 a0_9,.int .i64 a0_10,.int .i64 a0_11] 32 (0,0)) (by (with_reducible repeat (first | refine blk_drewN ?_ _ | refine blk_drew ?_ | refine blk_alloc ?_ _));exact BK678.out)) : gb678 ≠ gb679));have n6_:=Aside0.mk ((by rw [hg];exact Nat.ne_of_gt (blk_lt (g:=gb678) (o:=.cells #[.int .i64 a0_0,.int .i64 a0_1,.int .i64 a0_2,.int .i64 a0_3,.int .i64 a0_4,.int .i64 a0_5,.float .f64 a0_6,.bool a0_7,.slice A0_8 l0_8.length c0_8,.int .i64 a0_9,.int .i64 a0_10,.int .i64 a0_11] 32 (0,0)) (by (with_reducible repeat (first | refine blk_drewN ?_ _ | refine blk_drew ?_ | refine blk_alloc ?_ _));exact BK678.out)) : gb679 ≠ gb678));clear BK678;clear HB;have BK678:=n0_;have HB:=n1_;have BK679:=n2_;have GW679:=n3_;have GE679:=n4_;have NB678_679:=n5_;have NB679_678:=n6_;clear n0_ n1_ n2_ n3_ n4_ n5_ n6_;clear hb hbox hg))
 (try simp only [Act.put,List.setIfInBounds_toArray,List.set_cons_zero,List.set_cons_succ])
 go_cut [21] (fun v21 wc => ∃ (kq : Nat) (x21_2 : Bool),v21 = .bool x21_2 ∧ Aside0 (humuslaw09_UndorecSame.j0 kq x21_2 a0_0 a0_1 a0_2 a0_3 a0_4 a0_5 a0_6 a0_7 l0_8 a0_9 a0_10 a0_11 a1_0 a1_1 a1_2 a1_3 a1_4 a1_5 a1_6 a1_7 l1_8 a1_9 a1_10 a1_11 = some r) ∧ Aside0 (kq ≤ k) ∧ Aside0 (wc.heap[gb678]? = some (.cells #[.int .i64 a0_0,.int .i64 a0_1,.int .i64 a0_2,.int .i64 a0_3,.int .i64 a0_4,.int .i64 a0_5,.float .f64 a0_6,.bool a0_7,(.slice A0_8 l0_8.length c0_8),.int .i64 a0_9,.int .i64 a0_10,.int .i64 a0_11] 32 (0,0))) ∧ Aside0 (wc.heap[gb679]? = some (.cells #[.int .i64 a1_0,.int .i64 a1_1,.int .i64 a1_2,.int .i64 a1_3,.int .i64 a1_4,.int .i64 a1_5,.float .f64 a1_6,.bool a1_7,(.slice A1_8 l1_8.length c1_8),.int .i64 a1_9,.int .i64 a1_10,.int .i64 a1_11] 32 (0,0))) ∧ Aside0 (Below w.heap.size w wc))
 case first =>
  have H:=HC3.out
  clear HC3
  by_cases c6 : (l0_8.length : Int) > 100
  ·rw [if_pos c6] at H
   have c6b0 : decide (100 < (l0_8.length : Int)) = true:=decide_eq_true c6
   have c6b1 : decide (100 < l0_8.length) = true:=decide_eq_true (by omega)
   clear c6
   (first | rw [c6b0] | (simp only [i64_w,i32_w];rw [c6b0]) | skip)
   have H':=Aside0.mk H
   clear H
   have hnb7:=NB678_679.out
   have hnc7:=NB679_678.out
   obtain ⟨hcz8_0,hcz8_1,hcz8_2,hcz8_3,hcz8_4,hcz8_5,hcz8_6,hcz8_7,hcz8_8,hcz8_9,hcz8_10,hcz8_11⟩:=blkc_12 BK678.out
   obtain ⟨hfz8_0,hfz8_1,hfz8_2,hfz8_3,hfz8_4,hfz8_5,hfz8_6,hfz8_7,hfz8_8,hfz8_9,hfz8_10,hfz8_11⟩:=blkz_12 BK678.out
   go_wp2
   go_meet
   case rel => exact ⟨_,(true),(by first | rfl | (simp;done) | (simp [*];done)),H',⟨by first | omega | exact Nat.le_refl _⟩,⟨by (with_reducible repeat (first | refine blk_drewN ?_ _ | refine blk_drew ?_ | refine blk_alloc ?_ _));exact BK678.out⟩,⟨by (with_reducible repeat (first | refine blk_drewN ?_ _ | refine blk_drew ?_ | refine blk_alloc ?_ _));exact BK679.out⟩,⟨by repeat (first | (with_reducible first | exact HB.out | apply below_alloc | apply pw_below_drewN | apply below_drew1 | refine below_set ?_ GE678.out | refine below_set ?_ GE679.out) | exact HB.out)⟩⟩
  ·rw [if_neg c6] at H
   have c6b0 : decide (100 < (l0_8.length : Int)) = false:=decide_eq_false c6
   have c6b1 : decide (100 < l0_8.length) = false:=decide_eq_false (by omega)
   clear c6
   (first | rw [c6b0] | (simp only [i64_w,i32_w];rw [c6b0]) | skip)
   have H':=Aside0.mk H
   clear H
   have hnb9:=NB678_679.out
   have hnc9:=NB679_678.out
   obtain ⟨hcz10_0,hcz10_1,hcz10_2,hcz10_3,hcz10_4,hcz10_5,hcz10_6,hcz10_7,hcz10_8,hcz10_9,hcz10_10,hcz10_11⟩:=blkc_12 BK678.out
   obtain ⟨hfz10_0,hfz10_1,hfz10_2,hfz10_3,hfz10_4,hfz10_5,hfz10_6,hfz10_7,hfz10_8,hfz10_9,hfz10_10,hfz10_11⟩:=blkz_12 BK678.out
   obtain ⟨hcz11_0,hcz11_1,hcz11_2,hcz11_3,hcz11_4,hcz11_5,hcz11_6,hcz11_7,hcz11_8,hcz11_9,hcz11_10,hcz11_11⟩:=blkc_12 BK679.out
   obtain ⟨hfz11_0,hfz11_1,hfz11_2,hfz11_3,hfz11_4,hfz11_5,hfz11_6,hfz11_7,hfz11_8,hfz11_9,hfz11_10,hfz11_11⟩:=blkz_12 BK679.out
   go_wp2
   go_meet
   case rel => exact ⟨_,(decide ((l1_8.length : Int) > 100)),(by first | rfl | (simp;done) | (simp [*];done)),H',⟨by first | omega | exact Nat.le_refl _⟩,⟨by (with_reducible repeat (first | refine blk_drewN ?_ _ | refine blk_drew ?_ | refine blk_alloc ?_ _));exact BK678.out⟩,⟨by (with_reducible repeat (first | refine blk_drewN ?_ _ | refine blk_drew ?_ | refine blk_alloc ?_ _));exact BK679.out⟩,⟨by repeat (first | (with_reducible first | exact HB.out | apply below_alloc | apply pw_below_drewN | apply below_drew1 | refine below_set ?_ GE678.out | refine below_set ?_ GE679.out) | exact HB.out)⟩⟩
 case rest =>
  clear HC3
  try clear c1
  try clear p2
  try clear c6
  try clear c6b0
  try clear c6b1
  try clear c7
  try clear c9
  try clear hcz10_0
  try clear hcz10_1
  try clear hcz10_10
  try clear hcz10_11
  try clear hcz10_2
  try clear hcz10_3
  try clear hcz10_4
  try clear hcz10_5
  try clear hcz10_6
  try clear hcz10_7
  try clear hcz10_8
  try clear hcz10_9
  try clear hcz11_0
  try clear hcz11_1
  try clear hcz11_10
  try clear hcz11_11
  try clear hcz11_2
  try clear hcz11_3
  try clear hcz11_4
  try clear hcz11_5
  try clear hcz11_6
  try clear hcz11_7
  try clear hcz11_8
  try clear hcz11_9
  try clear hcz8_0
  try clear hcz8_1
  try clear hcz8_10
  try clear hcz8_11
  try clear hcz8_2
  try clear hcz8_3
  try clear hcz8_4
  try clear hcz8_5
  try clear hcz8_6
  try clear hcz8_7
  try clear hcz8_8
  try clear hcz8_9
  try clear hfz10_0
  try clear hfz10_1
  try clear hfz10_10
  try clear hfz10_11
  try clear hfz10_2
  try clear hfz10_3
  try clear hfz10_4
  try clear hfz10_5
  try clear hfz10_6
  try clear hfz10_7
  try clear hfz10_8
  try clear hfz10_9
  try clear hfz11_0
  try clear hfz11_1
  try clear hfz11_10
  try clear hfz11_11
  try clear hfz11_2
  try clear hfz11_3
  try clear hfz11_4
  try clear hfz11_5
  try clear hfz11_6
  try clear hfz11_7
  try clear hfz11_8
  try clear hfz11_9
  try clear hfz8_0
  try clear hfz8_1
  try clear hfz8_10
  try clear hfz8_11
  try clear hfz8_2
  try clear hfz8_3
  try clear hfz8_4
  try clear hfz8_5
  try clear hfz8_6
  try clear hfz8_7
  try clear hfz8_8
  try clear hfz8_9
  obtain ⟨kq,x21_2,rfl,HA,HJ2,BK678,BK679,HB⟩:=hcut
  cases kq with
  | zero => exact absurd HA.out (by simp [humuslaw09_UndorecSame.j0])
  | succ kj2 =>
   have H:=HA.out
   clear HA
   simp only [humuslaw09_UndorecSame.j0] at H
   by_cases c12 : x21_2 = true
   ·subst c12
    have H1 : ((humuslaw09_awake.f kj2).bind fun t680 => (some t680)) = some r:=by rw [if_pos rfl] at H;exact H
    clear H
    have H:=H1
    clear H1
    replace H:=Option.bind_eq_some_iff.mp H
    obtain ⟨t680,A130,H⟩:=H
    replace H : (some t680) = some r:=H
    have A13:=Aside0.mk A130
    clear A130
    obtain rfl:=Option.some.inj H
    go_wp2_with (first | ((with_reducible refine gate_callee (f:=45) rfl ?_);refine goesL_ (some 22) rfl rfl Try.func45 (by kernel_rfl) rfl #[] rfl (by (try simp only [List.map_toArray,List.map_cons,List.map_nil]);first | done | rfl | (simp only [List.length_drop,List.length_take];rfl)) ?_;(with_reducible refine (humuslaw09_awake.calls kj2  t680 _ A13.out).mono ?_);rintro e w14 ⟨rfl,hb⟩;refine ⟨_,rfl,?_⟩;have n0_:=Aside0.mk (blk_below (g:=gb678) (o:=.cells #[.int .i64 a0_0,.int .i64 a0_1,.int .i64 a0_2,.int .i64 a0_3,.int .i64 a0_4,.int .i64 a0_5,.float .f64 a0_6,.bool a0_7,.slice A0_8 l0_8.length c0_8,.int .i64 a0_9,.int .i64 a0_10,.int .i64 a0_11] 32 (0,0)) (by (with_reducible repeat (first | refine blk_drewN ?_ _ | refine blk_drew ?_ | refine blk_alloc ?_ _));exact BK678.out) hb);have n1_:=Aside0.mk (blk_below (g:=gb679) (o:=.cells #[.int .i64 a1_0,.int .i64 a1_1,.int .i64 a1_2,.int .i64 a1_3,.int .i64 a1_4,.int .i64 a1_5,.float .f64 a1_6,.bool a1_7,.slice A1_8 l1_8.length c1_8,.int .i64 a1_9,.int .i64 a1_10,.int .i64 a1_11] 32 (0,0)) (by (with_reducible repeat (first | refine blk_drewN ?_ _ | refine blk_drew ?_ | refine blk_alloc ?_ _));exact BK679.out) hb);have n2_:=Aside0.mk (below_step (by repeat (first | (with_reducible first | exact HB.out | apply below_alloc | apply pw_below_drewN | apply below_drew1 | refine below_set ?_ GE678.out | refine below_set ?_ GE679.out) | exact HB.out)) hb);clear BK678;clear BK679;clear HB;have BK678:=n0_;have BK679:=n1_;have HB:=n2_;clear n0_ n1_ n2_;(try clear hb);(try clear hb2);(try clear hk);(try clear hi)))
    go_ret
    exact ⟨by first | rfl | (simp [errW_none,errW_some] <;> rfl) | (simp [*,errW_none,errW_some] <;> rfl),by repeat (first | (with_reducible first | exact HB.out | apply below_alloc | apply pw_below_drewN | apply below_drew1 | refine below_set ?_ GE678.out | refine below_set ?_ GE679.out) | exact HB.out)⟩
   ·replace c12:=Bool.eq_false_iff.mpr c12
    subst c12
    have H1 : ((humusref09_Same.f kj2 a0_0 a0_1 a0_2 a0_3 a0_4 a0_5 a0_6 a0_7 l0_8 a0_9 a0_10 a0_11 a1_0 a1_1 a1_2 a1_3 a1_4 a1_5 a1_6 a1_7 l1_8 a1_9 a1_10 a1_11).bind fun t681 => ((undorec_Encode.f kj2 a0_0 a0_1 a0_2 a0_3 a0_4 a0_5 a0_6 a0_7 l0_8 a0_9 a0_10 a0_11).bind fun bt682 => ((undorec_Encode.f kj2 a1_0 a1_1 a1_2 a1_3 a1_4 a1_5 a1_6 a1_7 l1_8 a1_9 a1_10 a1_11).bind fun bt686 => ((undorec_Same.f a0_0 a0_1 a0_2 a0_3 a0_4 a0_5 a0_6 a0_7 l0_8 a0_9 a0_10 a0_11 a1_0 a1_1 a1_2 a1_3 a1_4 a1_5 a1_6 a1_7 l1_8 a1_9 a1_10 a1_11).bind fun t690 => (if (t690 == t681) = true then ((undorec_Same.f a0_0 a0_1 a0_2 a0_3 a0_4 a0_5 a0_6 a0_7 l0_8 a0_9 a0_10 a0_11 a0_0 a0_1 a0_2 a0_3 a0_4 a0_5 a0_6 a0_7 l0_8 a0_9 a0_10 a0_11).bind fun t691 => (if t691 = true then (if bt682.2 = 0 then (if bt686.2 = 0 then (if (((strOfNums bt682.1).toList == (strOfNums bt686.1).toList) == t681) = true then ((humuslaw09_awake.f kj2).bind fun t692 => (humuslaw09_UndorecSame.j1 kj2 t692)) else (none)) else ((humuslaw09_awake.f kj2).bind fun t693 => (humuslaw09_UndorecSame.j1 kj2 t693))) else ((humuslaw09_awake.f kj2).bind fun t694 => (humuslaw09_UndorecSame.j1 kj2 t694))) else (none))) else (none)))))) = some r:=by rw [if_neg (show ¬ (false = true) by decide)] at H;exact H
    clear H
    have H:=H1
    clear H1
    replace H:=Option.bind_eq_some_iff.mp H
    obtain ⟨t681,A150,H⟩:=H
    replace H : ((undorec_Encode.f kj2 a0_0 a0_1 a0_2 a0_3 a0_4 a0_5 a0_6 a0_7 l0_8 a0_9 a0_10 a0_11).bind fun bt682 => ((undorec_Encode.f kj2 a1_0 a1_1 a1_2 a1_3 a1_4 a1_5 a1_6 a1_7 l1_8 a1_9 a1_10 a1_11).bind fun bt686 => ((undorec_Same.f a0_0 a0_1 a0_2 a0_3 a0_4 a0_5 a0_6 a0_7 l0_8 a0_9 a0_10 a0_11 a1_0 a1_1 a1_2 a1_3 a1_4 a1_5 a1_6 a1_7 l1_8 a1_9 a1_10 a1_11).bind fun t690 => (if (t690 == t681) = true then ((undorec_Same.f a0_0 a0_1 a0_2 a0_3 a0_4 a0_5 a0_6 a0_7 l0_8 a0_9 a0_10 a0_11 a0_0 a0_1 a0_2 a0_3 a0_4 a0_5 a0_6 a0_7 l0_8 a0_9 a0_10 a0_11).bind fun t691 => (if t691 = true then (if bt682.2 = 0 then (if bt686.2 = 0 then (if (((strOfNums bt682.1).toList == (strOfNums bt686.1).toList) == t681) = true then ((humuslaw09_awake.f kj2).bind fun t692 => (humuslaw09_UndorecSame.j1 kj2 t692)) else (none)) else ((humuslaw09_awake.f kj2).bind fun t693 => (humuslaw09_UndorecSame.j1 kj2 t693))) else ((humuslaw09_awake.f kj2).bind fun t694 => (humuslaw09_UndorecSame.j1 kj2 t694))) else (none))) else (none))))) = some r:=H
    have A15:=Aside0.mk A150
    clear A150
    replace H:=Option.bind_eq_some_iff.mp H
    obtain ⟨⟨t682,t685⟩,A160,H⟩:=H
    replace H : ((undorec_Encode.f kj2 a1_0 a1_1 a1_2 a1_3 a1_4 a1_5 a1_6 a1_7 l1_8 a1_9 a1_10 a1_11).bind fun bt686 => ((undorec_Same.f a0_0 a0_1 a0_2 a0_3 a0_4 a0_5 a0_6 a0_7 l0_8 a0_9 a0_10 a0_11 a1_0 a1_1 a1_2 a1_3 a1_4 a1_5 a1_6 a1_7 l1_8 a1_9 a1_10 a1_11).bind fun t690 => (if (t690 == t681) = true then ((undorec_Same.f a0_0 a0_1 a0_2 a0_3 a0_4 a0_5 a0_6 a0_7 l0_8 a0_9 a0_10 a0_11 a0_0 a0_1 a0_2 a0_3 a0_4 a0_5 a0_6 a0_7 l0_8 a0_9 a0_10 a0_11).bind fun t691 => (if t691 = true then (if t685 = 0 then (if bt686.2 = 0 then (if (((strOfNums t682).toList == (strOfNums bt686.1).toList) == t681) = true then ((humuslaw09_awake.f kj2).bind fun t692 => (humuslaw09_UndorecSame.j1 kj2 t692)) else (none)) else ((humuslaw09_awake.f kj2).bind fun t693 => (humuslaw09_UndorecSame.j1 kj2 t693))) else ((humuslaw09_awake.f kj2).bind fun t694 => (humuslaw09_UndorecSame.j1 kj2 t694))) else (none))) else (none)))) = some r:=H
    have A16:=Aside0.mk A160
    clear A160
    replace H:=Option.bind_eq_some_iff.mp H
    obtain ⟨⟨t686,t689⟩,A170,H⟩:=H
    replace H : ((undorec_Same.f a0_0 a0_1 a0_2 a0_3 a0_4 a0_5 a0_6 a0_7 l0_8 a0_9 a0_10 a0_11 a1_0 a1_1 a1_2 a1_3 a1_4 a1_5 a1_6 a1_7 l1_8 a1_9 a1_10 a1_11).bind fun t690 => (if (t690 == t681) = true then ((undorec_Same.f a0_0 a0_1 a0_2 a0_3 a0_4 a0_5 a0_6 a0_7 l0_8 a0_9 a0_10 a0_11 a0_0 a0_1 a0_2 a0_3 a0_4 a0_5 a0_6 a0_7 l0_8 a0_9 a0_10 a0_11).bind fun t691 => (if t691 = true then (if t685 = 0 then (if t689 = 0 then (if (((strOfNums t682).toList == (strOfNums t686).toList) == t681) = true then ((humuslaw09_awake.f kj2).bind fun t692 => (humuslaw09_UndorecSame.j1 kj2 t692)) else (none)) else ((humuslaw09_awake.f kj2).bind fun t693 => (humuslaw09_UndorecSame.j1 kj2 t693))) else ((humuslaw09_awake.f kj2).bind fun t694 => (humuslaw09_UndorecSame.j1 kj2 t694))) else (none))) else (none))) = some r:=H
    have A17:=Aside0.mk A170
    clear A170
    have HC18:=Aside0.mk H
    clear H
    have hnb19:=NB678_679.out
    have hnc19:=NB679_678.out
    obtain ⟨hcz20_0,hcz20_1,hcz20_2,hcz20_3,hcz20_4,hcz20_5,hcz20_6,hcz20_7,hcz20_8,hcz20_9,hcz20_10,hcz20_11⟩:=blkc_12 BK678.out
    obtain ⟨hfz20_0,hfz20_1,hfz20_2,hfz20_3,hfz20_4,hfz20_5,hfz20_6,hfz20_7,hfz20_8,hfz20_9,hfz20_10,hfz20_11⟩:=blkz_12 BK678.out
    obtain ⟨hcz21_0,hcz21_1,hcz21_2,hcz21_3,hcz21_4,hcz21_5,hcz21_6,hcz21_7,hcz21_8,hcz21_9,hcz21_10,hcz21_11⟩:=blkc_12 BK679.out
    obtain ⟨hfz21_0,hfz21_1,hfz21_2,hfz21_3,hfz21_4,hfz21_5,hfz21_6,hfz21_7,hfz21_8,hfz21_9,hfz21_10,hfz21_11⟩:=blkz_12 BK679.out
    go_upto_region 6 with (first | ((with_reducible refine gate_callee (f:=51) rfl ?_);refine goesL_ (some 25) rfl rfl Try.func51 (by kernel_rfl) rfl #[.agg #[.int .i64 a0_0,.int .i64 a0_1,.int .i64 a0_2,.int .i64 a0_3,.int .i64 a0_4,.int .i64 a0_5,.float .f64 a0_6,.bool a0_7,.slice A0_8 l0_8.length c0_8,.int .i64 a0_9,.int .i64 a0_10,.int .i64 a0_11],.agg #[.int .i64 a1_0,.int .i64 a1_1,.int .i64 a1_2,.int .i64 a1_3,.int .i64 a1_4,.int .i64 a1_5,.float .f64 a1_6,.bool a1_7,.slice A1_8 l1_8.length c1_8,.int .i64 a1_9,.int .i64 a1_10,.int .i64 a1_11]] rfl (by (try simp only [List.map_toArray,List.map_cons,List.map_nil]);first | done | rfl | (simp only [List.length_drop,List.length_take];rfl)) ?_;(with_reducible refine (humusref09_Same.calls kj2 a0_0 a0_1 a0_2 a0_3 a0_4 a0_5 a0_6 a0_7 _ _ l0_8 a0_9 a0_10 a0_11 a1_0 a1_1 a1_2 a1_3 a1_4 a1_5 a1_6 a1_7 _ _ l1_8 a1_9 a1_10 a1_11 t681 _ ?side1 ?side2 ?side3 ?side4 A15.out).mono ?_);(case side1 => repeat (first | exact (Kd.C_below HR0_8.out HB.out) | (with_reducible refine Kd.C_alloc ?_ _) | (with_reducible refine Kd.C_drewN ?_ _) | (with_reducible refine Kd.C_drew ?_)));(case side2 => exact HC0_8.out);(case side3 => repeat (first | exact (Kd.C_below HR1_8.out HB.out) | (with_reducible refine Kd.C_alloc ?_ _) | (with_reducible refine Kd.C_drewN ?_ _) | (with_reducible refine Kd.C_drew ?_)));(case side4 => exact HC1_8.out);rintro e w22 ⟨rfl,hb⟩;refine ⟨_,rfl,?_⟩;have n0_:=Aside0.mk (blk_below (g:=gb678) (o:=.cells #[.int .i64 a0_0,.int .i64 a0_1,.int .i64 a0_2,.int .i64 a0_3,.int .i64 a0_4,.int .i64 a0_5,.float .f64 a0_6,.bool a0_7,.slice A0_8 l0_8.length c0_8,.int .i64 a0_9,.int .i64 a0_10,.int .i64 a0_11] 32 (0,0)) (by (with_reducible repeat (first | refine blk_drewN ?_ _ | refine blk_drew ?_ | refine blk_alloc ?_ _));exact BK678.out) hb);have n1_:=Aside0.mk (blk_below (g:=gb679) (o:=.cells #[.int .i64 a1_0,.int .i64 a1_1,.int .i64 a1_2,.int .i64 a1_3,.int .i64 a1_4,.int .i64 a1_5,.float .f64 a1_6,.bool a1_7,.slice A1_8 l1_8.length c1_8,.int .i64 a1_9,.int .i64 a1_10,.int .i64 a1_11] 32 (0,0)) (by (with_reducible repeat (first | refine blk_drewN ?_ _ | refine blk_drew ?_ | refine blk_alloc ?_ _));exact BK679.out) hb);have n2_:=Aside0.mk (below_step (by repeat (first | (with_reducible first | exact HB.out | apply below_alloc | apply pw_below_drewN | apply below_drew1 | refine below_set ?_ GE678.out | refine below_set ?_ GE679.out) | exact HB.out)) hb);clear BK678;clear BK679;clear HB;have BK678:=n0_;have BK679:=n1_;have HB:=n2_;clear n0_ n1_ n2_;(try clear hb);(try clear hb2);(try clear hk);(try clear hi);obtain ⟨hcz23_0,hcz23_1,hcz23_2,hcz23_3,hcz23_4,hcz23_5,hcz23_6,hcz23_7,hcz23_8,hcz23_9,hcz23_10,hcz23_11⟩:=blkc_12 BK678.out;obtain ⟨hfz23_0,hfz23_1,hfz23_2,hfz23_3,hfz23_4,hfz23_5,hfz23_6,hfz23_7,hfz23_8,hfz23_9,hfz23_10⟩:=blkz_11 BK678.out;have hfz23_11:=blk_frozen BK678.out 11) | ((with_reducible refine gate_callee (f:=46) rfl ?_);refine goesL_ (some 28) rfl rfl Try.func46 (by kernel_rfl) rfl #[.agg #[.int .i64 a0_0,.int .i64 a0_1,.int .i64 a0_2,.int .i64 a0_3,.int .i64 a0_4,.int .i64 a0_5,.float .f64 a0_6,.bool a0_7,.slice A0_8 l0_8.length c0_8,.int .i64 a0_9,.int .i64 a0_10,.int .i64 a0_11]] rfl (by (try simp only [List.map_toArray,List.map_cons,List.map_nil]);first | done | rfl | (simp only [List.length_drop,List.length_take];rfl)) ?_;(with_reducible refine (undorec_Encode.calls kj2 a0_0 a0_1 a0_2 a0_3 a0_4 a0_5 a0_6 a0_7 _ _ l0_8 a0_9 a0_10 a0_11 t682 t685 _ ?side1 ?side2 A16.out).mono ?_);(case side1 => repeat (first | exact (Kd.C_below HR0_8.out HB.out) | (with_reducible refine Kd.C_alloc ?_ _) | (with_reducible refine Kd.C_drewN ?_ _) | (with_reducible refine Kd.C_drew ?_)));(case side2 => exact HC0_8.out);rintro e w24 ⟨v683,rfl,ho0,hb⟩;refine ⟨_,rfl,?_⟩;have n0_:=Aside0.mk (Kd.R_lower ho0 (below_size (by repeat (first | (with_reducible first | exact HB.out | apply below_alloc | apply pw_below_drewN | apply below_drew1 | refine below_set ?_ GE678.out | refine below_set ?_ GE679.out) | exact HB.out))));have n1_:=Aside0.mk (blk_below (g:=gb678) (o:=.cells #[.int .i64 a0_0,.int .i64 a0_1,.int .i64 a0_2,.int .i64 a0_3,.int .i64 a0_4,.int .i64 a0_5,.float .f64 a0_6,.bool a0_7,.slice A0_8 l0_8.length c0_8,.int .i64 a0_9,.int .i64 a0_10,.int .i64 a0_11] 32 (0,0)) (by (with_reducible repeat (first | refine blk_drewN ?_ _ | refine blk_drew ?_ | refine blk_alloc ?_ _));exact BK678.out) hb);have n2_:=Aside0.mk (blk_below (g:=gb679) (o:=.cells #[.int .i64 a1_0,.int .i64 a1_1,.int .i64 a1_2,.int .i64 a1_3,.int .i64 a1_4,.int .i64 a1_5,.float .f64 a1_6,.bool a1_7,.slice A1_8 l1_8.length c1_8,.int .i64 a1_9,.int .i64 a1_10,.int .i64 a1_11] 32 (0,0)) (by (with_reducible repeat (first | refine blk_drewN ?_ _ | refine blk_drew ?_ | refine blk_alloc ?_ _));exact BK679.out) hb);have n3_:=Aside0.mk (below_step (by repeat (first | (with_reducible first | exact HB.out | apply below_alloc | apply pw_below_drewN | apply below_drew1 | refine below_set ?_ GE678.out | refine below_set ?_ GE679.out) | exact HB.out)) hb);clear BK678;clear BK679;clear HB;have HO684:=n0_;have BK678:=n1_;have BK679:=n2_;have HB:=n3_;clear n0_ n1_ n2_ n3_;(try clear hb);(try clear hb2);(try clear hk);(try clear hi);(try clear ho0);obtain ⟨hcz25_0,hcz25_1,hcz25_2,hcz25_3,hcz25_4,hcz25_5,hcz25_6,hcz25_7,hcz25_8,hcz25_9,hcz25_10,hcz25_11⟩:=blkc_12 BK679.out;obtain ⟨hfz25_0,hfz25_1,hfz25_2,hfz25_3,hfz25_4,hfz25_5,hfz25_6,hfz25_7,hfz25_8,hfz25_9,hfz25_10⟩:=blkz_11 BK679.out;have hfz25_11:=blk_frozen BK679.out 11) | ((with_reducible refine gate_callee (f:=46) rfl ?_);refine goesL_ (some 33) rfl rfl Try.func46 (by kernel_rfl) rfl #[.agg #[.int .i64 a1_0,.int .i64 a1_1,.int .i64 a1_2,.int .i64 a1_3,.int .i64 a1_4,.int .i64 a1_5,.float .f64 a1_6,.bool a1_7,.slice A1_8 l1_8.length c1_8,.int .i64 a1_9,.int .i64 a1_10,.int .i64 a1_11]] rfl (by (try simp only [List.map_toArray,List.map_cons,List.map_nil]);first | done | rfl | (simp only [List.length_drop,List.length_take];rfl)) ?_;(with_reducible refine (undorec_Encode.calls kj2 a1_0 a1_1 a1_2 a1_3 a1_4 a1_5 a1_6 a1_7 _ _ l1_8 a1_9 a1_10 a1_11 t686 t689 _ ?side1 ?side2 A17.out).mono ?_);(case side1 => repeat (first | exact (Kd.C_below HR1_8.out HB.out) | (with_reducible refine Kd.C_alloc ?_ _) | (with_reducible refine Kd.C_drewN ?_ _) | (with_reducible refine Kd.C_drew ?_)));(case side2 => exact HC1_8.out);rintro e w26 ⟨v687,rfl,ho0,hb⟩;refine ⟨_,rfl,?_⟩;have n0_:=Aside0.mk (Kd.R_elder' (by (with_reducible repeat (first | apply Kd.R_alloc | apply Kd.R_drewN | apply Kd.R_drew));exact HO684.out) (Kd.R_base ho0) hb);have n1_:=Aside0.mk (Kd.R_lower (Kd.R_new' ho0 (Kd.R_lt (by (with_reducible repeat (first | apply Kd.R_alloc | apply Kd.R_drewN | apply Kd.R_drew));exact HO684.out))) (below_size (by repeat (first | (with_reducible first | exact HB.out | apply below_alloc | apply pw_below_drewN | apply below_drew1 | refine below_set ?_ GE678.out | refine below_set ?_ GE679.out) | exact HB.out))));have n2_:=Aside0.mk (blk_below (g:=gb678) (o:=.cells #[.int .i64 a0_0,.int .i64 a0_1,.int .i64 a0_2,.int .i64 a0_3,.int .i64 a0_4,.int .i64 a0_5,.float .f64 a0_6,.bool a0_7,.slice A0_8 l0_8.length c0_8,.int .i64 a0_9,.int .i64 a0_10,.int .i64 a0_11] 32 (0,0)) (by (with_reducible repeat (first | refine blk_drewN ?_ _ | refine blk_drew ?_ | refine blk_alloc ?_ _));exact BK678.out) hb);have n3_:=Aside0.mk (blk_below (g:=gb679) (o:=.cells #[.int .i64 a1_0,.int .i64 a1_1,.int .i64 a1_2,.int .i64 a1_3,.int .i64 a1_4,.int .i64 a1_5,.float .f64 a1_6,.bool a1_7,.slice A1_8 l1_8.length c1_8,.int .i64 a1_9,.int .i64 a1_10,.int .i64 a1_11] 32 (0,0)) (by (with_reducible repeat (first | refine blk_drewN ?_ _ | refine blk_drew ?_ | refine blk_alloc ?_ _));exact BK679.out) hb);have n4_:=Aside0.mk (below_step (by repeat (first | (with_reducible first | exact HB.out | apply below_alloc | apply pw_below_drewN | apply below_drew1 | refine below_set ?_ GE678.out | refine below_set ?_ GE679.out) | exact HB.out)) hb);clear HO684;clear BK678;clear BK679;clear HB;have HO684:=n0_;have HO688:=n1_;have BK678:=n2_;have BK679:=n3_;have HB:=n4_;clear n0_ n1_ n2_ n3_ n4_;(try clear hb);(try clear hb2);(try clear hk);(try clear hi);(try clear ho0)))
    (try simp only [Act.put,List.setIfInBounds_toArray,List.set_cons_zero,List.set_cons_succ])
    go_cut [4] (fun v4 wc => ∃ (kq : Nat) (x4_17 : Bool),v4 = .bool x4_17 ∧ Aside0 (humuslaw09_UndorecSame.j1 kq x4_17 = some r) ∧ Aside0 (kq ≤ kj2) ∧ Aside0 (wc.heap[gb678]? = some (.cells #[.int .i64 a0_0,.int .i64 a0_1,.int .i64 a0_2,.int .i64 a0_3,.int .i64 a0_4,.int .i64 a0_5,.float .f64 a0_6,.bool a0_7,(.slice A0_8 l0_8.length c0_8),.int .i64 a0_9,.int .i64 a0_10,.int .i64 a0_11] 32 (0,0))) ∧ Aside0 (wc.heap[gb679]? = some (.cells #[.int .i64 a1_0,.int .i64 a1_1,.int .i64 a1_2,.int .i64 a1_3,.int .i64 a1_4,.int .i64 a1_5,.float .f64 a1_6,.bool a1_7,(.slice A1_8 l1_8.length c1_8),.int .i64 a1_9,.int .i64 a1_10,.int .i64 a1_11] 32 (0,0))) ∧ Aside0 (Below w.heap.size w wc))
    case first =>
     have H:=HC18.out
     clear HC18
     replace H:=Option.bind_eq_some_iff.mp H
     obtain ⟨t690,A270,H⟩:=H
     replace H : (if (t690 == t681) = true then ((undorec_Same.f a0_0 a0_1 a0_2 a0_3 a0_4 a0_5 a0_6 a0_7 l0_8 a0_9 a0_10 a0_11 a0_0 a0_1 a0_2 a0_3 a0_4 a0_5 a0_6 a0_7 l0_8 a0_9 a0_10 a0_11).bind fun t691 => (if t691 = true then (if t685 = 0 then (if t689 = 0 then (if (((strOfNums t682).toList == (strOfNums t686).toList) == t681) = true then ((humuslaw09_awake.f kj2).bind fun t692 => (humuslaw09_UndorecSame.j1 kj2 t692)) else (none)) else ((humuslaw09_awake.f kj2).bind fun t693 => (humuslaw09_UndorecSame.j1 kj2 t693))) else ((humuslaw09_awake.f kj2).bind fun t694 => (humuslaw09_UndorecSame.j1 kj2 t694))) else (none))) else (none)) = some r:=H
     have A27:=Aside0.mk A270
     clear A270
     by_cases c28 : (t690 == t681) = true
     ·rw [if_pos c28] at H
      have c28b0 : (t690 == t681) = true:=c28
      (try (have c28b1 : decide (t690 = t681) = true:=by simpa using c28))
      (try (have c28b2 : (t690 == t681) = true:=by simpa using c28))
      clear c28
      (first | rw [c28b0] | (simp only [i64_w,i32_w];rw [c28b0]) | skip)
      replace H:=Option.bind_eq_some_iff.mp H
      obtain ⟨t691,A290,H⟩:=H
      replace H : (if t691 = true then (if t685 = 0 then (if t689 = 0 then (if (((strOfNums t682).toList == (strOfNums t686).toList) == t681) = true then ((humuslaw09_awake.f kj2).bind fun t692 => (humuslaw09_UndorecSame.j1 kj2 t692)) else (none)) else ((humuslaw09_awake.f kj2).bind fun t693 => (humuslaw09_UndorecSame.j1 kj2 t693))) else ((humuslaw09_awake.f kj2).bind fun t694 => (humuslaw09_UndorecSame.j1 kj2 t694))) else (none)) = some r:=H
      have A29:=Aside0.mk A290
      clear A290
      by_cases c30 : t691 = true
      ·subst c30
       have H1 : (if t685 = 0 then (if t689 = 0 then (if (((strOfNums t682).toList == (strOfNums t686).toList) == t681) = true then ((humuslaw09_awake.f kj2).bind fun t692 => (humuslaw09_UndorecSame.j1 kj2 t692)) else (none)) else ((humuslaw09_awake.f kj2).bind fun t693 => (humuslaw09_UndorecSame.j1 kj2 t693))) else ((humuslaw09_awake.f kj2).bind fun t694 => (humuslaw09_UndorecSame.j1 kj2 t694))) = some r:=by rw [if_pos rfl] at H;exact H
       clear H
       have H:=H1
       clear H1
       by_cases c31 : t685 = 0
       ·rw [if_pos c31] at H
        have c31b0 : (t685 == 0) = true:=beq_iff_eq.mpr c31
        have c31b1 : (t685 != 0) = false:=bne_eq_false_iff_eq.mpr c31
        clear c31
        by_cases c32 : t689 = 0
        ·rw [if_pos c32] at H
         have c32b0 : (t689 == 0) = true:=beq_iff_eq.mpr c32
         have c32b1 : (t689 != 0) = false:=bne_eq_false_iff_eq.mpr c32
         clear c32
         by_cases c33 : (((strOfNums t682).toList == (strOfNums t686).toList) == t681) = true
         ·rw [if_pos c33] at H
          have c33b0 : (((strOfNums t682).toList == (strOfNums t686).toList) == t681) = true:=c33
          (try (have c33b1 : decide (((strOfNums t682).toList == (strOfNums t686).toList) = t681) = true:=by simpa using c33))
          (try (have c33b2 : (((strOfNums t682).toList == (strOfNums t686).toList) == t681) = true:=by simpa using c33))
          clear c33
          replace H:=Option.bind_eq_some_iff.mp H
          obtain ⟨t692,A340,H⟩:=H
          replace H : (humuslaw09_UndorecSame.j1 kj2 t692) = some r:=H
          have A34:=Aside0.mk A340
          clear A340
          have H':=Aside0.mk H
          clear H
          have hnb35:=NB678_679.out
          have hnc35:=NB679_678.out
          obtain ⟨hcz36_0,hcz36_1,hcz36_2,hcz36_3,hcz36_4,hcz36_5,hcz36_6,hcz36_7,hcz36_8,hcz36_9,hcz36_10,hcz36_11⟩:=blkc_12 BK678.out
          obtain ⟨hfz36_0,hfz36_1,hfz36_2,hfz36_3,hfz36_4,hfz36_5,hfz36_6,hfz36_7,hfz36_8,hfz36_9,hfz36_10,hfz36_11⟩:=blkz_12 BK678.out
          obtain ⟨hcz37_0,hcz37_1,hcz37_2,hcz37_3,hcz37_4,hcz37_5,hcz37_6,hcz37_7,hcz37_8,hcz37_9,hcz37_10,hcz37_11⟩:=blkc_12 BK679.out
          obtain ⟨hfz37_0,hfz37_1,hfz37_2,hfz37_3,hfz37_4,hfz37_5,hfz37_6,hfz37_7,hfz37_8,hfz37_9,hfz37_10,hfz37_11⟩:=blkz_12 BK679.out
          go_wp2_with (first | ((with_reducible refine gate_callee (f:=53) rfl ?_);refine goesL_ (some 38) rfl rfl Try.func53 (by kernel_rfl) rfl #[.agg #[.int .i64 a0_0,.int .i64 a0_1,.int .i64 a0_2,.int .i64 a0_3,.int .i64 a0_4,.int .i64 a0_5,.float .f64 a0_6,.bool a0_7,.slice A0_8 l0_8.length c0_8,.int .i64 a0_9,.int .i64 a0_10,.int .i64 a0_11],.agg #[.int .i64 a1_0,.int .i64 a1_1,.int .i64 a1_2,.int .i64 a1_3,.int .i64 a1_4,.int .i64 a1_5,.float .f64 a1_6,.bool a1_7,.slice A1_8 l1_8.length c1_8,.int .i64 a1_9,.int .i64 a1_10,.int .i64 a1_11]] rfl (by (try simp only [List.map_toArray,List.map_cons,List.map_nil]);first | done | rfl | (simp only [List.length_drop,List.length_take];rfl)) ?_;(with_reducible refine (undorec_Same.calls a0_0 a0_1 a0_2 a0_3 a0_4 a0_5 a0_6 a0_7 _ _ l0_8 a0_9 a0_10 a0_11 a1_0 a1_1 a1_2 a1_3 a1_4 a1_5 a1_6 a1_7 _ _ l1_8 a1_9 a1_10 a1_11 t690 _ ?side1 ?side2 ?side3 ?side4 A27.out).mono ?_);(case side1 => repeat (first | exact (Kd.C_below HR0_8.out HB.out) | (with_reducible refine Kd.C_alloc ?_ _) | (with_reducible refine Kd.C_drewN ?_ _) | (with_reducible refine Kd.C_drew ?_)));(case side2 => exact HC0_8.out);(case side3 => repeat (first | exact (Kd.C_below HR1_8.out HB.out) | (with_reducible refine Kd.C_alloc ?_ _) | (with_reducible refine Kd.C_drewN ?_ _) | (with_reducible refine Kd.C_drew ?_)));(case side4 => exact HC1_8.out);rintro e w38 ⟨rfl,hb⟩;refine ⟨_,rfl,?_⟩;have n0_:=Aside0.mk (Kd.R_below (by (with_reducible repeat (first | apply Kd.R_alloc | apply Kd.R_drewN | apply Kd.R_drew));exact HO684.out) hb);have n1_:=Aside0.mk (Kd.R_below (by (with_reducible repeat (first | apply Kd.R_alloc | apply Kd.R_drewN | apply Kd.R_drew));exact HO688.out) hb);have n2_:=Aside0.mk (blk_below (g:=gb678) (o:=.cells #[.int .i64 a0_0,.int .i64 a0_1,.int .i64 a0_2,.int .i64 a0_3,.int .i64 a0_4,.int .i64 a0_5,.float .f64 a0_6,.bool a0_7,.slice A0_8 l0_8.length c0_8,.int .i64 a0_9,.int .i64 a0_10,.int .i64 a0_11] 32 (0,0)) (by (with_reducible repeat (first | refine blk_drewN ?_ _ | refine blk_drew ?_ | refine blk_alloc ?_ _));exact BK678.out) hb);have n3_:=Aside0.mk (blk_below (g:=gb679) (o:=.cells #[.int .i64 a1_0,.int .i64 a1_1,.int .i64 a1_2,.int .i64 a1_3,.int .i64 a1_4,.int .i64 a1_5,.float .f64 a1_6,.bool a1_7,.slice A1_8 l1_8.length c1_8,.int .i64 a1_9,.int .i64 a1_10,.int .i64 a1_11] 32 (0,0)) (by (with_reducible repeat (first | refine blk_drewN ?_ _ | refine blk_drew ?_ | refine blk_alloc ?_ _));exact BK679.out) hb);have n4_:=Aside0.mk (below_step (by repeat (first | (with_reducible first | exact HB.out | apply below_alloc | apply pw_below_drewN | apply below_drew1 | refine below_set ?_ GE678.out | refine below_set ?_ GE679.out) | exact HB.out)) hb);clear HO684;clear HO688;clear BK678;clear BK679;clear HB;have HO684:=n0_;have HO688:=n1_;have BK678:=n2_;have BK679:=n3_;have HB:=n4_;clear n0_ n1_ n2_ n3_ n4_;(try clear hb);(try clear hb2);(try clear hk);(try clear hi);obtain ⟨hcz39_0,hcz39_1,hcz39_2,hcz39_3,hcz39_4,hcz39_5,hcz39_6,hcz39_7,hcz39_8,hcz39_9,hcz39_10,hcz39_11⟩:=blkc_12 BK678.out;obtain ⟨hfz39_0,hfz39_1,hfz39_2,hfz39_3,hfz39_4,hfz39_5,hfz39_6,hfz39_7,hfz39_8,hfz39_9,hfz39_10⟩:=blkz_11 BK678.out;have hfz39_11:=blk_frozen BK678.out 11) | (go_at_call 53;(with_reducible refine (undorec_Same.calls a0_0 a0_1 a0_2 a0_3 a0_4 a0_5 a0_6 a0_7 _ _ l0_8 a0_9 a0_10 a0_11 a0_0 a0_1 a0_2 a0_3 a0_4 a0_5 a0_6 a0_7 _ _ l0_8 a0_9 a0_10 a0_11 true _ ?side1 ?side2 ?side3 ?side4 A29.out).mono ?_);(case side1 => repeat (first | exact (Kd.C_below HR0_8.out HB.out) | (with_reducible refine Kd.C_alloc ?_ _) | (with_reducible refine Kd.C_drewN ?_ _) | (with_reducible refine Kd.C_drew ?_)));(case side2 => exact HC0_8.out);(case side3 => repeat (first | exact (Kd.C_below HR0_8.out HB.out) | (with_reducible refine Kd.C_alloc ?_ _) | (with_reducible refine Kd.C_drewN ?_ _) | (with_reducible refine Kd.C_drew ?_)));(case side4 => exact HC0_8.out);rintro e w40 ⟨rfl,hb⟩;have n0_:=Aside0.mk (Kd.R_below (by (with_reducible repeat (first | apply Kd.R_alloc | apply Kd.R_drewN | apply Kd.R_drew));exact HO684.out) hb);have n1_:=Aside0.mk (Kd.R_below (by (with_reducible repeat (first | apply Kd.R_alloc | apply Kd.R_drewN | apply Kd.R_drew));exact HO688.out) hb);have n2_:=Aside0.mk (blk_below (g:=gb678) (o:=.cells #[.int .i64 a0_0,.int .i64 a0_1,.int .i64 a0_2,.int .i64 a0_3,.int .i64 a0_4,.int .i64 a0_5,.float .f64 a0_6,.bool a0_7,.slice A0_8 l0_8.length c0_8,.int .i64 a0_9,.int .i64 a0_10,.int .i64 a0_11] 32 (0,0)) (by (with_reducible repeat (first | refine blk_drewN ?_ _ | refine blk_drew ?_ | refine blk_alloc ?_ _));exact BK678.out) hb);have n3_:=Aside0.mk (blk_below (g:=gb679) (o:=.cells #[.int .i64 a1_0,.int .i64 a1_1,.int .i64 a1_2,.int .i64 a1_3,.int .i64 a1_4,.int .i64 a1_5,.float .f64 a1_6,.bool a1_7,.slice A1_8 l1_8.length c1_8,.int .i64 a1_9,.int .i64 a1_10,.int .i64 a1_11] 32 (0,0)) (by (with_reducible repeat (first | refine blk_drewN ?_ _ | refine blk_drew ?_ | refine blk_alloc ?_ _));exact BK679.out) hb);have n4_:=Aside0.mk (below_step (by repeat (first | (with_reducible first | exact HB.out | apply below_alloc | apply pw_below_drewN | apply below_drew1 | refine below_set ?_ GE678.out | refine below_set ?_ GE679.out) | exact HB.out)) hb);clear HO684;clear HO688;clear BK678;clear BK679;clear HB;have HO684:=n0_;have HO688:=n1_;have BK678:=n2_;have BK679:=n3_;have HB:=n4_;clear n0_ n1_ n2_ n3_ n4_;(try clear hb);(try clear hb2);(try clear hk);(try clear hi);have hcv41:=own_string (P:=Try.prog) Try.underlying23 Try.underlying5 Try.underlying9 (Kd.own_of_R HO684.out);have hcv42:=own_string (P:=Try.prog) Try.underlying23 Try.underlying5 Try.underlying9 (Kd.own_of_R HO688.out)) | (go_at_call 45;(with_reducible refine (humuslaw09_awake.calls kj2  t692 _ A34.out).mono ?_);rintro e w43 ⟨rfl,hb⟩;have n0_:=Aside0.mk (Kd.R_below (by (with_reducible repeat (first | apply Kd.R_alloc | apply Kd.R_drewN | apply Kd.R_drew));exact HO684.out) hb);have n1_:=Aside0.mk (Kd.R_below (by (with_reducible repeat (first | apply Kd.R_alloc | apply Kd.R_drewN | apply Kd.R_drew));exact HO688.out) hb);have n2_:=Aside0.mk (blk_below (g:=gb678) (o:=.cells #[.int .i64 a0_0,.int .i64 a0_1,.int .i64 a0_2,.int .i64 a0_3,.int .i64 a0_4,.int .i64 a0_5,.float .f64 a0_6,.bool a0_7,.slice A0_8 l0_8.length c0_8,.int .i64 a0_9,.int .i64 a0_10,.int .i64 a0_11] 32 (0,0)) (by (with_reducible repeat (first | refine blk_drewN ?_ _ | refine blk_drew ?_ | refine blk_alloc ?_ _));exact BK678.out) hb);have n3_:=Aside0.mk (blk_below (g:=gb679) (o:=.cells #[.int .i64 a1_0,.int .i64 a1_1,.int .i64 a1_2,.int .i64 a1_3,.int .i64 a1_4,.int .i64 a1_5,.float .f64 a1_6,.bool a1_7,.slice A1_8 l1_8.length c1_8,.int .i64 a1_9,.int .i64 a1_10,.int .i64 a1_11] 32 (0,0)) (by (with_reducible repeat (first | refine blk_drewN ?_ _ | refine blk_drew ?_ | refine blk_alloc ?_ _));exact BK679.out) hb);have n4_:=Aside0.mk (below_step (by repeat (first | (with_reducible first | exact HB.out | apply below_alloc | apply pw_below_drewN | apply below_drew1 | refine below_set ?_ GE678.out | refine below_set ?_ GE679.out) | exact HB.out)) hb);clear HO684;clear HO688;clear BK678;clear BK679;clear HB;have HO684:=n0_;have HO688:=n1_;have BK678:=n2_;have BK679:=n3_;have HB:=n4_;clear n0_ n1_ n2_ n3_ n4_;(try clear hb);(try clear hb2);(try clear hk);(try clear hi)))
          go_meet
          case rel => exact ⟨_,(t692),(by first | rfl | (simp;done) | (simp [*];done)),H',⟨by have:=HJ2.out;first | omega | exact Nat.le_refl _⟩,⟨by (with_reducible repeat (first | refine blk_drewN ?_ _ | refine blk_drew ?_ | refine blk_alloc ?_ _));exact BK678.out⟩,⟨by (with_reducible repeat (first | refine blk_drewN ?_ _ | refine blk_drew ?_ | refine blk_alloc ?_ _));exact BK679.out⟩,⟨by repeat (first | (with_reducible first | exact HB.out | apply below_alloc | apply pw_below_drewN | apply below_drew1 | refine below_set ?_ GE678.out | refine below_set ?_ GE679.out) | exact HB.out)⟩⟩
         ·rw [if_neg c33] at H
          exact absurd H (by simp)
        ·rw [if_neg c32] at H
         have c32b0 : (t689 == 0) = false:=beq_eq_false_iff_ne.mpr c32
         have c32b1 : (t689 != 0) = true:=bne_iff_ne.mpr c32
         replace H:=Option.bind_eq_some_iff.mp H
         obtain ⟨t693,A440,H⟩:=H
         replace H : (humuslaw09_UndorecSame.j1 kj2 t693) = some r:=H
         have A44:=Aside0.mk A440
         clear A440
         have H':=Aside0.mk H
         clear H
         have hnb45:=NB678_679.out
         have hnc45:=NB679_678.out
         obtain ⟨hcz46_0,hcz46_1,hcz46_2,hcz46_3,hcz46_4,hcz46_5,hcz46_6,hcz46_7,hcz46_8,hcz46_9,hcz46_10,hcz46_11⟩:=blkc_12 BK678.out
         obtain ⟨hfz46_0,hfz46_1,hfz46_2,hfz46_3,hfz46_4,hfz46_5,hfz46_6,hfz46_7,hfz46_8,hfz46_9,hfz46_10,hfz46_11⟩:=blkz_12 BK678.out
         obtain ⟨hcz47_0,hcz47_1,hcz47_2,hcz47_3,hcz47_4,hcz47_5,hcz47_6,hcz47_7,hcz47_8,hcz47_9,hcz47_10,hcz47_11⟩:=blkc_12 BK679.out
         obtain ⟨hfz47_0,hfz47_1,hfz47_2,hfz47_3,hfz47_4,hfz47_5,hfz47_6,hfz47_7,hfz47_8,hfz47_9,hfz47_10,hfz47_11⟩:=blkz_12 BK679.out
         go_wp2_with (first | ((with_reducible refine gate_callee (f:=53) rfl ?_);refine goesL_ (some 38) rfl rfl Try.func53 (by kernel_rfl) rfl #[.agg #[.int .i64 a0_0,.int .i64 a0_1,.int .i64 a0_2,.int .i64 a0_3,.int .i64 a0_4,.int .i64 a0_5,.float .f64 a0_6,.bool a0_7,.slice A0_8 l0_8.length c0_8,.int .i64 a0_9,.int .i64 a0_10,.int .i64 a0_11],.agg #[.int .i64 a1_0,.int .i64 a1_1,.int .i64 a1_2,.int .i64 a1_3,.int .i64 a1_4,.int .i64 a1_5,.float .f64 a1_6,.bool a1_7,.slice A1_8 l1_8.length c1_8,.int .i64 a1_9,.int .i64 a1_10,.int .i64 a1_11]] rfl (by (try simp only [List.map_toArray,List.map_cons,List.map_nil]);first | done | rfl | (simp only [List.length_drop,List.length_take];rfl)) ?_;(with_reducible refine (undorec_Same.calls a0_0 a0_1 a0_2 a0_3 a0_4 a0_5 a0_6 a0_7 _ _ l0_8 a0_9 a0_10 a0_11 a1_0 a1_1 a1_2 a1_3 a1_4 a1_5 a1_6 a1_7 _ _ l1_8 a1_9 a1_10 a1_11 t690 _ ?side1 ?side2 ?side3 ?side4 A27.out).mono ?_);(case side1 => repeat (first | exact (Kd.C_below HR0_8.out HB.out) | (with_reducible refine Kd.C_alloc ?_ _) | (with_reducible refine Kd.C_drewN ?_ _) | (with_reducible refine Kd.C_drew ?_)));(case side2 => exact HC0_8.out);(case side3 => repeat (first | exact (Kd.C_below HR1_8.out HB.out) | (with_reducible refine Kd.C_alloc ?_ _) | (with_reducible refine Kd.C_drewN ?_ _) | (with_reducible refine Kd.C_drew ?_)));(case side4 => exact HC1_8.out);rintro e w48 ⟨rfl,hb⟩;refine ⟨_,rfl,?_⟩;have n0_:=Aside0.mk (Kd.R_below (by (with_reducible repeat (first | apply Kd.R_alloc | apply Kd.R_drewN | apply Kd.R_drew));exact HO684.out) hb);have n1_:=Aside0.mk (Kd.R_below (by (with_reducible repeat (first | apply Kd.R_alloc | apply Kd.R_drewN | apply Kd.R_drew));exact HO688.out) hb);have n2_:=Aside0.mk (blk_below (g:=gb678) (o:=.cells #[.int .i64 a0_0,.int .i64 a0_1,.int .i64 a0_2,.int .i64 a0_3,.int .i64 a0_4,.int .i64 a0_5,.float .f64 a0_6,.bool a0_7,.slice A0_8 l0_8.length c0_8,.int .i64 a0_9,.int .i64 a0_10,.int .i64 a0_11] 32 (0,0)) (by (with_reducible repeat (first | refine blk_drewN ?_ _ | refine blk_drew ?_ | refine blk_alloc ?_ _));exact BK678.out) hb);have n3_:=Aside0.mk (blk_below (g:=gb679) (o:=.cells #[.int .i64 a1_0,.int .i64 a1_1,.int .i64 a1_2,.int .i64 a1_3,.int .i64 a1_4,.int .i64 a1_5,.float .f64 a1_6,.bool a1_7,.slice A1_8 l1_8.length c1_8,.int .i64 a1_9,.int .i64 a1_10,.int .i64 a1_11] 32 (0,0)) (by (with_reducible repeat (first | refine blk_drewN ?_ _ | refine blk_drew ?_ | refine blk_alloc ?_ _));exact BK679.out) hb);have n4_:=Aside0.mk (below_step (by repeat (first | (with_reducible first | exact HB.out | apply below_alloc | apply pw_below_drewN | apply below_drew1 | refine below_set ?_ GE678.out | refine below_set ?_ GE679.out) | exact HB.out)) hb);clear HO684;clear HO688;clear BK678;clear BK679;clear HB;have HO684:=n0_;have HO688:=n1_;have BK678:=n2_;have BK679:=n3_;have HB:=n4_;clear n0_ n1_ n2_ n3_ n4_;(try clear hb);(try clear hb2);(try clear hk);(try clear hi);obtain ⟨hcz49_0,hcz49_1,hcz49_2,hcz49_3,hcz49_4,hcz49_5,hcz49_6,hcz49_7,hcz49_8,hcz49_9,hcz49_10,hcz49_11⟩:=blkc_12 BK678.out;obtain ⟨hfz49_0,hfz49_1,hfz49_2,hfz49_3,hfz49_4,hfz49_5,hfz49_6,hfz49_7,hfz49_8,hfz49_9,hfz49_10⟩:=blkz_11 BK678.out;have hfz49_11:=blk_frozen BK678.out 11) | (go_at_call 53;(with_reducible refine (undorec_Same.calls a0_0 a0_1 a0_2 a0_3 a0_4 a0_5 a0_6 a0_7 _ _ l0_8 a0_9 a0_10 a0_11 a0_0 a0_1 a0_2 a0_3 a0_4 a0_5 a0_6 a0_7 _ _ l0_8 a0_9 a0_10 a0_11 true _ ?side1 ?side2 ?side3 ?side4 A29.out).mono ?_);(case side1 => repeat (first | exact (Kd.C_below HR0_8.out HB.out) | (with_reducible refine Kd.C_alloc ?_ _) | (with_reducible refine Kd.C_drewN ?_ _) | (with_reducible refine Kd.C_drew ?_)));(case side2 => exact HC0_8.out);(case side3 => repeat (first | exact (Kd.C_below HR0_8.out HB.out) | (with_reducible refine Kd.C_alloc ?_ _) | (with_reducible refine Kd.C_drewN ?_ _) | (with_reducible refine Kd.C_drew ?_)));(case side4 => exact HC0_8.out);rintro e w50 ⟨rfl,hb⟩;have n0_:=Aside0.mk (Kd.R_below (by (with_reducible repeat (first | apply Kd.R_alloc | apply Kd.R_drewN | apply Kd.R_drew));exact HO684.out) hb);have n1_:=Aside0.mk (Kd.R_below (by (with_reducible repeat (first | apply Kd.R_alloc | apply Kd.R_drewN | apply Kd.R_drew));exact HO688.out) hb);have n2_:=Aside0.mk (blk_below (g:=gb678) (o:=.cells #[.int .i64 a0_0,.int .i64 a0_1,.int .i64 a0_2,.int .i64 a0_3,.int .i64 a0_4,.int .i64 a0_5,.float .f64 a0_6,.bool a0_7,.slice A0_8 l0_8.length c0_8,.int .i64 a0_9,.int .i64 a0_10,.int .i64 a0_11] 32 (0,0)) (by (with_reducible repeat (first | refine blk_drewN ?_ _ | refine blk_drew ?_ | refine blk_alloc ?_ _));exact BK678.out) hb);have n3_:=Aside0.mk (blk_below (g:=gb679) (o:=.cells #[.int .i64 a1_0,.int .i64 a1_1,.int .i64 a1_2,.int .i64 a1_3,.int .i64 a1_4,.int .i64 a1_5,.float .f64 a1_6,.bool a1_7,.slice A1_8 l1_8.length c1_8,.int .i64 a1_9,.int .i64 a1_10,.int .i64 a1_11] 32 (0,0)) (by (with_reducible repeat (first | refine blk_drewN ?_ _ | refine blk_drew ?_ | refine blk_alloc ?_ _));exact BK679.out) hb);have n4_:=Aside0.mk (below_step (by repeat (first | (with_reducible first | exact HB.out | apply below_alloc | apply pw_below_drewN | apply below_drew1 | refine below_set ?_ GE678.out | refine below_set ?_ GE679.out) | exact HB.out)) hb);clear HO684;clear HO688;clear BK678;clear BK679;clear HB;have HO684:=n0_;have HO688:=n1_;have BK678:=n2_;have BK679:=n3_;have HB:=n4_;clear n0_ n1_ n2_ n3_ n4_;(try clear hb);(try clear hb2);(try clear hk);(try clear hi)) | (go_at_call 45;(with_reducible refine (humuslaw09_awake.calls kj2  t693 _ A44.out).mono ?_);rintro e w51 ⟨rfl,hb⟩;have n0_:=Aside0.mk (Kd.R_below (by (with_reducible repeat (first | apply Kd.R_alloc | apply Kd.R_drewN | apply Kd.R_drew));exact HO684.out) hb);have n1_:=Aside0.mk (Kd.R_below (by (with_reducible repeat (first | apply Kd.R_alloc | apply Kd.R_drewN | apply Kd.R_drew));exact HO688.out) hb);have n2_:=Aside0.mk (blk_below (g:=gb678) (o:=.cells #[.int .i64 a0_0,.int .i64 a0_1,.int .i64 a0_2,.int .i64 a0_3,.int .i64 a0_4,.int .i64 a0_5,.float .f64 a0_6,.bool a0_7,.slice A0_8 l0_8.length c0_8,.int .i64 a0_9,.int .i64 a0_10,.int .i64 a0_11] 32 (0,0)) (by (with_reducible repeat (first | refine blk_drewN ?_ _ | refine blk_drew ?_ | refine blk_alloc ?_ _));exact BK678.out) hb);have n3_:=Aside0.mk (blk_below (g:=gb679) (o:=.cells #[.int .i64 a1_0,.int .i64 a1_1,.int .i64 a1_2,.int .i64 a1_3,.int .i64 a1_4,.int .i64 a1_5,.float .f64 a1_6,.bool a1_7,.slice A1_8 l1_8.length c1_8,.int .i64 a1_9,.int .i64 a1_10,.int .i64 a1_11] 32 (0,0)) (by (with_reducible repeat (first | refine blk_drewN ?_ _ | refine blk_drew ?_ | refine blk_alloc ?_ _));exact BK679.out) hb);have n4_:=Aside0.mk (below_step (by repeat (first | (with_reducible first | exact HB.out | apply below_alloc | apply pw_below_drewN | apply below_drew1 | refine below_set ?_ GE678.out | refine below_set ?_ GE679.out) | exact HB.out)) hb);clear HO684;clear HO688;clear BK678;clear BK679;clear HB;have HO684:=n0_;have HO688:=n1_;have BK678:=n2_;have BK679:=n3_;have HB:=n4_;clear n0_ n1_ n2_ n3_ n4_;(try clear hb);(try clear hb2);(try clear hk);(try clear hi)))
         go_meet
         case rel => exact ⟨_,(t693),(by first | rfl | (simp;done) | (simp [*];done)),H',⟨by have:=HJ2.out;first | omega | exact Nat.le_refl _⟩,⟨by (with_reducible repeat (first | refine blk_drewN ?_ _ | refine blk_drew ?_ | refine blk_alloc ?_ _));exact BK678.out⟩,⟨by (with_reducible repeat (first | refine blk_drewN ?_ _ | refine blk_drew ?_ | refine blk_alloc ?_ _));exact BK679.out⟩,⟨by repeat (first | (with_reducible first | exact HB.out | apply below_alloc | apply pw_below_drewN | apply below_drew1 | refine below_set ?_ GE678.out | refine below_set ?_ GE679.out) | exact HB.out)⟩⟩
       ·rw [if_neg c31] at H
        have c31b0 : (t685 == 0) = false:=beq_eq_false_iff_ne.mpr c31
        have c31b1 : (t685 != 0) = true:=bne_iff_ne.mpr c31
        replace H:=Option.bind_eq_some_iff.mp H
        obtain ⟨t694,A520,H⟩:=H
        replace H : (humuslaw09_UndorecSame.j1 kj2 t694) = some r:=H
        have A52:=Aside0.mk A520
        clear A520
        have H':=Aside0.mk H
        clear H
        have hnb53:=NB678_679.out
        have hnc53:=NB679_678.out
        obtain ⟨hcz54_0,hcz54_1,hcz54_2,hcz54_3,hcz54_4,hcz54_5,hcz54_6,hcz54_7,hcz54_8,hcz54_9,hcz54_10,hcz54_11⟩:=blkc_12 BK678.out
        obtain ⟨hfz54_0,hfz54_1,hfz54_2,hfz54_3,hfz54_4,hfz54_5,hfz54_6,hfz54_7,hfz54_8,hfz54_9,hfz54_10,hfz54_11⟩:=blkz_12 BK678.out
        obtain ⟨hcz55_0,hcz55_1,hcz55_2,hcz55_3,hcz55_4,hcz55_5,hcz55_6,hcz55_7,hcz55_8,hcz55_9,hcz55_10,hcz55_11⟩:=blkc_12 BK679.out
        obtain ⟨hfz55_0,hfz55_1,hfz55_2,hfz55_3,hfz55_4,hfz55_5,hfz55_6,hfz55_7,hfz55_8,hfz55_9,hfz55_10,hfz55_11⟩:=blkz_12 BK679.out
        go_wp2_with (first | ((with_reducible refine gate_callee (f:=53) rfl ?_);refine goesL_ (some 38) rfl rfl Try.func53 (by kernel_rfl) rfl #[.agg #[.int .i64 a0_0,.int .i64 a0_1,.int .i64 a0_2,.int .i64 a0_3,.int .i64 a0_4,.int .i64 a0_5,.float .f64 a0_6,.bool a0_7,.slice A0_8 l0_8.length c0_8,.int .i64 a0_9,.int .i64 a0_10,.int .i64 a0_11],.agg #[.int .i64 a1_0,.int .i64 a1_1,.int .i64 a1_2,.int .i64 a1_3,.int .i64 a1_4,.int .i64 a1_5,.float .f64 a1_6,.bool a1_7,.slice A1_8 l1_8.length c1_8,.int .i64 a1_9,.int .i64 a1_10,.int .i64 a1_11]] rfl (by (try simp only [List.map_toArray,List.map_cons,List.map_nil]);first | done | rfl | (simp only [List.length_drop,List.length_take];rfl)) ?_;(with_reducible refine (undorec_Same.calls a0_0 a0_1 a0_2 a0_3 a0_4 a0_5 a0_6 a0_7 _ _ l0_8 a0_9 a0_10 a0_11 a1_0 a1_1 a1_2 a1_3 a1_4 a1_5 a1_6 a1_7 _ _ l1_8 a1_9 a1_10 a1_11 t690 _ ?side1 ?side2 ?side3 ?side4 A27.out).mono ?_);(case side1 => repeat (first | exact (Kd.C_below HR0_8.out HB.out) | (with_reducible refine Kd.C_alloc ?_ _) | (with_reducible refine Kd.C_drewN ?_ _) | (with_reducible refine Kd.C_drew ?_)));(case side2 => exact HC0_8.out);(case side3 => repeat (first | exact (Kd.C_below HR1_8.out HB.out) | (with_reducible refine Kd.C_alloc ?_ _) | (with_reducible refine Kd.C_drewN ?_ _) | (with_reducible refine Kd.C_drew ?_)));(case side4 => exact HC1_8.out);rintro e w56 ⟨rfl,hb⟩;refine ⟨_,rfl,?_⟩;have n0_:=Aside0.mk (Kd.R_below (by (with_reducible repeat (first | apply Kd.R_alloc | apply Kd.R_drewN | apply Kd.R_drew));exact HO684.out) hb);have n1_:=Aside0.mk (Kd.R_below (by (with_reducible repeat (first | apply Kd.R_alloc | apply Kd.R_drewN | apply Kd.R_drew));exact HO688.out) hb);have n2_:=Aside0.mk (blk_below (g:=gb678) (o:=.cells #[.int .i64 a0_0,.int .i64 a0_1,.int .i64 a0_2,.int .i64 a0_3,.int .i64 a0_4,.int .i64 a0_5,.float .f64 a0_6,.bool a0_7,.slice A0_8 l0_8.length c0_8,.int .i64 a0_9,.int .i64 a0_10,.int .i64 a0_11] 32 (0,0)) (by (with_reducible repeat (first | refine blk_drewN ?_ _ | refine blk_drew ?_ | refine blk_alloc ?_ _));exact BK678.out) hb);have n3_:=Aside0.mk (blk_below (g:=gb679) (o:=.cells #[.int .i64 a1_0,.int .i64 a1_1,.int .i64 a1_2,.int .i64 a1_3,.int .i64 a1_4,.int .i64 a1_5,.float .f64 a1_6,.bool a1_7,.slice A1_8 l1_8.length c1_8,.int .i64 a1_9,.int .i64 a1_10,.int .i64 a1_11] 32 (0,0)) (by (with_reducible repeat (first | refine blk_drewN ?_ _ | refine blk_drew ?_ | refine blk_alloc ?_ _));exact BK679.out) hb);have n4_:=Aside0.mk (below_step (by repeat (first | (with_reducible first | exact HB.out | apply below_alloc | apply pw_below_drewN | apply below_drew1 | refine below_set ?_ GE678.out | refine below_set ?_ GE679.out) | exact HB.out)) hb);clear HO684;clear HO688;clear BK678;clear BK679;clear HB;have HO684:=n0_;have HO688:=n1_;have BK678:=n2_;have BK679:=n3_;have HB:=n4_;clear n0_ n1_ n2_ n3_ n4_;(try clear hb);(try clear hb2);(try clear hk);(try clear hi);obtain ⟨hcz57_0,hcz57_1,hcz57_2,hcz57_3,hcz57_4,hcz57_5,hcz57_6,hcz57_7,hcz57_8,hcz57_9,hcz57_10,hcz57_11⟩:=blkc_12 BK678.out;obtain ⟨hfz57_0,hfz57_1,hfz57_2,hfz57_3,hfz57_4,hfz57_5,hfz57_6,hfz57_7,hfz57_8,hfz57_9,hfz57_10⟩:=blkz_11 BK678.out;have hfz57_11:=blk_frozen BK678.out 11) | (go_at_call 53;(with_reducible refine (undorec_Same.calls a0_0 a0_1 a0_2 a0_3 a0_4 a0_5 a0_6 a0_7 _ _ l0_8 a0_9 a0_10 a0_11 a0_0 a0_1 a0_2 a0_3 a0_4 a0_5 a0_6 a0_7 _ _ l0_8 a0_9 a0_10 a0_11 true _ ?side1 ?side2 ?side3 ?side4 A29.out).mono ?_);(case side1 => repeat (first | exact (Kd.C_below HR0_8.out HB.out) | (with_reducible refine Kd.C_alloc ?_ _) | (with_reducible refine Kd.C_drewN ?_ _) | (with_reducible refine Kd.C_drew ?_)));(case side2 => exact HC0_8.out);(case side3 => repeat (first | exact (Kd.C_below HR0_8.out HB.out) | (with_reducible refine Kd.C_alloc ?_ _) | (with_reducible refine Kd.C_drewN ?_ _) | (with_reducible refine Kd.C_drew ?_)));(case side4 => exact HC0_8.out);rintro e w58 ⟨rfl,hb⟩;have n0_:=Aside0.mk (Kd.R_below (by (with_reducible repeat (first | apply Kd.R_alloc | apply Kd.R_drewN | apply Kd.R_drew));exact HO684.out) hb);have n1_:=Aside0.mk (Kd.R_below (by (with_reducible repeat (first | apply Kd.R_alloc | apply Kd.R_drewN | apply Kd.R_drew));exact HO688.out) hb);have n2_:=Aside0.mk (blk_below (g:=gb678) (o:=.cells #[.int .i64 a0_0,.int .i64 a0_1,.int .i64 a0_2,.int .i64 a0_3,.int .i64 a0_4,.int .i64 a0_5,.float .f64 a0_6,.bool a0_7,.slice A0_8 l0_8.length c0_8,.int .i64 a0_9,.int .i64 a0_10,.int .i64 a0_11] 32 (0,0)) (by (with_reducible repeat (first | refine blk_drewN ?_ _ | refine blk_drew ?_ | refine blk_alloc ?_ _));exact BK678.out) hb);have n3_:=Aside0.mk (blk_below (g:=gb679) (o:=.cells #[.int .i64 a1_0,.int .i64 a1_1,.int .i64 a1_2,.int .i64 a1_3,.int .i64 a1_4,.int .i64 a1_5,.float .f64 a1_6,.bool a1_7,.slice A1_8 l1_8.length c1_8,.int .i64 a1_9,.int .i64 a1_10,.int .i64 a1_11] 32 (0,0)) (by (with_reducible repeat (first | refine blk_drewN ?_ _ | refine blk_drew ?_ | refine blk_alloc ?_ _));exact BK679.out) hb);have n4_:=Aside0.mk (below_step (by repeat (first | (with_reducible first | exact HB.out | apply below_alloc | apply pw_below_drewN | apply below_drew1 | refine below_set ?_ GE678.out | refine below_set ?_ GE679.out) | exact HB.out)) hb);clear HO684;clear HO688;clear BK678;clear BK679;clear HB;have HO684:=n0_;have HO688:=n1_;have BK678:=n2_;have BK679:=n3_;have HB:=n4_;clear n0_ n1_ n2_ n3_ n4_;(try clear hb);(try clear hb2);(try clear hk);(try clear hi)) | (go_at_call 45;(with_reducible refine (humuslaw09_awake.calls kj2  t694 _ A52.out).mono ?_);rintro e w59 ⟨rfl,hb⟩;have n0_:=Aside0.mk (Kd.R_below (by (with_reducible repeat (first | apply Kd.R_alloc | apply Kd.R_drewN | apply Kd.R_drew));exact HO684.out) hb);have n1_:=Aside0.mk (Kd.R_below (by (with_reducible repeat (first | apply Kd.R_alloc | apply Kd.R_drewN | apply Kd.R_drew));exact HO688.out) hb);have n2_:=Aside0.mk (blk_below (g:=gb678) (o:=.cells #[.int .i64 a0_0,.int .i64 a0_1,.int .i64 a0_2,.int .i64 a0_3,.int .i64 a0_4,.int .i64 a0_5,.float .f64 a0_6,.bool a0_7,.slice A0_8 l0_8.length c0_8,.int .i64 a0_9,.int .i64 a0_10,.int .i64 a0_11] 32 (0,0)) (by (with_reducible repeat (first | refine blk_drewN ?_ _ | refine blk_drew ?_ | refine blk_alloc ?_ _));exact BK678.out) hb);have n3_:=Aside0.mk (blk_below (g:=gb679) (o:=.cells #[.int .i64 a1_0,.int .i64 a1_1,.int .i64 a1_2,.int .i64 a1_3,.int .i64 a1_4,.int .i64 a1_5,.float .f64 a1_6,.bool a1_7,.slice A1_8 l1_8.length c1_8,.int .i64 a1_9,.int .i64 a1_10,.int .i64 a1_11] 32 (0,0)) (by (with_reducible repeat (first | refine blk_drewN ?_ _ | refine blk_drew ?_ | refine blk_alloc ?_ _));exact BK679.out) hb);have n4_:=Aside0.mk (below_step (by repeat (first | (with_reducible first | exact HB.out | apply below_alloc | apply pw_below_drewN | apply below_drew1 | refine below_set ?_ GE678.out | refine below_set ?_ GE679.out) | exact HB.out)) hb);clear HO684;clear HO688;clear BK678;clear BK679;clear HB;have HO684:=n0_;have HO688:=n1_;have BK678:=n2_;have BK679:=n3_;have HB:=n4_;clear n0_ n1_ n2_ n3_ n4_;(try clear hb);(try clear hb2);(try clear hk);(try clear hi)))
        go_meet
        case rel => exact ⟨_,(t694),(by first | rfl | (simp;done) | (simp [*];done)),H',⟨by have:=HJ2.out;first | omega | exact Nat.le_refl _⟩,⟨by (with_reducible repeat (first | refine blk_drewN ?_ _ | refine blk_drew ?_ | refine blk_alloc ?_ _));exact BK678.out⟩,⟨by (with_reducible repeat (first | refine blk_drewN ?_ _ | refine blk_drew ?_ | refine blk_alloc ?_ _));exact BK679.out⟩,⟨by repeat (first | (with_reducible first | exact HB.out | apply below_alloc | apply pw_below_drewN | apply below_drew1 | refine below_set ?_ GE678.out | refine below_set ?_ GE679.out) | exact HB.out)⟩⟩
      ·replace c30:=Bool.eq_false_iff.mpr c30
       subst c30
       have H1 : (none) = some r:=by rw [if_neg (show ¬ (false = true) by decide)] at H;exact H
       clear H
       have H:=H1
       clear H1
       exact absurd H (by simp)
     ·rw [if_neg c28] at H
      exact absurd H (by simp)
    case rest =>
     clear HC18
     try clear c1
     try clear c2
     try clear p2
     try clear c3
     try clear c4
     try clear hcv4
     try clear c5
     try clear c6
     try clear c6b0
     try clear c6b1
     try clear c7
     try clear c9
     try clear c12
     try clear c14
     try clear c19
     try clear c28
     try clear c28b0
     try clear c28b1
     try clear c28b2
     try clear c30
     try clear c31
     try clear c31b0
     try clear c31b1
     try clear c32
     try clear c32b0
     try clear c32b1
     try clear c33
     try clear c33b0
     try clear c33b1
     try clear c33b2
     try clear c35
     try clear hcv41
     try clear hcv42
     try clear c45
     try clear c46
     try clear c51
     try clear c53
     try clear hcz10_0
     try clear hcz10_1
     try clear hcz10_10
     try clear hcz10_11
     try clear hcz10_2
     try clear hcz10_3
     try clear hcz10_4
     try clear hcz10_5
     try clear hcz10_6
     try clear hcz10_7
     try clear hcz10_8
     try clear hcz10_9
     try clear hcz11_0
     try clear hcz11_1
     try clear hcz11_10
     try clear hcz11_11
     try clear hcz11_2
     try clear hcz11_3
     try clear hcz11_4
     try clear hcz11_5
     try clear hcz11_6
     try clear hcz11_7
     try clear hcz11_8
     try clear hcz11_9
     try clear hcz20_0
     try clear hcz20_1
     try clear hcz20_10
     try clear hcz20_11
     try clear hcz20_2
     try clear hcz20_3
     try clear hcz20_4
     try clear hcz20_5
     try clear hcz20_6
     try clear hcz20_7
     try clear hcz20_8
     try clear hcz20_9
     try clear hcz21_0
     try clear hcz21_1
     try clear hcz21_10
     try clear hcz21_11
     try clear hcz21_2
     try clear hcz21_3
     try clear hcz21_4
     try clear hcz21_5
     try clear hcz21_6
     try clear hcz21_7
     try clear hcz21_8
     try clear hcz21_9
     try clear hcz23_0
     try clear hcz23_1
     try clear hcz23_10
     try clear hcz23_11
     try clear hcz23_2
     try clear hcz23_3
     try clear hcz23_4
     try clear hcz23_5
     try clear hcz23_6
     try clear hcz23_7
     try clear hcz23_8
     try clear hcz23_9
     try clear hcz25_0
     try clear hcz25_1
     try clear hcz25_10
     try clear hcz25_11
     try clear hcz25_2
     try clear hcz25_3
     try clear hcz25_4
     try clear hcz25_5
     try clear hcz25_6
     try clear hcz25_7
     try clear hcz25_8
     try clear hcz25_9
     try clear hcz36_0
     try clear hcz36_1
     try clear hcz36_10
     try clear hcz36_11
     try clear hcz36_2
     try clear hcz36_3
     try clear hcz36_4
     try clear hcz36_5
     try clear hcz36_6
     try clear hcz36_7
     try clear hcz36_8
     try clear hcz36_9
     try clear hcz37_0
     try clear hcz37_1
     try clear hcz37_10
     try clear hcz37_11
     try clear hcz37_2
     try clear hcz37_3
     try clear hcz37_4
     try clear hcz37_5
     try clear hcz37_6
     try clear hcz37_7
     try clear hcz37_8
     try clear hcz37_9
     try clear hcz39_0
     try clear hcz39_1
     try clear hcz39_10
     try clear hcz39_11
     try clear hcz39_2
     try clear hcz39_3
     try clear hcz39_4
     try clear hcz39_5
     try clear hcz39_6
     try clear hcz39_7
     try clear hcz39_8
     try clear hcz39_9
     try clear hcz46_0
     try clear hcz46_1
     try clear hcz46_10
     try clear hcz46_11
     try clear hcz46_2
     try clear hcz46_3
     try clear hcz46_4
     try clear hcz46_5
     try clear hcz46_6
     try clear hcz46_7
     try clear hcz46_8
     try clear hcz46_9
     try clear hcz47_0
     try clear hcz47_1
     try clear hcz47_10
     try clear hcz47_11
     try clear hcz47_2
     try clear hcz47_3
     try clear hcz47_4
     try clear hcz47_5
     try clear hcz47_6
     try clear hcz47_7
     try clear hcz47_8
     try clear hcz47_9
     try clear hcz49_0
     try clear hcz49_1
     try clear hcz49_10
     try clear hcz49_11
     try clear hcz49_2
     try clear hcz49_3
     try clear hcz49_4
     try clear hcz49_5
     try clear hcz49_6
     try clear hcz49_7
     try clear hcz49_8
     try clear hcz49_9
     try clear hcz54_0
     try clear hcz54_1
     try clear hcz54_10
     try clear hcz54_11
     try clear hcz54_2
     try clear hcz54_3
     try clear hcz54_4
     try clear hcz54_5
     try clear hcz54_6
     try clear hcz54_7
     try clear hcz54_8
     try clear hcz54_9
     try clear hcz55_0
     try clear hcz55_1
     try clear hcz55_10
     try clear hcz55_11
     try clear hcz55_2
     try clear hcz55_3
     try clear hcz55_4
     try clear hcz55_5
     try clear hcz55_6
     try clear hcz55_7
     try clear hcz55_8
     try clear hcz55_9
     try clear hcz57_0
     try clear hcz57_1
     try clear hcz57_10
     try clear hcz57_11
     try clear hcz57_2
     try clear hcz57_3
     try clear hcz57_4
     try clear hcz57_5
     try clear hcz57_6
     try clear hcz57_7
     try clear hcz57_8
     try clear hcz57_9
     try clear hcz8_0
     try clear hcz8_1
     try clear hcz8_10
     try clear hcz8_11
     try clear hcz8_2
     try clear hcz8_3
     try clear hcz8_4
     try clear hcz8_5
     try clear hcz8_6
     try clear hcz8_7
     try clear hcz8_8
     try clear hcz8_9
     try clear hfz10_0
     try clear hfz10_1
     try clear hfz10_10
     try clear hfz10_11
     try clear hfz10_2
     try clear hfz10_3
     try clear hfz10_4
     try clear hfz10_5
     try clear hfz10_6
     try clear hfz10_7
     try clear hfz10_8
     try clear hfz10_9
     try clear hfz11_0
     try clear hfz11_1
     try clear hfz11_10
     try clear hfz11_11
     try clear hfz11_2
     try clear hfz11_3
     try clear hfz11_4
     try clear hfz11_5
     try clear hfz11_6
     try clear hfz11_7
     try clear hfz11_8
     try clear hfz11_9
     try clear hfz20_0
     try clear hfz20_1
     try clear hfz20_10
     try clear hfz20_11
     try clear hfz20_2
     try clear hfz20_3
     try clear hfz20_4
     try clear hfz20_5
     try clear hfz20_6
     try clear hfz20_7
     try clear hfz20_8
     try clear hfz20_9
     try clear hfz21_0
     try clear hfz21_1
     try clear hfz21_10
     try clear hfz21_11
     try clear hfz21_2
     try clear hfz21_3
     try clear hfz21_4
     try clear hfz21_5
     try clear hfz21_6
     try clear hfz21_7
     try clear hfz21_8
     try clear hfz21_9
     try clear hfz23_0
     try clear hfz23_1
     try clear hfz23_10
     try clear hfz23_11
     try clear hfz23_2
     try clear hfz23_3
     try clear hfz23_4
     try clear hfz23_5
     try clear hfz23_6
     try clear hfz23_7
     try clear hfz23_8
     try clear hfz23_9
     try clear hfz25_0
     try clear hfz25_1
     try clear hfz25_10
     try clear hfz25_11
     try clear hfz25_2
     try clear hfz25_3
     try clear hfz25_4
     try clear hfz25_5
     try clear hfz25_6
     try clear hfz25_7
     try clear hfz25_8
     try clear hfz25_9
     try clear hfz36_0
     try clear hfz36_1
     try clear hfz36_10
     try clear hfz36_11
     try clear hfz36_2
     try clear hfz36_3
     try clear hfz36_4
     try clear hfz36_5
     try clear hfz36_6
     try clear hfz36_7
     try clear hfz36_8
     try clear hfz36_9
     try clear hfz37_0
     try clear hfz37_1
     try clear hfz37_10
     try clear hfz37_11
     try clear hfz37_2
     try clear hfz37_3
     try clear hfz37_4
     try clear hfz37_5
     try clear hfz37_6
     try clear hfz37_7
     try clear hfz37_8
     try clear hfz37_9
     try clear hfz39_0
     try clear hfz39_1
     try clear hfz39_10
     try clear hfz39_11
     try clear hfz39_2
     try clear hfz39_3
     try clear hfz39_4
     try clear hfz39_5
     try clear hfz39_6
     try clear hfz39_7
     try clear hfz39_8
     try clear hfz39_9
     try clear hfz46_0
     try clear hfz46_1
     try clear hfz46_10
     try clear hfz46_11
     try clear hfz46_2
     try clear hfz46_3
     try clear hfz46_4
     try clear hfz46_5
     try clear hfz46_6
     try clear hfz46_7
     try clear hfz46_8
     try clear hfz46_9
     try clear hfz47_0
     try clear hfz47_1
     try clear hfz47_10
     try clear hfz47_11
     try clear hfz47_2
     try clear hfz47_3
     try clear hfz47_4
     try clear hfz47_5
     try clear hfz47_6
     try clear hfz47_7
     try clear hfz47_8
     try clear hfz47_9
     try clear hfz49_0
     try clear hfz49_1
     try clear hfz49_10
     try clear hfz49_11
     try clear hfz49_2
     try clear hfz49_3
     try clear hfz49_4
     try clear hfz49_5
     try clear hfz49_6
     try clear hfz49_7
     try clear hfz49_8
     try clear hfz49_9
     try clear hfz54_0
     try clear hfz54_1
     try clear hfz54_10
     try clear hfz54_11
     try clear hfz54_2
     try clear hfz54_3
     try clear hfz54_4
     try clear hfz54_5
     try clear hfz54_6
     try clear hfz54_7
     try clear hfz54_8
     try clear hfz54_9
     try clear hfz55_0
     try clear hfz55_1
     try clear hfz55_10
     try clear hfz55_11
     try clear hfz55_2
     try clear hfz55_3
     try clear hfz55_4
     try clear hfz55_5
     try clear hfz55_6
     try clear hfz55_7
     try clear hfz55_8
     try clear hfz55_9
     try clear hfz57_0
     try clear hfz57_1
     try clear hfz57_10
     try clear hfz57_11
     try clear hfz57_2
     try clear hfz57_3
     try clear hfz57_4
     try clear hfz57_5
     try clear hfz57_6
     try clear hfz57_7
     try clear hfz57_8
     try clear hfz57_9
     try clear hfz8_0
     try clear hfz8_1
     try clear hfz8_10
     try clear hfz8_11
     try clear hfz8_2
     try clear hfz8_3
     try clear hfz8_4
     try clear hfz8_5
     try clear hfz8_6
     try clear hfz8_7
     try clear hfz8_8
     try clear hfz8_9
     try clear p2
     obtain ⟨kq,x4_17,rfl,HA,HJ17,BK678,BK679,HB⟩:=hcut
     cases kq with
     | zero => exact absurd HA.out (by simp [humuslaw09_UndorecSame.j1])
     | succ kj17 =>
      have H:=HA.out
      clear HA
      simp only [humuslaw09_UndorecSame.j1] at H
      obtain rfl:=Option.some.inj H
      go_wp2
      go_ret
      exact ⟨by first | rfl | (simp [errW_none,errW_some] <;> rfl) | (simp [*,errW_none,errW_some] <;> rfl),by repeat (first | (with_reducible first | exact HB.out | apply below_alloc | apply pw_below_drewN | apply below_drew1 | refine below_set ?_ GE678.out | refine below_set ?_ GE679.out) | exact HB.out)⟩
end Go.Proofs.Ytdcllbhkjcdnoaa.P
set_option linter.unusedVariables false
set_option linter.unusedSimpArgs false
namespace Go.Proofs.Ytdcllbhkjcdnoaa.P
open Go.RowKit Go.Proofs.Ytdcllbhkjcdnoaa Go.Proofs.Ytdcllbhkjcdnoaa.Mem Go.Proofs.Ytdcllbhkjcdnoaa.Pac Go.Proofs.YtdcllbhkjcdnoaaW.PrintWords Go.Proofs.YtdcllbhkjcdnoaaW.PrintLast
theorem undorecSame_ev {tx no pr ki pa sl : Int} {ke : Nat} {de : Bool} {co : List Nat} {wr ce nn : Int} {tx' no' pr' ki' pa' sl' : Int} {ke' : Nat} {de' : Bool} {co' : List Nat} {wr' ce' nn' : Int} (hx : ke < 18446744073709551616) (hc : ∀ x ∈ co, x < 18446744073709551616) (hx' : ke' < 18446744073709551616) (hc' : ∀ x ∈ co', x < 18446744073709551616) :
    humuslaw09_UndorecSame.f 300 tx no pr ki pa sl ke de co wr ce nn tx' no' pr' ki' pa' sl' ke' de' co' wr' ce' nn' = some true := by
  have hT : ∀ z : Bool, z = true → humuslaw09_UndorecSame.j0 300 z tx no pr ki pa sl ke de co wr ce nn tx' no' pr' ki' pa' sl' ke' de' co' wr' ce' nn' = some true := by
    intro z hz
    subst hz
    rw [show (300 : Nat) = 299 + 1 from rfl]
    simp only [humuslaw09_UndorecSame.j0]
    rw [if_pos trivial, awake09_ev (by omega)]
    simp only [Option.bind_some]
  have hj1 : ∀ b, humuslaw09_UndorecSame.j1 299 b = some b := fun b => by rw [show (299 : Nat) = 298 + 1 from rfl]; simp only [humuslaw09_UndorecSame.j1]
  unfold humuslaw09_UndorecSame.f
  by_cases hl : co.length ≤ 100
  rotate_left
  · rw [if_pos (by omega)]; exact hT _ rfl
  rw [if_neg (by omega)]
  by_cases hl' : co'.length ≤ 100
  rotate_left
  · exact hT _ (decide_eq_true (by omega))
  rw [decide_eq_false (by omega), show (300 : Nat) = 299 + 1 from rfl]
  simp only [humuslaw09_UndorecSame.j0]
  rw [if_neg (by decide), rSameU_ev (by omega) (by omega), uEncode_ev (by omega) (by omega) hx hc, uEncode_ev (by omega) (by omega) hx' hc', uSame_ev (by omega)]
  simp only [Option.bind_some]
  rw [if_pos (beq_self_eq_true _), uSame_ev (by omega), sameU_self]
  simp only [Option.bind_some, if_true]
  by_cases hm : mayU tx no pr ki pa sl ke de co wr ce nn = true
  rotate_left
  · rw [if_neg (by rw [if_neg hm]; decide), awake09_ev (by omega)]
    simp only [Option.bind_some]; exact hj1 _
  rw [if_pos hm, if_pos rfl]
  by_cases hm' : mayU tx' no' pr' ki' pa' sl' ke' de' co' wr' ce' nn' = true
  rotate_left
  · rw [if_neg (by rw [if_neg hm']; decide), awake09_ev (by omega)]
    simp only [Option.bind_some]; exact hj1 _
  rw [if_pos hm', if_pos rfl]
  simp only
  rw [str_eq (bytesU_B hm) (bytesU_B hm'), bytesU_inj hm hx hc hm' hx' hc', if_pos (beq_self_eq_true _), awake09_ev (by omega)]
  simp only [Option.bind_some]; exact hj1 _
theorem UndorecSame_walk {w : World} (a : S32) (A : Option Addr) (c : Nat) (hc : a.f6.f2.length ≤ c) (hr : Kd.C Kd.f64 w A a.f6.f2.length a.f6.f2) (ga : good_undo a) (b : S32) (B : Option Addr) (d : Nat) (hd : b.f6.f2.length ≤ d) (hs : Kd.C Kd.f64 w B b.f6.f2.length b.f6.f2) (gb : good_undo b) :
    Calls Try.prog 14 #[.agg #[.int .i64 a.f0, .int .i64 a.f1, .int .i64 a.f2, .int .i64 a.f3, .int .i64 a.f4, .int .i64 a.f5, .float .f64 a.f6.f0, .bool a.f6.f1, .slice A a.f6.f2.length c, .int .i64 a.f6.f3, .int .i64 a.f6.f4.f0, .int .i64 a.f6.f4.f1], .agg #[.int .i64 b.f0, .int .i64 b.f1, .int .i64 b.f2, .int .i64 b.f3, .int .i64 b.f4, .int .i64 b.f5, .float .f64 b.f6.f0, .bool b.f6.f1, .slice B b.f6.f2.length d, .int .i64 b.f6.f3, .int .i64 b.f6.f4.f0, .int .i64 b.f6.f4.f1]] w fun e w' => e = .returned (.bool true) ∧ Below w.heap.size w w' :=
  humuslaw09_UndorecSame.calls 300 _ _ _ _ _ _ _ _ _ _ _ _ _ _ _ _ _ _ _ _ _ _ _ _ _ _ _ _ true w hr hc hs hd (undorecSame_ev ga.2.2.2.2.2.2.1 ga.2.2.2.2.2.2.2.1.1 gb.2.2.2.2.2.2.1 gb.2.2.2.2.2.2.2.1.1)
end Go.Proofs.Ytdcllbhkjcdnoaa.P
