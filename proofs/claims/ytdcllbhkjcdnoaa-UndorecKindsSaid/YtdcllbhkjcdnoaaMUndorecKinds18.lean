/- Put together by wip/prune.py out of this claim's texts. -/
import Derived.Test.YtdcllbhkjcdnoaaMUndorecKinds5
import Derived.Test.YtdcllbhkjcdnoaaMUndorecKinds15
import Derived.Test.YtdcllbhkjcdnoaaMUndorecKinds16
import Derived.Test.YtdcllbhkjcdnoaaMUndorecKinds17
namespace Go.Proofs.Ytdcllbhkjcdnoaa.P
open Go.RowKit Go.Proofs.YtdcllbhkjcdnoaaW.PrintWords Go.Proofs.YtdcllbhkjcdnoaaW.PrintLast Go.Proofs.YtdcllbhkjcdnoaaW.PrintMore
attribute [local go_sem] max2_int min2_int max_two min_two max_three min_three max_four min_four   -- for this text's walks alone
attribute [local go_sem] run_store_float
set_option linter.unusedVariables false
set_option linter.unusedSimpArgs false
mutual
def humuslaw09_UndorecKinds.j0 : Nat → Bool → Int → Int → Int → Int → Int → Int → Nat → Bool → List Nat → Int → Int → Int → Nat → Bool → List Nat → Int → Int → Int → Option (Bool)
 | 0,_,_,_,_,_,_,_,_,_,_,_,_,_,_,_,_,_,_,_ => none
 | k + 1,x21,x646000,x646001,x646002,x646003,x646004,x646005,x646006,x646007,x646008,x646009,x646010,x646011,x647000,x647001,x647002,x647003,x647004,x647005 => if x21 = true then ((humuslaw09_awake.f k).bind fun t647 => (some t647)) else ((undorec_Encode.f k x646000 x646001 x646002 1 x646004 x646005 0 false ([] : List Nat) 0 0 0).bind fun bt648 => ((undorec_Encode.f k x646000 x646001 x646002 2 x646004 x646005 x647000 x647001 x647002 x647003 x647004 x647005).bind fun bt652 => (if bt648.2 = 0 then (if (bt648.1.length : Int) = 14 then (if bt652.2 = 0 then (humuslaw09_UndorecKinds.j1 k bt652.1 bt652.2 (bt648.2 != 0) x646000 x646001 x646002 2 x646004 x646005 x647000 x647001 x647002 x647003 x647004 x647005 x647000 x647001 x647002 x647003 x647004 x647005) else (humuslaw09_UndorecKinds.j1 k bt652.1 bt652.2 false x646000 x646001 x646002 2 x646004 x646005 x647000 x647001 x647002 x647003 x647004 x647005 x647000 x647001 x647002 x647003 x647004 x647005)) else (humuslaw09_UndorecKinds.j1 k bt652.1 bt652.2 true x646000 x646001 x646002 2 x646004 x646005 x647000 x647001 x647002 x647003 x647004 x647005 x647000 x647001 x647002 x647003 x647004 x647005)) else (if bt652.2 = 0 then (humuslaw09_UndorecKinds.j1 k bt652.1 bt652.2 (bt648.2 != 0) x646000 x646001 x646002 2 x646004 x646005 x647000 x647001 x647002 x647003 x647004 x647005 x647000 x647001 x647002 x647003 x647004 x647005) else (humuslaw09_UndorecKinds.j1 k bt652.1 bt652.2 false x646000 x646001 x646002 2 x646004 x646005 x647000 x647001 x647002 x647003 x647004 x647005 x647000 x647001 x647002 x647003 x647004 x647005)))))
def humuslaw09_UndorecKinds.j1 : Nat → List Int → Int → Bool → Int → Int → Int → Int → Int → Int → Nat → Bool → List Nat → Int → Int → Int → Nat → Bool → List Nat → Int → Int → Int → Option (Bool)
 | 0,_,_,_,_,_,_,_,_,_,_,_,_,_,_,_,_,_,_,_,_,_ => none
 | k + 1,x7,x8,x53,x646000,x646001,x646002,x646003,x646004,x646005,x646006,x646007,x646008,x646009,x646010,x646011,x647000,x647001,x647002,x647003,x647004,x647005 => if x53 = true then (none) else (if x8 = 0 then ((undorec_Decode.f k x7).bind fun bt656 => (if bt656.2.2.2.2.2.2.2.2.2.2.2.2 = 0 then ((humusref09_Same.f k bt656.1 bt656.2.1 bt656.2.2.1 bt656.2.2.2.1 bt656.2.2.2.2.1 bt656.2.2.2.2.2.1 bt656.2.2.2.2.2.2.1 bt656.2.2.2.2.2.2.2.1 bt656.2.2.2.2.2.2.2.2.1 bt656.2.2.2.2.2.2.2.2.2.1 bt656.2.2.2.2.2.2.2.2.2.2.1 bt656.2.2.2.2.2.2.2.2.2.2.2.1 x646000 x646001 x646002 x646003 x646004 x646005 x646006 x646007 x646008 x646009 x646010 x646011).bind fun t672 => (if t672 = true then (if (x7.length : Int) = (wrap64 (34 + (wrap64 (8 * (x647002.length : Int))))) then ((humuslaw09_awake.f k).bind fun t673 => (some t673)) else (none)) else (none))) else (none))) else ((humuslaw09_awake.f k).bind fun t674 => (some t674)))
end
def humuslaw09_UndorecKinds.f (k : Nat) (a0_0 : Int) (a0_1 : Int) (a0_2 : Int) (a0_3 : Int) (a0_4 : Int) (a0_5 : Int) (a0_6 : Nat) (a0_7 : Bool) (l0_8 : List Nat) (a0_9 : Int) (a0_10 : Int) (a0_11 : Int) (a1_0 : Nat) (a1_1 : Bool) (l1_2 : List Nat) (a1_3 : Int) (a1_4 : Int) (a1_5 : Int) : Option (Bool):=if (l1_2.length : Int) > 100 then (humuslaw09_UndorecKinds.j0 k true a0_0 a0_1 a0_2 a0_3 a0_4 a0_5 a0_6 a0_7 l0_8 a0_9 a0_10 a0_11 a1_0 a1_1 l1_2 a1_3 a1_4 a1_5) else (humuslaw09_UndorecKinds.j0 k (decide ((l0_8.length : Int) > 100)) a0_0 a0_1 a0_2 a0_3 a0_4 a0_5 a0_6 a0_7 l0_8 a0_9 a0_10 a0_11 a1_0 a1_1 l1_2 a1_3 a1_4 a1_5)
set_option maxHeartbeats 8000000 in
set_option maxRecDepth 100000 in
theorem humuslaw09_UndorecKinds.calls (k : Nat) (a0_0 : Int) (a0_1 : Int) (a0_2 : Int) (a0_3 : Int) (a0_4 : Int) (a0_5 : Int) (a0_6 : Nat) (a0_7 : Bool) (A0_8 : Option Addr) (c0_8 : Nat) (l0_8 : List Nat) (a0_9 : Int) (a0_10 : Int) (a0_11 : Int) (a1_0 : Nat) (a1_1 : Bool) (A1_2 : Option Addr) (c1_2 : Nat) (l1_2 : List Nat) (a1_3 : Int) (a1_4 : Int) (a1_5 : Int) (r : Bool) (w : World) (hr0_8 : Kd.C Kd.f64 w A0_8 l0_8.length l0_8) (hc0_8 : l0_8.length ≤ c0_8) (hr1_2 : Kd.C Kd.f64 w A1_2 l1_2.length l1_2) (hc1_2 : l1_2.length ≤ c1_2) (h : humuslaw09_UndorecKinds.f k a0_0 a0_1 a0_2 a0_3 a0_4 a0_5 a0_6 a0_7 l0_8 a0_9 a0_10 a0_11 a1_0 a1_1 l1_2 a1_3 a1_4 a1_5 = some r) :
  Calls Try.prog 13 #[.agg #[.int .i64 a0_0,.int .i64 a0_1,.int .i64 a0_2,.int .i64 a0_3,.int .i64 a0_4,.int .i64 a0_5,.float .f64 a0_6,.bool a0_7,.slice A0_8 l0_8.length c0_8,.int .i64 a0_9,.int .i64 a0_10,.int .i64 a0_11],.agg #[.float .f64 a1_0,.bool a1_1,.slice A1_2 l1_2.length c1_2,.int .i64 a1_3,.int .i64 a1_4,.int .i64 a1_5]] w fun e w' => e = .returned (.bool r) ∧ Below w.heap.size w w':=by
 have hu32:=Try.underlying32
 have hu30:=Try.underlying30
 have HR0_8:=Aside0.mk hr0_8
 have HC0_8:=Aside0.mk hc0_8
 clear hr0_8 hc0_8
 have HR1_2:=Aside0.mk hr1_2
 have HC1_2:=Aside0.mk hc1_2
 clear hr1_2 hc1_2
 have HB:=Aside0.mk (Below.refl w.heap.size w)
 have H : (if (l1_2.length : Int) > 100 then (humuslaw09_UndorecKinds.j0 k true a0_0 a0_1 a0_2 a0_3 a0_4 a0_5 a0_6 a0_7 l0_8 a0_9 a0_10 a0_11 a1_0 a1_1 l1_2 a1_3 a1_4 a1_5) else (humuslaw09_UndorecKinds.j0 k (decide ((l0_8.length : Int) > 100)) a0_0 a0_1 a0_2 a0_3 a0_4 a0_5 a0_6 a0_7 l0_8 a0_9 a0_10 a0_11 a1_0 a1_1 l1_2 a1_3 a1_4 a1_5)) = some r:=h
 clear h
 have HC3:=Aside0.mk H
 clear H
 go_enter Try.func13,Try.ntmps13
 go_upto_region 1 with (first | ((with_reducible refine gate_dst (N:=2) rfl ?_);(try (refine gate_guard (by rfl) ?_;dsimp only));refine box_event ?hg (N:=2) ?hd (cs:=#[.int .i64 a0_0,.int .i64 a0_1,.int .i64 a0_2,.int .i64 a0_3,.int .i64 a0_4,.int .i64 a0_5,.float .f64 a0_6,.bool a0_7,.slice A0_8 l0_8.length c0_8,.int .i64 a0_9,.int .i64 a0_10,.int .i64 a0_11]) (t:=32) ?hr ?_;(case hd => rfl);(case hg => rfl);(case hr => first | (go_simp;done) | (go_simp;rfl));intro gb645 hg w4 hbox hb;have n0_:=Aside0.mk (below_step (by repeat (first | (with_reducible first | exact HB.out | apply below_alloc | apply pw_below_drewN | apply below_drew1) | exact HB.out)) hb);have n1_:=Aside0.mk (hbox);have n2_:=Aside0.mk ((by rw [hg];exact (below_size (by repeat (first | (with_reducible first | exact HB.out | apply below_alloc | apply pw_below_drewN | apply below_drew1) | exact HB.out))) : w.heap.size ≤ gb645));have n3_:=Aside0.mk ((by rw [hg];exact (below_size (by repeat (first | (with_reducible first | exact HB.out | apply below_alloc | apply pw_below_drewN | apply below_drew1) | exact HB.out))) : w.heap.size ≤ gb645));clear HB;have HB:=n0_;have BK645:=n1_;have GW645:=n2_;have GE645:=n3_;clear n0_ n1_ n2_ n3_;clear hb hbox hg) | ((with_reducible refine gate_dst (N:=3) rfl ?_);(try (refine gate_guard (by rfl) ?_;dsimp only));refine box_event ?hg (N:=3) ?hd (cs:=#[.float .f64 a1_0,.bool a1_1,.slice A1_2 l1_2.length c1_2,.int .i64 a1_3,.int .i64 a1_4,.int .i64 a1_5]) (t:=30) ?hr ?_;(case hd => rfl);(case hg => rfl);(case hr => first | (go_simp;done) | (go_simp;rfl));intro gb646 hg w5 hbox hb;have n0_:=Aside0.mk (blk_below (g:=gb645) (o:=.cells #[.int .i64 a0_0,.int .i64 a0_1,.int .i64 a0_2,.int .i64 a0_3,.int .i64 a0_4,.int .i64 a0_5,.float .f64 a0_6,.bool a0_7,.slice A0_8 l0_8.length c0_8,.int .i64 a0_9,.int .i64 a0_10,.int .i64 a0_11] 32 (0,0)) (by (with_reducible repeat (first | refine blk_drewN ?_ _ | refine blk_drew ?_ | refine blk_alloc ?_ _));exact BK645.out) hb);have n1_:=Aside0.mk (below_step (by repeat (first | (with_reducible first | exact HB.out | apply below_alloc | apply pw_below_drewN | apply below_drew1 | refine below_set ?_ GE645.out) | exact HB.out)) hb);have n2_:=Aside0.mk (hbox);have n3_:=Aside0.mk ((by rw [hg];exact (below_size (by repeat (first | (with_reducible first | exact HB.out | apply below_alloc | apply pw_below_drewN | apply below_drew1 | refine below_set ?_ GE645.out) | exact HB.out))) : w.heap.size ≤ gb646));have n4_:=Aside0.mk ((by rw [hg];exact (below_size (by repeat (first | (with_reducible first | exact HB.out | apply below_alloc | apply pw_below_drewN | apply below_drew1 | refine below_set ?_ GE645.out) | exact HB.out))) : w.heap.size ≤ gb646));have n5_:=Aside0.mk ((by rw [hg];exact Nat.ne_of_lt (blk_lt (g:=gb645) (o:=.cells #[.int .i64 a0_0,.int .i64 a0_1,.int .i64 a0_2,.int .i64 a0_3,.int .i64 a0_4,.int .i64 a0_5,.float .f64 a0_6,.bool a0_7,.slice A0_8 l0_8.length c0_8,.int .i64 a0_9,.int .i64 a0_10,.int .i64 a0_11] 32 (0,0)) (by (with_reducible repeat (first | refine blk_drewN ?_ _ | refine blk_drew ?_ | refine blk_alloc ?_ _));exact BK645.out)) : gb645 ≠ gb646));have n6_:=Aside0.mk ((by rw [hg];exact Nat.ne_of_gt (blk_lt (g:=gb645) (o:=.cells #[.int .i64 a0_0,.int .i64 a0_1,.int .i64 a0_2,.int .i64 a0_3,.int .i64 a0_4,.int .i64 a0_5,.float .f64 a0_6,.bool a0_7,.slice A0_8 l0_8.length c0_8,.int .i64 a0_9,.int .i64 a0_10,.int .i64 a0_11] 32 (0,0)) (by (with_reducible repeat (first | refine blk_drewN ?_ _ | refine blk_drew ?_ | refine blk_alloc ?_ _));exact BK645.out)) : gb646 ≠ gb645));clear BK645;clear HB;have BK645:=n0_;have HB:=n1_;have BK646:=n2_;have GW646:=n3_;have GE646:=n4_;have NB645_646:=n5_;have NB646_645:=n6_;clear n0_ n1_ n2_ n3_ n4_ n5_ n6_;clear hb hbox hg))
 (try simp only [Act.put,List.setIfInBounds_toArray,List.set_cons_zero,List.set_cons_succ])
 go_cut [21] (fun v21 wc => ∃ (kq : Nat) (x21_2 : Bool),v21 = .bool x21_2 ∧ Aside0 (humuslaw09_UndorecKinds.j0 kq x21_2 a0_0 a0_1 a0_2 a0_3 a0_4 a0_5 a0_6 a0_7 l0_8 a0_9 a0_10 a0_11 a1_0 a1_1 l1_2 a1_3 a1_4 a1_5 = some r) ∧ Aside0 (kq ≤ k) ∧ Aside0 (wc.heap[gb645]? = some (.cells #[.int .i64 a0_0,.int .i64 a0_1,.int .i64 a0_2,.int .i64 a0_3,.int .i64 a0_4,.int .i64 a0_5,.float .f64 a0_6,.bool a0_7,(.slice A0_8 l0_8.length c0_8),.int .i64 a0_9,.int .i64 a0_10,.int .i64 a0_11] 32 (0,0))) ∧ Aside0 (wc.heap[gb646]? = some (.cells #[.float .f64 a1_0,.bool a1_1,(.slice A1_2 l1_2.length c1_2),.int .i64 a1_3,.int .i64 a1_4,.int .i64 a1_5] 30 (0,0))) ∧ Aside0 (Below w.heap.size w wc))
 case first =>
  have H:=HC3.out
  clear HC3
  by_cases c6 : (l1_2.length : Int) > 100
  ·rw [if_pos c6] at H
   have c6b0 : decide (100 < (l1_2.length : Int)) = true:=decide_eq_true c6
   have c6b1 : decide (100 < l1_2.length) = true:=decide_eq_true (by omega)
   clear c6
   (first | rw [c6b0] | (simp only [i64_w,i32_w];rw [c6b0]) | skip)
   have H':=Aside0.mk H
   clear H
   have hnb7:=NB646_645.out
   have hnc7:=NB645_646.out
   obtain ⟨hcz8_0,hcz8_1,hcz8_2,hcz8_3,hcz8_4,hcz8_5⟩:=blkc_6 BK646.out
   obtain ⟨hfz8_0,hfz8_1,hfz8_2,hfz8_3,hfz8_4,hfz8_5⟩:=blkz_6 BK646.out
   go_wp2
   go_meet
   case rel => exact ⟨_,(true),(by first | rfl | (simp;done) | (simp [*];done)),H',⟨by first | omega | exact Nat.le_refl _⟩,⟨by (with_reducible repeat (first | refine blk_drewN ?_ _ | refine blk_drew ?_ | refine blk_alloc ?_ _));exact BK645.out⟩,⟨by (with_reducible repeat (first | refine blk_drewN ?_ _ | refine blk_drew ?_ | refine blk_alloc ?_ _));exact BK646.out⟩,⟨by repeat (first | (with_reducible first | exact HB.out | apply below_alloc | apply pw_below_drewN | apply below_drew1 | refine below_set ?_ GE645.out | refine below_set ?_ GE646.out) | exact HB.out)⟩⟩
  ·rw [if_neg c6] at H
   have c6b0 : decide (100 < (l1_2.length : Int)) = false:=decide_eq_false c6
   have c6b1 : decide (100 < l1_2.length) = false:=decide_eq_false (by omega)
   clear c6
   (first | rw [c6b0] | (simp only [i64_w,i32_w];rw [c6b0]) | skip)
   have H':=Aside0.mk H
   clear H
   have hnb9:=NB646_645.out
   have hnc9:=NB645_646.out
   obtain ⟨hcz10_0,hcz10_1,hcz10_2,hcz10_3,hcz10_4,hcz10_5⟩:=blkc_6 BK646.out
   obtain ⟨hfz10_0,hfz10_1,hfz10_2,hfz10_3,hfz10_4,hfz10_5⟩:=blkz_6 BK646.out
   obtain ⟨hcz11_0,hcz11_1,hcz11_2,hcz11_3,hcz11_4,hcz11_5,hcz11_6,hcz11_7,hcz11_8,hcz11_9,hcz11_10,hcz11_11⟩:=blkc_12 BK645.out
   obtain ⟨hfz11_0,hfz11_1,hfz11_2,hfz11_3,hfz11_4,hfz11_5,hfz11_6,hfz11_7,hfz11_8,hfz11_9,hfz11_10,hfz11_11⟩:=blkz_12 BK645.out
   go_wp2
   go_meet
   case rel => exact ⟨_,(decide ((l0_8.length : Int) > 100)),(by first | rfl | (simp;done) | (simp [*];done)),H',⟨by first | omega | exact Nat.le_refl _⟩,⟨by (with_reducible repeat (first | refine blk_drewN ?_ _ | refine blk_drew ?_ | refine blk_alloc ?_ _));exact BK645.out⟩,⟨by (with_reducible repeat (first | refine blk_drewN ?_ _ | refine blk_drew ?_ | refine blk_alloc ?_ _));exact BK646.out⟩,⟨by repeat (first | (with_reducible first | exact HB.out | apply below_alloc | apply pw_below_drewN | apply below_drew1 | refine below_set ?_ GE645.out | refine below_set ?_ GE646.out) | exact HB.out)⟩⟩
 case rest =>
  clear HC3
  try clear c1
  try clear p2
  try clear c6
  try clear c6b0
  try clear c6b1
  try clear c7
  try clear c9
  try clear hcz10_0
  try clear hcz10_1
  try clear hcz10_2
  try clear hcz10_3
  try clear hcz10_4
  try clear hcz10_5
  try clear hcz11_0
  try clear hcz11_1
  try clear hcz11_10
  try clear hcz11_11
  try clear hcz11_2
  try clear hcz11_3
  try clear hcz11_4
  try clear hcz11_5
  try clear hcz11_6
  try clear hcz11_7
  try clear hcz11_8
  try clear hcz11_9
  try clear hcz8_0
  try clear hcz8_1
  try clear hcz8_2
  try clear hcz8_3
  try clear hcz8_4
  try clear hcz8_5
  try clear hfz10_0
  try clear hfz10_1
  try clear hfz10_2
  try clear hfz10_3
  try clear hfz10_4
  try clear hfz10_5
  try clear hfz11_0
  try clear hfz11_1
  try clear hfz11_10
  try clear hfz11_11
  try clear hfz11_2
  try clear hfz11_3
  try clear hfz11_4
  try clear hfz11_5
  try clear hfz11_6
  try clear hfz11_7
  try clear hfz11_8
  try clear hfz11_9
  try clear hfz8_0
  try clear hfz8_1
  try clear hfz8_2
  try clear hfz8_3
  try clear hfz8_4
  try clear hfz8_5
  obtain ⟨kq,x21_2,rfl,HA,HJ2,BK645,BK646,HB⟩:=hcut
  cases kq with
  | zero => exact absurd HA.out (by simp [humuslaw09_UndorecKinds.j0])
  | succ kj2 =>
   have H:=HA.out
   clear HA
   simp only [humuslaw09_UndorecKinds.j0] at H
   by_cases c12 : x21_2 = true
   ·subst c12
    have H1 : ((humuslaw09_awake.f kj2).bind fun t647 => (some t647)) = some r:=by rw [if_pos rfl] at H;exact H
    clear H
    have H:=H1
    clear H1
    replace H:=Option.bind_eq_some_iff.mp H
    obtain ⟨t647,A130,H⟩:=H
    replace H : (some t647) = some r:=H
    have A13:=Aside0.mk A130
    clear A130
    obtain rfl:=Option.some.inj H
    go_wp2_with (first | ((with_reducible refine gate_callee (f:=45) rfl ?_);refine goesL_ (some 22) rfl rfl Try.func45 (by kernel_rfl) rfl #[] rfl (by (try simp only [List.map_toArray,List.map_cons,List.map_nil]);first | done | rfl | (simp only [List.length_drop,List.length_take];rfl)) ?_;(with_reducible refine (humuslaw09_awake.calls kj2  t647 _ A13.out).mono ?_);rintro e w14 ⟨rfl,hb⟩;refine ⟨_,rfl,?_⟩;have n0_:=Aside0.mk (blk_below (g:=gb645) (o:=.cells #[.int .i64 a0_0,.int .i64 a0_1,.int .i64 a0_2,.int .i64 a0_3,.int .i64 a0_4,.int .i64 a0_5,.float .f64 a0_6,.bool a0_7,.slice A0_8 l0_8.length c0_8,.int .i64 a0_9,.int .i64 a0_10,.int .i64 a0_11] 32 (0,0)) (by (with_reducible repeat (first | refine blk_drewN ?_ _ | refine blk_drew ?_ | refine blk_alloc ?_ _));exact BK645.out) hb);have n1_:=Aside0.mk (blk_below (g:=gb646) (o:=.cells #[.float .f64 a1_0,.bool a1_1,.slice A1_2 l1_2.length c1_2,.int .i64 a1_3,.int .i64 a1_4,.int .i64 a1_5] 30 (0,0)) (by (with_reducible repeat (first | refine blk_drewN ?_ _ | refine blk_drew ?_ | refine blk_alloc ?_ _));exact BK646.out) hb);have n2_:=Aside0.mk (below_step (by repeat (first | (with_reducible first | exact HB.out | apply below_alloc | apply pw_below_drewN | apply below_drew1 | refine below_set ?_ GE645.out | refine below_set ?_ GE646.out) | exact HB.out)) hb);clear BK645;clear BK646;clear HB;have BK645:=n0_;have BK646:=n1_;have HB:=n2_;clear n0_ n1_ n2_;(try clear hb);(try clear hb2);(try clear hk);(try clear hi)))
    go_ret
    exact ⟨by first | rfl | (simp [errW_none,errW_some] <;> rfl) | (simp [*,errW_none,errW_some] <;> rfl),by repeat (first | (with_reducible first | exact HB.out | apply below_alloc | apply pw_below_drewN | apply below_drew1 | refine below_set ?_ GE645.out | refine below_set ?_ GE646.out) | exact HB.out)⟩
   ·replace c12:=Bool.eq_false_iff.mpr c12
    subst c12
    have H1 : ((undorec_Encode.f kj2 a0_0 a0_1 a0_2 1 a0_4 a0_5 0 false ([] : List Nat) 0 0 0).bind fun bt648 => ((undorec_Encode.f kj2 a0_0 a0_1 a0_2 2 a0_4 a0_5 a1_0 a1_1 l1_2 a1_3 a1_4 a1_5).bind fun bt652 => (if bt648.2 = 0 then (if (bt648.1.length : Int) = 14 then (if bt652.2 = 0 then (humuslaw09_UndorecKinds.j1 kj2 bt652.1 bt652.2 (bt648.2 != 0) a0_0 a0_1 a0_2 2 a0_4 a0_5 a1_0 a1_1 l1_2 a1_3 a1_4 a1_5 a1_0 a1_1 l1_2 a1_3 a1_4 a1_5) else (humuslaw09_UndorecKinds.j1 kj2 bt652.1 bt652.2 false a0_0 a0_1 a0_2 2 a0_4 a0_5 a1_0 a1_1 l1_2 a1_3 a1_4 a1_5 a1_0 a1_1 l1_2 a1_3 a1_4 a1_5)) else (humuslaw09_UndorecKinds.j1 kj2 bt652.1 bt652.2 true a0_0 a0_1 a0_2 2 a0_4 a0_5 a1_0 a1_1 l1_2 a1_3 a1_4 a1_5 a1_0 a1_1 l1_2 a1_3 a1_4 a1_5)) else (if bt652.2 = 0 then (humuslaw09_UndorecKinds.j1 kj2 bt652.1 bt652.2 (bt648.2 != 0) a0_0 a0_1 a0_2 2 a0_4 a0_5 a1_0 a1_1 l1_2 a1_3 a1_4 a1_5 a1_0 a1_1 l1_2 a1_3 a1_4 a1_5) else (humuslaw09_UndorecKinds.j1 kj2 bt652.1 bt652.2 false a0_0 a0_1 a0_2 2 a0_4 a0_5 a1_0 a1_1 l1_2 a1_3 a1_4 a1_5 a1_0 a1_1 l1_2 a1_3 a1_4 a1_5))))) = some r:=by rw [if_neg (show ¬ (false = true) by decide)] at H;exact H
    clear H
    have H:=H1
    clear H1
    replace H:=Option.bind_eq_some_iff.mp H
    obtain ⟨⟨t648,t651⟩,A150,H⟩:=H
    replace H : ((undorec_Encode.f kj2 a0_0 a0_1 a0_2 2 a0_4 a0_5 a1_0 a1_1 l1_2 a1_3 a1_4 a1_5).bind fun bt652 => (if t651 = 0 then (if (t648.length : Int) = 14 then (if bt652.2 = 0 then (humuslaw09_UndorecKinds.j1 kj2 bt652.1 bt652.2 (t651 != 0) a0_0 a0_1 a0_2 2 a0_4 a0_5 a1_0 a1_1 l1_2 a1_3 a1_4 a1_5 a1_0 a1_1 l1_2 a1_3 a1_4 a1_5) else (humuslaw09_UndorecKinds.j1 kj2 bt652.1 bt652.2 false a0_0 a0_1 a0_2 2 a0_4 a0_5 a1_0 a1_1 l1_2 a1_3 a1_4 a1_5 a1_0 a1_1 l1_2 a1_3 a1_4 a1_5)) else (humuslaw09_UndorecKinds.j1 kj2 bt652.1 bt652.2 true a0_0 a0_1 a0_2 2 a0_4 a0_5 a1_0 a1_1 l1_2 a1_3 a1_4 a1_5 a1_0 a1_1 l1_2 a1_3 a1_4 a1_5)) else (if bt652.2 = 0 then (humuslaw09_UndorecKinds.j1 kj2 bt652.1 bt652.2 (t651 != 0) a0_0 a0_1 a0_2 2 a0_4 a0_5 a1_0 a1_1 l1_2 a1_3 a1_4 a1_5 a1_0 a1_1 l1_2 a1_3 a1_4 a1_5) else (humuslaw09_UndorecKinds.j1 kj2 bt652.1 bt652.2 false a0_0 a0_1 a0_2 2 a0_4 a0_5 a1_0 a1_1 l1_2 a1_3 a1_4 a1_5 a1_0 a1_1 l1_2 a1_3 a1_4 a1_5)))) = some r:=H
    have A15:=Aside0.mk A150
    clear A150
    replace H:=Option.bind_eq_some_iff.mp H
    obtain ⟨⟨t652,t655⟩,A160,H⟩:=H
    replace H : (if t651 = 0 then (if (t648.length : Int) = 14 then (if t655 = 0 then (humuslaw09_UndorecKinds.j1 kj2 t652 t655 (t651 != 0) a0_0 a0_1 a0_2 2 a0_4 a0_5 a1_0 a1_1 l1_2 a1_3 a1_4 a1_5 a1_0 a1_1 l1_2 a1_3 a1_4 a1_5) else (humuslaw09_UndorecKinds.j1 kj2 t652 t655 false a0_0 a0_1 a0_2 2 a0_4 a0_5 a1_0 a1_1 l1_2 a1_3 a1_4 a1_5 a1_0 a1_1 l1_2 a1_3 a1_4 a1_5)) else (humuslaw09_UndorecKinds.j1 kj2 t652 t655 true a0_0 a0_1 a0_2 2 a0_4 a0_5 a1_0 a1_1 l1_2 a1_3 a1_4 a1_5 a1_0 a1_1 l1_2 a1_3 a1_4 a1_5)) else (if t655 = 0 then (humuslaw09_UndorecKinds.j1 kj2 t652 t655 (t651 != 0) a0_0 a0_1 a0_2 2 a0_4 a0_5 a1_0 a1_1 l1_2 a1_3 a1_4 a1_5 a1_0 a1_1 l1_2 a1_3 a1_4 a1_5) else (humuslaw09_UndorecKinds.j1 kj2 t652 t655 false a0_0 a0_1 a0_2 2 a0_4 a0_5 a1_0 a1_1 l1_2 a1_3 a1_4 a1_5 a1_0 a1_1 l1_2 a1_3 a1_4 a1_5))) = some r:=H
    have A16:=Aside0.mk A160
    clear A160
    have HC17:=Aside0.mk H
    clear H
    have hnb18:=NB645_646.out
    have hnc18:=NB646_645.out
    obtain ⟨hcz19_0,hcz19_1,hcz19_2,hcz19_3,hcz19_4,hcz19_5,hcz19_6,hcz19_7,hcz19_8,hcz19_9,hcz19_10,hcz19_11⟩:=blkc_12 BK645.out
    obtain ⟨hfz19_0,hfz19_1,hfz19_2,hfz19_3,hfz19_4,hfz19_5,hfz19_6,hfz19_7,hfz19_8,hfz19_9,hfz19_10,hfz19_11⟩:=blkz_12 BK645.out
    go_upto_region 9 with (first | ((with_reducible refine gate_callee (f:=46) rfl ?_);refine goesL_ (some 28) rfl rfl Try.func46 (by kernel_rfl) rfl #[.agg #[.int .i64 a0_0,.int .i64 a0_1,.int .i64 a0_2,.int .i64 1,.int .i64 a0_4,.int .i64 a0_5,.float .f64 0,.bool false,.slice none 0 0,.int .i64 0,.int .i64 0,.int .i64 0]] rfl (by (try simp only [List.map_toArray,List.map_cons,List.map_nil]);first | done | rfl | (simp only [List.length_drop,List.length_take];rfl)) ?_;(refine (undorec_Encode.calls kj2 a0_0 a0_1 a0_2 1 a0_4 a0_5 0 false _ _ ([] : List Nat) 0 0 0 t648 t651 _ ?side1 ?side2 A15.out).mono ?_);(case side1 => exact Kd.C_nil _ _);(case side2 => exact Nat.le_refl _);rintro e w20 ⟨v649,rfl,ho0,hb⟩;refine ⟨_,rfl,?_⟩;have n0_:=Aside0.mk (Kd.R_lower ho0 (below_size (by repeat (first | (with_reducible first | exact HB.out | apply below_alloc | apply pw_below_drewN | apply below_drew1 | refine below_set ?_ GE645.out | refine below_set ?_ GE646.out) | exact HB.out))));have n1_:=Aside0.mk (blk_below (g:=gb645) (o:=.cells #[.int .i64 a0_0,.int .i64 a0_1,.int .i64 a0_2,.int .i64 1,.int .i64 a0_4,.int .i64 a0_5,.float .f64 0,.bool false,.slice none 0 0,.int .i64 0,.int .i64 0,.int .i64 0] 32 (0,0)) (by (with_reducible repeat (first | refine blk_drewN ?_ _ | refine blk_drew ?_ | refine blk_alloc ?_ _));refine blk_put (cs:=#[.int .i64 a0_0,.int .i64 a0_1,.int .i64 a0_2,.int .i64 1,.int .i64 a0_4,.int .i64 a0_5,.float .f64 0,.bool false,.slice none 0 0,.int .i64 0,.int .i64 0,.int .i64 a0_11]) ?_ 11 _ rfl;(with_reducible repeat (first | refine blk_drewN ?_ _ | refine blk_drew ?_ | refine blk_alloc ?_ _));refine blk_put (cs:=#[.int .i64 a0_0,.int .i64 a0_1,.int .i64 a0_2,.int .i64 1,.int .i64 a0_4,.int .i64 a0_5,.float .f64 0,.bool false,.slice none 0 0,.int .i64 0,.int .i64 a0_10,.int .i64 a0_11]) ?_ 10 _ rfl;(with_reducible repeat (first | refine blk_drewN ?_ _ | refine blk_drew ?_ | refine blk_alloc ?_ _));refine blk_put (cs:=#[.int .i64 a0_0,.int .i64 a0_1,.int .i64 a0_2,.int .i64 1,.int .i64 a0_4,.int .i64 a0_5,.float .f64 0,.bool false,.slice none 0 0,.int .i64 a0_9,.int .i64 a0_10,.int .i64 a0_11]) ?_ 9 _ rfl;(with_reducible repeat (first | refine blk_drewN ?_ _ | refine blk_drew ?_ | refine blk_alloc ?_ _));refine blk_put (cs:=#[.int .i64 a0_0,.int .i64 a0_1,.int .i64 a0_2,.int .i64 1,.int .i64 a0_4,.int .i64 a0_5,.float .f64 0,.bool false,.slice A0_8 l0_8.length c0_8,.int .i64 a0_9,.int .i64 a0_10,.int .i64 a0_11]) ?_ 8 _ rfl;(with_reducible repeat (first | refine blk_drewN ?_ _ | refine blk_drew ?_ | refine blk_alloc ?_ _));refine blk_put (cs:=#[.int .i64 a0_0,.int .i64 a0_1,.int .i64 a0_2,.int .i64 1,.int .i64 a0_4,.int .i64 a0_5,.float .f64 0,.bool a0_7,.slice A0_8 l0_8.length c0_8,.int .i64 a0_9,.int .i64 a0_10,.int .i64 a0_11]) ?_ 7 _ rfl;(with_reducible repeat (first | refine blk_drewN ?_ _ | refine blk_drew ?_ | refine blk_alloc ?_ _));refine blk_put (cs:=#[.int .i64 a0_0,.int .i64 a0_1,.int .i64 a0_2,.int .i64 1,.int .i64 a0_4,.int .i64 a0_5,.float .f64 a0_6,.bool a0_7,.slice A0_8 l0_8.length c0_8,.int .i64 a0_9,.int .i64 a0_10,.int .i64 a0_11]) ?_ 6 _ rfl;(with_reducible repeat (first | refine blk_drewN ?_ _ | refine blk_drew ?_ | refine blk_alloc ?_ _));refine blk_put (cs:=#[.int .i64 a0_0,.int .i64 a0_1,.int .i64 a0_2,.int .i64 a0_3,.int .i64 a0_4,.int .i64 a0_5,.float .f64 a0_6,.bool a0_7,.slice A0_8 l0_8.length c0_8,.int .i64 a0_9,.int .i64 a0_10,.int .i64 a0_11]) ?_ 3 _ rfl;(with_reducible repeat (first | refine blk_drewN ?_ _ | refine blk_drew ?_ | refine blk_alloc ?_ _));exact BK645.out) hb);have n2_:=Aside0.mk (blk_below (g:=gb646) (o:=.cells #[.float .f64 a1_0,.bool a1_1,.slice A1_2 l1_2.length c1_2,.int .i64 a1_3,.int .i64 a1_4,.int .i64 a1_5] 30 (0,0)) (by (with_reducible repeat (first | refine blk_drewN ?_ _ | refine blk_drew ?_ | refine blk_alloc ?_ _));refine blk_far ?_ NB646_645.out _;(with_reducible repeat (first | refine blk_drewN ?_ _ | refine blk_drew ?_ | refine blk_alloc ?_ _));refine blk_far ?_ NB646_645.out _;(with_reducible repeat (first | refine blk_drewN ?_ _ | refine blk_drew ?_ | refine blk_alloc ?_ _));refine blk_far ?_ NB646_645.out _;(with_reducible repeat (first | refine blk_drewN ?_ _ | refine blk_drew ?_ | refine blk_alloc ?_ _));refine blk_far ?_ NB646_645.out _;(with_reducible repeat (first | refine blk_drewN ?_ _ | refine blk_drew ?_ | refine blk_alloc ?_ _));refine blk_far ?_ NB646_645.out _;(with_reducible repeat (first | refine blk_drewN ?_ _ | refine blk_drew ?_ | refine blk_alloc ?_ _));refine blk_far ?_ NB646_645.out _;(with_reducible repeat (first | refine blk_drewN ?_ _ | refine blk_drew ?_ | refine blk_alloc ?_ _));refine blk_far ?_ NB646_645.out _;(with_reducible repeat (first | refine blk_drewN ?_ _ | refine blk_drew ?_ | refine blk_alloc ?_ _));exact BK646.out) hb);have n3_:=Aside0.mk (below_step (by repeat (first | (with_reducible first | exact HB.out | apply below_alloc | apply pw_below_drewN | apply below_drew1 | refine below_set ?_ GE645.out | refine below_set ?_ GE646.out) | exact HB.out)) hb);clear BK645;clear BK646;clear HB;have HO650:=n0_;have BK645:=n1_;have BK646:=n2_;have HB:=n3_;clear n0_ n1_ n2_ n3_;(try clear hb);(try clear hb2);(try clear hk);(try clear hi);(try clear ho0);obtain ⟨hcz21_0,hcz21_1,hcz21_2,hcz21_3,hcz21_4,hcz21_5,hcz21_6,hcz21_7,hcz21_8,hcz21_9,hcz21_10,hcz21_11⟩:=blkc_12 BK645.out;obtain ⟨hfz21_0,hfz21_1,hfz21_2,hfz21_3,hfz21_4,hfz21_5,hfz21_6,hfz21_7,hfz21_8,hfz21_9,hfz21_10,hfz21_11⟩:=blkz_12 BK645.out;obtain ⟨hcz22_0,hcz22_1,hcz22_2,hcz22_3,hcz22_4,hcz22_5⟩:=blkc_6 BK646.out;obtain ⟨hfz22_0,hfz22_1,hfz22_2,hfz22_3,hfz22_4⟩:=blkz_5 BK646.out;have hfz22_5:=blk_frozen BK646.out 5) | ((with_reducible refine gate_callee (f:=46) rfl ?_);refine goesL_ (some 36) rfl rfl Try.func46 (by kernel_rfl) rfl #[.agg #[.int .i64 a0_0,.int .i64 a0_1,.int .i64 a0_2,.int .i64 2,.int .i64 a0_4,.int .i64 a0_5,.float .f64 a1_0,.bool a1_1,.slice A1_2 l1_2.length c1_2,.int .i64 a1_3,.int .i64 a1_4,.int .i64 a1_5]] rfl (by (try simp only [List.map_toArray,List.map_cons,List.map_nil]);first | done | rfl | (simp only [List.length_drop,List.length_take];rfl)) ?_;(with_reducible refine (undorec_Encode.calls kj2 a0_0 a0_1 a0_2 2 a0_4 a0_5 a1_0 a1_1 _ _ l1_2 a1_3 a1_4 a1_5 t652 t655 _ ?side1 ?side2 A16.out).mono ?_);(case side1 => exact Kd.C_below HR1_2.out (by repeat (first | (with_reducible first | exact HB.out | apply below_alloc | apply pw_below_drewN | apply below_drew1 | refine below_set ?_ GE645.out | refine below_set ?_ GE646.out) | exact HB.out)));(case side2 => exact HC1_2.out);rintro e w23 ⟨v653,rfl,ho0,hb⟩;refine ⟨_,rfl,?_⟩;have n0_:=Aside0.mk (Kd.R_elder' (by (with_reducible repeat (first | apply Kd.R_alloc | apply Kd.R_drewN | apply Kd.R_drew));exact (Kd.R_mono (Kd.R_far (p:=⟨gb645,11,none⟩) (Kd.R_far (p:=⟨gb645,10,none⟩) (Kd.R_far (p:=⟨gb645,9,none⟩) (Kd.R_far (p:=⟨gb645,8,none⟩) (Kd.R_far (p:=⟨gb645,7,none⟩) (Kd.R_far (p:=⟨gb645,6,none⟩) (Kd.R_far (p:=⟨gb645,3,none⟩) (Kd.R_types HO650.out BK645.out (by decide)) (fun _ hk => hk.2) (.int .i64 2)) (fun _ hk => hk.2) (.float .f64 a1_0)) (fun _ hk => hk.2) (.bool a1_1)) (fun _ hk => hk.2) (.slice A1_2 l1_2.length c1_2)) (fun _ hk => hk.2) (.int .i64 a1_3)) (fun _ hk => hk.2) (.int .i64 a1_4)) (fun _ hk => hk.2) (.int .i64 a1_5)) (fun _ h_ => h_.1))) (Kd.R_base ho0) hb);have n1_:=Aside0.mk (Kd.R_lower (Kd.R_new' ho0 (Kd.R_lt (by (with_reducible repeat (first | apply Kd.R_alloc | apply Kd.R_drewN | apply Kd.R_drew));exact (Kd.R_mono (Kd.R_far (p:=⟨gb645,11,none⟩) (Kd.R_far (p:=⟨gb645,10,none⟩) (Kd.R_far (p:=⟨gb645,9,none⟩) (Kd.R_far (p:=⟨gb645,8,none⟩) (Kd.R_far (p:=⟨gb645,7,none⟩) (Kd.R_far (p:=⟨gb645,6,none⟩) (Kd.R_far (p:=⟨gb645,3,none⟩) (Kd.R_types HO650.out BK645.out (by decide)) (fun _ hk => hk.2) (.int .i64 2)) (fun _ hk => hk.2) (.float .f64 a1_0)) (fun _ hk => hk.2) (.bool a1_1)) (fun _ hk => hk.2) (.slice A1_2 l1_2.length c1_2)) (fun _ hk => hk.2) (.int .i64 a1_3)) (fun _ hk => hk.2) (.int .i64 a1_4)) (fun _ hk => hk.2) (.int .i64 a1_5)) (fun _ h_ => h_.1))))) (below_size (by repeat (first | (with_reducible first | exact HB.out | apply below_alloc | apply pw_below_drewN | apply below_drew1 | refine below_set ?_ GE645.out | refine below_set ?_ GE646.out) | exact HB.out))));have n2_:=Aside0.mk (blk_below (g:=gb645) (o:=.cells #[.int .i64 a0_0,.int .i64 a0_1,.int .i64 a0_2,.int .i64 2,.int .i64 a0_4,.int .i64 a0_5,.float .f64 a1_0,.bool a1_1,.slice A1_2 l1_2.length c1_2,.int .i64 a1_3,.int .i64 a1_4,.int .i64 a1_5] 32 (0,0)) (by (with_reducible repeat (first | refine blk_drewN ?_ _ | refine blk_drew ?_ | refine blk_alloc ?_ _));refine blk_put (cs:=#[.int .i64 a0_0,.int .i64 a0_1,.int .i64 a0_2,.int .i64 2,.int .i64 a0_4,.int .i64 a0_5,.float .f64 a1_0,.bool a1_1,.slice A1_2 l1_2.length c1_2,.int .i64 a1_3,.int .i64 a1_4,.int .i64 0]) ?_ 11 _ rfl;(with_reducible repeat (first | refine blk_drewN ?_ _ | refine blk_drew ?_ | refine blk_alloc ?_ _));refine blk_put (cs:=#[.int .i64 a0_0,.int .i64 a0_1,.int .i64 a0_2,.int .i64 2,.int .i64 a0_4,.int .i64 a0_5,.float .f64 a1_0,.bool a1_1,.slice A1_2 l1_2.length c1_2,.int .i64 a1_3,.int .i64 0,.int .i64 0]) ?_ 10 _ rfl;(with_reducible repeat (first | refine blk_drewN ?_ _ | refine blk_drew ?_ | refine blk_alloc ?_ _));refine blk_put (cs:=#[.int .i64 a0_0,.int .i64 a0_1,.int .i64 a0_2,.int .i64 2,.int .i64 a0_4,.int .i64 a0_5,.float .f64 a1_0,.bool a1_1,.slice A1_2 l1_2.length c1_2,.int .i64 0,.int .i64 0,.int .i64 0]) ?_ 9 _ rfl;(with_reducible repeat (first | refine blk_drewN ?_ _ | refine blk_drew ?_ | refine blk_alloc ?_ _));refine blk_put (cs:=#[.int .i64 a0_0,.int .i64 a0_1,.int .i64 a0_2,.int .i64 2,.int .i64 a0_4,.int .i64 a0_5,.float .f64 a1_0,.bool a1_1,.slice none 0 0,.int .i64 0,.int .i64 0,.int .i64 0]) ?_ 8 _ rfl;(with_reducible repeat (first | refine blk_drewN ?_ _ | refine blk_drew ?_ | refine blk_alloc ?_ _));refine blk_put (cs:=#[.int .i64 a0_0,.int .i64 a0_1,.int .i64 a0_2,.int .i64 2,.int .i64 a0_4,.int .i64 a0_5,.float .f64 a1_0,.bool false,.slice none 0 0,.int .i64 0,.int .i64 0,.int .i64 0]) ?_ 7 _ rfl;(with_reducible repeat (first | refine blk_drewN ?_ _ | refine blk_drew ?_ | refine blk_alloc ?_ _));refine blk_put (cs:=#[.int .i64 a0_0,.int .i64 a0_1,.int .i64 a0_2,.int .i64 2,.int .i64 a0_4,.int .i64 a0_5,.float .f64 0,.bool false,.slice none 0 0,.int .i64 0,.int .i64 0,.int .i64 0]) ?_ 6 _ rfl;(with_reducible repeat (first | refine blk_drewN ?_ _ | refine blk_drew ?_ | refine blk_alloc ?_ _));refine blk_put (cs:=#[.int .i64 a0_0,.int .i64 a0_1,.int .i64 a0_2,.int .i64 1,.int .i64 a0_4,.int .i64 a0_5,.float .f64 0,.bool false,.slice none 0 0,.int .i64 0,.int .i64 0,.int .i64 0]) ?_ 3 _ rfl;(with_reducible repeat (first | refine blk_drewN ?_ _ | refine blk_drew ?_ | refine blk_alloc ?_ _));exact BK645.out) hb);have n3_:=Aside0.mk (blk_below (g:=gb646) (o:=.cells #[.float .f64 a1_0,.bool a1_1,.slice A1_2 l1_2.length c1_2,.int .i64 a1_3,.int .i64 a1_4,.int .i64 a1_5] 30 (0,0)) (by (with_reducible repeat (first | refine blk_drewN ?_ _ | refine blk_drew ?_ | refine blk_alloc ?_ _));refine blk_far ?_ NB646_645.out _;(with_reducible repeat (first | refine blk_drewN ?_ _ | refine blk_drew ?_ | refine blk_alloc ?_ _));refine blk_far ?_ NB646_645.out _;(with_reducible repeat (first | refine blk_drewN ?_ _ | refine blk_drew ?_ | refine blk_alloc ?_ _));refine blk_far ?_ NB646_645.out _;(with_reducible repeat (first | refine blk_drewN ?_ _ | refine blk_drew ?_ | refine blk_alloc ?_ _));refine blk_far ?_ NB646_645.out _;(with_reducible repeat (first | refine blk_drewN ?_ _ | refine blk_drew ?_ | refine blk_alloc ?_ _));refine blk_far ?_ NB646_645.out _;(with_reducible repeat (first | refine blk_drewN ?_ _ | refine blk_drew ?_ | refine blk_alloc ?_ _));refine blk_far ?_ NB646_645.out _;(with_reducible repeat (first | refine blk_drewN ?_ _ | refine blk_drew ?_ | refine blk_alloc ?_ _));refine blk_far ?_ NB646_645.out _;(with_reducible repeat (first | refine blk_drewN ?_ _ | refine blk_drew ?_ | refine blk_alloc ?_ _));exact BK646.out) hb);have n4_:=Aside0.mk (below_step (by repeat (first | (with_reducible first | exact HB.out | apply below_alloc | apply pw_below_drewN | apply below_drew1 | refine below_set ?_ GE645.out | refine below_set ?_ GE646.out) | exact HB.out)) hb);clear HO650;clear BK645;clear BK646;clear HB;have HO650:=n0_;have HO654:=n1_;have BK645:=n2_;have BK646:=n3_;have HB:=n4_;clear n0_ n1_ n2_ n3_ n4_;(try clear hb);(try clear hb2);(try clear hk);(try clear hi);(try clear ho0)))
    (try simp only [Act.put,List.setIfInBounds_toArray,List.set_cons_zero,List.set_cons_succ])
    go_cut [53] (fun v53 wc => ∃ (kq : Nat) (x53_16 : Bool),v53 = .bool x53_16 ∧ Aside0 (humuslaw09_UndorecKinds.j1 kq t652 t655 x53_16 a0_0 a0_1 a0_2 2 a0_4 a0_5 a1_0 a1_1 l1_2 a1_3 a1_4 a1_5 a1_0 a1_1 l1_2 a1_3 a1_4 a1_5 = some r) ∧ Aside0 (kq ≤ kj2) ∧ Aside0 (Kd.R (Kd.int .u8) 5 wc w.heap.size (fun _ => True) v653 t652) ∧ Aside0 (wc.heap[gb645]? = some (.cells #[.int .i64 a0_0,.int .i64 a0_1,.int .i64 a0_2,.int .i64 2,.int .i64 a0_4,.int .i64 a0_5,.float .f64 a1_0,.bool a1_1,(.slice A1_2 l1_2.length c1_2),.int .i64 a1_3,.int .i64 a1_4,.int .i64 a1_5] 32 (0,0))) ∧ Aside0 (wc.heap[gb646]? = some (.cells #[.float .f64 a1_0,.bool a1_1,(.slice A1_2 l1_2.length c1_2),.int .i64 a1_3,.int .i64 a1_4,.int .i64 a1_5] 30 (0,0))) ∧ Aside0 (Below w.heap.size w wc))
    case first =>
     have H:=HC17.out
     clear HC17
     by_cases c24 : t651 = 0
     ·rw [if_pos c24] at H
      have c24b0 : (t651 == 0) = true:=beq_iff_eq.mpr c24
      have c24b1 : (t651 != 0) = false:=bne_eq_false_iff_eq.mpr c24
      clear c24
      (first | rw [c24b0] | (simp only [i64_w,i32_w];rw [c24b0]) | skip)
      by_cases c25 : (t648.length : Int) = 14
      ·rw [if_pos c25] at H
       have c25b0 : ((t648.length : Int) == 14) = true:=beq_iff_eq.mpr c25
       have c25b1 : ((t648.length : Int) != 14) = false:=bne_eq_false_iff_eq.mpr c25
       clear c25
       by_cases c26 : t655 = 0
       ·rw [if_pos c26] at H
        have c26b0 : (t655 == 0) = true:=beq_iff_eq.mpr c26
        have c26b1 : (t655 != 0) = false:=bne_eq_false_iff_eq.mpr c26
        clear c26
        have H':=Aside0.mk H
        clear H
        obtain ⟨Ao27,co27,eo27⟩:=Kd.R_slice HO650.out
        subst eo27
        go_wp2
        go_meet
        case rel => exact ⟨_,((t651 != 0)),(by first | rfl | (simp;done) | (simp [*];done)),H',⟨by have:=HJ2.out;first | omega | exact Nat.le_refl _⟩,⟨by (with_reducible repeat (first | apply Kd.R_alloc | apply Kd.R_drewN | apply Kd.R_drew));exact Kd.R_mono HO654.out (fun _ hk => trivial)⟩,⟨by (with_reducible repeat (first | refine blk_drewN ?_ _ | refine blk_drew ?_ | refine blk_alloc ?_ _));exact BK645.out⟩,⟨by (with_reducible repeat (first | refine blk_drewN ?_ _ | refine blk_drew ?_ | refine blk_alloc ?_ _));exact BK646.out⟩,⟨by repeat (first | (with_reducible first | exact HB.out | apply below_alloc | apply pw_below_drewN | apply below_drew1 | refine below_set ?_ GE645.out | refine below_set ?_ GE646.out) | exact HB.out)⟩⟩
       ·rw [if_neg c26] at H
        have c26b0 : (t655 == 0) = false:=beq_eq_false_iff_ne.mpr c26
        have c26b1 : (t655 != 0) = true:=bne_iff_ne.mpr c26
        have H':=Aside0.mk H
        clear H
        obtain ⟨Ao28,co28,eo28⟩:=Kd.R_slice HO650.out
        subst eo28
        go_wp2
        go_meet
        case rel => exact ⟨_,(false),(by first | rfl | (simp;done) | (simp [*];done)),H',⟨by have:=HJ2.out;first | omega | exact Nat.le_refl _⟩,⟨by (with_reducible repeat (first | apply Kd.R_alloc | apply Kd.R_drewN | apply Kd.R_drew));exact Kd.R_mono HO654.out (fun _ hk => trivial)⟩,⟨by (with_reducible repeat (first | refine blk_drewN ?_ _ | refine blk_drew ?_ | refine blk_alloc ?_ _));exact BK645.out⟩,⟨by (with_reducible repeat (first | refine blk_drewN ?_ _ | refine blk_drew ?_ | refine blk_alloc ?_ _));exact BK646.out⟩,⟨by repeat (first | (with_reducible first | exact HB.out | apply below_alloc | apply pw_below_drewN | apply below_drew1 | refine below_set ?_ GE645.out | refine below_set ?_ GE646.out) | exact HB.out)⟩⟩
      ·rw [if_neg c25] at H
       have c25b0 : ((t648.length : Int) == 14) = false:=beq_eq_false_iff_ne.mpr c25
       have c25b1 : ((t648.length : Int) != 14) = true:=bne_iff_ne.mpr c25
       have H':=Aside0.mk H
       clear H
       obtain ⟨Ao29,co29,eo29⟩:=Kd.R_slice HO650.out
       subst eo29
       go_wp2
       go_meet
       case rel => exact ⟨_,(true),(by first | rfl | (simp;done) | (simp [*];done)),H',⟨by have:=HJ2.out;first | omega | exact Nat.le_refl _⟩,⟨by (with_reducible repeat (first | apply Kd.R_alloc | apply Kd.R_drewN | apply Kd.R_drew));exact Kd.R_mono HO654.out (fun _ hk => trivial)⟩,⟨by (with_reducible repeat (first | refine blk_drewN ?_ _ | refine blk_drew ?_ | refine blk_alloc ?_ _));exact BK645.out⟩,⟨by (with_reducible repeat (first | refine blk_drewN ?_ _ | refine blk_drew ?_ | refine blk_alloc ?_ _));exact BK646.out⟩,⟨by repeat (first | (with_reducible first | exact HB.out | apply below_alloc | apply pw_below_drewN | apply below_drew1 | refine below_set ?_ GE645.out | refine below_set ?_ GE646.out) | exact HB.out)⟩⟩
     ·rw [if_neg c24] at H
      have c24b0 : (t651 == 0) = false:=beq_eq_false_iff_ne.mpr c24
      have c24b1 : (t651 != 0) = true:=bne_iff_ne.mpr c24
      (first | rw [c24b0] | (simp only [i64_w,i32_w];rw [c24b0]) | skip)
      by_cases c30 : t655 = 0
      ·rw [if_pos c30] at H
       have c30b0 : (t655 == 0) = true:=beq_iff_eq.mpr c30
       have c30b1 : (t655 != 0) = false:=bne_eq_false_iff_eq.mpr c30
       clear c30
       have H':=Aside0.mk H
       clear H
       go_wp2
       go_meet
       case rel => exact ⟨_,((t651 != 0)),(by first | rfl | (simp;done) | (simp [*];done)),H',⟨by have:=HJ2.out;first | omega | exact Nat.le_refl _⟩,⟨by (with_reducible repeat (first | apply Kd.R_alloc | apply Kd.R_drewN | apply Kd.R_drew));exact Kd.R_mono HO654.out (fun _ hk => trivial)⟩,⟨by (with_reducible repeat (first | refine blk_drewN ?_ _ | refine blk_drew ?_ | refine blk_alloc ?_ _));exact BK645.out⟩,⟨by (with_reducible repeat (first | refine blk_drewN ?_ _ | refine blk_drew ?_ | refine blk_alloc ?_ _));exact BK646.out⟩,⟨by repeat (first | (with_reducible first | exact HB.out | apply below_alloc | apply pw_below_drewN | apply below_drew1 | refine below_set ?_ GE645.out | refine below_set ?_ GE646.out) | exact HB.out)⟩⟩
      ·rw [if_neg c30] at H
       have c30b0 : (t655 == 0) = false:=beq_eq_false_iff_ne.mpr c30
       have c30b1 : (t655 != 0) = true:=bne_iff_ne.mpr c30
       have H':=Aside0.mk H
       clear H
       go_wp2
       go_meet
       case rel => exact ⟨_,(false),(by first | rfl | (simp;done) | (simp [*];done)),H',⟨by have:=HJ2.out;first | omega | exact Nat.le_refl _⟩,⟨by (with_reducible repeat (first | apply Kd.R_alloc | apply Kd.R_drewN | apply Kd.R_drew));exact Kd.R_mono HO654.out (fun _ hk => trivial)⟩,⟨by (with_reducible repeat (first | refine blk_drewN ?_ _ | refine blk_drew ?_ | refine blk_alloc ?_ _));exact BK645.out⟩,⟨by (with_reducible repeat (first | refine blk_drewN ?_ _ | refine blk_drew ?_ | refine blk_alloc ?_ _));exact BK646.out⟩,⟨by repeat (first | (with_reducible first | exact HB.out | apply below_alloc | apply pw_below_drewN | apply below_drew1 | refine below_set ?_ GE645.out | refine below_set ?_ GE646.out) | exact HB.out)⟩⟩
    case rest =>
     clear HC17
     try clear c1
     try clear c2
     try clear p2
     try clear c3
     try clear c4
     try clear c6
     try clear c6b0
     try clear c6b1
     try clear c7
     try clear c9
     try clear c12
     try clear c13
     try clear c18
     try clear c24
     try clear c24b0
     try clear c24b1
     try clear c25
     try clear c25b0
     try clear c25b1
     try clear c26
     try clear c26b0
     try clear c26b1
     try clear c30
     try clear c30b0
     try clear c30b1
     try clear hcz10_0
     try clear hcz10_1
     try clear hcz10_2
     try clear hcz10_3
     try clear hcz10_4
     try clear hcz10_5
     try clear hcz11_0
     try clear hcz11_1
     try clear hcz11_10
     try clear hcz11_11
     try clear hcz11_2
     try clear hcz11_3
     try clear hcz11_4
     try clear hcz11_5
     try clear hcz11_6
     try clear hcz11_7
     try clear hcz11_8
     try clear hcz11_9
     try clear hcz19_0
     try clear hcz19_1
     try clear hcz19_10
     try clear hcz19_11
     try clear hcz19_2
     try clear hcz19_3
     try clear hcz19_4
     try clear hcz19_5
     try clear hcz19_6
     try clear hcz19_7
     try clear hcz19_8
     try clear hcz19_9
     try clear hcz21_0
     try clear hcz21_1
     try clear hcz21_10
     try clear hcz21_11
     try clear hcz21_2
     try clear hcz21_3
     try clear hcz21_4
     try clear hcz21_5
     try clear hcz21_6
     try clear hcz21_7
     try clear hcz21_8
     try clear hcz21_9
     try clear hcz22_0
     try clear hcz22_1
     try clear hcz22_2
     try clear hcz22_3
     try clear hcz22_4
     try clear hcz22_5
     try clear hcz8_0
     try clear hcz8_1
     try clear hcz8_2
     try clear hcz8_3
     try clear hcz8_4
     try clear hcz8_5
     try clear hfz10_0
     try clear hfz10_1
     try clear hfz10_2
     try clear hfz10_3
     try clear hfz10_4
     try clear hfz10_5
     try clear hfz11_0
     try clear hfz11_1
     try clear hfz11_10
     try clear hfz11_11
     try clear hfz11_2
     try clear hfz11_3
     try clear hfz11_4
     try clear hfz11_5
     try clear hfz11_6
     try clear hfz11_7
     try clear hfz11_8
     try clear hfz11_9
     try clear hfz19_0
     try clear hfz19_1
     try clear hfz19_10
     try clear hfz19_11
     try clear hfz19_2
     try clear hfz19_3
     try clear hfz19_4
     try clear hfz19_5
     try clear hfz19_6
     try clear hfz19_7
     try clear hfz19_8
     try clear hfz19_9
     try clear hfz21_0
     try clear hfz21_1
     try clear hfz21_10
     try clear hfz21_11
     try clear hfz21_2
     try clear hfz21_3
     try clear hfz21_4
     try clear hfz21_5
     try clear hfz21_6
     try clear hfz21_7
     try clear hfz21_8
     try clear hfz21_9
     try clear hfz22_0
     try clear hfz22_1
     try clear hfz22_2
     try clear hfz22_3
     try clear hfz22_4
     try clear hfz22_5
     try clear hfz8_0
     try clear hfz8_1
     try clear hfz8_2
     try clear hfz8_3
     try clear hfz8_4
     try clear hfz8_5
     try clear p2
     obtain ⟨kq,x53_16,rfl,HA,HJ16,HO_7,BK645,BK646,HB⟩:=hcut
     cases kq with
     | zero => exact absurd HA.out (by simp [humuslaw09_UndorecKinds.j1])
     | succ kj16 =>
      have H:=HA.out
      clear HA
      simp only [humuslaw09_UndorecKinds.j1] at H
      by_cases c31 : x53_16 = true
      ·subst c31
       have H1 : (none) = some r:=by rw [if_pos rfl] at H;exact H
       clear H
       have H:=H1
       clear H1
       exact absurd H (by simp)
      ·replace c31:=Bool.eq_false_iff.mpr c31
       subst c31
       have H1 : (if t655 = 0 then ((undorec_Decode.f kj16 t652).bind fun bt656 => (if bt656.2.2.2.2.2.2.2.2.2.2.2.2 = 0 then ((humusref09_Same.f kj16 bt656.1 bt656.2.1 bt656.2.2.1 bt656.2.2.2.1 bt656.2.2.2.2.1 bt656.2.2.2.2.2.1 bt656.2.2.2.2.2.2.1 bt656.2.2.2.2.2.2.2.1 bt656.2.2.2.2.2.2.2.2.1 bt656.2.2.2.2.2.2.2.2.2.1 bt656.2.2.2.2.2.2.2.2.2.2.1 bt656.2.2.2.2.2.2.2.2.2.2.2.1 a0_0 a0_1 a0_2 2 a0_4 a0_5 a1_0 a1_1 l1_2 a1_3 a1_4 a1_5).bind fun t672 => (if t672 = true then (if (t652.length : Int) = (wrap64 (34 + (wrap64 (8 * (l1_2.length : Int))))) then ((humuslaw09_awake.f kj16).bind fun t673 => (some t673)) else (none)) else (none))) else (none))) else ((humuslaw09_awake.f kj16).bind fun t674 => (some t674))) = some r:=by rw [if_neg (show ¬ (false = true) by decide)] at H;exact H
       clear H
       have H:=H1
       clear H1
       by_cases c32 : t655 = 0
       ·rw [if_pos c32] at H
        have c32b0 : (t655 == 0) = true:=beq_iff_eq.mpr c32
        have c32b1 : (t655 != 0) = false:=bne_eq_false_iff_eq.mpr c32
        clear c32
        replace H:=Option.bind_eq_some_iff.mp H
        obtain ⟨⟨t656,t657,t658,t659,t660,t661,t662,t663,t664,t667,t668,t669,t670⟩,A330,H⟩:=H
        replace H : (if t670 = 0 then ((humusref09_Same.f kj16 t656 t657 t658 t659 t660 t661 t662 t663 t664 t667 t668 t669 a0_0 a0_1 a0_2 2 a0_4 a0_5 a1_0 a1_1 l1_2 a1_3 a1_4 a1_5).bind fun t672 => (if t672 = true then (if (t652.length : Int) = (wrap64 (34 + (wrap64 (8 * (l1_2.length : Int))))) then ((humuslaw09_awake.f kj16).bind fun t673 => (some t673)) else (none)) else (none))) else (none)) = some r:=H
        have A33:=Aside0.mk A330
        clear A330
        by_cases c34 : t670 = 0
        ·rw [if_pos c34] at H
         have c34b0 : (t670 == 0) = true:=beq_iff_eq.mpr c34
         have c34b1 : (t670 != 0) = false:=bne_eq_false_iff_eq.mpr c34
         clear c34
         replace H:=Option.bind_eq_some_iff.mp H
         obtain ⟨t672,A350,H⟩:=H
         replace H : (if t672 = true then (if (t652.length : Int) = (wrap64 (34 + (wrap64 (8 * (l1_2.length : Int))))) then ((humuslaw09_awake.f kj16).bind fun t673 => (some t673)) else (none)) else (none)) = some r:=H
         have A35:=Aside0.mk A350
         clear A350
         by_cases c36 : t672 = true
         ·subst c36
          have H1 : (if (t652.length : Int) = (wrap64 (34 + (wrap64 (8 * (l1_2.length : Int))))) then ((humuslaw09_awake.f kj16).bind fun t673 => (some t673)) else (none)) = some r:=by rw [if_pos rfl] at H;exact H
          clear H
          have H:=H1
          clear H1
          by_cases c37 : (t652.length : Int) = (wrap64 (34 + (wrap64 (8 * (l1_2.length : Int)))))
          ·rw [if_pos c37] at H
           have c37b0 : ((t652.length : Int) == (wrap64 (34 + (wrap64 (8 * (l1_2.length : Int)))))) = true:=beq_iff_eq.mpr c37
           have c37b1 : ((t652.length : Int) != (wrap64 (34 + (wrap64 (8 * (l1_2.length : Int)))))) = false:=bne_eq_false_iff_eq.mpr c37
           clear c37
           replace H:=Option.bind_eq_some_iff.mp H
           obtain ⟨t673,A380,H⟩:=H
           replace H : (some t673) = some r:=H
           have A38:=Aside0.mk A380
           clear A380
           obtain rfl:=Option.some.inj H
           obtain ⟨Ao39,co39,eo39⟩:=Kd.R_slice HO_7.out
           subst eo39
           go_wp2_with (first | ((with_reducible refine gate_callee (f:=49) rfl ?_);refine goesL_ (some 59) rfl rfl Try.func49 (by kernel_rfl) rfl #[.slice Ao39 t652.length co39] rfl (by (try simp only [List.map_toArray,List.map_cons,List.map_nil]);first | done | rfl | (simp only [List.length_drop,List.length_take];rfl)) ?_;(with_reducible refine (undorec_Decode.calls kj16 _ _ t652 t656 t657 t658 t659 t660 t661 t662 t663 t664 t667 t668 t669 t670 _ ?side1 ?side2 A33.out).mono ?_);(case side1 => repeat (first | exact (Kd.R_reads' HO_7.out).2.2 | (with_reducible refine Kd.C_alloc ?_ _) | (with_reducible refine Kd.C_drewN ?_ _) | (with_reducible refine Kd.C_drew ?_)));(case side2 => exact (Kd.R_reads' HO_7.out).2.1);rintro e w40 ⟨v665,rfl,ho0,hb⟩;refine ⟨_,rfl,?_⟩;have n0_:=Aside0.mk (Kd.R_below (by (with_reducible repeat (first | apply Kd.R_alloc | apply Kd.R_drewN | apply Kd.R_drew));exact HO_7.out) hb);have n1_:=Aside0.mk (Kd.R_lower ho0 (below_size (by repeat (first | (with_reducible first | exact HB.out | apply below_alloc | apply pw_below_drewN | apply below_drew1 | refine below_set ?_ GE645.out | refine below_set ?_ GE646.out) | exact HB.out))));have n2_:=Aside0.mk (blk_below (g:=gb645) (o:=.cells #[.int .i64 a0_0,.int .i64 a0_1,.int .i64 a0_2,.int .i64 2,.int .i64 a0_4,.int .i64 a0_5,.float .f64 a1_0,.bool a1_1,.slice A1_2 l1_2.length c1_2,.int .i64 a1_3,.int .i64 a1_4,.int .i64 a1_5] 32 (0,0)) (by (with_reducible repeat (first | refine blk_drewN ?_ _ | refine blk_drew ?_ | refine blk_alloc ?_ _));exact BK645.out) hb);have n3_:=Aside0.mk (blk_below (g:=gb646) (o:=.cells #[.float .f64 a1_0,.bool a1_1,.slice A1_2 l1_2.length c1_2,.int .i64 a1_3,.int .i64 a1_4,.int .i64 a1_5] 30 (0,0)) (by (with_reducible repeat (first | refine blk_drewN ?_ _ | refine blk_drew ?_ | refine blk_alloc ?_ _));exact BK646.out) hb);have n4_:=Aside0.mk (below_step (by repeat (first | (with_reducible first | exact HB.out | apply below_alloc | apply pw_below_drewN | apply below_drew1 | refine below_set ?_ GE645.out | refine below_set ?_ GE646.out) | exact HB.out)) hb);clear HO_7;clear BK645;clear BK646;clear HB;have HO_7:=n0_;have HO666:=n1_;have BK645:=n2_;have BK646:=n3_;have HB:=n4_;clear n0_ n1_ n2_ n3_ n4_;(try clear hb);(try clear hb2);(try clear hk);(try clear hi);(try clear ho0)) | ((with_reducible refine gate_dst (N:=9) rfl ?_);(try (refine gate_guard (by rfl) ?_;dsimp only));refine box_event ?hg (N:=9) ?hd (cs:=#[.int .i64 0,.int .i64 0,.int .i64 0,.int .i64 0,.int .i64 0,.int .i64 0,.float .f64 0,.bool false,.slice none 0 0,.int .i64 0,.int .i64 0,.int .i64 0]) (t:=32) ?hr ?_;(case hd => rfl);(case hg => rfl);(case hr => first | (go_simp;done) | (go_simp;rfl));intro gb671 hg w41 hbox hb;have n0_:=Aside0.mk (Kd.R_below (by (with_reducible repeat (first | apply Kd.R_alloc | apply Kd.R_drewN | apply Kd.R_drew));exact HO_7.out) hb);have n1_:=Aside0.mk (Kd.R_below (by (with_reducible repeat (first | apply Kd.R_alloc | apply Kd.R_drewN | apply Kd.R_drew));exact HO666.out) hb);have n2_:=Aside0.mk (blk_below (g:=gb645) (o:=.cells #[.int .i64 a0_0,.int .i64 a0_1,.int .i64 a0_2,.int .i64 2,.int .i64 a0_4,.int .i64 a0_5,.float .f64 a1_0,.bool a1_1,.slice A1_2 l1_2.length c1_2,.int .i64 a1_3,.int .i64 a1_4,.int .i64 a1_5] 32 (0,0)) (by (with_reducible repeat (first | refine blk_drewN ?_ _ | refine blk_drew ?_ | refine blk_alloc ?_ _));exact BK645.out) hb);have n3_:=Aside0.mk (blk_below (g:=gb646) (o:=.cells #[.float .f64 a1_0,.bool a1_1,.slice A1_2 l1_2.length c1_2,.int .i64 a1_3,.int .i64 a1_4,.int .i64 a1_5] 30 (0,0)) (by (with_reducible repeat (first | refine blk_drewN ?_ _ | refine blk_drew ?_ | refine blk_alloc ?_ _));exact BK646.out) hb);have n4_:=Aside0.mk (below_step (by repeat (first | (with_reducible first | exact HB.out | apply below_alloc | apply pw_below_drewN | apply below_drew1 | refine below_set ?_ GE645.out | refine below_set ?_ GE646.out) | exact HB.out)) hb);have n5_:=Aside0.mk (hbox);have n6_:=Aside0.mk ((by rw [hg];exact (below_size (by repeat (first | (with_reducible first | exact HB.out | apply below_alloc | apply pw_below_drewN | apply below_drew1 | refine below_set ?_ GE645.out | refine below_set ?_ GE646.out) | exact HB.out))) : w.heap.size ≤ gb671));have n7_:=Aside0.mk ((by rw [hg];exact (below_size (by repeat (first | (with_reducible first | exact HB.out | apply below_alloc | apply pw_below_drewN | apply below_drew1 | refine below_set ?_ GE645.out | refine below_set ?_ GE646.out) | exact HB.out))) : w.heap.size ≤ gb671));have n8_:=Aside0.mk ((by rw [hg];exact Nat.ne_of_lt (blk_lt (g:=gb645) (o:=.cells #[.int .i64 a0_0,.int .i64 a0_1,.int .i64 a0_2,.int .i64 2,.int .i64 a0_4,.int .i64 a0_5,.float .f64 a1_0,.bool a1_1,.slice A1_2 l1_2.length c1_2,.int .i64 a1_3,.int .i64 a1_4,.int .i64 a1_5] 32 (0,0)) (by (with_reducible repeat (first | refine blk_drewN ?_ _ | refine blk_drew ?_ | refine blk_alloc ?_ _));exact BK645.out)) : gb645 ≠ gb671));have n9_:=Aside0.mk ((by rw [hg];exact Nat.ne_of_gt (blk_lt (g:=gb645) (o:=.cells #[.int .i64 a0_0,.int .i64 a0_1,.int .i64 a0_2,.int .i64 2,.int .i64 a0_4,.int .i64 a0_5,.float .f64 a1_0,.bool a1_1,.slice A1_2 l1_2.length c1_2,.int .i64 a1_3,.int .i64 a1_4,.int .i64 a1_5] 32 (0,0)) (by (with_reducible repeat (first | refine blk_drewN ?_ _ | refine blk_drew ?_ | refine blk_alloc ?_ _));exact BK645.out)) : gb671 ≠ gb645));have n10_:=Aside0.mk ((by rw [hg];exact Nat.ne_of_lt (blk_lt (g:=gb646) (o:=.cells #[.float .f64 a1_0,.bool a1_1,.slice A1_2 l1_2.length c1_2,.int .i64 a1_3,.int .i64 a1_4,.int .i64 a1_5] 30 (0,0)) (by (with_reducible repeat (first | refine blk_drewN ?_ _ | refine blk_drew ?_ | refine blk_alloc ?_ _));exact BK646.out)) : gb646 ≠ gb671));have n11_:=Aside0.mk ((by rw [hg];exact Nat.ne_of_gt (blk_lt (g:=gb646) (o:=.cells #[.float .f64 a1_0,.bool a1_1,.slice A1_2 l1_2.length c1_2,.int .i64 a1_3,.int .i64 a1_4,.int .i64 a1_5] 30 (0,0)) (by (with_reducible repeat (first | refine blk_drewN ?_ _ | refine blk_drew ?_ | refine blk_alloc ?_ _));exact BK646.out)) : gb671 ≠ gb646));clear HO_7;clear HO666;clear BK645;clear BK646;clear HB;have HO_7:=n0_;have HO666:=n1_;have BK645:=n2_;have BK646:=n3_;have HB:=n4_;have BK671:=n5_;have GW671:=n6_;have GE671:=n7_;have NB645_671:=n8_;have NB671_645:=n9_;have NB646_671:=n10_;have NB671_646:=n11_;clear n0_ n1_ n2_ n3_ n4_ n5_ n6_ n7_ n8_ n9_ n10_ n11_;clear hb hbox hg;have hnb42:=NB671_645.out;have hnc42:=NB645_671.out;have hnb43:=NB671_646.out;have hnc43:=NB646_671.out;obtain ⟨hcz44_0,hcz44_1,hcz44_2,hcz44_3,hcz44_4,hcz44_5,hcz44_6,hcz44_7,hcz44_8,hcz44_9,hcz44_10,hcz44_11⟩:=blkc_12 BK671.out;obtain ⟨hfz44_0,hfz44_1,hfz44_2,hfz44_3,hfz44_4,hfz44_5,hfz44_6,hfz44_7,hfz44_8,hfz44_9,hfz44_10,hfz44_11⟩:=blkz_12 BK671.out;obtain ⟨Ao45,co45,eo45⟩:=Kd.R_slice HO666.out;subst eo45;have hnb46:=NB645_646.out;have hnc46:=NB646_645.out;obtain ⟨hcz47_0,hcz47_1,hcz47_2,hcz47_3,hcz47_4,hcz47_5,hcz47_6,hcz47_7,hcz47_8,hcz47_9,hcz47_10,hcz47_11⟩:=blkc_12 BK645.out;obtain ⟨hfz47_0,hfz47_1,hfz47_2,hfz47_3,hfz47_4,hfz47_5,hfz47_6,hfz47_7,hfz47_8,hfz47_9,hfz47_10⟩:=blkz_11 BK645.out;have hfz47_11:=blk_frozen BK645.out 11) | (go_at_call 51;(with_reducible refine (humusref09_Same.calls kj16 t656 t657 t658 t659 t660 t661 t662 t663 _ _ t664 t667 t668 t669 a0_0 a0_1 a0_2 2 a0_4 a0_5 a1_0 a1_1 _ _ l1_2 a1_3 a1_4 a1_5 true _ ?side1 ?side2 ?side3 ?side4 A35.out).mono ?_);(case side1 => refine (Kd.R_reads' (e:=25) (base:=w.heap.size) (ok:=fun k_ => True) (n:=t664.length) (c:=co45) ?_).2.2;exact (by (with_reducible repeat (first | apply Kd.R_alloc | apply Kd.R_drewN | apply Kd.R_drew));exact (Kd.R_mono (Kd.R_far (p:=⟨gb671,11,none⟩) (Kd.R_far (p:=⟨gb671,10,none⟩) (Kd.R_far (p:=⟨gb671,9,none⟩) (Kd.R_far (p:=⟨gb671,8,none⟩) (Kd.R_far (p:=⟨gb671,7,none⟩) (Kd.R_far (p:=⟨gb671,6,none⟩) (Kd.R_far (p:=⟨gb671,5,none⟩) (Kd.R_far (p:=⟨gb671,4,none⟩) (Kd.R_far (p:=⟨gb671,3,none⟩) (Kd.R_far (p:=⟨gb671,2,none⟩) (Kd.R_far (p:=⟨gb671,1,none⟩) (Kd.R_far (p:=⟨gb671,0,none⟩) (Kd.R_types HO666.out BK671.out (by decide)) (fun _ hk => hk.2) (.int .i64 t656)) (fun _ hk => hk.2) (.int .i64 t657)) (fun _ hk => hk.2) (.int .i64 t658)) (fun _ hk => hk.2) (.int .i64 t659)) (fun _ hk => hk.2) (.int .i64 t660)) (fun _ hk => hk.2) (.int .i64 t661)) (fun _ hk => hk.2) (.float .f64 t662)) (fun _ hk => hk.2) (.bool t663)) (fun _ hk => hk.2) (.slice Ao45 t664.length co45)) (fun _ hk => hk.2) (.int .i64 t667)) (fun _ hk => hk.2) (.int .i64 t668)) (fun _ hk => hk.2) (.int .i64 t669)) (fun _ h_ => h_.1))));(case side2 => exact (Kd.R_reads' HO666.out).2.1);(case side3 => exact Kd.C_below HR1_2.out (by repeat (first | (with_reducible first | exact HB.out | apply below_alloc | apply pw_below_drewN | apply below_drew1 | refine below_set ?_ GE645.out | refine below_set ?_ GE646.out | refine below_set ?_ GE671.out) | exact HB.out)));(case side4 => exact HC1_2.out);rintro e w48 ⟨rfl,hb⟩;have n0_:=Aside0.mk (Kd.R_below (by (with_reducible repeat (first | apply Kd.R_alloc | apply Kd.R_drewN | apply Kd.R_drew));exact (Kd.R_mono (Kd.R_far (p:=⟨gb671,11,none⟩) (Kd.R_far (p:=⟨gb671,10,none⟩) (Kd.R_far (p:=⟨gb671,9,none⟩) (Kd.R_far (p:=⟨gb671,8,none⟩) (Kd.R_far (p:=⟨gb671,7,none⟩) (Kd.R_far (p:=⟨gb671,6,none⟩) (Kd.R_far (p:=⟨gb671,5,none⟩) (Kd.R_far (p:=⟨gb671,4,none⟩) (Kd.R_far (p:=⟨gb671,3,none⟩) (Kd.R_far (p:=⟨gb671,2,none⟩) (Kd.R_far (p:=⟨gb671,1,none⟩) (Kd.R_far (p:=⟨gb671,0,none⟩) (Kd.R_types HO_7.out BK671.out (by decide)) (fun _ hk => hk.2) (.int .i64 t656)) (fun _ hk => hk.2) (.int .i64 t657)) (fun _ hk => hk.2) (.int .i64 t658)) (fun _ hk => hk.2) (.int .i64 t659)) (fun _ hk => hk.2) (.int .i64 t660)) (fun _ hk => hk.2) (.int .i64 t661)) (fun _ hk => hk.2) (.float .f64 t662)) (fun _ hk => hk.2) (.bool t663)) (fun _ hk => hk.2) (.slice Ao45 t664.length co45)) (fun _ hk => hk.2) (.int .i64 t667)) (fun _ hk => hk.2) (.int .i64 t668)) (fun _ hk => hk.2) (.int .i64 t669)) (fun _ h_ => h_.1))) hb);have n1_:=Aside0.mk (Kd.R_below (by (with_reducible repeat (first | apply Kd.R_alloc | apply Kd.R_drewN | apply Kd.R_drew));exact (Kd.R_mono (Kd.R_far (p:=⟨gb671,11,none⟩) (Kd.R_far (p:=⟨gb671,10,none⟩) (Kd.R_far (p:=⟨gb671,9,none⟩) (Kd.R_far (p:=⟨gb671,8,none⟩) (Kd.R_far (p:=⟨gb671,7,none⟩) (Kd.R_far (p:=⟨gb671,6,none⟩) (Kd.R_far (p:=⟨gb671,5,none⟩) (Kd.R_far (p:=⟨gb671,4,none⟩) (Kd.R_far (p:=⟨gb671,3,none⟩) (Kd.R_far (p:=⟨gb671,2,none⟩) (Kd.R_far (p:=⟨gb671,1,none⟩) (Kd.R_far (p:=⟨gb671,0,none⟩) (Kd.R_types HO666.out BK671.out (by decide)) (fun _ hk => hk.2) (.int .i64 t656)) (fun _ hk => hk.2) (.int .i64 t657)) (fun _ hk => hk.2) (.int .i64 t658)) (fun _ hk => hk.2) (.int .i64 t659)) (fun _ hk => hk.2) (.int .i64 t660)) (fun _ hk => hk.2) (.int .i64 t661)) (fun _ hk => hk.2) (.float .f64 t662)) (fun _ hk => hk.2) (.bool t663)) (fun _ hk => hk.2) (.slice Ao45 t664.length co45)) (fun _ hk => hk.2) (.int .i64 t667)) (fun _ hk => hk.2) (.int .i64 t668)) (fun _ hk => hk.2) (.int .i64 t669)) (fun _ h_ => h_.1))) hb);have n2_:=Aside0.mk (blk_below (g:=gb645) (o:=.cells #[.int .i64 a0_0,.int .i64 a0_1,.int .i64 a0_2,.int .i64 2,.int .i64 a0_4,.int .i64 a0_5,.float .f64 a1_0,.bool a1_1,.slice A1_2 l1_2.length c1_2,.int .i64 a1_3,.int .i64 a1_4,.int .i64 a1_5] 32 (0,0)) (by (with_reducible repeat (first | refine blk_drewN ?_ _ | refine blk_drew ?_ | refine blk_alloc ?_ _));refine blk_far ?_ NB645_671.out _;(with_reducible repeat (first | refine blk_drewN ?_ _ | refine blk_drew ?_ | refine blk_alloc ?_ _));refine blk_far ?_ NB645_671.out _;(with_reducible repeat (first | refine blk_drewN ?_ _ | refine blk_drew ?_ | refine blk_alloc ?_ _));refine blk_far ?_ NB645_671.out _;(with_reducible repeat (first | refine blk_drewN ?_ _ | refine blk_drew ?_ | refine blk_alloc ?_ _));refine blk_far ?_ NB645_671.out _;(with_reducible repeat (first | refine blk_drewN ?_ _ | refine blk_drew ?_ | refine blk_alloc ?_ _));refine blk_far ?_ NB645_671.out _;(with_reducible repeat (first | refine blk_drewN ?_ _ | refine blk_drew ?_ | refine blk_alloc ?_ _));refine blk_far ?_ NB645_671.out _;(with_reducible repeat (first | refine blk_drewN ?_ _ | refine blk_drew ?_ | refine blk_alloc ?_ _));refine blk_far ?_ NB645_671.out _;(with_reducible repeat (first | refine blk_drewN ?_ _ | refine blk_drew ?_ | refine blk_alloc ?_ _));refine blk_far ?_ NB645_671.out _;(with_reducible repeat (first | refine blk_drewN ?_ _ | refine blk_drew ?_ | refine blk_alloc ?_ _));refine blk_far ?_ NB645_671.out _;(with_reducible repeat (first | refine blk_drewN ?_ _ | refine blk_drew ?_ | refine blk_alloc ?_ _));refine blk_far ?_ NB645_671.out _;(with_reducible repeat (first | refine blk_drewN ?_ _ | refine blk_drew ?_ | refine blk_alloc ?_ _));refine blk_far ?_ NB645_671.out _;(with_reducible repeat (first | refine blk_drewN ?_ _ | refine blk_drew ?_ | refine blk_alloc ?_ _));refine blk_far ?_ NB645_671.out _;(with_reducible repeat (first | refine blk_drewN ?_ _ | refine blk_drew ?_ | refine blk_alloc ?_ _));exact BK645.out) hb);have n3_:=Aside0.mk (blk_below (g:=gb646) (o:=.cells #[.float .f64 a1_0,.bool a1_1,.slice A1_2 l1_2.length c1_2,.int .i64 a1_3,.int .i64 a1_4,.int .i64 a1_5] 30 (0,0)) (by (with_reducible repeat (first | refine blk_drewN ?_ _ | refine blk_drew ?_ | refine blk_alloc ?_ _));refine blk_far ?_ NB646_671.out _;(with_reducible repeat (first | refine blk_drewN ?_ _ | refine blk_drew ?_ | refine blk_alloc ?_ _));refine blk_far ?_ NB646_671.out _;(with_reducible repeat (first | refine blk_drewN ?_ _ | refine blk_drew ?_ | refine blk_alloc ?_ _));refine blk_far ?_ NB646_671.out _;(with_reducible repeat (first | refine blk_drewN ?_ _ | refine blk_drew ?_ | refine blk_alloc ?_ _));refine blk_far ?_ NB646_671.out _;(with_reducible repeat (first | refine blk_drewN ?_ _ | refine blk_drew ?_ | refine blk_alloc ?_ _));refine blk_far ?_ NB646_671.out _;(with_reducible repeat (first | refine blk_drewN ?_ _ | refine blk_drew ?_ | refine blk_alloc ?_ _));refine blk_far ?_ NB646_671.out _;(with_reducible repeat (first | refine blk_drewN ?_ _ | refine blk_drew ?_ | refine blk_alloc ?_ _));refine blk_far ?_ NB646_671.out _;(with_reducible repeat (first | refine blk_drewN ?_ _ | refine blk_drew ?_ | refine blk_alloc ?_ _));refine blk_far ?_ NB646_671.out _;(with_reducible repeat (first | refine blk_drewN ?_ _ | refine blk_drew ?_ | refine blk_alloc ?_ _));refine blk_far ?_ NB646_671.out _;(with_reducible repeat (first | refine blk_drewN ?_ _ | refine blk_drew ?_ | refine blk_alloc ?_ _));refine blk_far ?_ NB646_671.out _;(with_reducible repeat (first | refine blk_drewN ?_ _ | refine blk_drew ?_ | refine blk_alloc ?_ _));refine blk_far ?_ NB646_671.out _;(with_reducible repeat (first | refine blk_drewN ?_ _ | refine blk_drew ?_ | refine blk_alloc ?_ _));refine blk_far ?_ NB646_671.out _;(with_reducible repeat (first | refine blk_drewN ?_ _ | refine blk_drew ?_ | refine blk_alloc ?_ _));exact BK646.out) hb);have n4_:=Aside0.mk (blk_below (g:=gb671) (o:=.cells #[.int .i64 t656,.int .i64 t657,.int .i64 t658,.int .i64 t659,.int .i64 t660,.int .i64 t661,.float .f64 t662,.bool t663,.slice Ao45 t664.length co45,.int .i64 t667,.int .i64 t668,.int .i64 t669] 32 (0,0)) (by (with_reducible repeat (first | refine blk_drewN ?_ _ | refine blk_drew ?_ | refine blk_alloc ?_ _));apply blkf_12_0_11;(with_reducible repeat (first | refine blk_drewN ?_ _ | refine blk_drew ?_ | refine blk_alloc ?_ _));exact BK671.out) hb);have n5_:=Aside0.mk (below_step (by repeat (first | (with_reducible first | exact HB.out | apply below_alloc | apply pw_below_drewN | apply below_drew1 | refine below_set ?_ GE645.out | refine below_set ?_ GE646.out | refine below_set ?_ GE671.out) | exact HB.out)) hb);clear HO_7;clear HO666;clear BK645;clear BK646;clear BK671;clear HB;have HO_7:=n0_;have HO666:=n1_;have BK645:=n2_;have BK646:=n3_;have BK671:=n4_;have HB:=n5_;clear n0_ n1_ n2_ n3_ n4_ n5_;(try clear hb);(try clear hb2);(try clear hk);(try clear hi);obtain ⟨hcz49_0,hcz49_1,hcz49_2,hcz49_3,hcz49_4,hcz49_5⟩:=blkc_6 BK646.out;obtain ⟨hfz49_0,hfz49_1,hfz49_2,hfz49_3,hfz49_4⟩:=blkz_5 BK646.out;have hfz49_5:=blk_frozen BK646.out 5) | (go_at_call 45;(with_reducible refine (humuslaw09_awake.calls kj16  t673 _ A38.out).mono ?_);rintro e w50 ⟨rfl,hb⟩;have n0_:=Aside0.mk (Kd.R_below (by (with_reducible repeat (first | apply Kd.R_alloc | apply Kd.R_drewN | apply Kd.R_drew));exact HO_7.out) hb);have n1_:=Aside0.mk (Kd.R_below (by (with_reducible repeat (first | apply Kd.R_alloc | apply Kd.R_drewN | apply Kd.R_drew));exact HO666.out) hb);have n2_:=Aside0.mk (blk_below (g:=gb645) (o:=.cells #[.int .i64 a0_0,.int .i64 a0_1,.int .i64 a0_2,.int .i64 2,.int .i64 a0_4,.int .i64 a0_5,.float .f64 a1_0,.bool a1_1,.slice A1_2 l1_2.length c1_2,.int .i64 a1_3,.int .i64 a1_4,.int .i64 a1_5] 32 (0,0)) (by (with_reducible repeat (first | refine blk_drewN ?_ _ | refine blk_drew ?_ | refine blk_alloc ?_ _));exact BK645.out) hb);have n3_:=Aside0.mk (blk_below (g:=gb646) (o:=.cells #[.float .f64 a1_0,.bool a1_1,.slice A1_2 l1_2.length c1_2,.int .i64 a1_3,.int .i64 a1_4,.int .i64 a1_5] 30 (0,0)) (by (with_reducible repeat (first | refine blk_drewN ?_ _ | refine blk_drew ?_ | refine blk_alloc ?_ _));exact BK646.out) hb);have n4_:=Aside0.mk (blk_below (g:=gb671) (o:=.cells #[.int .i64 t656,.int .i64 t657,.int .i64 t658,.int .i64 t659,.int .i64 t660,.int .i64 t661,.float .f64 t662,.bool t663,.slice Ao45 t664.length co45,.int .i64 t667,.int .i64 t668,.int .i64 t669] 32 (0,0)) (by (with_reducible repeat (first | refine blk_drewN ?_ _ | refine blk_drew ?_ | refine blk_alloc ?_ _));exact BK671.out) hb);have n5_:=Aside0.mk (below_step (by repeat (first | (with_reducible first | exact HB.out | apply below_alloc | apply pw_below_drewN | apply below_drew1 | refine below_set ?_ GE645.out | refine below_set ?_ GE646.out | refine below_set ?_ GE671.out) | exact HB.out)) hb);clear HO_7;clear HO666;clear BK645;clear BK646;clear BK671;clear HB;have HO_7:=n0_;have HO666:=n1_;have BK645:=n2_;have BK646:=n3_;have BK671:=n4_;have HB:=n5_;clear n0_ n1_ n2_ n3_ n4_ n5_;(try clear hb);(try clear hb2);(try clear hk);(try clear hi)))
           go_ret
           exact ⟨by first | rfl | (simp [errW_none,errW_some] <;> rfl) | (simp [*,errW_none,errW_some] <;> rfl),by repeat (first | (with_reducible first | exact HB.out | apply below_alloc | apply pw_below_drewN | apply below_drew1 | refine below_set ?_ GE645.out | refine below_set ?_ GE646.out | refine below_set ?_ GE671.out) | exact HB.out)⟩
          ·rw [if_neg c37] at H
           exact absurd H (by simp)
         ·replace c36:=Bool.eq_false_iff.mpr c36
          subst c36
          have H1 : (none) = some r:=by rw [if_neg (show ¬ (false = true) by decide)] at H;exact H
          clear H
          have H:=H1
          clear H1
          exact absurd H (by simp)
        ·rw [if_neg c34] at H
         exact absurd H (by simp)
       ·rw [if_neg c32] at H
        have c32b0 : (t655 == 0) = false:=beq_eq_false_iff_ne.mpr c32
        have c32b1 : (t655 != 0) = true:=bne_iff_ne.mpr c32
        replace H:=Option.bind_eq_some_iff.mp H
        obtain ⟨t674,A510,H⟩:=H
        replace H : (some t674) = some r:=H
        have A51:=Aside0.mk A510
        clear A510
        obtain rfl:=Option.some.inj H
        go_wp2_with (first | ((with_reducible refine gate_callee (f:=45) rfl ?_);refine goesL_ (some 56) rfl rfl Try.func45 (by kernel_rfl) rfl #[] rfl (by (try simp only [List.map_toArray,List.map_cons,List.map_nil]);first | done | rfl | (simp only [List.length_drop,List.length_take];rfl)) ?_;(with_reducible refine (humuslaw09_awake.calls kj16  t674 _ A51.out).mono ?_);rintro e w52 ⟨rfl,hb⟩;refine ⟨_,rfl,?_⟩;have n0_:=Aside0.mk (Kd.R_below (by (with_reducible repeat (first | apply Kd.R_alloc | apply Kd.R_drewN | apply Kd.R_drew));exact HO_7.out) hb);have n1_:=Aside0.mk (blk_below (g:=gb645) (o:=.cells #[.int .i64 a0_0,.int .i64 a0_1,.int .i64 a0_2,.int .i64 2,.int .i64 a0_4,.int .i64 a0_5,.float .f64 a1_0,.bool a1_1,.slice A1_2 l1_2.length c1_2,.int .i64 a1_3,.int .i64 a1_4,.int .i64 a1_5] 32 (0,0)) (by (with_reducible repeat (first | refine blk_drewN ?_ _ | refine blk_drew ?_ | refine blk_alloc ?_ _));exact BK645.out) hb);have n2_:=Aside0.mk (blk_below (g:=gb646) (o:=.cells #[.float .f64 a1_0,.bool a1_1,.slice A1_2 l1_2.length c1_2,.int .i64 a1_3,.int .i64 a1_4,.int .i64 a1_5] 30 (0,0)) (by (with_reducible repeat (first | refine blk_drewN ?_ _ | refine blk_drew ?_ | refine blk_alloc ?_ _));exact BK646.out) hb);have n3_:=Aside0.mk (below_step (by repeat (first | (with_reducible first | exact HB.out | apply below_alloc | apply pw_below_drewN | apply below_drew1 | refine below_set ?_ GE645.out | refine below_set ?_ GE646.out) | exact HB.out)) hb);clear HO_7;clear BK645;clear BK646;clear HB;have HO_7:=n0_;have BK645:=n1_;have BK646:=n2_;have HB:=n3_;clear n0_ n1_ n2_ n3_;(try clear hb);(try clear hb2);(try clear hk);(try clear hi)))
        go_ret
        exact ⟨by first | rfl | (simp [errW_none,errW_some] <;> rfl) | (simp [*,errW_none,errW_some] <;> rfl),by repeat (first | (with_reducible first | exact HB.out | apply below_alloc | apply pw_below_drewN | apply below_drew1 | refine below_set ?_ GE645.out | refine below_set ?_ GE646.out) | exact HB.out)⟩
end Go.Proofs.Ytdcllbhkjcdnoaa.P
set_option linter.unusedVariables false
set_option linter.unusedSimpArgs false
namespace Go.Proofs.Ytdcllbhkjcdnoaa.P
open Go.RowKit Go.Proofs.Ytdcllbhkjcdnoaa Go.Proofs.Ytdcllbhkjcdnoaa.Mem Go.Proofs.Ytdcllbhkjcdnoaa.Pac Go.Proofs.YtdcllbhkjcdnoaaW.PrintWords Go.Proofs.YtdcllbhkjcdnoaaW.PrintLast
theorem kinds_j1 {tx no pr pa sl : Int} {ke' : Nat} {de' : Bool} {co' : List Nat} {wr' ce' nn' : Int} (hx' : ke' < 18446744073709551616) (hc' : ∀ x ∈ co', x < 18446744073709551616) :
    ∀ (x7 : List Int) (x8 : Int) (m : Bool), m = mayU tx no pr 2 pa sl ke' de' co' wr' ce' nn' → x7 = (if m = true then bytesU tx no pr 2 pa sl ke' de' co' wr' ce' nn' else []) → x8 = (if m = true then 0 else 1) →
      humuslaw09_UndorecKinds.j1 299 x7 x8 false tx no pr 2 pa sl ke' de' co' wr' ce' nn' ke' de' co' wr' ce' nn' = some true := by
  intro x7 x8 m hm hx7 hx8
  rw [show (299 : Nat) = 298 + 1 from rfl]
  simp only [humuslaw09_UndorecKinds.j1, Bool.false_eq_true, if_false]
  cases m with
  | true =>
    have hm := hm.symm
    rw [if_pos rfl] at hx7 hx8
    have h4 := mayU_co hm
    rw [if_pos hx8, hx7, uDec_und (by omega) hm hx' hc']
    simp only [Option.bind_some]
    rw [if_pos trivial, rSameU_ev (by omega) (by omega), sameU_self, Option.bind_some, if_pos rfl]
    have h7 : (((bytesU tx no pr 2 pa sl ke' de' co' wr' ce' nn').length : Nat) : Int) = wrap64 (34 + wrap64 (8 * (co'.length : Int))) := by
      rw [bytesU_size, if_pos rfl]; unfold wrap64; omega
    rw [if_pos h7, awake09_ev (by omega), Option.bind_some]
  | false =>
    rw [if_neg (by decide)] at hx8
    rw [if_neg (by omega), awake09_ev (by omega)]
    simp only [Option.bind_some]
theorem undorecKinds_ev {tx no pr ki pa sl : Int} {ke : Nat} {de : Bool} {co : List Nat} {wr ce nn : Int} {ke' : Nat} {de' : Bool} {co' : List Nat} {wr' ce' nn' : Int} (hx' : ke' < 18446744073709551616) (hc' : ∀ x ∈ co', x < 18446744073709551616) :
    humuslaw09_UndorecKinds.f 300 tx no pr ki pa sl ke de co wr ce nn ke' de' co' wr' ce' nn' = some true := by
  have hT : ∀ z : Bool, z = true → humuslaw09_UndorecKinds.j0 300 z tx no pr ki pa sl ke de co wr ce nn ke' de' co' wr' ce' nn' = some true := by
    intro z hz
    subst hz
    rw [show (300 : Nat) = 299 + 1 from rfl]
    simp only [humuslaw09_UndorecKinds.j0]
    rw [if_pos trivial, awake09_ev (by omega)]
    simp only [Option.bind_some]
  unfold humuslaw09_UndorecKinds.f
  by_cases hl : co'.length ≤ 100
  rotate_left
  · rw [if_pos (by omega)]; exact hT _ rfl
  rw [if_neg (by omega)]
  by_cases hl' : co.length ≤ 100
  rotate_left
  · exact hT _ (decide_eq_true (by omega))
  rw [decide_eq_false (by omega), show (300 : Nat) = 299 + 1 from rfl]
  simp only [humuslaw09_UndorecKinds.j0]
  rw [if_neg (by decide), uEncode_ev (by show 0 + 30 ≤ 299; decide) (by decide) (by decide) (fun x hx => by cases hx), uEncode_ev (by omega) (by omega) hx' hc']
  simp only [Option.bind_some]
  have h1 : mayU tx no pr 1 pa sl 0 false [] 0 0 0 = numsU tx no pr pa sl := by
    unfold mayU
    rw [if_pos rfl, sameRow_self, Bool.and_true]
  have h2 : mayU tx no pr 2 pa sl ke' de' co' wr' ce' nn' = (numsU tx no pr pa sl && mayRow ke' de' co' wr' ce' nn') := by
    unfold mayU
    rw [if_neg (by decide), if_pos rfl]
  have h3 : (bytesU tx no pr 1 pa sl 0 false [] 0 0 0).length = 14 := by rw [bytesU_size]; rfl
  rw [h1]
  have hj1 := kinds_j1 (tx := tx) (no := no) (pr := pr) (pa := pa) (sl := sl) (de' := de') (wr' := wr') (ce' := ce') (nn' := nn') hx' hc'
  generalize hM : mayU tx no pr 2 pa sl ke' de' co' wr' ce' nn' = m at *
  have hj := fun x7 x8 => hj1 x7 x8 m rfl
  cases hn : numsU tx no pr pa sl with
  | true =>
    simp only [if_true]
    have h5 : ((bytesU tx no pr 1 pa sl 0 false [] 0 0 0).length : Int) = 14 := by rw [h3]; rfl
    rw [if_pos h5]
    cases m with
    | true =>
      simp only [if_true]
      exact hj _ _ rfl rfl
    | false =>
      simp only [Bool.false_eq_true, if_false]
      rw [if_neg (by omega)]
      exact hj _ _ rfl rfl
  | false =>
    rw [hn, Bool.false_and] at h2
    subst h2
    simp only [Bool.false_eq_true, if_false]
    rw [if_neg (by omega), if_neg (by omega)]
    exact hj _ _ rfl rfl
theorem UndorecKinds_walk {w : World} (a : S32) (A : Option Addr) (c : Nat) (hc : a.f6.f2.length ≤ c) (hr : Kd.C Kd.f64 w A a.f6.f2.length a.f6.f2) (ga : good_undo a) (b : S30) (B : Option Addr) (d : Nat) (hd : b.f2.length ≤ d) (hs : Kd.C Kd.f64 w B b.f2.length b.f2) (gb : good_row b) :
    Calls Try.prog 13 #[.agg #[.int .i64 a.f0, .int .i64 a.f1, .int .i64 a.f2, .int .i64 a.f3, .int .i64 a.f4, .int .i64 a.f5, .float .f64 a.f6.f0, .bool a.f6.f1, .slice A a.f6.f2.length c, .int .i64 a.f6.f3, .int .i64 a.f6.f4.f0, .int .i64 a.f6.f4.f1], .agg #[.float .f64 b.f0, .bool b.f1, .slice B b.f2.length d, .int .i64 b.f3, .int .i64 b.f4.f0, .int .i64 b.f4.f1]] w fun e w' => e = .returned (.bool true) ∧ Below w.heap.size w w' :=
  humuslaw09_UndorecKinds.calls 300 _ _ _ _ _ _ _ _ _ _ _ _ _ _ _ _ _ _ _ _ _ _ true w hr hc hs hd (undorecKinds_ev gb.1 gb.2.1.1)
end Go.Proofs.Ytdcllbhkjcdnoaa.P
