/- Put together by wip/prune.py out of this claim's texts. -/
import Derived.Test.YtdcllbhkjcdnoaaMUndoOnce5
import Derived.Test.YtdcllbhkjcdnoaaMUndoOnce14
import Derived.Test.YtdcllbhkjcdnoaaMUndoOnce16
import Derived.Test.YtdcllbhkjcdnoaaMUndoOnce17
import Derived.Test.YtdcllbhkjcdnoaaMUndoOnce18
import Derived.Test.YtdcllbhkjcdnoaaMUndoOnce19
namespace Go.Proofs.Ytdcllbhkjcdnoaa.P
open Go.RowKit Go.Proofs.YtdcllbhkjcdnoaaW.PrintWords Go.Proofs.YtdcllbhkjcdnoaaW.PrintLast Go.Proofs.YtdcllbhkjcdnoaaW.PrintMore
attribute [local go_sem] max2_int min2_int max_two min_two max_three min_three max_four min_four   -- for this text's walks alone
attribute [local go_sem] run_store_float
set_option linter.unusedVariables false
set_option linter.unusedSimpArgs false
def undo_Get.j0 : Nat → Bool → Int → Int → Int → Int → Int → Int → Nat → Bool → List Nat → Int → Int → Int → Option (Int × Int × Int × Int × Int × Int × Nat × Bool × List Nat × Int × Int × Int × Bool)
 | 0,_,_,_,_,_,_,_,_,_,_,_,_,_ => none
 | k + 1,x24,x772000,x772001,x772002,x772003,x772004,x772005,x772006,x772007,x772008,x772009,x772010,x772011 => if x24 = true then (some (0,0,0,0,0,0,0,false,([] : List Nat),0,0,0,false)) else ((undo_copied.f x772000 x772001 x772002 x772003 x772004 x772005 x772006 x772007 x772008 x772009 x772010 x772011).bind fun bt774 => (some (bt774.1,bt774.2.1,bt774.2.2.1,bt774.2.2.2.1,bt774.2.2.2.2.1,bt774.2.2.2.2.2.1,bt774.2.2.2.2.2.2.1,bt774.2.2.2.2.2.2.2.1,bt774.2.2.2.2.2.2.2.2.1,bt774.2.2.2.2.2.2.2.2.2.1,bt774.2.2.2.2.2.2.2.2.2.2.1,bt774.2.2.2.2.2.2.2.2.2.2.2,true)))
def undo_Get.f (k : Nat) (l0 : List (S32)) (a1_0 : Int) (a1_1 : Int) : Option (Int × Int × Int × Int × Int × Int × Nat × Bool × List Nat × Int × Int × Int × Bool):=(undo_at.f l0 a1_0).bind fun bt757 => ((undo_Check.f l0).bind fun t772 => (if t772 = 0 then ((undo_empty.f bt757.1 bt757.2.1 bt757.2.2.1 bt757.2.2.2.1 bt757.2.2.2.2.1 bt757.2.2.2.2.2.1 bt757.2.2.2.2.2.2.1 bt757.2.2.2.2.2.2.2.1 bt757.2.2.2.2.2.2.2.2.1 bt757.2.2.2.2.2.2.2.2.2.1 bt757.2.2.2.2.2.2.2.2.2.2.1 bt757.2.2.2.2.2.2.2.2.2.2.2).bind fun t773 => (if t773 = true then (undo_Get.j0 k true bt757.1 bt757.2.1 bt757.2.2.1 bt757.2.2.2.1 bt757.2.2.2.2.1 bt757.2.2.2.2.2.1 bt757.2.2.2.2.2.2.1 bt757.2.2.2.2.2.2.2.1 bt757.2.2.2.2.2.2.2.2.1 bt757.2.2.2.2.2.2.2.2.2.1 bt757.2.2.2.2.2.2.2.2.2.2.1 bt757.2.2.2.2.2.2.2.2.2.2.2) else (undo_Get.j0 k (bt757.2.1 != a1_1) bt757.1 bt757.2.1 bt757.2.2.1 bt757.2.2.2.1 bt757.2.2.2.2.1 bt757.2.2.2.2.2.1 bt757.2.2.2.2.2.2.1 bt757.2.2.2.2.2.2.2.1 bt757.2.2.2.2.2.2.2.2.1 bt757.2.2.2.2.2.2.2.2.2.1 bt757.2.2.2.2.2.2.2.2.2.2.1 bt757.2.2.2.2.2.2.2.2.2.2.2))) else (undo_Get.j0 k true bt757.1 bt757.2.1 bt757.2.2.1 bt757.2.2.2.1 bt757.2.2.2.2.1 bt757.2.2.2.2.2.1 bt757.2.2.2.2.2.2.1 bt757.2.2.2.2.2.2.2.1 bt757.2.2.2.2.2.2.2.2.1 bt757.2.2.2.2.2.2.2.2.2.1 bt757.2.2.2.2.2.2.2.2.2.2.1 bt757.2.2.2.2.2.2.2.2.2.2.2)))
set_option maxHeartbeats 8000000 in
set_option maxRecDepth 100000 in
theorem undo_Get.calls (k : Nat) (A0 : Option Addr) (c0 : Nat) (l0 : List (S32)) (a1_0 : Int) (a1_1 : Int) (r1 : Int) (r2 : Int) (r3 : Int) (r4 : Int) (r5 : Int) (r6 : Int) (r7 : Nat) (r8 : Bool) (r9 : List Nat) (r10 : Int) (r11 : Int) (r12 : Int) (r13 : Bool) (w : World) (hr0 : Kd.C k32 w A0 l0.length l0) (hc0 : l0.length ≤ c0) (h : undo_Get.f k l0 a1_0 a1_1 = some (r1,r2,r3,r4,r5,r6,r7,r8,r9,r10,r11,r12,r13)) :
  Calls Try.prog 17 #[.slice A0 l0.length c0,.agg #[.int .i64 a1_0,.int .i64 a1_1]] w fun e w' => ∃ v8_ : Value,e = .returned (.tuple #[.agg #[.int .i64 r1,.int .i64 r2,.int .i64 r3,.int .i64 r4,.int .i64 r5,.int .i64 r6,.float .f64 r7,.bool r8,v8_,.int .i64 r10,.int .i64 r11,.int .i64 r12],.bool r13]) ∧ Kd.R Kd.f64 25 w' w.heap.size (fun _ => True) v8_ r9 ∧ Below w.heap.size w w':=by
 have hu28:=Try.underlying28
 have hu32:=Try.underlying32
 have HR0:=Aside0.mk hr0
 have HC0:=Aside0.mk hc0
 clear hr0 hc0
 have HB:=Aside0.mk (Below.refl w.heap.size w)
 have H : ((undo_at.f l0 a1_0).bind fun bt757 => ((undo_Check.f l0).bind fun t772 => (if t772 = 0 then ((undo_empty.f bt757.1 bt757.2.1 bt757.2.2.1 bt757.2.2.2.1 bt757.2.2.2.2.1 bt757.2.2.2.2.2.1 bt757.2.2.2.2.2.2.1 bt757.2.2.2.2.2.2.2.1 bt757.2.2.2.2.2.2.2.2.1 bt757.2.2.2.2.2.2.2.2.2.1 bt757.2.2.2.2.2.2.2.2.2.2.1 bt757.2.2.2.2.2.2.2.2.2.2.2).bind fun t773 => (if t773 = true then (undo_Get.j0 k true bt757.1 bt757.2.1 bt757.2.2.1 bt757.2.2.2.1 bt757.2.2.2.2.1 bt757.2.2.2.2.2.1 bt757.2.2.2.2.2.2.1 bt757.2.2.2.2.2.2.2.1 bt757.2.2.2.2.2.2.2.2.1 bt757.2.2.2.2.2.2.2.2.2.1 bt757.2.2.2.2.2.2.2.2.2.2.1 bt757.2.2.2.2.2.2.2.2.2.2.2) else (undo_Get.j0 k (bt757.2.1 != a1_1) bt757.1 bt757.2.1 bt757.2.2.1 bt757.2.2.2.1 bt757.2.2.2.2.1 bt757.2.2.2.2.2.1 bt757.2.2.2.2.2.2.1 bt757.2.2.2.2.2.2.2.1 bt757.2.2.2.2.2.2.2.2.1 bt757.2.2.2.2.2.2.2.2.2.1 bt757.2.2.2.2.2.2.2.2.2.2.1 bt757.2.2.2.2.2.2.2.2.2.2.2))) else (undo_Get.j0 k true bt757.1 bt757.2.1 bt757.2.2.1 bt757.2.2.2.1 bt757.2.2.2.2.1 bt757.2.2.2.2.2.1 bt757.2.2.2.2.2.2.1 bt757.2.2.2.2.2.2.2.1 bt757.2.2.2.2.2.2.2.2.1 bt757.2.2.2.2.2.2.2.2.2.1 bt757.2.2.2.2.2.2.2.2.2.2.1 bt757.2.2.2.2.2.2.2.2.2.2.2)))) = some (r1,r2,r3,r4,r5,r6,r7,r8,r9,r10,r11,r12,r13):=h
 clear h
 replace H:=Option.bind_eq_some_iff.mp H
 obtain ⟨⟨t757,t758,t759,t760,t761,t762,t763,t764,t765,t768,t769,t770⟩,A30,H⟩:=H
 replace H : ((undo_Check.f l0).bind fun t772 => (if t772 = 0 then ((undo_empty.f t757 t758 t759 t760 t761 t762 t763 t764 t765 t768 t769 t770).bind fun t773 => (if t773 = true then (undo_Get.j0 k true t757 t758 t759 t760 t761 t762 t763 t764 t765 t768 t769 t770) else (undo_Get.j0 k (t758 != a1_1) t757 t758 t759 t760 t761 t762 t763 t764 t765 t768 t769 t770))) else (undo_Get.j0 k true t757 t758 t759 t760 t761 t762 t763 t764 t765 t768 t769 t770))) = some (r1,r2,r3,r4,r5,r6,r7,r8,r9,r10,r11,r12,r13):=H
 have A3:=Aside0.mk A30
 clear A30
 have HC4:=Aside0.mk H
 clear H
 go_enter Try.func17,Try.ntmps17
 go_upto_region 2 with (first | ((with_reducible refine gate_dst (N:=3) rfl ?_);refine box_event ?hg (N:=3) ?hd (cs:=#[.int .i64 a1_0,.int .i64 a1_1]) (t:=28) ?hr ?_;(case hd => rfl);(case hg => rfl);(case hr => first | (go_simp;done) | (go_simp;rfl));intro gb755 hg w5 hbox hb;have n0_:=Aside0.mk (below_step (by repeat (first | (with_reducible first | exact HB.out | apply below_alloc | apply pw_below_drewN | apply below_drew1) | exact HB.out)) hb);have n1_:=Aside0.mk (hbox);have n2_:=Aside0.mk ((by rw [hg];exact (below_size (by repeat (first | (with_reducible first | exact HB.out | apply below_alloc | apply pw_below_drewN | apply below_drew1) | exact HB.out))) : w.heap.size ≤ gb755));have n3_:=Aside0.mk ((by rw [hg];exact (below_size (by repeat (first | (with_reducible first | exact HB.out | apply below_alloc | apply pw_below_drewN | apply below_drew1) | exact HB.out))) : w.heap.size ≤ gb755));clear HB;have HB:=n0_;have BK755:=n1_;have GW755:=n2_;have GE755:=n3_;clear n0_ n1_ n2_ n3_;clear hb hbox hg) | ((with_reducible refine gate_dst (N:=4) rfl ?_);refine box_event ?hg (N:=4) ?hd (cs:=#[.int .i64 0,.int .i64 0,.int .i64 0,.int .i64 0,.int .i64 0,.int .i64 0,.float .f64 0,.bool false,.slice none 0 0,.int .i64 0,.int .i64 0,.int .i64 0]) (t:=32) ?hr ?_;(case hd => rfl);(case hg => rfl);(case hr => first | (go_simp;done) | (go_simp;rfl));intro gb756 hg w6 hbox hb;have n0_:=Aside0.mk (blk_below (g:=gb755) (o:=.cells #[.int .i64 a1_0,.int .i64 a1_1] 28 (0,0)) (by (with_reducible repeat (first | refine blk_drewN ?_ _ | refine blk_drew ?_ | refine blk_alloc ?_ _));exact BK755.out) hb);have n1_:=Aside0.mk (below_step (by repeat (first | (with_reducible first | exact HB.out | apply below_alloc | apply pw_below_drewN | apply below_drew1 | refine below_set ?_ GE755.out) | exact HB.out)) hb);have n2_:=Aside0.mk (hbox);have n3_:=Aside0.mk ((by rw [hg];exact (below_size (by repeat (first | (with_reducible first | exact HB.out | apply below_alloc | apply pw_below_drewN | apply below_drew1 | refine below_set ?_ GE755.out) | exact HB.out))) : w.heap.size ≤ gb756));have n4_:=Aside0.mk ((by rw [hg];exact (below_size (by repeat (first | (with_reducible first | exact HB.out | apply below_alloc | apply pw_below_drewN | apply below_drew1 | refine below_set ?_ GE755.out) | exact HB.out))) : w.heap.size ≤ gb756));have n5_:=Aside0.mk ((by rw [hg];exact Nat.ne_of_lt (blk_lt (g:=gb755) (o:=.cells #[.int .i64 a1_0,.int .i64 a1_1] 28 (0,0)) (by (with_reducible repeat (first | refine blk_drewN ?_ _ | refine blk_drew ?_ | refine blk_alloc ?_ _));exact BK755.out)) : gb755 ≠ gb756));have n6_:=Aside0.mk ((by rw [hg];exact Nat.ne_of_gt (blk_lt (g:=gb755) (o:=.cells #[.int .i64 a1_0,.int .i64 a1_1] 28 (0,0)) (by (with_reducible repeat (first | refine blk_drewN ?_ _ | refine blk_drew ?_ | refine blk_alloc ?_ _));exact BK755.out)) : gb756 ≠ gb755));clear BK755;clear HB;have BK755:=n0_;have HB:=n1_;have BK756:=n2_;have GW756:=n3_;have GE756:=n4_;have NB755_756:=n5_;have NB756_755:=n6_;clear n0_ n1_ n2_ n3_ n4_ n5_ n6_;clear hb hbox hg;have hnb7:=NB755_756.out;have hnc7:=NB756_755.out;have hcz8_0 : w6.cell? ⟨gb755,0,none⟩ = some (.int .i64 a1_0):=(blk_cell BK755.out 0).trans rfl;have hcz8_1 : w6.cell? ⟨gb755,1,none⟩ = some (.int .i64 a1_1):=(blk_cell BK755.out 1).trans rfl;have hfz8_0:=blk_frozen BK755.out 0;have hfz8_1:=blk_frozen BK755.out 1) | ((with_reducible refine gate_callee (f:=59) rfl ?_);refine goesL_ (some 10) rfl rfl Try.func59 (by kernel_rfl) rfl #[.slice A0 l0.length c0,.int .i64 a1_0] rfl (by (try simp only [List.map_toArray,List.map_cons,List.map_nil]);first | done | rfl | (simp only [List.length_drop,List.length_take];rfl)) ?_;(with_reducible refine (undo_at.calls (fun k_ => k_ < w.heap.size) _ _ l0 a1_0 t757 t758 t759 t760 t761 t762 t763 t764 t765 t768 t769 t770 _ ?side1 A3.out).mono ?_);(case side1 => exact Kd.V_mk HC0.out (Kd.F_below (Kd.C_F k32_heap HR0.out) (by repeat (first | (with_reducible first | exact HB.out | apply below_alloc | apply pw_below_drewN | apply below_drew1 | refine below_set ?_ GE755.out | refine below_set ?_ GE756.out) | exact HB.out))));rintro e w9 ⟨v766,rfl,ho0,hb⟩;refine ⟨_,rfl,?_⟩;have n0_:=Aside0.mk (Kd.V_lower (Kd.V_mono (ok':=fun k_ => k_ ≠ gb755 ∧ k_ ≠ gb756) ho0 (fun k_ hk_ => ⟨Or.elim hk_ (fun hs_ => fun e_ => Nat.not_le.2 hs_ (by rw [e_];exact GW755.out)) (fun hn_ => (Kd.freshB (g:=gb755) (o:=.cells #[.int .i64 a1_0,.int .i64 a1_1] 28 (0,0)) (by (with_reducible repeat (first | refine blk_drewN ?_ _ | refine blk_drew ?_ | refine blk_alloc ?_ _));exact BK755.out) k_ hn_)),Or.elim hk_ (fun hs_ => fun e_ => Nat.not_le.2 hs_ (by rw [e_];exact GW756.out)) (fun hn_ => (Kd.freshB (g:=gb756) (o:=.cells #[.int .i64 0,.int .i64 0,.int .i64 0,.int .i64 0,.int .i64 0,.int .i64 0,.float .f64 0,.bool false,.slice none 0 0,.int .i64 0,.int .i64 0,.int .i64 0] 32 (0,0)) (by (with_reducible repeat (first | refine blk_drewN ?_ _ | refine blk_drew ?_ | refine blk_alloc ?_ _));exact BK756.out) k_ hn_))⟩)) (below_size (by repeat (first | (with_reducible first | exact HB.out | apply below_alloc | apply pw_below_drewN | apply below_drew1 | refine below_set ?_ GE755.out | refine below_set ?_ GE756.out) | exact HB.out))));have n1_:=Aside0.mk (blk_below (g:=gb755) (o:=.cells #[.int .i64 a1_0,.int .i64 a1_1] 28 (0,0)) (by (with_reducible repeat (first | refine blk_drewN ?_ _ | refine blk_drew ?_ | refine blk_alloc ?_ _));exact BK755.out) hb);have n2_:=Aside0.mk (blk_below (g:=gb756) (o:=.cells #[.int .i64 0,.int .i64 0,.int .i64 0,.int .i64 0,.int .i64 0,.int .i64 0,.float .f64 0,.bool false,.slice none 0 0,.int .i64 0,.int .i64 0,.int .i64 0] 32 (0,0)) (by (with_reducible repeat (first | refine blk_drewN ?_ _ | refine blk_drew ?_ | refine blk_alloc ?_ _));exact BK756.out) hb);have n3_:=Aside0.mk (below_step (by repeat (first | (with_reducible first | exact HB.out | apply below_alloc | apply pw_below_drewN | apply below_drew1 | refine below_set ?_ GE755.out | refine below_set ?_ GE756.out) | exact HB.out)) hb);clear BK755;clear BK756;clear HB;have HO767:=n0_;have BK755:=n1_;have BK756:=n2_;have HB:=n3_;clear n0_ n1_ n2_ n3_;(try clear hb);(try clear hb2);(try clear hk);(try clear hi);(try clear ho0)) | ((with_reducible refine gate_dst (N:=6) rfl ?_);refine box_event ?hg (N:=6) ?hd (cs:=#[.int .i64 0,.int .i64 0,.int .i64 0,.int .i64 0,.int .i64 0,.int .i64 0,.float .f64 0,.bool false,.slice none 0 0,.int .i64 0,.int .i64 0,.int .i64 0]) (t:=32) ?hr ?_;(case hd => rfl);(case hg => rfl);(case hr => first | (go_simp;done) | (go_simp;rfl));intro gb771 hg w10 hbox hb;have n0_:=Aside0.mk (Kd.V_below (Kd.V_elderB (by (with_reducible repeat (first | apply Kd.V_alloc | apply Kd.V_drewN | apply Kd.V_drew));exact HO767.out) gb771 (Nat.le_of_eq hg.symm)) hb);have n1_:=Aside0.mk (blk_below (g:=gb755) (o:=.cells #[.int .i64 a1_0,.int .i64 a1_1] 28 (0,0)) (by (with_reducible repeat (first | refine blk_drewN ?_ _ | refine blk_drew ?_ | refine blk_alloc ?_ _));exact BK755.out) hb);have n2_:=Aside0.mk (blk_below (g:=gb756) (o:=.cells #[.int .i64 0,.int .i64 0,.int .i64 0,.int .i64 0,.int .i64 0,.int .i64 0,.float .f64 0,.bool false,.slice none 0 0,.int .i64 0,.int .i64 0,.int .i64 0] 32 (0,0)) (by (with_reducible repeat (first | refine blk_drewN ?_ _ | refine blk_drew ?_ | refine blk_alloc ?_ _));exact BK756.out) hb);have n3_:=Aside0.mk (below_step (by repeat (first | (with_reducible first | exact HB.out | apply below_alloc | apply pw_below_drewN | apply below_drew1 | refine below_set ?_ GE755.out | refine below_set ?_ GE756.out) | exact HB.out)) hb);have n4_:=Aside0.mk (hbox);have n5_:=Aside0.mk ((by rw [hg];exact (below_size (by repeat (first | (with_reducible first | exact HB.out | apply below_alloc | apply pw_below_drewN | apply below_drew1 | refine below_set ?_ GE755.out | refine below_set ?_ GE756.out) | exact HB.out))) : w.heap.size ≤ gb771));have n6_:=Aside0.mk ((by rw [hg];exact (below_size (by repeat (first | (with_reducible first | exact HB.out | apply below_alloc | apply pw_below_drewN | apply below_drew1 | refine below_set ?_ GE755.out | refine below_set ?_ GE756.out) | exact HB.out))) : w.heap.size ≤ gb771));have n7_:=Aside0.mk ((by rw [hg];exact Nat.ne_of_lt (blk_lt (g:=gb755) (o:=.cells #[.int .i64 a1_0,.int .i64 a1_1] 28 (0,0)) (by (with_reducible repeat (first | refine blk_drewN ?_ _ | refine blk_drew ?_ | refine blk_alloc ?_ _));exact BK755.out)) : gb755 ≠ gb771));have n8_:=Aside0.mk ((by rw [hg];exact Nat.ne_of_gt (blk_lt (g:=gb755) (o:=.cells #[.int .i64 a1_0,.int .i64 a1_1] 28 (0,0)) (by (with_reducible repeat (first | refine blk_drewN ?_ _ | refine blk_drew ?_ | refine blk_alloc ?_ _));exact BK755.out)) : gb771 ≠ gb755));have n9_:=Aside0.mk ((by rw [hg];exact Nat.ne_of_lt (blk_lt (g:=gb756) (o:=.cells #[.int .i64 0,.int .i64 0,.int .i64 0,.int .i64 0,.int .i64 0,.int .i64 0,.float .f64 0,.bool false,.slice none 0 0,.int .i64 0,.int .i64 0,.int .i64 0] 32 (0,0)) (by (with_reducible repeat (first | refine blk_drewN ?_ _ | refine blk_drew ?_ | refine blk_alloc ?_ _));exact BK756.out)) : gb756 ≠ gb771));have n10_:=Aside0.mk ((by rw [hg];exact Nat.ne_of_gt (blk_lt (g:=gb756) (o:=.cells #[.int .i64 0,.int .i64 0,.int .i64 0,.int .i64 0,.int .i64 0,.int .i64 0,.float .f64 0,.bool false,.slice none 0 0,.int .i64 0,.int .i64 0,.int .i64 0] 32 (0,0)) (by (with_reducible repeat (first | refine blk_drewN ?_ _ | refine blk_drew ?_ | refine blk_alloc ?_ _));exact BK756.out)) : gb771 ≠ gb756));clear HO767;clear BK755;clear BK756;clear HB;have HO767:=n0_;have BK755:=n1_;have BK756:=n2_;have HB:=n3_;have BK771:=n4_;have GW771:=n5_;have GE771:=n6_;have NB755_771:=n7_;have NB771_755:=n8_;have NB756_771:=n9_;have NB771_756:=n10_;clear n0_ n1_ n2_ n3_ n4_ n5_ n6_ n7_ n8_ n9_ n10_;clear hb hbox hg;have hnb11:=NB771_755.out;have hnc11:=NB755_771.out;have hnb12:=NB771_756.out;have hnc12:=NB756_771.out;obtain ⟨hcz13_0,hcz13_1,hcz13_2,hcz13_3,hcz13_4,hcz13_5,hcz13_6,hcz13_7,hcz13_8,hcz13_9,hcz13_10,hcz13_11⟩:=blkc_12 BK771.out;obtain ⟨hfz13_0,hfz13_1,hfz13_2,hfz13_3,hfz13_4,hfz13_5,hfz13_6,hfz13_7,hfz13_8,hfz13_9,hfz13_10,hfz13_11⟩:=blkz_12 BK771.out;obtain ⟨Ao14,co14,eo14⟩:=Kd.V_slice HO767.out;subst eo14))
 (try simp only [Act.put,List.setIfInBounds_toArray,List.set_cons_zero,List.set_cons_succ])
 go_cut [24] (fun v24 wc => ∃ (kq : Nat) (x24_3 : Bool),v24 = .bool x24_3 ∧ Aside0 (undo_Get.j0 kq x24_3 t757 t758 t759 t760 t761 t762 t763 t764 t765 t768 t769 t770 = some (r1,r2,r3,r4,r5,r6,r7,r8,r9,r10,r11,r12,r13)) ∧ Aside0 (kq ≤ k) ∧ Aside0 (Kd.V Kd.f64 25 wc w.heap.size (fun k_ => k_ ≠ gb755 ∧ k_ ≠ gb756 ∧ k_ ≠ gb771) (.slice Ao14 t765.length co14) t765) ∧ Aside0 (wc.heap[gb755]? = some (.cells #[.int .i64 a1_0,.int .i64 a1_1] 28 (0,0))) ∧ Aside0 (wc.heap[gb756]? = some (.cells #[.int .i64 0,.int .i64 0,.int .i64 0,.int .i64 0,.int .i64 0,.int .i64 0,.float .f64 0,.bool false,(.slice none 0 0),.int .i64 0,.int .i64 0,.int .i64 0] 32 (0,0))) ∧ Aside0 (wc.heap[gb771]? = some (.cells #[.int .i64 t757,.int .i64 t758,.int .i64 t759,.int .i64 t760,.int .i64 t761,.int .i64 t762,.float .f64 t763,.bool t764,(.slice Ao14 t765.length co14),.int .i64 t768,.int .i64 t769,.int .i64 t770] 32 (0,0))) ∧ Aside0 (Below w.heap.size w wc))
 case first =>
  have H:=HC4.out
  clear HC4
  replace H:=Option.bind_eq_some_iff.mp H
  obtain ⟨t772,A150,H⟩:=H
  replace H : (if t772 = 0 then ((undo_empty.f t757 t758 t759 t760 t761 t762 t763 t764 t765 t768 t769 t770).bind fun t773 => (if t773 = true then (undo_Get.j0 k true t757 t758 t759 t760 t761 t762 t763 t764 t765 t768 t769 t770) else (undo_Get.j0 k (t758 != a1_1) t757 t758 t759 t760 t761 t762 t763 t764 t765 t768 t769 t770))) else (undo_Get.j0 k true t757 t758 t759 t760 t761 t762 t763 t764 t765 t768 t769 t770)) = some (r1,r2,r3,r4,r5,r6,r7,r8,r9,r10,r11,r12,r13):=H
  have A15:=Aside0.mk A150
  clear A150
  by_cases c16 : t772 = 0
  ·rw [if_pos c16] at H
   have c16b0 : (t772 == 0) = true:=beq_iff_eq.mpr c16
   have c16b1 : (t772 != 0) = false:=bne_eq_false_iff_eq.mpr c16
   clear c16
   (first | rw [c16b0] | (simp only [i64_w,i32_w];rw [c16b0]) | skip)
   replace H:=Option.bind_eq_some_iff.mp H
   obtain ⟨t773,A170,H⟩:=H
   replace H : (if t773 = true then (undo_Get.j0 k true t757 t758 t759 t760 t761 t762 t763 t764 t765 t768 t769 t770) else (undo_Get.j0 k (t758 != a1_1) t757 t758 t759 t760 t761 t762 t763 t764 t765 t768 t769 t770)) = some (r1,r2,r3,r4,r5,r6,r7,r8,r9,r10,r11,r12,r13):=H
   have A17:=Aside0.mk A170
   clear A170
   by_cases c18 : t773 = true
   ·subst c18
    have H1 : (undo_Get.j0 k true t757 t758 t759 t760 t761 t762 t763 t764 t765 t768 t769 t770) = some (r1,r2,r3,r4,r5,r6,r7,r8,r9,r10,r11,r12,r13):=by rw [if_pos rfl] at H;exact H
    clear H
    have H:=H1
    clear H1
    have H':=Aside0.mk H
    clear H
    go_wp2_with (first | ((with_reducible refine gate_callee (f:=22) rfl ?_);refine goesL_ (some 12) rfl rfl Try.func22 (by kernel_rfl) rfl #[.slice A0 l0.length c0] rfl (by (try simp only [List.map_toArray,List.map_cons,List.map_nil]);first | done | rfl | (simp only [List.length_drop,List.length_take];rfl)) ?_;(with_reducible refine (undo_Check.calls _ _ l0 t772 _ ?side1 ?side2 A15.out).mono ?_);(case side1 => exact Kd.C_below HR0.out (by repeat (first | (with_reducible first | exact HB.out | apply below_alloc | apply pw_below_drewN | apply below_drew1 | refine below_set ?_ GE755.out | refine below_set ?_ GE756.out | refine below_set ?_ GE771.out) | exact HB.out)));(case side2 => exact HC0.out);rintro e w19 ⟨rfl,hb⟩;refine ⟨_,rfl,?_⟩;have n0_:=Aside0.mk (Kd.V_below (by (with_reducible repeat (first | apply Kd.V_alloc | apply Kd.V_drewN | apply Kd.V_drew));exact (Kd.V_mono (Kd.V_far (p:=⟨gb771,11,none⟩) (Kd.V_far (p:=⟨gb771,10,none⟩) (Kd.V_far (p:=⟨gb771,9,none⟩) (Kd.V_far (p:=⟨gb771,8,none⟩) (Kd.V_far (p:=⟨gb771,7,none⟩) (Kd.V_far (p:=⟨gb771,6,none⟩) (Kd.V_far (p:=⟨gb771,5,none⟩) (Kd.V_far (p:=⟨gb771,4,none⟩) (Kd.V_far (p:=⟨gb771,3,none⟩) (Kd.V_far (p:=⟨gb771,2,none⟩) (Kd.V_far (p:=⟨gb771,1,none⟩) (Kd.V_far (p:=⟨gb771,0,none⟩) (Kd.V_mono HO767.out (fun k_ hk => (⟨hk,hk.2⟩ : _ ∧ k_ ≠ gb771))) (fun _ hk => hk.2) (.int .i64 t757)) (fun _ hk => hk.2) (.int .i64 t758)) (fun _ hk => hk.2) (.int .i64 t759)) (fun _ hk => hk.2) (.int .i64 t760)) (fun _ hk => hk.2) (.int .i64 t761)) (fun _ hk => hk.2) (.int .i64 t762)) (fun _ hk => hk.2) (.float .f64 t763)) (fun _ hk => hk.2) (.bool t764)) (fun _ hk => hk.2) (.slice Ao14 t765.length co14)) (fun _ hk => hk.2) (.int .i64 t768)) (fun _ hk => hk.2) (.int .i64 t769)) (fun _ hk => hk.2) (.int .i64 t770)) (fun _ h_ => h_.1))) hb);have n1_:=Aside0.mk (blk_below (g:=gb755) (o:=.cells #[.int .i64 a1_0,.int .i64 a1_1] 28 (0,0)) (by (with_reducible repeat (first | refine blk_drewN ?_ _ | refine blk_drew ?_ | refine blk_alloc ?_ _));refine blk_far ?_ NB755_771.out _;(with_reducible repeat (first | refine blk_drewN ?_ _ | refine blk_drew ?_ | refine blk_alloc ?_ _));refine blk_far ?_ NB755_771.out _;(with_reducible repeat (first | refine blk_drewN ?_ _ | refine blk_drew ?_ | refine blk_alloc ?_ _));refine blk_far ?_ NB755_771.out _;(with_reducible repeat (first | refine blk_drewN ?_ _ | refine blk_drew ?_ | refine blk_alloc ?_ _));refine blk_far ?_ NB755_771.out _;(with_reducible repeat (first | refine blk_drewN ?_ _ | refine blk_drew ?_ | refine blk_alloc ?_ _));refine blk_far ?_ NB755_771.out _;(with_reducible repeat (first | refine blk_drewN ?_ _ | refine blk_drew ?_ | refine blk_alloc ?_ _));refine blk_far ?_ NB755_771.out _;(with_reducible repeat (first | refine blk_drewN ?_ _ | refine blk_drew ?_ | refine blk_alloc ?_ _));refine blk_far ?_ NB755_771.out _;(with_reducible repeat (first | refine blk_drewN ?_ _ | refine blk_drew ?_ | refine blk_alloc ?_ _));refine blk_far ?_ NB755_771.out _;(with_reducible repeat (first | refine blk_drewN ?_ _ | refine blk_drew ?_ | refine blk_alloc ?_ _));refine blk_far ?_ NB755_771.out _;(with_reducible repeat (first | refine blk_drewN ?_ _ | refine blk_drew ?_ | refine blk_alloc ?_ _));refine blk_far ?_ NB755_771.out _;(with_reducible repeat (first | refine blk_drewN ?_ _ | refine blk_drew ?_ | refine blk_alloc ?_ _));refine blk_far ?_ NB755_771.out _;(with_reducible repeat (first | refine blk_drewN ?_ _ | refine blk_drew ?_ | refine blk_alloc ?_ _));refine blk_far ?_ NB755_771.out _;(with_reducible repeat (first | refine blk_drewN ?_ _ | refine blk_drew ?_ | refine blk_alloc ?_ _));exact BK755.out) hb);have n2_:=Aside0.mk (blk_below (g:=gb756) (o:=.cells #[.int .i64 0,.int .i64 0,.int .i64 0,.int .i64 0,.int .i64 0,.int .i64 0,.float .f64 0,.bool false,.slice none 0 0,.int .i64 0,.int .i64 0,.int .i64 0] 32 (0,0)) (by (with_reducible repeat (first | refine blk_drewN ?_ _ | refine blk_drew ?_ | refine blk_alloc ?_ _));refine blk_far ?_ NB756_771.out _;(with_reducible repeat (first | refine blk_drewN ?_ _ | refine blk_drew ?_ | refine blk_alloc ?_ _));refine blk_far ?_ NB756_771.out _;(with_reducible repeat (first | refine blk_drewN ?_ _ | refine blk_drew ?_ | refine blk_alloc ?_ _));refine blk_far ?_ NB756_771.out _;(with_reducible repeat (first | refine blk_drewN ?_ _ | refine blk_drew ?_ | refine blk_alloc ?_ _));refine blk_far ?_ NB756_771.out _;(with_reducible repeat (first | refine blk_drewN ?_ _ | refine blk_drew ?_ | refine blk_alloc ?_ _));refine blk_far ?_ NB756_771.out _;(with_reducible repeat (first | refine blk_drewN ?_ _ | refine blk_drew ?_ | refine blk_alloc ?_ _));refine blk_far ?_ NB756_771.out _;(with_reducible repeat (first | refine blk_drewN ?_ _ | refine blk_drew ?_ | refine blk_alloc ?_ _));refine blk_far ?_ NB756_771.out _;(with_reducible repeat (first | refine blk_drewN ?_ _ | refine blk_drew ?_ | refine blk_alloc ?_ _));refine blk_far ?_ NB756_771.out _;(with_reducible repeat (first | refine blk_drewN ?_ _ | refine blk_drew ?_ | refine blk_alloc ?_ _));refine blk_far ?_ NB756_771.out _;(with_reducible repeat (first | refine blk_drewN ?_ _ | refine blk_drew ?_ | refine blk_alloc ?_ _));refine blk_far ?_ NB756_771.out _;(with_reducible repeat (first | refine blk_drewN ?_ _ | refine blk_drew ?_ | refine blk_alloc ?_ _));refine blk_far ?_ NB756_771.out _;(with_reducible repeat (first | refine blk_drewN ?_ _ | refine blk_drew ?_ | refine blk_alloc ?_ _));refine blk_far ?_ NB756_771.out _;(with_reducible repeat (first | refine blk_drewN ?_ _ | refine blk_drew ?_ | refine blk_alloc ?_ _));exact BK756.out) hb);have n3_:=Aside0.mk (blk_below (g:=gb771) (o:=.cells #[.int .i64 t757,.int .i64 t758,.int .i64 t759,.int .i64 t760,.int .i64 t761,.int .i64 t762,.float .f64 t763,.bool t764,.slice Ao14 t765.length co14,.int .i64 t768,.int .i64 t769,.int .i64 t770] 32 (0,0)) (by (with_reducible repeat (first | refine blk_drewN ?_ _ | refine blk_drew ?_ | refine blk_alloc ?_ _));apply blkf_12_0_11;(with_reducible repeat (first | refine blk_drewN ?_ _ | refine blk_drew ?_ | refine blk_alloc ?_ _));exact BK771.out) hb);have n4_:=Aside0.mk (below_step (by repeat (first | (with_reducible first | exact HB.out | apply below_alloc | apply pw_below_drewN | apply below_drew1 | refine below_set ?_ GE755.out | refine below_set ?_ GE756.out | refine below_set ?_ GE771.out) | exact HB.out)) hb);clear HO767;clear BK755;clear BK756;clear BK771;clear HB;have HO767:=n0_;have BK755:=n1_;have BK756:=n2_;have BK771:=n3_;have HB:=n4_;clear n0_ n1_ n2_ n3_ n4_;(try clear hb);(try clear hb2);(try clear hk);(try clear hi);have hnb20:=NB771_755.out;have hnc20:=NB755_771.out;have hnb21:=NB771_756.out;have hnc21:=NB756_771.out;obtain ⟨hcz22_0,hcz22_1,hcz22_2,hcz22_3,hcz22_4,hcz22_5,hcz22_6,hcz22_7,hcz22_8,hcz22_9,hcz22_10,hcz22_11⟩:=blkc_12 BK771.out;obtain ⟨hfz22_0,hfz22_1,hfz22_2,hfz22_3,hfz22_4,hfz22_5,hfz22_6,hfz22_7,hfz22_8,hfz22_9,hfz22_10⟩:=blkz_11 BK771.out;have hfz22_11:=blk_frozen BK771.out 11) | (go_at_call 58;(with_reducible refine (undo_empty.calls t757 t758 t759 t760 t761 t762 t763 t764 _ _ t765 t768 t769 t770 true _ ?side1 ?side2 A17.out).mono ?_);(case side1 => repeat (first | exact (Kd.V_reads' HO767.out).2.2 | (with_reducible refine Kd.C_alloc ?_ _) | (with_reducible refine Kd.C_drewN ?_ _) | (with_reducible refine Kd.C_drew ?_)));(case side2 => exact (Kd.V_reads' HO767.out).2.1);rintro e w23 ⟨rfl,hb⟩;have n0_:=Aside0.mk (Kd.V_below (by (with_reducible repeat (first | apply Kd.V_alloc | apply Kd.V_drewN | apply Kd.V_drew));exact HO767.out) hb);have n1_:=Aside0.mk (blk_below (g:=gb755) (o:=.cells #[.int .i64 a1_0,.int .i64 a1_1] 28 (0,0)) (by (with_reducible repeat (first | refine blk_drewN ?_ _ | refine blk_drew ?_ | refine blk_alloc ?_ _));exact BK755.out) hb);have n2_:=Aside0.mk (blk_below (g:=gb756) (o:=.cells #[.int .i64 0,.int .i64 0,.int .i64 0,.int .i64 0,.int .i64 0,.int .i64 0,.float .f64 0,.bool false,.slice none 0 0,.int .i64 0,.int .i64 0,.int .i64 0] 32 (0,0)) (by (with_reducible repeat (first | refine blk_drewN ?_ _ | refine blk_drew ?_ | refine blk_alloc ?_ _));exact BK756.out) hb);have n3_:=Aside0.mk (blk_below (g:=gb771) (o:=.cells #[.int .i64 t757,.int .i64 t758,.int .i64 t759,.int .i64 t760,.int .i64 t761,.int .i64 t762,.float .f64 t763,.bool t764,.slice Ao14 t765.length co14,.int .i64 t768,.int .i64 t769,.int .i64 t770] 32 (0,0)) (by (with_reducible repeat (first | refine blk_drewN ?_ _ | refine blk_drew ?_ | refine blk_alloc ?_ _));exact BK771.out) hb);have n4_:=Aside0.mk (below_step (by repeat (first | (with_reducible first | exact HB.out | apply below_alloc | apply pw_below_drewN | apply below_drew1 | refine below_set ?_ GE755.out | refine below_set ?_ GE756.out | refine below_set ?_ GE771.out) | exact HB.out)) hb);clear HO767;clear BK755;clear BK756;clear BK771;clear HB;have HO767:=n0_;have BK755:=n1_;have BK756:=n2_;have BK771:=n3_;have HB:=n4_;clear n0_ n1_ n2_ n3_ n4_;(try clear hb);(try clear hb2);(try clear hk);(try clear hi)))
    go_meet
    case rel => exact ⟨_,(true),(by first | rfl | (simp;done) | (simp [*];done)),H',⟨by first | omega | exact Nat.le_refl _⟩,⟨by (with_reducible repeat (first | apply Kd.V_alloc | apply Kd.V_drewN | apply Kd.V_drew));exact Kd.V_mono HO767.out (fun _ hk => ⟨hk.1.1,⟨hk.1.2,hk.2⟩⟩)⟩,⟨by (with_reducible repeat (first | refine blk_drewN ?_ _ | refine blk_drew ?_ | refine blk_alloc ?_ _));exact BK755.out⟩,⟨by (with_reducible repeat (first | refine blk_drewN ?_ _ | refine blk_drew ?_ | refine blk_alloc ?_ _));exact BK756.out⟩,⟨by (with_reducible repeat (first | refine blk_drewN ?_ _ | refine blk_drew ?_ | refine blk_alloc ?_ _));exact BK771.out⟩,⟨by repeat (first | (with_reducible first | exact HB.out | apply below_alloc | apply pw_below_drewN | apply below_drew1 | refine below_set ?_ GE755.out | refine below_set ?_ GE756.out | refine below_set ?_ GE771.out) | exact HB.out)⟩⟩
   ·replace c18:=Bool.eq_false_iff.mpr c18
    subst c18
    have H1 : (undo_Get.j0 k (t758 != a1_1) t757 t758 t759 t760 t761 t762 t763 t764 t765 t768 t769 t770) = some (r1,r2,r3,r4,r5,r6,r7,r8,r9,r10,r11,r12,r13):=by rw [if_neg (show ¬ (false = true) by decide)] at H;exact H
    clear H
    have H:=H1
    clear H1
    have H':=Aside0.mk H
    clear H
    go_wp2_with (first | ((with_reducible refine gate_callee (f:=22) rfl ?_);refine goesL_ (some 12) rfl rfl Try.func22 (by kernel_rfl) rfl #[.slice A0 l0.length c0] rfl (by (try simp only [List.map_toArray,List.map_cons,List.map_nil]);first | done | rfl | (simp only [List.length_drop,List.length_take];rfl)) ?_;(with_reducible refine (undo_Check.calls _ _ l0 t772 _ ?side1 ?side2 A15.out).mono ?_);(case side1 => exact Kd.C_below HR0.out (by repeat (first | (with_reducible first | exact HB.out | apply below_alloc | apply pw_below_drewN | apply below_drew1 | refine below_set ?_ GE755.out | refine below_set ?_ GE756.out | refine below_set ?_ GE771.out) | exact HB.out)));(case side2 => exact HC0.out);rintro e w24 ⟨rfl,hb⟩;refine ⟨_,rfl,?_⟩;have n0_:=Aside0.mk (Kd.V_below (by (with_reducible repeat (first | apply Kd.V_alloc | apply Kd.V_drewN | apply Kd.V_drew));exact (Kd.V_mono (Kd.V_far (p:=⟨gb771,11,none⟩) (Kd.V_far (p:=⟨gb771,10,none⟩) (Kd.V_far (p:=⟨gb771,9,none⟩) (Kd.V_far (p:=⟨gb771,8,none⟩) (Kd.V_far (p:=⟨gb771,7,none⟩) (Kd.V_far (p:=⟨gb771,6,none⟩) (Kd.V_far (p:=⟨gb771,5,none⟩) (Kd.V_far (p:=⟨gb771,4,none⟩) (Kd.V_far (p:=⟨gb771,3,none⟩) (Kd.V_far (p:=⟨gb771,2,none⟩) (Kd.V_far (p:=⟨gb771,1,none⟩) (Kd.V_far (p:=⟨gb771,0,none⟩) (Kd.V_mono HO767.out (fun k_ hk => (⟨hk,hk.2⟩ : _ ∧ k_ ≠ gb771))) (fun _ hk => hk.2) (.int .i64 t757)) (fun _ hk => hk.2) (.int .i64 t758)) (fun _ hk => hk.2) (.int .i64 t759)) (fun _ hk => hk.2) (.int .i64 t760)) (fun _ hk => hk.2) (.int .i64 t761)) (fun _ hk => hk.2) (.int .i64 t762)) (fun _ hk => hk.2) (.float .f64 t763)) (fun _ hk => hk.2) (.bool t764)) (fun _ hk => hk.2) (.slice Ao14 t765.length co14)) (fun _ hk => hk.2) (.int .i64 t768)) (fun _ hk => hk.2) (.int .i64 t769)) (fun _ hk => hk.2) (.int .i64 t770)) (fun _ h_ => h_.1))) hb);have n1_:=Aside0.mk (blk_below (g:=gb755) (o:=.cells #[.int .i64 a1_0,.int .i64 a1_1] 28 (0,0)) (by (with_reducible repeat (first | refine blk_drewN ?_ _ | refine blk_drew ?_ | refine blk_alloc ?_ _));refine blk_far ?_ NB755_771.out _;(with_reducible repeat (first | refine blk_drewN ?_ _ | refine blk_drew ?_ | refine blk_alloc ?_ _));refine blk_far ?_ NB755_771.out _;(with_reducible repeat (first | refine blk_drewN ?_ _ | refine blk_drew ?_ | refine blk_alloc ?_ _));refine blk_far ?_ NB755_771.out _;(with_reducible repeat (first | refine blk_drewN ?_ _ | refine blk_drew ?_ | refine blk_alloc ?_ _));refine blk_far ?_ NB755_771.out _;(with_reducible repeat (first | refine blk_drewN ?_ _ | refine blk_drew ?_ | refine blk_alloc ?_ _));refine blk_far ?_ NB755_771.out _;(with_reducible repeat (first | refine blk_drewN ?_ _ | refine blk_drew ?_ | refine blk_alloc ?_ _));refine blk_far ?_ NB755_771.out _;(with_reducible repeat (first | refine blk_drewN ?_ _ | refine blk_drew ?_ | refine blk_alloc ?_ _));refine blk_far ?_ NB755_771.out _;(with_reducible repeat (first | refine blk_drewN ?_ _ | refine blk_drew ?_ | refine blk_alloc ?_ _));refine blk_far ?_ NB755_771.out _;(with_reducible repeat (first | refine blk_drewN ?_ _ | refine blk_drew ?_ | refine blk_alloc ?_ _));refine blk_far ?_ NB755_771.out _;(with_reducible repeat (first | refine blk_drewN ?_ _ | refine blk_drew ?_ | refine blk_alloc ?_ _));refine blk_far ?_ NB755_771.out _;(with_reducible repeat (first | refine blk_drewN ?_ _ | refine blk_drew ?_ | refine blk_alloc ?_ _));refine blk_far ?_ NB755_771.out _;(with_reducible repeat (first | refine blk_drewN ?_ _ | refine blk_drew ?_ | refine blk_alloc ?_ _));refine blk_far ?_ NB755_771.out _;(with_reducible repeat (first | refine blk_drewN ?_ _ | refine blk_drew ?_ | refine blk_alloc ?_ _));exact BK755.out) hb);have n2_:=Aside0.mk (blk_below (g:=gb756) (o:=.cells #[.int .i64 0,.int .i64 0,.int .i64 0,.int .i64 0,.int .i64 0,.int .i64 0,.float .f64 0,.bool false,.slice none 0 0,.int .i64 0,.int .i64 0,.int .i64 0] 32 (0,0)) (by (with_reducible repeat (first | refine blk_drewN ?_ _ | refine blk_drew ?_ | refine blk_alloc ?_ _));refine blk_far ?_ NB756_771.out _;(with_reducible repeat (first | refine blk_drewN ?_ _ | refine blk_drew ?_ | refine blk_alloc ?_ _));refine blk_far ?_ NB756_771.out _;(with_reducible repeat (first | refine blk_drewN ?_ _ | refine blk_drew ?_ | refine blk_alloc ?_ _));refine blk_far ?_ NB756_771.out _;(with_reducible repeat (first | refine blk_drewN ?_ _ | refine blk_drew ?_ | refine blk_alloc ?_ _));refine blk_far ?_ NB756_771.out _;(with_reducible repeat (first | refine blk_drewN ?_ _ | refine blk_drew ?_ | refine blk_alloc ?_ _));refine blk_far ?_ NB756_771.out _;(with_reducible repeat (first | refine blk_drewN ?_ _ | refine blk_drew ?_ | refine blk_alloc ?_ _));refine blk_far ?_ NB756_771.out _;(with_reducible repeat (first | refine blk_drewN ?_ _ | refine blk_drew ?_ | refine blk_alloc ?_ _));refine blk_far ?_ NB756_771.out _;(with_reducible repeat (first | refine blk_drewN ?_ _ | refine blk_drew ?_ | refine blk_alloc ?_ _));refine blk_far ?_ NB756_771.out _;(with_reducible repeat (first | refine blk_drewN ?_ _ | refine blk_drew ?_ | refine blk_alloc ?_ _));refine blk_far ?_ NB756_771.out _;(with_reducible repeat (first | refine blk_drewN ?_ _ | refine blk_drew ?_ | refine blk_alloc ?_ _));refine blk_far ?_ NB756_771.out _;(with_reducible repeat (first | refine blk_drewN ?_ _ | refine blk_drew ?_ | refine blk_alloc ?_ _));refine blk_far ?_ NB756_771.out _;(with_reducible repeat (first | refine blk_drewN ?_ _ | refine blk_drew ?_ | refine blk_alloc ?_ _));refine blk_far ?_ NB756_771.out _;(with_reducible repeat (first | refine blk_drewN ?_ _ | refine blk_drew ?_ | refine blk_alloc ?_ _));exact BK756.out) hb);have n3_:=Aside0.mk (blk_below (g:=gb771) (o:=.cells #[.int .i64 t757,.int .i64 t758,.int .i64 t759,.int .i64 t760,.int .i64 t761,.int .i64 t762,.float .f64 t763,.bool t764,.slice Ao14 t765.length co14,.int .i64 t768,.int .i64 t769,.int .i64 t770] 32 (0,0)) (by (with_reducible repeat (first | refine blk_drewN ?_ _ | refine blk_drew ?_ | refine blk_alloc ?_ _));apply blkf_12_0_11;(with_reducible repeat (first | refine blk_drewN ?_ _ | refine blk_drew ?_ | refine blk_alloc ?_ _));exact BK771.out) hb);have n4_:=Aside0.mk (below_step (by repeat (first | (with_reducible first | exact HB.out | apply below_alloc | apply pw_below_drewN | apply below_drew1 | refine below_set ?_ GE755.out | refine below_set ?_ GE756.out | refine below_set ?_ GE771.out) | exact HB.out)) hb);clear HO767;clear BK755;clear BK756;clear BK771;clear HB;have HO767:=n0_;have BK755:=n1_;have BK756:=n2_;have BK771:=n3_;have HB:=n4_;clear n0_ n1_ n2_ n3_ n4_;(try clear hb);(try clear hb2);(try clear hk);(try clear hi);have hnb25:=NB771_755.out;have hnc25:=NB755_771.out;have hnb26:=NB771_756.out;have hnc26:=NB756_771.out;obtain ⟨hcz27_0,hcz27_1,hcz27_2,hcz27_3,hcz27_4,hcz27_5,hcz27_6,hcz27_7,hcz27_8,hcz27_9,hcz27_10,hcz27_11⟩:=blkc_12 BK771.out;obtain ⟨hfz27_0,hfz27_1,hfz27_2,hfz27_3,hfz27_4,hfz27_5,hfz27_6,hfz27_7,hfz27_8,hfz27_9,hfz27_10⟩:=blkz_11 BK771.out;have hfz27_11:=blk_frozen BK771.out 11) | (go_at_call 58;(with_reducible refine (undo_empty.calls t757 t758 t759 t760 t761 t762 t763 t764 _ _ t765 t768 t769 t770 false _ ?side1 ?side2 A17.out).mono ?_);(case side1 => repeat (first | exact (Kd.V_reads' HO767.out).2.2 | (with_reducible refine Kd.C_alloc ?_ _) | (with_reducible refine Kd.C_drewN ?_ _) | (with_reducible refine Kd.C_drew ?_)));(case side2 => exact (Kd.V_reads' HO767.out).2.1);rintro e w28 ⟨rfl,hb⟩;have n0_:=Aside0.mk (Kd.V_below (by (with_reducible repeat (first | apply Kd.V_alloc | apply Kd.V_drewN | apply Kd.V_drew));exact HO767.out) hb);have n1_:=Aside0.mk (blk_below (g:=gb755) (o:=.cells #[.int .i64 a1_0,.int .i64 a1_1] 28 (0,0)) (by (with_reducible repeat (first | refine blk_drewN ?_ _ | refine blk_drew ?_ | refine blk_alloc ?_ _));exact BK755.out) hb);have n2_:=Aside0.mk (blk_below (g:=gb756) (o:=.cells #[.int .i64 0,.int .i64 0,.int .i64 0,.int .i64 0,.int .i64 0,.int .i64 0,.float .f64 0,.bool false,.slice none 0 0,.int .i64 0,.int .i64 0,.int .i64 0] 32 (0,0)) (by (with_reducible repeat (first | refine blk_drewN ?_ _ | refine blk_drew ?_ | refine blk_alloc ?_ _));exact BK756.out) hb);have n3_:=Aside0.mk (blk_below (g:=gb771) (o:=.cells #[.int .i64 t757,.int .i64 t758,.int .i64 t759,.int .i64 t760,.int .i64 t761,.int .i64 t762,.float .f64 t763,.bool t764,.slice Ao14 t765.length co14,.int .i64 t768,.int .i64 t769,.int .i64 t770] 32 (0,0)) (by (with_reducible repeat (first | refine blk_drewN ?_ _ | refine blk_drew ?_ | refine blk_alloc ?_ _));exact BK771.out) hb);have n4_:=Aside0.mk (below_step (by repeat (first | (with_reducible first | exact HB.out | apply below_alloc | apply pw_below_drewN | apply below_drew1 | refine below_set ?_ GE755.out | refine below_set ?_ GE756.out | refine below_set ?_ GE771.out) | exact HB.out)) hb);clear HO767;clear BK755;clear BK756;clear BK771;clear HB;have HO767:=n0_;have BK755:=n1_;have BK756:=n2_;have BK771:=n3_;have HB:=n4_;clear n0_ n1_ n2_ n3_ n4_;(try clear hb);(try clear hb2);(try clear hk);(try clear hi);obtain ⟨hcz29_0,hcz29_1,hcz29_2,hcz29_3,hcz29_4,hcz29_5,hcz29_6,hcz29_7,hcz29_8,hcz29_9,hcz29_10,hcz29_11⟩:=blkc_12 BK771.out;obtain ⟨hfz29_0,hfz29_1,hfz29_2,hfz29_3,hfz29_4,hfz29_5,hfz29_6,hfz29_7,hfz29_8,hfz29_9,hfz29_10,hfz29_11⟩:=blkz_12 BK771.out;have hnb30:=NB755_756.out;have hnc30:=NB756_755.out;have hcz31_0 : w28.cell? ⟨gb755,0,none⟩ = some (.int .i64 a1_0):=(blk_cell BK755.out 0).trans rfl;have hcz31_1 : w28.cell? ⟨gb755,1,none⟩ = some (.int .i64 a1_1):=(blk_cell BK755.out 1).trans rfl;have hfz31_0:=blk_frozen BK755.out 0;have hfz31_1:=blk_frozen BK755.out 1))
    go_meet
    case rel => exact ⟨_,((t758 != a1_1)),(by first | rfl | (simp;done) | (simp [*];done)),H',⟨by first | omega | exact Nat.le_refl _⟩,⟨by (with_reducible repeat (first | apply Kd.V_alloc | apply Kd.V_drewN | apply Kd.V_drew));exact Kd.V_mono HO767.out (fun _ hk => ⟨hk.1.1,⟨hk.1.2,hk.2⟩⟩)⟩,⟨by (with_reducible repeat (first | refine blk_drewN ?_ _ | refine blk_drew ?_ | refine blk_alloc ?_ _));exact BK755.out⟩,⟨by (with_reducible repeat (first | refine blk_drewN ?_ _ | refine blk_drew ?_ | refine blk_alloc ?_ _));exact BK756.out⟩,⟨by (with_reducible repeat (first | refine blk_drewN ?_ _ | refine blk_drew ?_ | refine blk_alloc ?_ _));exact BK771.out⟩,⟨by repeat (first | (with_reducible first | exact HB.out | apply below_alloc | apply pw_below_drewN | apply below_drew1 | refine below_set ?_ GE755.out | refine below_set ?_ GE756.out | refine below_set ?_ GE771.out) | exact HB.out)⟩⟩
  ·rw [if_neg c16] at H
   have c16b0 : (t772 == 0) = false:=beq_eq_false_iff_ne.mpr c16
   have c16b1 : (t772 != 0) = true:=bne_iff_ne.mpr c16
   (first | rw [c16b0] | (simp only [i64_w,i32_w];rw [c16b0]) | skip)
   have H':=Aside0.mk H
   clear H
   go_wp2_with (first | ((with_reducible refine gate_callee (f:=22) rfl ?_);refine goesL_ (some 12) rfl rfl Try.func22 (by kernel_rfl) rfl #[.slice A0 l0.length c0] rfl (by (try simp only [List.map_toArray,List.map_cons,List.map_nil]);first | done | rfl | (simp only [List.length_drop,List.length_take];rfl)) ?_;(with_reducible refine (undo_Check.calls _ _ l0 t772 _ ?side1 ?side2 A15.out).mono ?_);(case side1 => exact Kd.C_below HR0.out (by repeat (first | (with_reducible first | exact HB.out | apply below_alloc | apply pw_below_drewN | apply below_drew1 | refine below_set ?_ GE755.out | refine below_set ?_ GE756.out | refine below_set ?_ GE771.out) | exact HB.out)));(case side2 => exact HC0.out);rintro e w32 ⟨rfl,hb⟩;refine ⟨_,rfl,?_⟩;have n0_:=Aside0.mk (Kd.V_below (by (with_reducible repeat (first | apply Kd.V_alloc | apply Kd.V_drewN | apply Kd.V_drew));exact (Kd.V_mono (Kd.V_far (p:=⟨gb771,11,none⟩) (Kd.V_far (p:=⟨gb771,10,none⟩) (Kd.V_far (p:=⟨gb771,9,none⟩) (Kd.V_far (p:=⟨gb771,8,none⟩) (Kd.V_far (p:=⟨gb771,7,none⟩) (Kd.V_far (p:=⟨gb771,6,none⟩) (Kd.V_far (p:=⟨gb771,5,none⟩) (Kd.V_far (p:=⟨gb771,4,none⟩) (Kd.V_far (p:=⟨gb771,3,none⟩) (Kd.V_far (p:=⟨gb771,2,none⟩) (Kd.V_far (p:=⟨gb771,1,none⟩) (Kd.V_far (p:=⟨gb771,0,none⟩) (Kd.V_mono HO767.out (fun k_ hk => (⟨hk,hk.2⟩ : _ ∧ k_ ≠ gb771))) (fun _ hk => hk.2) (.int .i64 t757)) (fun _ hk => hk.2) (.int .i64 t758)) (fun _ hk => hk.2) (.int .i64 t759)) (fun _ hk => hk.2) (.int .i64 t760)) (fun _ hk => hk.2) (.int .i64 t761)) (fun _ hk => hk.2) (.int .i64 t762)) (fun _ hk => hk.2) (.float .f64 t763)) (fun _ hk => hk.2) (.bool t764)) (fun _ hk => hk.2) (.slice Ao14 t765.length co14)) (fun _ hk => hk.2) (.int .i64 t768)) (fun _ hk => hk.2) (.int .i64 t769)) (fun _ hk => hk.2) (.int .i64 t770)) (fun _ h_ => h_.1))) hb);have n1_:=Aside0.mk (blk_below (g:=gb755) (o:=.cells #[.int .i64 a1_0,.int .i64 a1_1] 28 (0,0)) (by (with_reducible repeat (first | refine blk_drewN ?_ _ | refine blk_drew ?_ | refine blk_alloc ?_ _));refine blk_far ?_ NB755_771.out _;(with_reducible repeat (first | refine blk_drewN ?_ _ | refine blk_drew ?_ | refine blk_alloc ?_ _));refine blk_far ?_ NB755_771.out _;(with_reducible repeat (first | refine blk_drewN ?_ _ | refine blk_drew ?_ | refine blk_alloc ?_ _));refine blk_far ?_ NB755_771.out _;(with_reducible repeat (first | refine blk_drewN ?_ _ | refine blk_drew ?_ | refine blk_alloc ?_ _));refine blk_far ?_ NB755_771.out _;(with_reducible repeat (first | refine blk_drewN ?_ _ | refine blk_drew ?_ | refine blk_alloc ?_ _));refine blk_far ?_ NB755_771.out _;(with_reducible repeat (first | refine blk_drewN ?_ _ | refine blk_drew ?_ | refine blk_alloc ?_ _));refine blk_far ?_ NB755_771.out _;(with_reducible repeat (first | refine blk_drewN ?_ _ | refine blk_drew ?_ | refine blk_alloc ?_ _));refine blk_far ?_ NB755_771.out _;(with_reducible repeat (first | refine blk_drewN ?_ _ | refine blk_drew ?_ | refine blk_alloc ?_ _));refine blk_far ?_ NB755_771.out _;(with_reducible repeat (first | refine blk_drewN ?_ _ | refine blk_drew ?_ | refine blk_alloc ?_ _));refine blk_far ?_ NB755_771.out _;(with_reducible repeat (first | refine blk_drewN ?_ _ | refine blk_drew ?_ | refine blk_alloc ?_ _));refine blk_far ?_ NB755_771.out _;(with_reducible repeat (first | refine blk_drewN ?_ _ | refine blk_drew ?_ | refine blk_alloc ?_ _));refine blk_far ?_ NB755_771.out _;(with_reducible repeat (first | refine blk_drewN ?_ _ | refine blk_drew ?_ | refine blk_alloc ?_ _));refine blk_far ?_ NB755_771.out _;(with_reducible repeat (first | refine blk_drewN ?_ _ | refine blk_drew ?_ | refine blk_alloc ?_ _));exact BK755.out) hb);have n2_:=Aside0.mk (blk_below (g:=gb756) (o:=.cells #[.int .i64 0,.int .i64 0,.int .i64 0,.int .i64 0,.int .i64 0,.int .i64 0,.float .f64 0,.bool false,.slice none 0 0,.int .i64 0,.int .i64 0,.int .i64 0] 32 (0,0)) (by (with_reducible repeat (first | refine blk_drewN ?_ _ | refine blk_drew ?_ | refine blk_alloc ?_ _));refine blk_far ?_ NB756_771.out _;(with_reducible repeat (first | refine blk_drewN ?_ _ | refine blk_drew ?_ | refine blk_alloc ?_ _));refine blk_far ?_ NB756_771.out _;(with_reducible repeat (first | refine blk_drewN ?_ _ | refine blk_drew ?_ | refine blk_alloc ?_ _));refine blk_far ?_ NB756_771.out _;(with_reducible repeat (first | refine blk_drewN ?_ _ | refine blk_drew ?_ | refine blk_alloc ?_ _));refine blk_far ?_ NB756_771.out _;(with_reducible repeat (first | refine blk_drewN ?_ _ | refine blk_drew ?_ | refine blk_alloc ?_ _));refine blk_far ?_ NB756_771.out _;(with_reducible repeat (first | refine blk_drewN ?_ _ | refine blk_drew ?_ | refine blk_alloc ?_ _));refine blk_far ?_ NB756_771.out _;(with_reducible repeat (first | refine blk_drewN ?_ _ | refine blk_drew ?_ | refine blk_alloc ?_ _));refine blk_far ?_ NB756_771.out _;(with_reducible repeat (first | refine blk_drewN ?_ _ | refine blk_drew ?_ | refine blk_alloc ?_ _));refine blk_far ?_ NB756_771.out _;(with_reducible repeat (first | refine blk_drewN ?_ _ | refine blk_drew ?_ | refine blk_alloc ?_ _));refine blk_far ?_ NB756_771.out _;(with_reducible repeat (first | refine blk_drewN ?_ _ | refine blk_drew ?_ | refine blk_alloc ?_ _));refine blk_far ?_ NB756_771.out _;(with_reducible repeat (first | refine blk_drewN ?_ _ | refine blk_drew ?_ | refine blk_alloc ?_ _));refine blk_far ?_ NB756_771.out _;(with_reducible repeat (first | refine blk_drewN ?_ _ | refine blk_drew ?_ | refine blk_alloc ?_ _));refine blk_far ?_ NB756_771.out _;(with_reducible repeat (first | refine blk_drewN ?_ _ | refine blk_drew ?_ | refine blk_alloc ?_ _));exact BK756.out) hb);have n3_:=Aside0.mk (blk_below (g:=gb771) (o:=.cells #[.int .i64 t757,.int .i64 t758,.int .i64 t759,.int .i64 t760,.int .i64 t761,.int .i64 t762,.float .f64 t763,.bool t764,.slice Ao14 t765.length co14,.int .i64 t768,.int .i64 t769,.int .i64 t770] 32 (0,0)) (by (with_reducible repeat (first | refine blk_drewN ?_ _ | refine blk_drew ?_ | refine blk_alloc ?_ _));apply blkf_12_0_11;(with_reducible repeat (first | refine blk_drewN ?_ _ | refine blk_drew ?_ | refine blk_alloc ?_ _));exact BK771.out) hb);have n4_:=Aside0.mk (below_step (by repeat (first | (with_reducible first | exact HB.out | apply below_alloc | apply pw_below_drewN | apply below_drew1 | refine below_set ?_ GE755.out | refine below_set ?_ GE756.out | refine below_set ?_ GE771.out) | exact HB.out)) hb);clear HO767;clear BK755;clear BK756;clear BK771;clear HB;have HO767:=n0_;have BK755:=n1_;have BK756:=n2_;have BK771:=n3_;have HB:=n4_;clear n0_ n1_ n2_ n3_ n4_;(try clear hb);(try clear hb2);(try clear hk);(try clear hi)))
   go_meet
   case rel => exact ⟨_,(true),(by first | rfl | (simp;done) | (simp [*];done)),H',⟨by first | omega | exact Nat.le_refl _⟩,⟨by (with_reducible repeat (first | apply Kd.V_alloc | apply Kd.V_drewN | apply Kd.V_drew));exact Kd.V_mono HO767.out (fun _ hk => ⟨hk.1.1,⟨hk.1.2,hk.2⟩⟩)⟩,⟨by (with_reducible repeat (first | refine blk_drewN ?_ _ | refine blk_drew ?_ | refine blk_alloc ?_ _));exact BK755.out⟩,⟨by (with_reducible repeat (first | refine blk_drewN ?_ _ | refine blk_drew ?_ | refine blk_alloc ?_ _));exact BK756.out⟩,⟨by (with_reducible repeat (first | refine blk_drewN ?_ _ | refine blk_drew ?_ | refine blk_alloc ?_ _));exact BK771.out⟩,⟨by repeat (first | (with_reducible first | exact HB.out | apply below_alloc | apply pw_below_drewN | apply below_drew1 | refine below_set ?_ GE755.out | refine below_set ?_ GE756.out | refine below_set ?_ GE771.out) | exact HB.out)⟩⟩
 case rest =>
  clear HC4
  try clear c1
  try clear c2
  try clear p2
  try clear c3
  try clear c5
  try clear c7
  try clear c11
  try clear c12
  try clear c16
  try clear c16b0
  try clear c16b1
  try clear c17
  try clear c18
  try clear c20
  try clear c21
  try clear c22
  try clear c25
  try clear c26
  try clear c30
  try clear hcz13_0
  try clear hcz13_1
  try clear hcz13_10
  try clear hcz13_11
  try clear hcz13_2
  try clear hcz13_3
  try clear hcz13_4
  try clear hcz13_5
  try clear hcz13_6
  try clear hcz13_7
  try clear hcz13_8
  try clear hcz13_9
  try clear hcz22_0
  try clear hcz22_1
  try clear hcz22_10
  try clear hcz22_11
  try clear hcz22_2
  try clear hcz22_3
  try clear hcz22_4
  try clear hcz22_5
  try clear hcz22_6
  try clear hcz22_7
  try clear hcz22_8
  try clear hcz22_9
  try clear hcz27_0
  try clear hcz27_1
  try clear hcz27_10
  try clear hcz27_11
  try clear hcz27_2
  try clear hcz27_3
  try clear hcz27_4
  try clear hcz27_5
  try clear hcz27_6
  try clear hcz27_7
  try clear hcz27_8
  try clear hcz27_9
  try clear hcz29_0
  try clear hcz29_1
  try clear hcz29_10
  try clear hcz29_11
  try clear hcz29_2
  try clear hcz29_3
  try clear hcz29_4
  try clear hcz29_5
  try clear hcz29_6
  try clear hcz29_7
  try clear hcz29_8
  try clear hcz29_9
  try clear hcz31_0
  try clear hcz31_1
  try clear hcz8_0
  try clear hcz8_1
  try clear hfz13_0
  try clear hfz13_1
  try clear hfz13_10
  try clear hfz13_11
  try clear hfz13_2
  try clear hfz13_3
  try clear hfz13_4
  try clear hfz13_5
  try clear hfz13_6
  try clear hfz13_7
  try clear hfz13_8
  try clear hfz13_9
  try clear hfz22_0
  try clear hfz22_1
  try clear hfz22_10
  try clear hfz22_11
  try clear hfz22_2
  try clear hfz22_3
  try clear hfz22_4
  try clear hfz22_5
  try clear hfz22_6
  try clear hfz22_7
  try clear hfz22_8
  try clear hfz22_9
  try clear hfz27_0
  try clear hfz27_1
  try clear hfz27_10
  try clear hfz27_11
  try clear hfz27_2
  try clear hfz27_3
  try clear hfz27_4
  try clear hfz27_5
  try clear hfz27_6
  try clear hfz27_7
  try clear hfz27_8
  try clear hfz27_9
  try clear hfz29_0
  try clear hfz29_1
  try clear hfz29_10
  try clear hfz29_11
  try clear hfz29_2
  try clear hfz29_3
  try clear hfz29_4
  try clear hfz29_5
  try clear hfz29_6
  try clear hfz29_7
  try clear hfz29_8
  try clear hfz29_9
  try clear hfz31_0
  try clear hfz31_1
  try clear hfz8_0
  try clear hfz8_1
  obtain ⟨kq,x24_3,rfl,HA,HJ3,HO_772008,BK755,BK756,BK771,HB⟩:=hcut
  cases kq with
  | zero => exact absurd HA.out (by simp [undo_Get.j0])
  | succ kj3 =>
   have H:=HA.out
   clear HA
   simp only [undo_Get.j0] at H
   by_cases c33 : x24_3 = true
   ·subst c33
    have H1 : (some (0,0,0,0,0,0,0,false,([] : List Nat),0,0,0,false)) = some (r1,r2,r3,r4,r5,r6,r7,r8,r9,r10,r11,r12,r13):=by rw [if_pos rfl] at H;exact H
    clear H
    have H:=H1
    clear H1
    simp only [Option.some.injEq,Prod.mk.injEq] at H
    obtain ⟨rfl,rfl,rfl,rfl,rfl,rfl,rfl,rfl,rfl,rfl,rfl,rfl,rfl⟩:=H
    have hnb34:=NB756_755.out
    have hnc34:=NB755_756.out
    have hnb35:=NB756_771.out
    have hnc35:=NB771_756.out
    obtain ⟨hcz36_0,hcz36_1,hcz36_2,hcz36_3,hcz36_4,hcz36_5,hcz36_6,hcz36_7,hcz36_8,hcz36_9,hcz36_10,hcz36_11⟩:=blkc_12 BK756.out
    obtain ⟨hfz36_0,hfz36_1,hfz36_2,hfz36_3,hfz36_4,hfz36_5,hfz36_6,hfz36_7,hfz36_8,hfz36_9,hfz36_10,hfz36_11⟩:=blkz_12 BK756.out
    go_wp2
    refine bodyPost_ret (results_ct rfl _ _ gb756 32 #[.int .i64 0,.int .i64 0,.int .i64 0,.int .i64 0,.int .i64 0,.int .i64 0,.float .f64 0,.bool false,.slice none 0 0,.int .i64 0,.int .i64 0,.int .i64 0] (0,0) _ rfl (by (with_reducible repeat (first | refine blk_drewN ?_ _ | refine blk_drew ?_ | refine blk_alloc ?_ _));apply blkf_12_0_11;(with_reducible repeat (first | refine blk_drewN ?_ _ | refine blk_drew ?_ | refine blk_alloc ?_ _));exact BK756.out) Try.underlying32 rfl (by kernel_rfl)) rfl ?_
    exact ⟨_,by first | rfl | (simp [errW_none,errW_some] <;> rfl) | (simp [*,errW_none,errW_some] <;> rfl),by first | exact Kd.R_nil _ _ _ _ _ | exact Kd.N_nil _ _ _ _ _ | exact Kd.V_nil _ _ _ _ _ | exact Kd.Q_nil _ _ _ _ _ | exact Kd.S_nil _ _ _ _ _,by repeat (first | (with_reducible first | exact HB.out | apply below_alloc | apply pw_below_drewN | apply below_drew1 | refine below_set ?_ GE755.out | refine below_set ?_ GE756.out | refine below_set ?_ GE771.out) | exact HB.out)⟩
   ·replace c33:=Bool.eq_false_iff.mpr c33
    subst c33
    have H1 : ((undo_copied.f t757 t758 t759 t760 t761 t762 t763 t764 t765 t768 t769 t770).bind fun bt774 => (some (bt774.1,bt774.2.1,bt774.2.2.1,bt774.2.2.2.1,bt774.2.2.2.2.1,bt774.2.2.2.2.2.1,bt774.2.2.2.2.2.2.1,bt774.2.2.2.2.2.2.2.1,bt774.2.2.2.2.2.2.2.2.1,bt774.2.2.2.2.2.2.2.2.2.1,bt774.2.2.2.2.2.2.2.2.2.2.1,bt774.2.2.2.2.2.2.2.2.2.2.2,true))) = some (r1,r2,r3,r4,r5,r6,r7,r8,r9,r10,r11,r12,r13):=by rw [if_neg (show ¬ (false = true) by decide)] at H;exact H
    clear H
    have H:=H1
    clear H1
    replace H:=Option.bind_eq_some_iff.mp H
    obtain ⟨⟨t774,t775,t776,t777,t778,t779,t780,t781,t782,t785,t786,t787⟩,A370,H⟩:=H
    replace H : (some (t774,t775,t776,t777,t778,t779,t780,t781,t782,t785,t786,t787,true)) = some (r1,r2,r3,r4,r5,r6,r7,r8,r9,r10,r11,r12,r13):=H
    have A37:=Aside0.mk A370
    clear A370
    simp only [Option.some.injEq,Prod.mk.injEq] at H
    obtain ⟨rfl,rfl,rfl,rfl,rfl,rfl,rfl,rfl,rfl,rfl,rfl,rfl,rfl⟩:=H
    have hnb38:=NB771_755.out
    have hnc38:=NB755_771.out
    have hnb39:=NB771_756.out
    have hnc39:=NB756_771.out
    obtain ⟨hcz40_0,hcz40_1,hcz40_2,hcz40_3,hcz40_4,hcz40_5,hcz40_6,hcz40_7,hcz40_8,hcz40_9,hcz40_10,hcz40_11⟩:=blkc_12 BK771.out
    obtain ⟨hfz40_0,hfz40_1,hfz40_2,hfz40_3,hfz40_4,hfz40_5,hfz40_6,hfz40_7,hfz40_8,hfz40_9,hfz40_10,hfz40_11⟩:=blkz_12 BK771.out
    go_wp2_with (first | ((with_reducible refine gate_callee (f:=57) rfl ?_);refine goesL_ (some 27) rfl rfl Try.func57 (by kernel_rfl) rfl #[.agg #[.int .i64 t757,.int .i64 t758,.int .i64 t759,.int .i64 t760,.int .i64 t761,.int .i64 t762,.float .f64 t763,.bool t764,.slice Ao14 t765.length co14,.int .i64 t768,.int .i64 t769,.int .i64 t770]] rfl (by (try simp only [List.map_toArray,List.map_cons,List.map_nil]);first | done | rfl | (simp only [List.length_drop,List.length_take];rfl)) ?_;(with_reducible refine (undo_copied.calls t757 t758 t759 t760 t761 t762 t763 t764 _ _ t765 t768 t769 t770 t774 t775 t776 t777 t778 t779 t780 t781 t782 t785 t786 t787 _ ?side1 ?side2 A37.out).mono ?_);(case side1 => repeat (first | exact (Kd.V_reads' HO_772008.out).2.2 | (with_reducible refine Kd.C_alloc ?_ _) | (with_reducible refine Kd.C_drewN ?_ _) | (with_reducible refine Kd.C_drew ?_)));(case side2 => exact (Kd.V_reads' HO_772008.out).2.1);rintro e w41 ⟨v783,rfl,ho0,hb⟩;refine ⟨_,rfl,?_⟩;have n0_:=Aside0.mk (Kd.V_elder' (by (with_reducible repeat (first | apply Kd.V_alloc | apply Kd.V_drewN | apply Kd.V_drew));exact HO_772008.out) (Kd.R_base ho0) hb);have n1_:=Aside0.mk (Kd.R_lower ho0 (below_size (by repeat (first | (with_reducible first | exact HB.out | apply below_alloc | apply pw_below_drewN | apply below_drew1 | refine below_set ?_ GE755.out | refine below_set ?_ GE756.out | refine below_set ?_ GE771.out) | exact HB.out))));have n2_:=Aside0.mk (blk_below (g:=gb755) (o:=.cells #[.int .i64 a1_0,.int .i64 a1_1] 28 (0,0)) (by (with_reducible repeat (first | refine blk_drewN ?_ _ | refine blk_drew ?_ | refine blk_alloc ?_ _));exact BK755.out) hb);have n3_:=Aside0.mk (blk_below (g:=gb756) (o:=.cells #[.int .i64 0,.int .i64 0,.int .i64 0,.int .i64 0,.int .i64 0,.int .i64 0,.float .f64 0,.bool false,.slice none 0 0,.int .i64 0,.int .i64 0,.int .i64 0] 32 (0,0)) (by (with_reducible repeat (first | refine blk_drewN ?_ _ | refine blk_drew ?_ | refine blk_alloc ?_ _));exact BK756.out) hb);have n4_:=Aside0.mk (blk_below (g:=gb771) (o:=.cells #[.int .i64 t757,.int .i64 t758,.int .i64 t759,.int .i64 t760,.int .i64 t761,.int .i64 t762,.float .f64 t763,.bool t764,.slice Ao14 t765.length co14,.int .i64 t768,.int .i64 t769,.int .i64 t770] 32 (0,0)) (by (with_reducible repeat (first | refine blk_drewN ?_ _ | refine blk_drew ?_ | refine blk_alloc ?_ _));exact BK771.out) hb);have n5_:=Aside0.mk (below_step (by repeat (first | (with_reducible first | exact HB.out | apply below_alloc | apply pw_below_drewN | apply below_drew1 | refine below_set ?_ GE755.out | refine below_set ?_ GE756.out | refine below_set ?_ GE771.out) | exact HB.out)) hb);clear HO_772008;clear BK755;clear BK756;clear BK771;clear HB;have HO_772008:=n0_;have HO784:=n1_;have BK755:=n2_;have BK756:=n3_;have BK771:=n4_;have HB:=n5_;clear n0_ n1_ n2_ n3_ n4_ n5_;(try clear hb);(try clear hb2);(try clear hk);(try clear hi);(try clear ho0);have hnb42:=NB756_755.out;have hnc42:=NB755_756.out;obtain ⟨hcz43_0,hcz43_1,hcz43_2,hcz43_3,hcz43_4,hcz43_5,hcz43_6,hcz43_7,hcz43_8,hcz43_9,hcz43_10,hcz43_11⟩:=blkc_12 BK756.out;obtain ⟨hfz43_0,hfz43_1,hfz43_2,hfz43_3,hfz43_4,hfz43_5,hfz43_6,hfz43_7,hfz43_8,hfz43_9,hfz43_10,hfz43_11⟩:=blkz_12 BK756.out;obtain ⟨Ao44,co44,eo44⟩:=Kd.R_slice HO784.out;subst eo44))
    refine bodyPost_ret (results_ct rfl _ _ gb756 32 #[.int .i64 t774,.int .i64 t775,.int .i64 t776,.int .i64 t777,.int .i64 t778,.int .i64 t779,.float .f64 t780,.bool t781,.slice Ao44 t782.length co44,.int .i64 t785,.int .i64 t786,.int .i64 t787] (0,0) _ rfl (by (with_reducible repeat (first | refine blk_drewN ?_ _ | refine blk_drew ?_ | refine blk_alloc ?_ _));apply blkf_12_0_11;(with_reducible repeat (first | refine blk_drewN ?_ _ | refine blk_drew ?_ | refine blk_alloc ?_ _));exact BK756.out) Try.underlying32 rfl (by kernel_rfl)) rfl ?_
    exact ⟨_,by first | rfl | (simp [errW_none,errW_some] <;> rfl) | (simp [*,errW_none,errW_some] <;> rfl),by (with_reducible repeat (first | apply Kd.R_alloc | apply Kd.R_drewN | apply Kd.R_drew));exact Kd.R_mono (Kd.R_far (p:=⟨gb756,11,none⟩) (Kd.R_far (p:=⟨gb756,10,none⟩) (Kd.R_far (p:=⟨gb756,9,none⟩) (Kd.R_far (p:=⟨gb756,8,none⟩) (Kd.R_far (p:=⟨gb756,7,none⟩) (Kd.R_far (p:=⟨gb756,6,none⟩) (Kd.R_far (p:=⟨gb756,5,none⟩) (Kd.R_far (p:=⟨gb756,4,none⟩) (Kd.R_far (p:=⟨gb756,3,none⟩) (Kd.R_far (p:=⟨gb756,2,none⟩) (Kd.R_far (p:=⟨gb756,1,none⟩) (Kd.R_far (p:=⟨gb756,0,none⟩) (Kd.R_types HO784.out BK756.out (by decide)) (fun _ hk => hk.2) (.int .i64 t774)) (fun _ hk => hk.2) (.int .i64 t775)) (fun _ hk => hk.2) (.int .i64 t776)) (fun _ hk => hk.2) (.int .i64 t777)) (fun _ hk => hk.2) (.int .i64 t778)) (fun _ hk => hk.2) (.int .i64 t779)) (fun _ hk => hk.2) (.float .f64 t780)) (fun _ hk => hk.2) (.bool t781)) (fun _ hk => hk.2) (.slice Ao44 t782.length co44)) (fun _ hk => hk.2) (.int .i64 t785)) (fun _ hk => hk.2) (.int .i64 t786)) (fun _ hk => hk.2) (.int .i64 t787)) (fun _ hk => trivial),by repeat (first | (with_reducible first | exact HB.out | apply below_alloc | apply pw_below_drewN | apply below_drew1 | refine below_set ?_ GE755.out | refine below_set ?_ GE756.out | refine below_set ?_ GE771.out) | exact HB.out)⟩
end Go.Proofs.Ytdcllbhkjcdnoaa.P
namespace Go.Proofs.Ytdcllbhkjcdnoaa.P
open Go.RowKit Go.Proofs.YtdcllbhkjcdnoaaW.PrintWords Go.Proofs.YtdcllbhkjcdnoaaW.PrintLast Go.Proofs.YtdcllbhkjcdnoaaW.PrintMore
attribute [local go_sem] max2_int min2_int max_two min_two max_three min_three max_four min_four   -- for this text's walks alone
attribute [local go_sem] run_store_float
set_option linter.unusedVariables false
set_option linter.unusedSimpArgs false
def humuslaw14_awake.j0 : Nat → Bool → Option (Bool)
 | 0,_ => none
 | k + 1,x0 => some x0
def humuslaw14_awake.f (k : Nat)  : Option (Bool):=if 6 ≤ 2513169434916 then ((undo_Put.f k (List.replicate 6 z32) 1 5 0 1 0 0 0 false ([] : List Nat) 0 0 0).bind fun bt793 => ((undo_Get.f k bt793.1 bt793.2.1 5).bind fun bt798 => ((undo_Drop.f bt793.1 bt793.2.1).bind fun bt814 => ((undo_Get.f k bt814.1 bt793.2.1 5).bind fun bt818 => (if bt793.2.2 = 0 then (if bt814.2 = 0 then (if bt793.2.1 = 1 then (if bt798.2.2.2.2.2.2.2.2.2.2.2.2 = true then (humuslaw14_awake.j0 k (!bt818.2.2.2.2.2.2.2.2.2.2.2.2)) else (humuslaw14_awake.j0 k false)) else (humuslaw14_awake.j0 k false)) else (humuslaw14_awake.j0 k false)) else (humuslaw14_awake.j0 k false)))))) else (none)
set_option maxHeartbeats 8000000 in
set_option maxRecDepth 100000 in
theorem humuslaw14_awake.calls (k : Nat)  (r : Bool) (w : World) (h : humuslaw14_awake.f k  = some r) :
  Calls Try.prog 19 #[] w fun e w' => e = .returned (.bool r) ∧ Below w.heap.size w w':=by
 have hu32:=Try.underlying32
 have hu28:=Try.underlying28
 have HB:=Aside0.mk (Below.refl w.heap.size w)
 have H : (if 6 ≤ 2513169434916 then ((undo_Put.f k (List.replicate 6 z32) 1 5 0 1 0 0 0 false ([] : List Nat) 0 0 0).bind fun bt793 => ((undo_Get.f k bt793.1 bt793.2.1 5).bind fun bt798 => ((undo_Drop.f bt793.1 bt793.2.1).bind fun bt814 => ((undo_Get.f k bt814.1 bt793.2.1 5).bind fun bt818 => (if bt793.2.2 = 0 then (if bt814.2 = 0 then (if bt793.2.1 = 1 then (if bt798.2.2.2.2.2.2.2.2.2.2.2.2 = true then (humuslaw14_awake.j0 k (!bt818.2.2.2.2.2.2.2.2.2.2.2.2)) else (humuslaw14_awake.j0 k false)) else (humuslaw14_awake.j0 k false)) else (humuslaw14_awake.j0 k false)) else (humuslaw14_awake.j0 k false)))))) else (none)) = some r:=h
 clear h
 by_cases c1 : 6 ≤ 2513169434916
 ·rw [if_pos c1] at H
  have c1b0:=eq_true c1
  have c1b1 : decide (6 ≤ 2513169434916) = true:=decide_eq_true c1
  clear c1
  obtain ⟨y790,hy790⟩ : ∃ y_ : List (S32),y_ = (List.replicate 6 z32):=⟨_,rfl⟩
  replace H : ((undo_Put.f k y790 1 5 0 1 0 0 0 false ([] : List Nat) 0 0 0).bind fun bt793 => ((undo_Get.f k bt793.1 bt793.2.1 5).bind fun bt798 => ((undo_Drop.f bt793.1 bt793.2.1).bind fun bt814 => ((undo_Get.f k bt814.1 bt793.2.1 5).bind fun bt818 => (if bt793.2.2 = 0 then (if bt814.2 = 0 then (if bt793.2.1 = 1 then (if bt798.2.2.2.2.2.2.2.2.2.2.2.2 = true then (humuslaw14_awake.j0 k (!bt818.2.2.2.2.2.2.2.2.2.2.2.2)) else (humuslaw14_awake.j0 k false)) else (humuslaw14_awake.j0 k false)) else (humuslaw14_awake.j0 k false)) else (humuslaw14_awake.j0 k false)))))) = some r:=by first | (rw [hy790];with_reducible exact H) | (have H2_:=(Option.bind_some _ _).symm.trans H;rw [hy790];with_reducible exact H2_) | (have H2_:=(Option.bind_some _ _).symm.trans H;with_reducible exact H2_) | with_reducible exact H | (rw [hy790];exact H) | exact H
  have Ny790:=Aside0.mk hy790
  clear hy790
  replace H:=Option.bind_eq_some_iff.mp H
  obtain ⟨⟨t793,t796,t797⟩,A20,H⟩:=H
  replace H : ((undo_Get.f k t793 t796 5).bind fun bt798 => ((undo_Drop.f t793 t796).bind fun bt814 => ((undo_Get.f k bt814.1 t796 5).bind fun bt818 => (if t797 = 0 then (if bt814.2 = 0 then (if t796 = 1 then (if bt798.2.2.2.2.2.2.2.2.2.2.2.2 = true then (humuslaw14_awake.j0 k (!bt818.2.2.2.2.2.2.2.2.2.2.2.2)) else (humuslaw14_awake.j0 k false)) else (humuslaw14_awake.j0 k false)) else (humuslaw14_awake.j0 k false)) else (humuslaw14_awake.j0 k false))))) = some r:=H
  have A2:=Aside0.mk A20
  clear A20
  replace H:=Option.bind_eq_some_iff.mp H
  obtain ⟨⟨t798,t799,t800,t801,t802,t803,t804,t805,t806,t809,t810,t811,t812⟩,A30,H⟩:=H
  replace H : ((undo_Drop.f t793 t796).bind fun bt814 => ((undo_Get.f k bt814.1 t796 5).bind fun bt818 => (if t797 = 0 then (if bt814.2 = 0 then (if t796 = 1 then (if t812 = true then (humuslaw14_awake.j0 k (!bt818.2.2.2.2.2.2.2.2.2.2.2.2)) else (humuslaw14_awake.j0 k false)) else (humuslaw14_awake.j0 k false)) else (humuslaw14_awake.j0 k false)) else (humuslaw14_awake.j0 k false)))) = some r:=H
  have A3:=Aside0.mk A30
  clear A30
  replace H:=Option.bind_eq_some_iff.mp H
  obtain ⟨⟨t814,t817⟩,A40,H⟩:=H
  replace H : ((undo_Get.f k t814 t796 5).bind fun bt818 => (if t797 = 0 then (if t817 = 0 then (if t796 = 1 then (if t812 = true then (humuslaw14_awake.j0 k (!bt818.2.2.2.2.2.2.2.2.2.2.2.2)) else (humuslaw14_awake.j0 k false)) else (humuslaw14_awake.j0 k false)) else (humuslaw14_awake.j0 k false)) else (humuslaw14_awake.j0 k false))) = some r:=H
  have A4:=Aside0.mk A40
  clear A40
  replace H:=Option.bind_eq_some_iff.mp H
  obtain ⟨⟨t818,t819,t820,t821,t822,t823,t824,t825,t826,t829,t830,t831,t832⟩,A50,H⟩:=H
  replace H : (if t797 = 0 then (if t817 = 0 then (if t796 = 1 then (if t812 = true then (humuslaw14_awake.j0 k (!t832)) else (humuslaw14_awake.j0 k false)) else (humuslaw14_awake.j0 k false)) else (humuslaw14_awake.j0 k false)) else (humuslaw14_awake.j0 k false)) = some r:=H
  have A5:=Aside0.mk A50
  clear A50
  have HC6:=Aside0.mk H
  clear H
  go_enter Try.func19,Try.ntmps19
  go_upto_region 5 with (first | ((with_reducible refine gate_dst (N:=10) rfl ?_);refine Kd.N_make k32 _ 32 rfl (N':=10) rfl 22 _ _ rfl 6 rfl rfl Try.underlying22 (.agg #[(.int .i64 0),(.int .i64 0),(.int .i64 0),(.int .i64 0),(.int .i64 0),(.int .i64 0),(.float .f64 0),(.bool false),(.slice none 0 0),(.int .i64 0),(.int .i64 0),(.int .i64 0)]) 112 info32 rfl (by decide) (by omega) z32 (ok:=fun k_ => w.heap.size ≤ k_) (okp:=fun _ => False) (k32_mkF _ _ z32 (Nat.le_refl _) (Kd.F_nil _ _ _)) (fun _ hk => hk.elim) (Nat.le_refl _) (by omega) (by omega) (Below.refl _ _) (Nat.le_refl _) ?_;intro v791 w7 ho8 hb hg_ hnew_;clear hg_ hnew_;(first | rw [← Ny790.out] at ho8 | (simp only [Int.reduceToNat] at ho8;rw [← Ny790.out] at ho8));have n0_:=Aside0.mk (Kd.N_lower (Kd.N_mono (ok':=fun k_ => True) ho8 (fun k_ hk_ => trivial)) (below_size (by repeat (first | (with_reducible first | exact HB.out | apply below_alloc | apply pw_below_drewN | apply below_drew1) | exact HB.out))));have n1_:=Aside0.mk (below_step (by repeat (first | (with_reducible first | exact HB.out | apply below_alloc | apply pw_below_drewN | apply below_drew1) | exact HB.out)) hb);clear HB;have HO792:=n0_;have HB:=n1_;clear n0_ n1_;clear hb ho8;obtain ⟨Ao9,co9,eo9⟩:=Kd.N_slice HO792.out;subst eo9) | ((with_reducible refine gate_callee (f:=15) rfl ?_);refine goesL_ (some 12) rfl rfl Try.func15 (by kernel_rfl) rfl #[.slice Ao9 y790.length co9,.agg #[.int .i64 1,.int .i64 5,.int .i64 0,.int .i64 1,.int .i64 0,.int .i64 0,.float .f64 0,.bool false,.slice none 0 0,.int .i64 0,.int .i64 0,.int .i64 0]] rfl (by (try simp only [List.map_toArray,List.map_cons,List.map_nil]);first | done | rfl | (simp only [List.length_drop,List.length_take];rfl)) ?_;(refine (undo_Put.calls k (fun k_ => True) _ _ y790 1 5 0 1 0 0 0 false _ _ ([] : List Nat) 0 0 0 t793 t796 t797 _ ?side1 ?side2 ?side3 A2.out).mono ?_);(case side1 => exact Kd.N_V (HO792.out));(case side2 => exact Kd.C_nil _ _);(case side3 => exact Nat.le_refl _);rintro e w10 ⟨v794,rfl,ho0,hb⟩;refine ⟨_,rfl,?_⟩;have n0_:=Aside0.mk (Kd.N_elder' (by (with_reducible repeat (first | apply Kd.N_alloc | apply Kd.N_drewN | apply Kd.N_drew));exact HO792.out) (Kd.N_base ho0) hb);have n1_:=Aside0.mk (Kd.N_lower (Kd.N_mono (ok':=fun k_ => True) ho0 (fun k_ hk_ => trivial)) (below_size (by repeat (first | (with_reducible first | exact HB.out | apply below_alloc | apply pw_below_drewN | apply below_drew1) | exact HB.out))));have n2_:=Aside0.mk (below_step (by repeat (first | (with_reducible first | exact HB.out | apply below_alloc | apply pw_below_drewN | apply below_drew1) | exact HB.out)) hb);clear HO792;clear HB;have HO792:=n0_;have HO795:=n1_;have HB:=n2_;clear n0_ n1_ n2_;(try clear hb);(try clear hb2);(try clear hk);(try clear hi);(try clear ho0);obtain ⟨Ao11,co11,eo11⟩:=Kd.N_slice HO795.out;subst eo11) | ((with_reducible refine gate_callee (f:=17) rfl ?_);refine goesL_ (some 20) rfl rfl Try.func17 (by kernel_rfl) rfl #[.slice Ao11 t793.length co11,.agg #[.int .i64 t796,.int .i64 5]] rfl (by (try simp only [List.map_toArray,List.map_cons,List.map_nil]);first | done | rfl | (simp only [List.length_drop,List.length_take];rfl)) ?_;(with_reducible refine (undo_Get.calls k _ _ t793 t796 5 t798 t799 t800 t801 t802 t803 t804 t805 t806 t809 t810 t811 t812 _ ?side1 ?side2 A3.out).mono ?_);(case side1 => repeat (first | exact (Kd.N_reads' HO795.out).2.2 | (with_reducible refine Kd.C_alloc ?_ _) | (with_reducible refine Kd.C_drewN ?_ _) | (with_reducible refine Kd.C_drew ?_)));(case side2 => exact (Kd.N_reads' HO795.out).2.1);rintro e w12 ⟨v807,rfl,ho0,hb⟩;refine ⟨_,rfl,?_⟩;have n0_:=Aside0.mk (Kd.N_elder' (by (with_reducible repeat (first | apply Kd.N_alloc | apply Kd.N_drewN | apply Kd.N_drew));exact HO792.out) (Kd.R_base ho0) hb);have n1_:=Aside0.mk (Kd.N_elder' (by (with_reducible repeat (first | apply Kd.N_alloc | apply Kd.N_drewN | apply Kd.N_drew));exact HO795.out) (Kd.R_base ho0) hb);have n2_:=Aside0.mk (Kd.R_lower ho0 (below_size (by repeat (first | (with_reducible first | exact HB.out | apply below_alloc | apply pw_below_drewN | apply below_drew1) | exact HB.out))));have n3_:=Aside0.mk (below_step (by repeat (first | (with_reducible first | exact HB.out | apply below_alloc | apply pw_below_drewN | apply below_drew1) | exact HB.out)) hb);clear HO792;clear HO795;clear HB;have HO792:=n0_;have HO795:=n1_;have HO808:=n2_;have HB:=n3_;clear n0_ n1_ n2_ n3_;(try clear hb);(try clear hb2);(try clear hk);(try clear hi);(try clear ho0)) | ((with_reducible refine gate_dst (N:=4) rfl ?_);refine box_event ?hg (N:=4) ?hd (cs:=#[.int .i64 0,.int .i64 0,.int .i64 0,.int .i64 0,.int .i64 0,.int .i64 0,.float .f64 0,.bool false,.slice none 0 0,.int .i64 0,.int .i64 0,.int .i64 0]) (t:=32) ?hr ?_;(case hd => rfl);(case hg => rfl);(case hr => first | (go_simp;done) | (go_simp;rfl));intro gb813 hg w13 hbox hb;have n0_:=Aside0.mk (Kd.N_below (Kd.N_elderB (by (with_reducible repeat (first | apply Kd.N_alloc | apply Kd.N_drewN | apply Kd.N_drew));exact HO792.out) gb813 (Nat.le_of_eq hg.symm)) hb);have n1_:=Aside0.mk (Kd.N_below (Kd.N_elderB (by (with_reducible repeat (first | apply Kd.N_alloc | apply Kd.N_drewN | apply Kd.N_drew));exact HO795.out) gb813 (Nat.le_of_eq hg.symm)) hb);have n2_:=Aside0.mk (Kd.R_below (by (with_reducible repeat (first | apply Kd.R_alloc | apply Kd.R_drewN | apply Kd.R_drew));exact HO808.out) hb);have n3_:=Aside0.mk (below_step (by repeat (first | (with_reducible first | exact HB.out | apply below_alloc | apply pw_below_drewN | apply below_drew1) | exact HB.out)) hb);have n4_:=Aside0.mk (hbox);have n5_:=Aside0.mk ((by rw [hg];exact (below_size (by repeat (first | (with_reducible first | exact HB.out | apply below_alloc | apply pw_below_drewN | apply below_drew1) | exact HB.out))) : w.heap.size ≤ gb813));have n6_:=Aside0.mk ((by rw [hg];exact (below_size (by repeat (first | (with_reducible first | exact HB.out | apply below_alloc | apply pw_below_drewN | apply below_drew1) | exact HB.out))) : w.heap.size ≤ gb813));clear HO792;clear HO795;clear HO808;clear HB;have HO792:=n0_;have HO795:=n1_;have HO808:=n2_;have HB:=n3_;have BK813:=n4_;have GW813:=n5_;have GE813:=n6_;clear n0_ n1_ n2_ n3_ n4_ n5_ n6_;clear hb hbox hg;obtain ⟨hcz14_0,hcz14_1,hcz14_2,hcz14_3,hcz14_4,hcz14_5,hcz14_6,hcz14_7,hcz14_8,hcz14_9,hcz14_10,hcz14_11⟩:=blkc_12 BK813.out;obtain ⟨hfz14_0,hfz14_1,hfz14_2,hfz14_3,hfz14_4,hfz14_5,hfz14_6,hfz14_7,hfz14_8,hfz14_9,hfz14_10,hfz14_11⟩:=blkz_12 BK813.out;obtain ⟨Ao15,co15,eo15⟩:=Kd.R_slice HO808.out;subst eo15) | ((with_reducible refine gate_store (t:=32) (p:=4) rfl ?_);refine store_event (t:=32) (p:=4) (v:=?vo_w16) (w1:=((((((((((((w13.setCell ⟨gb813,0,none⟩ (.int .i64 t798)).setCell ⟨gb813,1,none⟩ (.int .i64 t799)).setCell ⟨gb813,2,none⟩ (.int .i64 t800)).setCell ⟨gb813,3,none⟩ (.int .i64 t801)).setCell ⟨gb813,4,none⟩ (.int .i64 t802)).setCell ⟨gb813,5,none⟩ (.int .i64 t803)).setCell ⟨gb813,6,none⟩ (.float .f64 t804)).setCell ⟨gb813,7,none⟩ (.bool t805)).setCell ⟨gb813,8,none⟩ (.slice Ao15 t806.length co15)).setCell ⟨gb813,9,none⟩ (.int .i64 t809)).setCell ⟨gb813,10,none⟩ (.int .i64 t810)).setCell ⟨gb813,11,none⟩ (.int .i64 t811))) ?hg ?ho ?hn ?hr ?_;(case ho => rfl);(case hg => rfl);(case hn => rfl);(case hr => first | (go_simp;done) | (go_simp;rfl));intro w16 hw;have n0_ : Aside0 (Kd.N k32 32 w16 w.heap.size (fun k_ => some k_ ≠ (.slice Ao11 t793.length co11 : Value).ownBlock ∧ some k_ ≠ (.slice Ao15 t806.length co15 : Value).ownBlock ∧ k_ ≠ gb813) (.slice Ao9 y790.length co9) y790):=⟨(by rw [hw];exact (by (with_reducible repeat (first | apply Kd.N_alloc | apply Kd.N_drewN | apply Kd.N_drew));exact Kd.N_mono (Kd.N_far (p:=⟨gb813,11,none⟩) (Kd.N_far (p:=⟨gb813,10,none⟩) (Kd.N_far (p:=⟨gb813,9,none⟩) (Kd.N_far (p:=⟨gb813,8,none⟩) (Kd.N_far (p:=⟨gb813,7,none⟩) (Kd.N_far (p:=⟨gb813,6,none⟩) (Kd.N_far (p:=⟨gb813,5,none⟩) (Kd.N_far (p:=⟨gb813,4,none⟩) (Kd.N_far (p:=⟨gb813,3,none⟩) (Kd.N_far (p:=⟨gb813,2,none⟩) (Kd.N_far (p:=⟨gb813,1,none⟩) (Kd.N_far (p:=⟨gb813,0,none⟩) (Kd.N_mono HO792.out (fun k_ hk => (⟨hk,hk.2⟩ : _ ∧ k_ ≠ gb813))) (fun _ hk => hk.2) (.int .i64 t798)) (fun _ hk => hk.2) (.int .i64 t799)) (fun _ hk => hk.2) (.int .i64 t800)) (fun _ hk => hk.2) (.int .i64 t801)) (fun _ hk => hk.2) (.int .i64 t802)) (fun _ hk => hk.2) (.int .i64 t803)) (fun _ hk => hk.2) (.float .f64 t804)) (fun _ hk => hk.2) (.bool t805)) (fun _ hk => hk.2) (.slice Ao15 t806.length co15)) (fun _ hk => hk.2) (.int .i64 t809)) (fun _ hk => hk.2) (.int .i64 t810)) (fun _ hk => hk.2) (.int .i64 t811)) (fun _ hk => ⟨hk.1.1.1.2,⟨hk.1.1.2,hk.1.2⟩⟩)))⟩;have n1_ : Aside0 (Kd.N k32 32 w16 w.heap.size (fun k_ => some k_ ≠ (.slice Ao15 t806.length co15 : Value).ownBlock ∧ k_ ≠ gb813) (.slice Ao11 t793.length co11) t793):=⟨(by rw [hw];exact (by (with_reducible repeat (first | apply Kd.N_alloc | apply Kd.N_drewN | apply Kd.N_drew));exact Kd.N_mono (Kd.N_far (p:=⟨gb813,11,none⟩) (Kd.N_far (p:=⟨gb813,10,none⟩) (Kd.N_far (p:=⟨gb813,9,none⟩) (Kd.N_far (p:=⟨gb813,8,none⟩) (Kd.N_far (p:=⟨gb813,7,none⟩) (Kd.N_far (p:=⟨gb813,6,none⟩) (Kd.N_far (p:=⟨gb813,5,none⟩) (Kd.N_far (p:=⟨gb813,4,none⟩) (Kd.N_far (p:=⟨gb813,3,none⟩) (Kd.N_far (p:=⟨gb813,2,none⟩) (Kd.N_far (p:=⟨gb813,1,none⟩) (Kd.N_far (p:=⟨gb813,0,none⟩) (Kd.N_mono HO795.out (fun k_ hk => (⟨hk,hk.2⟩ : _ ∧ k_ ≠ gb813))) (fun _ hk => hk.2) (.int .i64 t798)) (fun _ hk => hk.2) (.int .i64 t799)) (fun _ hk => hk.2) (.int .i64 t800)) (fun _ hk => hk.2) (.int .i64 t801)) (fun _ hk => hk.2) (.int .i64 t802)) (fun _ hk => hk.2) (.int .i64 t803)) (fun _ hk => hk.2) (.float .f64 t804)) (fun _ hk => hk.2) (.bool t805)) (fun _ hk => hk.2) (.slice Ao15 t806.length co15)) (fun _ hk => hk.2) (.int .i64 t809)) (fun _ hk => hk.2) (.int .i64 t810)) (fun _ hk => hk.2) (.int .i64 t811)) (fun _ hk => ⟨hk.1.1.2,hk.1.2⟩)))⟩;have n2_ : Aside0 (Kd.R Kd.f64 25 w16 w.heap.size (fun _ => True) (.slice Ao15 t806.length co15) t806):=⟨(by rw [hw];exact (by (with_reducible repeat (first | apply Kd.R_alloc | apply Kd.R_drewN | apply Kd.R_drew));exact Kd.R_mono (Kd.R_far (p:=⟨gb813,11,none⟩) (Kd.R_far (p:=⟨gb813,10,none⟩) (Kd.R_far (p:=⟨gb813,9,none⟩) (Kd.R_far (p:=⟨gb813,8,none⟩) (Kd.R_far (p:=⟨gb813,7,none⟩) (Kd.R_far (p:=⟨gb813,6,none⟩) (Kd.R_far (p:=⟨gb813,5,none⟩) (Kd.R_far (p:=⟨gb813,4,none⟩) (Kd.R_far (p:=⟨gb813,3,none⟩) (Kd.R_far (p:=⟨gb813,2,none⟩) (Kd.R_far (p:=⟨gb813,1,none⟩) (Kd.R_far (p:=⟨gb813,0,none⟩) (Kd.R_types HO808.out BK813.out (by decide)) (fun _ hk => hk.2) (.int .i64 t798)) (fun _ hk => hk.2) (.int .i64 t799)) (fun _ hk => hk.2) (.int .i64 t800)) (fun _ hk => hk.2) (.int .i64 t801)) (fun _ hk => hk.2) (.int .i64 t802)) (fun _ hk => hk.2) (.int .i64 t803)) (fun _ hk => hk.2) (.float .f64 t804)) (fun _ hk => hk.2) (.bool t805)) (fun _ hk => hk.2) (.slice Ao15 t806.length co15)) (fun _ hk => hk.2) (.int .i64 t809)) (fun _ hk => hk.2) (.int .i64 t810)) (fun _ hk => hk.2) (.int .i64 t811)) (fun _ hk => trivial)))⟩;have n3_ : Aside0 (w16.heap[gb813]? = some (.cells #[.int .i64 t798,.int .i64 t799,.int .i64 t800,.int .i64 t801,.int .i64 t802,.int .i64 t803,.float .f64 t804,.bool t805,.slice Ao15 t806.length co15,.int .i64 t809,.int .i64 t810,.int .i64 t811] 32 (0,0))):=⟨(by rw [hw];exact (by (with_reducible repeat (first | refine blk_drewN ?_ _ | refine blk_drew ?_ | refine blk_alloc ?_ _));apply blkf_12_0_11;(with_reducible repeat (first | refine blk_drewN ?_ _ | refine blk_drew ?_ | refine blk_alloc ?_ _));exact BK813.out))⟩;have n4_ : Aside0 (Below w.heap.size w w16):=⟨(by rw [hw];exact (by repeat (first | (with_reducible first | exact HB.out | apply below_alloc | apply pw_below_drewN | apply below_drew1 | refine below_set ?_ GE813.out) | exact HB.out)))⟩;clear hw;clear HO792;clear HO795;clear HO808;clear BK813;clear HB;have HO792:=n0_;have HO795:=n1_;have HO808:=n2_;have BK813:=n3_;have HB:=n4_;clear n0_ n1_ n2_ n3_ n4_) | ((with_reducible refine gate_callee (f:=16) rfl ?_);refine goesL_ (some 26) rfl rfl Try.func16 (by kernel_rfl) rfl #[.slice Ao11 t793.length co11,.int .i64 t796] rfl (by (try simp only [List.map_toArray,List.map_cons,List.map_nil]);first | done | rfl | (simp only [List.length_drop,List.length_take];rfl)) ?_;(with_reducible refine (undo_Drop.calls (fun k_ => (some k_ ≠ (.slice Ao15 t806.length co15 : Value).ownBlock ∧ k_ ≠ gb813)) _ _ t793 t796 t814 t817 _ ?side1 A4.out).mono ?_);(case side1 => exact Kd.N_V (HO795.out));rintro e w17 ⟨v815,rfl,ho0,hb⟩;refine ⟨_,rfl,?_⟩;have n0_:=Aside0.mk (Kd.N_elder' (by (with_reducible repeat (first | apply Kd.N_alloc | apply Kd.N_drewN | apply Kd.N_drew));exact HO792.out) (Kd.N_base ho0) hb);have n1_:=Aside0.mk (Kd.N_elder' (by (with_reducible repeat (first | apply Kd.N_alloc | apply Kd.N_drewN | apply Kd.N_drew));exact HO795.out) (Kd.N_base ho0) hb);have n2_:=Aside0.mk (Kd.R_below (by (with_reducible repeat (first | apply Kd.R_alloc | apply Kd.R_drewN | apply Kd.R_drew));exact HO808.out) hb);have n3_:=Aside0.mk (Kd.N_lower (Kd.N_mono (ok':=fun k_ => some k_ ≠ (.slice Ao15 t806.length co15 : Value).ownBlock ∧ k_ ≠ gb813) ho0 (fun k_ hk_ => ⟨Or.elim hk_ (fun hs_ => hs_.1) (fun hn_ => (Kd.fresh' (Kd.R_lt (by (with_reducible repeat (first | apply Kd.R_alloc | apply Kd.R_drewN | apply Kd.R_drew));exact HO808.out)) k_ hn_)),Or.elim hk_ (fun hs_ => hs_.2) (fun hn_ => (Kd.freshB (g:=gb813) (o:=.cells #[.int .i64 t798,.int .i64 t799,.int .i64 t800,.int .i64 t801,.int .i64 t802,.int .i64 t803,.float .f64 t804,.bool t805,.slice Ao15 t806.length co15,.int .i64 t809,.int .i64 t810,.int .i64 t811] 32 (0,0)) (by (with_reducible repeat (first | refine blk_drewN ?_ _ | refine blk_drew ?_ | refine blk_alloc ?_ _));exact BK813.out) k_ hn_))⟩)) (below_size (by repeat (first | (with_reducible first | exact HB.out | apply below_alloc | apply pw_below_drewN | apply below_drew1 | refine below_set ?_ GE813.out) | exact HB.out))));have n4_:=Aside0.mk (blk_below (g:=gb813) (o:=.cells #[.int .i64 t798,.int .i64 t799,.int .i64 t800,.int .i64 t801,.int .i64 t802,.int .i64 t803,.float .f64 t804,.bool t805,.slice Ao15 t806.length co15,.int .i64 t809,.int .i64 t810,.int .i64 t811] 32 (0,0)) (by (with_reducible repeat (first | refine blk_drewN ?_ _ | refine blk_drew ?_ | refine blk_alloc ?_ _));exact BK813.out) hb);have n5_:=Aside0.mk (below_step (by repeat (first | (with_reducible first | exact HB.out | apply below_alloc | apply pw_below_drewN | apply below_drew1 | refine below_set ?_ GE813.out) | exact HB.out)) hb);clear HO792;clear HO795;clear HO808;clear BK813;clear HB;have HO792:=n0_;have HO795:=n1_;have HO808:=n2_;have HO816:=n3_;have BK813:=n4_;have HB:=n5_;clear n0_ n1_ n2_ n3_ n4_ n5_;(try clear hb);(try clear hb2);(try clear hk);(try clear hi);(try clear ho0);obtain ⟨Ao18,co18,eo18⟩:=Kd.N_slice HO816.out;subst eo18) | ((with_reducible refine gate_callee (f:=17) rfl ?_);refine goesL_ (some 33) rfl rfl Try.func17 (by kernel_rfl) rfl #[.slice Ao18 t814.length co18,.agg #[.int .i64 t796,.int .i64 5]] rfl (by (try simp only [List.map_toArray,List.map_cons,List.map_nil]);first | done | rfl | (simp only [List.length_drop,List.length_take];rfl)) ?_;(with_reducible refine (undo_Get.calls k _ _ t814 t796 5 t818 t819 t820 t821 t822 t823 t824 t825 t826 t829 t830 t831 t832 _ ?side1 ?side2 A5.out).mono ?_);(case side1 => repeat (first | exact (Kd.N_reads' HO816.out).2.2 | (with_reducible refine Kd.C_alloc ?_ _) | (with_reducible refine Kd.C_drewN ?_ _) | (with_reducible refine Kd.C_drew ?_)));(case side2 => exact (Kd.N_reads' HO816.out).2.1);rintro e w19 ⟨v827,rfl,ho0,hb⟩;refine ⟨_,rfl,?_⟩;have n0_:=Aside0.mk (Kd.N_elder' (by (with_reducible repeat (first | apply Kd.N_alloc | apply Kd.N_drewN | apply Kd.N_drew));exact HO792.out) (Kd.R_base ho0) hb);have n1_:=Aside0.mk (Kd.N_elder' (by (with_reducible repeat (first | apply Kd.N_alloc | apply Kd.N_drewN | apply Kd.N_drew));exact HO795.out) (Kd.R_base ho0) hb);have n2_:=Aside0.mk (Kd.R_elder' (by (with_reducible repeat (first | apply Kd.R_alloc | apply Kd.R_drewN | apply Kd.R_drew));exact HO808.out) (Kd.R_base ho0) hb);have n3_:=Aside0.mk (Kd.N_elder' (by (with_reducible repeat (first | apply Kd.N_alloc | apply Kd.N_drewN | apply Kd.N_drew));exact HO816.out) (Kd.R_base ho0) hb);have n4_:=Aside0.mk (Kd.R_lower (Kd.R_new' ho0 (Kd.R_lt (by (with_reducible repeat (first | apply Kd.R_alloc | apply Kd.R_drewN | apply Kd.R_drew));exact HO808.out))) (below_size (by repeat (first | (with_reducible first | exact HB.out | apply below_alloc | apply pw_below_drewN | apply below_drew1 | refine below_set ?_ GE813.out) | exact HB.out))));have n5_:=Aside0.mk (blk_below (g:=gb813) (o:=.cells #[.int .i64 t798,.int .i64 t799,.int .i64 t800,.int .i64 t801,.int .i64 t802,.int .i64 t803,.float .f64 t804,.bool t805,.slice Ao15 t806.length co15,.int .i64 t809,.int .i64 t810,.int .i64 t811] 32 (0,0)) (by (with_reducible repeat (first | refine blk_drewN ?_ _ | refine blk_drew ?_ | refine blk_alloc ?_ _));exact BK813.out) hb);have n6_:=Aside0.mk (below_step (by repeat (first | (with_reducible first | exact HB.out | apply below_alloc | apply pw_below_drewN | apply below_drew1 | refine below_set ?_ GE813.out) | exact HB.out)) hb);clear HO792;clear HO795;clear HO808;clear HO816;clear BK813;clear HB;have HO792:=n0_;have HO795:=n1_;have HO808:=n2_;have HO816:=n3_;have HO828:=n4_;have BK813:=n5_;have HB:=n6_;clear n0_ n1_ n2_ n3_ n4_ n5_ n6_;(try clear hb);(try clear hb2);(try clear hk);(try clear hi);(try clear ho0)) | ((with_reducible refine gate_dst (N:=7) rfl ?_);refine box_event ?hg (N:=7) ?hd (cs:=#[.int .i64 0,.int .i64 0,.int .i64 0,.int .i64 0,.int .i64 0,.int .i64 0,.float .f64 0,.bool false,.slice none 0 0,.int .i64 0,.int .i64 0,.int .i64 0]) (t:=32) ?hr ?_;(case hd => rfl);(case hg => rfl);(case hr => first | (go_simp;done) | (go_simp;rfl));intro gb833 hg w20 hbox hb;have n0_:=Aside0.mk (Kd.N_below (Kd.N_elderB (by (with_reducible repeat (first | apply Kd.N_alloc | apply Kd.N_drewN | apply Kd.N_drew));exact HO792.out) gb833 (Nat.le_of_eq hg.symm)) hb);have n1_:=Aside0.mk (Kd.N_below (Kd.N_elderB (by (with_reducible repeat (first | apply Kd.N_alloc | apply Kd.N_drewN | apply Kd.N_drew));exact HO795.out) gb833 (Nat.le_of_eq hg.symm)) hb);have n2_:=Aside0.mk (Kd.R_below (by (with_reducible repeat (first | apply Kd.R_alloc | apply Kd.R_drewN | apply Kd.R_drew));exact HO808.out) hb);have n3_:=Aside0.mk (Kd.N_below (Kd.N_elderB (by (with_reducible repeat (first | apply Kd.N_alloc | apply Kd.N_drewN | apply Kd.N_drew));exact HO816.out) gb833 (Nat.le_of_eq hg.symm)) hb);have n4_:=Aside0.mk (Kd.R_below (by (with_reducible repeat (first | apply Kd.R_alloc | apply Kd.R_drewN | apply Kd.R_drew));exact HO828.out) hb);have n5_:=Aside0.mk (blk_below (g:=gb813) (o:=.cells #[.int .i64 t798,.int .i64 t799,.int .i64 t800,.int .i64 t801,.int .i64 t802,.int .i64 t803,.float .f64 t804,.bool t805,.slice Ao15 t806.length co15,.int .i64 t809,.int .i64 t810,.int .i64 t811] 32 (0,0)) (by (with_reducible repeat (first | refine blk_drewN ?_ _ | refine blk_drew ?_ | refine blk_alloc ?_ _));exact BK813.out) hb);have n6_:=Aside0.mk (below_step (by repeat (first | (with_reducible first | exact HB.out | apply below_alloc | apply pw_below_drewN | apply below_drew1 | refine below_set ?_ GE813.out) | exact HB.out)) hb);have n7_:=Aside0.mk (hbox);have n8_:=Aside0.mk ((by rw [hg];exact (below_size (by repeat (first | (with_reducible first | exact HB.out | apply below_alloc | apply pw_below_drewN | apply below_drew1 | refine below_set ?_ GE813.out) | exact HB.out))) : w.heap.size ≤ gb833));have n9_:=Aside0.mk ((by rw [hg];exact (below_size (by repeat (first | (with_reducible first | exact HB.out | apply below_alloc | apply pw_below_drewN | apply below_drew1 | refine below_set ?_ GE813.out) | exact HB.out))) : w.heap.size ≤ gb833));have n10_:=Aside0.mk ((by rw [hg];exact Nat.ne_of_lt (blk_lt (g:=gb813) (o:=.cells #[.int .i64 t798,.int .i64 t799,.int .i64 t800,.int .i64 t801,.int .i64 t802,.int .i64 t803,.float .f64 t804,.bool t805,.slice Ao15 t806.length co15,.int .i64 t809,.int .i64 t810,.int .i64 t811] 32 (0,0)) (by (with_reducible repeat (first | refine blk_drewN ?_ _ | refine blk_drew ?_ | refine blk_alloc ?_ _));exact BK813.out)) : gb813 ≠ gb833));have n11_:=Aside0.mk ((by rw [hg];exact Nat.ne_of_gt (blk_lt (g:=gb813) (o:=.cells #[.int .i64 t798,.int .i64 t799,.int .i64 t800,.int .i64 t801,.int .i64 t802,.int .i64 t803,.float .f64 t804,.bool t805,.slice Ao15 t806.length co15,.int .i64 t809,.int .i64 t810,.int .i64 t811] 32 (0,0)) (by (with_reducible repeat (first | refine blk_drewN ?_ _ | refine blk_drew ?_ | refine blk_alloc ?_ _));exact BK813.out)) : gb833 ≠ gb813));clear HO792;clear HO795;clear HO808;clear HO816;clear HO828;clear BK813;clear HB;have HO792:=n0_;have HO795:=n1_;have HO808:=n2_;have HO816:=n3_;have HO828:=n4_;have BK813:=n5_;have HB:=n6_;have BK833:=n7_;have GW833:=n8_;have GE833:=n9_;have NB813_833:=n10_;have NB833_813:=n11_;clear n0_ n1_ n2_ n3_ n4_ n5_ n6_ n7_ n8_ n9_ n10_ n11_;clear hb hbox hg;have hnb21:=NB833_813.out;have hnc21:=NB813_833.out;obtain ⟨hcz22_0,hcz22_1,hcz22_2,hcz22_3,hcz22_4,hcz22_5,hcz22_6,hcz22_7,hcz22_8,hcz22_9,hcz22_10,hcz22_11⟩:=blkc_12 BK833.out;obtain ⟨hfz22_0,hfz22_1,hfz22_2,hfz22_3,hfz22_4,hfz22_5,hfz22_6,hfz22_7,hfz22_8,hfz22_9,hfz22_10,hfz22_11⟩:=blkz_12 BK833.out;obtain ⟨Ao23,co23,eo23⟩:=Kd.R_slice HO828.out;subst eo23))
  (try simp only [Act.put,List.setIfInBounds_toArray,List.set_cons_zero,List.set_cons_succ])
  go_cut [0] (fun v0 wc => ∃ (kq : Nat) (x0_5 : Bool),v0 = .bool x0_5 ∧ Aside0 (humuslaw14_awake.j0 kq x0_5 = some r) ∧ Aside0 (kq ≤ k) ∧ Aside0 (Kd.R Kd.f64 25 wc w.heap.size (fun k_ => some k_ ≠ ((.slice Ao23 t826.length co23) : Value).ownBlock) (.slice Ao15 t806.length co15) t806) ∧ Aside0 (Kd.R Kd.f64 25 wc w.heap.size (fun k_ => some k_ ≠ ((.slice Ao15 t806.length co15) : Value).ownBlock) (.slice Ao23 t826.length co23) t826) ∧ Aside0 (wc.heap[gb813]? = some (.cells #[.int .i64 t798,.int .i64 t799,.int .i64 t800,.int .i64 t801,.int .i64 t802,.int .i64 t803,.float .f64 t804,.bool t805,(.slice Ao15 t806.length co15),.int .i64 t809,.int .i64 t810,.int .i64 t811] 32 (0,0))) ∧ Aside0 (wc.heap[gb833]? = some (.cells #[.int .i64 t818,.int .i64 t819,.int .i64 t820,.int .i64 t821,.int .i64 t822,.int .i64 t823,.float .f64 t824,.bool t825,(.slice Ao23 t826.length co23),.int .i64 t829,.int .i64 t830,.int .i64 t831] 32 (0,0))) ∧ Aside0 (Below w.heap.size w wc))
  case first =>
   have H:=HC6.out
   clear HC6
   by_cases c24 : t797 = 0
   ·rw [if_pos c24] at H
    have c24b0 : (t797 == 0) = true:=beq_iff_eq.mpr c24
    have c24b1 : (t797 != 0) = false:=bne_eq_false_iff_eq.mpr c24
    clear c24
    (first | rw [c24b0] | (simp only [i64_w,i32_w];rw [c24b0]) | skip)
    by_cases c25 : t817 = 0
    ·rw [if_pos c25] at H
     have c25b0 : (t817 == 0) = true:=beq_iff_eq.mpr c25
     have c25b1 : (t817 != 0) = false:=bne_eq_false_iff_eq.mpr c25
     clear c25
     by_cases c26 : t796 = 1
     ·rw [if_pos c26] at H
      have c26b0 : (t796 == 1) = true:=beq_iff_eq.mpr c26
      have c26b1 : (t796 != 1) = false:=bne_eq_false_iff_eq.mpr c26
      clear c26
      by_cases c27 : t812 = true
      ·subst c27
       have H1 : (humuslaw14_awake.j0 k (!t832)) = some r:=by rw [if_pos rfl] at H;exact H
       clear H
       have H:=H1
       clear H1
       have H':=Aside0.mk H
       clear H
       go_wp2
       go_meet
       case rel => exact ⟨_,(!t832),(by first | rfl | (simp;done) | (simp [*];done)),H',⟨by first | omega | exact Nat.le_refl _⟩,⟨by (with_reducible repeat (first | apply Kd.R_alloc | apply Kd.R_drewN | apply Kd.R_drew));exact Kd.R_mono (Kd.R_far (p:=⟨gb833,11,none⟩) (Kd.R_far (p:=⟨gb833,10,none⟩) (Kd.R_far (p:=⟨gb833,9,none⟩) (Kd.R_far (p:=⟨gb833,8,none⟩) (Kd.R_far (p:=⟨gb833,7,none⟩) (Kd.R_far (p:=⟨gb833,6,none⟩) (Kd.R_far (p:=⟨gb833,5,none⟩) (Kd.R_far (p:=⟨gb833,4,none⟩) (Kd.R_far (p:=⟨gb833,3,none⟩) (Kd.R_far (p:=⟨gb833,2,none⟩) (Kd.R_far (p:=⟨gb833,1,none⟩) (Kd.R_far (p:=⟨gb833,0,none⟩) (Kd.R_types HO808.out BK833.out (by decide)) (fun _ hk => hk.2) (.int .i64 t818)) (fun _ hk => hk.2) (.int .i64 t819)) (fun _ hk => hk.2) (.int .i64 t820)) (fun _ hk => hk.2) (.int .i64 t821)) (fun _ hk => hk.2) (.int .i64 t822)) (fun _ hk => hk.2) (.int .i64 t823)) (fun _ hk => hk.2) (.float .f64 t824)) (fun _ hk => hk.2) (.bool t825)) (fun _ hk => hk.2) (.slice Ao23 t826.length co23)) (fun _ hk => hk.2) (.int .i64 t829)) (fun _ hk => hk.2) (.int .i64 t830)) (fun _ hk => hk.2) (.int .i64 t831)) (fun _ hk => hk.1.2)⟩,⟨by (with_reducible repeat (first | apply Kd.R_alloc | apply Kd.R_drewN | apply Kd.R_drew));exact Kd.R_mono (Kd.R_far (p:=⟨gb833,11,none⟩) (Kd.R_far (p:=⟨gb833,10,none⟩) (Kd.R_far (p:=⟨gb833,9,none⟩) (Kd.R_far (p:=⟨gb833,8,none⟩) (Kd.R_far (p:=⟨gb833,7,none⟩) (Kd.R_far (p:=⟨gb833,6,none⟩) (Kd.R_far (p:=⟨gb833,5,none⟩) (Kd.R_far (p:=⟨gb833,4,none⟩) (Kd.R_far (p:=⟨gb833,3,none⟩) (Kd.R_far (p:=⟨gb833,2,none⟩) (Kd.R_far (p:=⟨gb833,1,none⟩) (Kd.R_far (p:=⟨gb833,0,none⟩) (Kd.R_types HO828.out BK833.out (by decide)) (fun _ hk => hk.2) (.int .i64 t818)) (fun _ hk => hk.2) (.int .i64 t819)) (fun _ hk => hk.2) (.int .i64 t820)) (fun _ hk => hk.2) (.int .i64 t821)) (fun _ hk => hk.2) (.int .i64 t822)) (fun _ hk => hk.2) (.int .i64 t823)) (fun _ hk => hk.2) (.float .f64 t824)) (fun _ hk => hk.2) (.bool t825)) (fun _ hk => hk.2) (.slice Ao23 t826.length co23)) (fun _ hk => hk.2) (.int .i64 t829)) (fun _ hk => hk.2) (.int .i64 t830)) (fun _ hk => hk.2) (.int .i64 t831)) (fun _ hk => hk.1.2)⟩,⟨by (with_reducible repeat (first | refine blk_drewN ?_ _ | refine blk_drew ?_ | refine blk_alloc ?_ _));refine blk_far ?_ NB813_833.out _;(with_reducible repeat (first | refine blk_drewN ?_ _ | refine blk_drew ?_ | refine blk_alloc ?_ _));refine blk_far ?_ NB813_833.out _;(with_reducible repeat (first | refine blk_drewN ?_ _ | refine blk_drew ?_ | refine blk_alloc ?_ _));refine blk_far ?_ NB813_833.out _;(with_reducible repeat (first | refine blk_drewN ?_ _ | refine blk_drew ?_ | refine blk_alloc ?_ _));refine blk_far ?_ NB813_833.out _;(with_reducible repeat (first | refine blk_drewN ?_ _ | refine blk_drew ?_ | refine blk_alloc ?_ _));refine blk_far ?_ NB813_833.out _;(with_reducible repeat (first | refine blk_drewN ?_ _ | refine blk_drew ?_ | refine blk_alloc ?_ _));refine blk_far ?_ NB813_833.out _;(with_reducible repeat (first | refine blk_drewN ?_ _ | refine blk_drew ?_ | refine blk_alloc ?_ _));refine blk_far ?_ NB813_833.out _;(with_reducible repeat (first | refine blk_drewN ?_ _ | refine blk_drew ?_ | refine blk_alloc ?_ _));refine blk_far ?_ NB813_833.out _;(with_reducible repeat (first | refine blk_drewN ?_ _ | refine blk_drew ?_ | refine blk_alloc ?_ _));refine blk_far ?_ NB813_833.out _;(with_reducible repeat (first | refine blk_drewN ?_ _ | refine blk_drew ?_ | refine blk_alloc ?_ _));refine blk_far ?_ NB813_833.out _;(with_reducible repeat (first | refine blk_drewN ?_ _ | refine blk_drew ?_ | refine blk_alloc ?_ _));refine blk_far ?_ NB813_833.out _;(with_reducible repeat (first | refine blk_drewN ?_ _ | refine blk_drew ?_ | refine blk_alloc ?_ _));refine blk_far ?_ NB813_833.out _;(with_reducible repeat (first | refine blk_drewN ?_ _ | refine blk_drew ?_ | refine blk_alloc ?_ _));exact BK813.out⟩,⟨by (with_reducible repeat (first | refine blk_drewN ?_ _ | refine blk_drew ?_ | refine blk_alloc ?_ _));apply blkf_12_0_11;(with_reducible repeat (first | refine blk_drewN ?_ _ | refine blk_drew ?_ | refine blk_alloc ?_ _));exact BK833.out⟩,⟨by repeat (first | (with_reducible first | exact HB.out | apply below_alloc | apply pw_below_drewN | apply below_drew1 | refine below_set ?_ GE813.out | refine below_set ?_ GE833.out) | exact HB.out)⟩⟩
      ·replace c27:=Bool.eq_false_iff.mpr c27
       subst c27
       have H1 : (humuslaw14_awake.j0 k false) = some r:=by rw [if_neg (show ¬ (false = true) by decide)] at H;exact H
       clear H
       have H:=H1
       clear H1
       have H':=Aside0.mk H
       clear H
       go_wp2
       go_meet
       case rel => exact ⟨_,(false),(by first | rfl | (simp;done) | (simp [*];done)),H',⟨by first | omega | exact Nat.le_refl _⟩,⟨by (with_reducible repeat (first | apply Kd.R_alloc | apply Kd.R_drewN | apply Kd.R_drew));exact Kd.R_mono (Kd.R_far (p:=⟨gb833,11,none⟩) (Kd.R_far (p:=⟨gb833,10,none⟩) (Kd.R_far (p:=⟨gb833,9,none⟩) (Kd.R_far (p:=⟨gb833,8,none⟩) (Kd.R_far (p:=⟨gb833,7,none⟩) (Kd.R_far (p:=⟨gb833,6,none⟩) (Kd.R_far (p:=⟨gb833,5,none⟩) (Kd.R_far (p:=⟨gb833,4,none⟩) (Kd.R_far (p:=⟨gb833,3,none⟩) (Kd.R_far (p:=⟨gb833,2,none⟩) (Kd.R_far (p:=⟨gb833,1,none⟩) (Kd.R_far (p:=⟨gb833,0,none⟩) (Kd.R_types HO808.out BK833.out (by decide)) (fun _ hk => hk.2) (.int .i64 t818)) (fun _ hk => hk.2) (.int .i64 t819)) (fun _ hk => hk.2) (.int .i64 t820)) (fun _ hk => hk.2) (.int .i64 t821)) (fun _ hk => hk.2) (.int .i64 t822)) (fun _ hk => hk.2) (.int .i64 t823)) (fun _ hk => hk.2) (.float .f64 t824)) (fun _ hk => hk.2) (.bool t825)) (fun _ hk => hk.2) (.slice Ao23 t826.length co23)) (fun _ hk => hk.2) (.int .i64 t829)) (fun _ hk => hk.2) (.int .i64 t830)) (fun _ hk => hk.2) (.int .i64 t831)) (fun _ hk => hk.1.2)⟩,⟨by (with_reducible repeat (first | apply Kd.R_alloc | apply Kd.R_drewN | apply Kd.R_drew));exact Kd.R_mono (Kd.R_far (p:=⟨gb833,11,none⟩) (Kd.R_far (p:=⟨gb833,10,none⟩) (Kd.R_far (p:=⟨gb833,9,none⟩) (Kd.R_far (p:=⟨gb833,8,none⟩) (Kd.R_far (p:=⟨gb833,7,none⟩) (Kd.R_far (p:=⟨gb833,6,none⟩) (Kd.R_far (p:=⟨gb833,5,none⟩) (Kd.R_far (p:=⟨gb833,4,none⟩) (Kd.R_far (p:=⟨gb833,3,none⟩) (Kd.R_far (p:=⟨gb833,2,none⟩) (Kd.R_far (p:=⟨gb833,1,none⟩) (Kd.R_far (p:=⟨gb833,0,none⟩) (Kd.R_types HO828.out BK833.out (by decide)) (fun _ hk => hk.2) (.int .i64 t818)) (fun _ hk => hk.2) (.int .i64 t819)) (fun _ hk => hk.2) (.int .i64 t820)) (fun _ hk => hk.2) (.int .i64 t821)) (fun _ hk => hk.2) (.int .i64 t822)) (fun _ hk => hk.2) (.int .i64 t823)) (fun _ hk => hk.2) (.float .f64 t824)) (fun _ hk => hk.2) (.bool t825)) (fun _ hk => hk.2) (.slice Ao23 t826.length co23)) (fun _ hk => hk.2) (.int .i64 t829)) (fun _ hk => hk.2) (.int .i64 t830)) (fun _ hk => hk.2) (.int .i64 t831)) (fun _ hk => hk.1.2)⟩,⟨by (with_reducible repeat (first | refine blk_drewN ?_ _ | refine blk_drew ?_ | refine blk_alloc ?_ _));refine blk_far ?_ NB813_833.out _;(with_reducible repeat (first | refine blk_drewN ?_ _ | refine blk_drew ?_ | refine blk_alloc ?_ _));refine blk_far ?_ NB813_833.out _;(with_reducible repeat (first | refine blk_drewN ?_ _ | refine blk_drew ?_ | refine blk_alloc ?_ _));refine blk_far ?_ NB813_833.out _;(with_reducible repeat (first | refine blk_drewN ?_ _ | refine blk_drew ?_ | refine blk_alloc ?_ _));refine blk_far ?_ NB813_833.out _;(with_reducible repeat (first | refine blk_drewN ?_ _ | refine blk_drew ?_ | refine blk_alloc ?_ _));refine blk_far ?_ NB813_833.out _;(with_reducible repeat (first | refine blk_drewN ?_ _ | refine blk_drew ?_ | refine blk_alloc ?_ _));refine blk_far ?_ NB813_833.out _;(with_reducible repeat (first | refine blk_drewN ?_ _ | refine blk_drew ?_ | refine blk_alloc ?_ _));refine blk_far ?_ NB813_833.out _;(with_reducible repeat (first | refine blk_drewN ?_ _ | refine blk_drew ?_ | refine blk_alloc ?_ _));refine blk_far ?_ NB813_833.out _;(with_reducible repeat (first | refine blk_drewN ?_ _ | refine blk_drew ?_ | refine blk_alloc ?_ _));refine blk_far ?_ NB813_833.out _;(with_reducible repeat (first | refine blk_drewN ?_ _ | refine blk_drew ?_ | refine blk_alloc ?_ _));refine blk_far ?_ NB813_833.out _;(with_reducible repeat (first | refine blk_drewN ?_ _ | refine blk_drew ?_ | refine blk_alloc ?_ _));refine blk_far ?_ NB813_833.out _;(with_reducible repeat (first | refine blk_drewN ?_ _ | refine blk_drew ?_ | refine blk_alloc ?_ _));refine blk_far ?_ NB813_833.out _;(with_reducible repeat (first | refine blk_drewN ?_ _ | refine blk_drew ?_ | refine blk_alloc ?_ _));exact BK813.out⟩,⟨by (with_reducible repeat (first | refine blk_drewN ?_ _ | refine blk_drew ?_ | refine blk_alloc ?_ _));apply blkf_12_0_11;(with_reducible repeat (first | refine blk_drewN ?_ _ | refine blk_drew ?_ | refine blk_alloc ?_ _));exact BK833.out⟩,⟨by repeat (first | (with_reducible first | exact HB.out | apply below_alloc | apply pw_below_drewN | apply below_drew1 | refine below_set ?_ GE813.out | refine below_set ?_ GE833.out) | exact HB.out)⟩⟩
     ·rw [if_neg c26] at H
      have c26b0 : (t796 == 1) = false:=beq_eq_false_iff_ne.mpr c26
      have c26b1 : (t796 != 1) = true:=bne_iff_ne.mpr c26
      have H':=Aside0.mk H
      clear H
      go_wp2
      go_meet
      case rel => exact ⟨_,(false),(by first | rfl | (simp;done) | (simp [*];done)),H',⟨by first | omega | exact Nat.le_refl _⟩,⟨by (with_reducible repeat (first | apply Kd.R_alloc | apply Kd.R_drewN | apply Kd.R_drew));exact Kd.R_mono (Kd.R_far (p:=⟨gb833,11,none⟩) (Kd.R_far (p:=⟨gb833,10,none⟩) (Kd.R_far (p:=⟨gb833,9,none⟩) (Kd.R_far (p:=⟨gb833,8,none⟩) (Kd.R_far (p:=⟨gb833,7,none⟩) (Kd.R_far (p:=⟨gb833,6,none⟩) (Kd.R_far (p:=⟨gb833,5,none⟩) (Kd.R_far (p:=⟨gb833,4,none⟩) (Kd.R_far (p:=⟨gb833,3,none⟩) (Kd.R_far (p:=⟨gb833,2,none⟩) (Kd.R_far (p:=⟨gb833,1,none⟩) (Kd.R_far (p:=⟨gb833,0,none⟩) (Kd.R_types HO808.out BK833.out (by decide)) (fun _ hk => hk.2) (.int .i64 t818)) (fun _ hk => hk.2) (.int .i64 t819)) (fun _ hk => hk.2) (.int .i64 t820)) (fun _ hk => hk.2) (.int .i64 t821)) (fun _ hk => hk.2) (.int .i64 t822)) (fun _ hk => hk.2) (.int .i64 t823)) (fun _ hk => hk.2) (.float .f64 t824)) (fun _ hk => hk.2) (.bool t825)) (fun _ hk => hk.2) (.slice Ao23 t826.length co23)) (fun _ hk => hk.2) (.int .i64 t829)) (fun _ hk => hk.2) (.int .i64 t830)) (fun _ hk => hk.2) (.int .i64 t831)) (fun _ hk => hk.1.2)⟩,⟨by (with_reducible repeat (first | apply Kd.R_alloc | apply Kd.R_drewN | apply Kd.R_drew));exact Kd.R_mono (Kd.R_far (p:=⟨gb833,11,none⟩) (Kd.R_far (p:=⟨gb833,10,none⟩) (Kd.R_far (p:=⟨gb833,9,none⟩) (Kd.R_far (p:=⟨gb833,8,none⟩) (Kd.R_far (p:=⟨gb833,7,none⟩) (Kd.R_far (p:=⟨gb833,6,none⟩) (Kd.R_far (p:=⟨gb833,5,none⟩) (Kd.R_far (p:=⟨gb833,4,none⟩) (Kd.R_far (p:=⟨gb833,3,none⟩) (Kd.R_far (p:=⟨gb833,2,none⟩) (Kd.R_far (p:=⟨gb833,1,none⟩) (Kd.R_far (p:=⟨gb833,0,none⟩) (Kd.R_types HO828.out BK833.out (by decide)) (fun _ hk => hk.2) (.int .i64 t818)) (fun _ hk => hk.2) (.int .i64 t819)) (fun _ hk => hk.2) (.int .i64 t820)) (fun _ hk => hk.2) (.int .i64 t821)) (fun _ hk => hk.2) (.int .i64 t822)) (fun _ hk => hk.2) (.int .i64 t823)) (fun _ hk => hk.2) (.float .f64 t824)) (fun _ hk => hk.2) (.bool t825)) (fun _ hk => hk.2) (.slice Ao23 t826.length co23)) (fun _ hk => hk.2) (.int .i64 t829)) (fun _ hk => hk.2) (.int .i64 t830)) (fun _ hk => hk.2) (.int .i64 t831)) (fun _ hk => hk.1.2)⟩,⟨by (with_reducible repeat (first | refine blk_drewN ?_ _ | refine blk_drew ?_ | refine blk_alloc ?_ _));refine blk_far ?_ NB813_833.out _;(with_reducible repeat (first | refine blk_drewN ?_ _ | refine blk_drew ?_ | refine blk_alloc ?_ _));refine blk_far ?_ NB813_833.out _;(with_reducible repeat (first | refine blk_drewN ?_ _ | refine blk_drew ?_ | refine blk_alloc ?_ _));refine blk_far ?_ NB813_833.out _;(with_reducible repeat (first | refine blk_drewN ?_ _ | refine blk_drew ?_ | refine blk_alloc ?_ _));refine blk_far ?_ NB813_833.out _;(with_reducible repeat (first | refine blk_drewN ?_ _ | refine blk_drew ?_ | refine blk_alloc ?_ _));refine blk_far ?_ NB813_833.out _;(with_reducible repeat (first | refine blk_drewN ?_ _ | refine blk_drew ?_ | refine blk_alloc ?_ _));refine blk_far ?_ NB813_833.out _;(with_reducible repeat (first | refine blk_drewN ?_ _ | refine blk_drew ?_ | refine blk_alloc ?_ _));refine blk_far ?_ NB813_833.out _;(with_reducible repeat (first | refine blk_drewN ?_ _ | refine blk_drew ?_ | refine blk_alloc ?_ _));refine blk_far ?_ NB813_833.out _;(with_reducible repeat (first | refine blk_drewN ?_ _ | refine blk_drew ?_ | refine blk_alloc ?_ _));refine blk_far ?_ NB813_833.out _;(with_reducible repeat (first | refine blk_drewN ?_ _ | refine blk_drew ?_ | refine blk_alloc ?_ _));refine blk_far ?_ NB813_833.out _;(with_reducible repeat (first | refine blk_drewN ?_ _ | refine blk_drew ?_ | refine blk_alloc ?_ _));refine blk_far ?_ NB813_833.out _;(with_reducible repeat (first | refine blk_drewN ?_ _ | refine blk_drew ?_ | refine blk_alloc ?_ _));refine blk_far ?_ NB813_833.out _;(with_reducible repeat (first | refine blk_drewN ?_ _ | refine blk_drew ?_ | refine blk_alloc ?_ _));exact BK813.out⟩,⟨by (with_reducible repeat (first | refine blk_drewN ?_ _ | refine blk_drew ?_ | refine blk_alloc ?_ _));apply blkf_12_0_11;(with_reducible repeat (first | refine blk_drewN ?_ _ | refine blk_drew ?_ | refine blk_alloc ?_ _));exact BK833.out⟩,⟨by repeat (first | (with_reducible first | exact HB.out | apply below_alloc | apply pw_below_drewN | apply below_drew1 | refine below_set ?_ GE813.out | refine below_set ?_ GE833.out) | exact HB.out)⟩⟩
    ·rw [if_neg c25] at H
     have c25b0 : (t817 == 0) = false:=beq_eq_false_iff_ne.mpr c25
     have c25b1 : (t817 != 0) = true:=bne_iff_ne.mpr c25
     have H':=Aside0.mk H
     clear H
     go_wp2
     go_meet
     case rel => exact ⟨_,(false),(by first | rfl | (simp;done) | (simp [*];done)),H',⟨by first | omega | exact Nat.le_refl _⟩,⟨by (with_reducible repeat (first | apply Kd.R_alloc | apply Kd.R_drewN | apply Kd.R_drew));exact Kd.R_mono (Kd.R_far (p:=⟨gb833,11,none⟩) (Kd.R_far (p:=⟨gb833,10,none⟩) (Kd.R_far (p:=⟨gb833,9,none⟩) (Kd.R_far (p:=⟨gb833,8,none⟩) (Kd.R_far (p:=⟨gb833,7,none⟩) (Kd.R_far (p:=⟨gb833,6,none⟩) (Kd.R_far (p:=⟨gb833,5,none⟩) (Kd.R_far (p:=⟨gb833,4,none⟩) (Kd.R_far (p:=⟨gb833,3,none⟩) (Kd.R_far (p:=⟨gb833,2,none⟩) (Kd.R_far (p:=⟨gb833,1,none⟩) (Kd.R_far (p:=⟨gb833,0,none⟩) (Kd.R_types HO808.out BK833.out (by decide)) (fun _ hk => hk.2) (.int .i64 t818)) (fun _ hk => hk.2) (.int .i64 t819)) (fun _ hk => hk.2) (.int .i64 t820)) (fun _ hk => hk.2) (.int .i64 t821)) (fun _ hk => hk.2) (.int .i64 t822)) (fun _ hk => hk.2) (.int .i64 t823)) (fun _ hk => hk.2) (.float .f64 t824)) (fun _ hk => hk.2) (.bool t825)) (fun _ hk => hk.2) (.slice Ao23 t826.length co23)) (fun _ hk => hk.2) (.int .i64 t829)) (fun _ hk => hk.2) (.int .i64 t830)) (fun _ hk => hk.2) (.int .i64 t831)) (fun _ hk => hk.1.2)⟩,⟨by (with_reducible repeat (first | apply Kd.R_alloc | apply Kd.R_drewN | apply Kd.R_drew));exact Kd.R_mono (Kd.R_far (p:=⟨gb833,11,none⟩) (Kd.R_far (p:=⟨gb833,10,none⟩) (Kd.R_far (p:=⟨gb833,9,none⟩) (Kd.R_far (p:=⟨gb833,8,none⟩) (Kd.R_far (p:=⟨gb833,7,none⟩) (Kd.R_far (p:=⟨gb833,6,none⟩) (Kd.R_far (p:=⟨gb833,5,none⟩) (Kd.R_far (p:=⟨gb833,4,none⟩) (Kd.R_far (p:=⟨gb833,3,none⟩) (Kd.R_far (p:=⟨gb833,2,none⟩) (Kd.R_far (p:=⟨gb833,1,none⟩) (Kd.R_far (p:=⟨gb833,0,none⟩) (Kd.R_types HO828.out BK833.out (by decide)) (fun _ hk => hk.2) (.int .i64 t818)) (fun _ hk => hk.2) (.int .i64 t819)) (fun _ hk => hk.2) (.int .i64 t820)) (fun _ hk => hk.2) (.int .i64 t821)) (fun _ hk => hk.2) (.int .i64 t822)) (fun _ hk => hk.2) (.int .i64 t823)) (fun _ hk => hk.2) (.float .f64 t824)) (fun _ hk => hk.2) (.bool t825)) (fun _ hk => hk.2) (.slice Ao23 t826.length co23)) (fun _ hk => hk.2) (.int .i64 t829)) (fun _ hk => hk.2) (.int .i64 t830)) (fun _ hk => hk.2) (.int .i64 t831)) (fun _ hk => hk.1.2)⟩,⟨by (with_reducible repeat (first | refine blk_drewN ?_ _ | refine blk_drew ?_ | refine blk_alloc ?_ _));refine blk_far ?_ NB813_833.out _;(with_reducible repeat (first | refine blk_drewN ?_ _ | refine blk_drew ?_ | refine blk_alloc ?_ _));refine blk_far ?_ NB813_833.out _;(with_reducible repeat (first | refine blk_drewN ?_ _ | refine blk_drew ?_ | refine blk_alloc ?_ _));refine blk_far ?_ NB813_833.out _;(with_reducible repeat (first | refine blk_drewN ?_ _ | refine blk_drew ?_ | refine blk_alloc ?_ _));refine blk_far ?_ NB813_833.out _;(with_reducible repeat (first | refine blk_drewN ?_ _ | refine blk_drew ?_ | refine blk_alloc ?_ _));refine blk_far ?_ NB813_833.out _;(with_reducible repeat (first | refine blk_drewN ?_ _ | refine blk_drew ?_ | refine blk_alloc ?_ _));refine blk_far ?_ NB813_833.out _;(with_reducible repeat (first | refine blk_drewN ?_ _ | refine blk_drew ?_ | refine blk_alloc ?_ _));refine blk_far ?_ NB813_833.out _;(with_reducible repeat (first | refine blk_drewN ?_ _ | refine blk_drew ?_ | refine blk_alloc ?_ _));refine blk_far ?_ NB813_833.out _;(with_reducible repeat (first | refine blk_drewN ?_ _ | refine blk_drew ?_ | refine blk_alloc ?_ _));refine blk_far ?_ NB813_833.out _;(with_reducible repeat (first | refine blk_drewN ?_ _ | refine blk_drew ?_ | refine blk_alloc ?_ _));refine blk_far ?_ NB813_833.out _;(with_reducible repeat (first | refine blk_drewN ?_ _ | refine blk_drew ?_ | refine blk_alloc ?_ _));refine blk_far ?_ NB813_833.out _;(with_reducible repeat (first | refine blk_drewN ?_ _ | refine blk_drew ?_ | refine blk_alloc ?_ _));refine blk_far ?_ NB813_833.out _;(with_reducible repeat (first | refine blk_drewN ?_ _ | refine blk_drew ?_ | refine blk_alloc ?_ _));exact BK813.out⟩,⟨by (with_reducible repeat (first | refine blk_drewN ?_ _ | refine blk_drew ?_ | refine blk_alloc ?_ _));apply blkf_12_0_11;(with_reducible repeat (first | refine blk_drewN ?_ _ | refine blk_drew ?_ | refine blk_alloc ?_ _));exact BK833.out⟩,⟨by repeat (first | (with_reducible first | exact HB.out | apply below_alloc | apply pw_below_drewN | apply below_drew1 | refine below_set ?_ GE813.out | refine below_set ?_ GE833.out) | exact HB.out)⟩⟩
   ·rw [if_neg c24] at H
    have c24b0 : (t797 == 0) = false:=beq_eq_false_iff_ne.mpr c24
    have c24b1 : (t797 != 0) = true:=bne_iff_ne.mpr c24
    (first | rw [c24b0] | (simp only [i64_w,i32_w];rw [c24b0]) | skip)
    have H':=Aside0.mk H
    clear H
    go_wp2
    go_meet
    case rel => exact ⟨_,(false),(by first | rfl | (simp;done) | (simp [*];done)),H',⟨by first | omega | exact Nat.le_refl _⟩,⟨by (with_reducible repeat (first | apply Kd.R_alloc | apply Kd.R_drewN | apply Kd.R_drew));exact Kd.R_mono (Kd.R_far (p:=⟨gb833,11,none⟩) (Kd.R_far (p:=⟨gb833,10,none⟩) (Kd.R_far (p:=⟨gb833,9,none⟩) (Kd.R_far (p:=⟨gb833,8,none⟩) (Kd.R_far (p:=⟨gb833,7,none⟩) (Kd.R_far (p:=⟨gb833,6,none⟩) (Kd.R_far (p:=⟨gb833,5,none⟩) (Kd.R_far (p:=⟨gb833,4,none⟩) (Kd.R_far (p:=⟨gb833,3,none⟩) (Kd.R_far (p:=⟨gb833,2,none⟩) (Kd.R_far (p:=⟨gb833,1,none⟩) (Kd.R_far (p:=⟨gb833,0,none⟩) (Kd.R_types HO808.out BK833.out (by decide)) (fun _ hk => hk.2) (.int .i64 t818)) (fun _ hk => hk.2) (.int .i64 t819)) (fun _ hk => hk.2) (.int .i64 t820)) (fun _ hk => hk.2) (.int .i64 t821)) (fun _ hk => hk.2) (.int .i64 t822)) (fun _ hk => hk.2) (.int .i64 t823)) (fun _ hk => hk.2) (.float .f64 t824)) (fun _ hk => hk.2) (.bool t825)) (fun _ hk => hk.2) (.slice Ao23 t826.length co23)) (fun _ hk => hk.2) (.int .i64 t829)) (fun _ hk => hk.2) (.int .i64 t830)) (fun _ hk => hk.2) (.int .i64 t831)) (fun _ hk => hk.1.2)⟩,⟨by (with_reducible repeat (first | apply Kd.R_alloc | apply Kd.R_drewN | apply Kd.R_drew));exact Kd.R_mono (Kd.R_far (p:=⟨gb833,11,none⟩) (Kd.R_far (p:=⟨gb833,10,none⟩) (Kd.R_far (p:=⟨gb833,9,none⟩) (Kd.R_far (p:=⟨gb833,8,none⟩) (Kd.R_far (p:=⟨gb833,7,none⟩) (Kd.R_far (p:=⟨gb833,6,none⟩) (Kd.R_far (p:=⟨gb833,5,none⟩) (Kd.R_far (p:=⟨gb833,4,none⟩) (Kd.R_far (p:=⟨gb833,3,none⟩) (Kd.R_far (p:=⟨gb833,2,none⟩) (Kd.R_far (p:=⟨gb833,1,none⟩) (Kd.R_far (p:=⟨gb833,0,none⟩) (Kd.R_types HO828.out BK833.out (by decide)) (fun _ hk => hk.2) (.int .i64 t818)) (fun _ hk => hk.2) (.int .i64 t819)) (fun _ hk => hk.2) (.int .i64 t820)) (fun _ hk => hk.2) (.int .i64 t821)) (fun _ hk => hk.2) (.int .i64 t822)) (fun _ hk => hk.2) (.int .i64 t823)) (fun _ hk => hk.2) (.float .f64 t824)) (fun _ hk => hk.2) (.bool t825)) (fun _ hk => hk.2) (.slice Ao23 t826.length co23)) (fun _ hk => hk.2) (.int .i64 t829)) (fun _ hk => hk.2) (.int .i64 t830)) (fun _ hk => hk.2) (.int .i64 t831)) (fun _ hk => hk.1.2)⟩,⟨by (with_reducible repeat (first | refine blk_drewN ?_ _ | refine blk_drew ?_ | refine blk_alloc ?_ _));refine blk_far ?_ NB813_833.out _;(with_reducible repeat (first | refine blk_drewN ?_ _ | refine blk_drew ?_ | refine blk_alloc ?_ _));refine blk_far ?_ NB813_833.out _;(with_reducible repeat (first | refine blk_drewN ?_ _ | refine blk_drew ?_ | refine blk_alloc ?_ _));refine blk_far ?_ NB813_833.out _;(with_reducible repeat (first | refine blk_drewN ?_ _ | refine blk_drew ?_ | refine blk_alloc ?_ _));refine blk_far ?_ NB813_833.out _;(with_reducible repeat (first | refine blk_drewN ?_ _ | refine blk_drew ?_ | refine blk_alloc ?_ _));refine blk_far ?_ NB813_833.out _;(with_reducible repeat (first | refine blk_drewN ?_ _ | refine blk_drew ?_ | refine blk_alloc ?_ _));refine blk_far ?_ NB813_833.out _;(with_reducible repeat (first | refine blk_drewN ?_ _ | refine blk_drew ?_ | refine blk_alloc ?_ _));refine blk_far ?_ NB813_833.out _;(with_reducible repeat (first | refine blk_drewN ?_ _ | refine blk_drew ?_ | refine blk_alloc ?_ _));refine blk_far ?_ NB813_833.out _;(with_reducible repeat (first | refine blk_drewN ?_ _ | refine blk_drew ?_ | refine blk_alloc ?_ _));refine blk_far ?_ NB813_833.out _;(with_reducible repeat (first | refine blk_drewN ?_ _ | refine blk_drew ?_ | refine blk_alloc ?_ _));refine blk_far ?_ NB813_833.out _;(with_reducible repeat (first | refine blk_drewN ?_ _ | refine blk_drew ?_ | refine blk_alloc ?_ _));refine blk_far ?_ NB813_833.out _;(with_reducible repeat (first | refine blk_drewN ?_ _ | refine blk_drew ?_ | refine blk_alloc ?_ _));refine blk_far ?_ NB813_833.out _;(with_reducible repeat (first | refine blk_drewN ?_ _ | refine blk_drew ?_ | refine blk_alloc ?_ _));exact BK813.out⟩,⟨by (with_reducible repeat (first | refine blk_drewN ?_ _ | refine blk_drew ?_ | refine blk_alloc ?_ _));apply blkf_12_0_11;(with_reducible repeat (first | refine blk_drewN ?_ _ | refine blk_drew ?_ | refine blk_alloc ?_ _));exact BK833.out⟩,⟨by repeat (first | (with_reducible first | exact HB.out | apply below_alloc | apply pw_below_drewN | apply below_drew1 | refine below_set ?_ GE813.out | refine below_set ?_ GE833.out) | exact HB.out)⟩⟩
  case rest =>
   clear HC6
   try clear c1
   try clear c1b0
   try clear c1b1
   try clear c2
   try clear p2
   try clear c15
   try clear c16
   try clear c17
   try clear c19
   try clear c21
   try clear c24
   try clear c24b0
   try clear c24b1
   try clear c25
   try clear c25b0
   try clear c25b1
   try clear c26
   try clear c26b0
   try clear c26b1
   try clear c27
   try clear hcz14_0
   try clear hcz14_1
   try clear hcz14_10
   try clear hcz14_11
   try clear hcz14_2
   try clear hcz14_3
   try clear hcz14_4
   try clear hcz14_5
   try clear hcz14_6
   try clear hcz14_7
   try clear hcz14_8
   try clear hcz14_9
   try clear hcz22_0
   try clear hcz22_1
   try clear hcz22_10
   try clear hcz22_11
   try clear hcz22_2
   try clear hcz22_3
   try clear hcz22_4
   try clear hcz22_5
   try clear hcz22_6
   try clear hcz22_7
   try clear hcz22_8
   try clear hcz22_9
   try clear hfz14_0
   try clear hfz14_1
   try clear hfz14_10
   try clear hfz14_11
   try clear hfz14_2
   try clear hfz14_3
   try clear hfz14_4
   try clear hfz14_5
   try clear hfz14_6
   try clear hfz14_7
   try clear hfz14_8
   try clear hfz14_9
   try clear hfz22_0
   try clear hfz22_1
   try clear hfz22_10
   try clear hfz22_11
   try clear hfz22_2
   try clear hfz22_3
   try clear hfz22_4
   try clear hfz22_5
   try clear hfz22_6
   try clear hfz22_7
   try clear hfz22_8
   try clear hfz22_9
   obtain ⟨kq,x0_5,rfl,HA,HJ5,HO_814008,HO_834008,BK813,BK833,HB⟩:=hcut
   cases kq with
   | zero => exact absurd HA.out (by simp [humuslaw14_awake.j0])
   | succ kj5 =>
    have H:=HA.out
    clear HA
    simp only [humuslaw14_awake.j0] at H
    obtain rfl:=Option.some.inj H
    go_wp2
    go_ret
    exact ⟨by first | rfl | (simp [errW_none,errW_some] <;> rfl) | (simp [*,errW_none,errW_some] <;> rfl),by repeat (first | (with_reducible first | exact HB.out | apply below_alloc | apply pw_below_drewN | apply below_drew1 | refine below_set ?_ GE813.out | refine below_set ?_ GE833.out) | exact HB.out)⟩
 ·rw [if_neg c1] at H
  exact absurd H (by simp)
end Go.Proofs.Ytdcllbhkjcdnoaa.P
set_option linter.unusedVariables false
set_option linter.unusedSimpArgs false
namespace Go.Proofs.Ytdcllbhkjcdnoaa.P
open Go.RowKit Go.Proofs.Ytdcllbhkjcdnoaa Go.Proofs.Ytdcllbhkjcdnoaa.Mem Go.Proofs.Ytdcllbhkjcdnoaa.Pac Go.Proofs.YtdcllbhkjcdnoaaW.PrintWords Go.Proofs.YtdcllbhkjcdnoaaW.PrintLast
def CellsOk (l : List Und) : Prop := (∀ (i : Nat) (a : Und), l[i]? = some a → emptyU a = false → mayUs a = true) ∧ ∀ (i j : Nat) (a b : Und), i ≠ j → l[i]? = some a → l[j]? = some b → emptyU a = false → emptyU b = false → a.f1 ≠ b.f1
theorem chkU_iff (l : List Und) : ∀ S : List Int, chkU l S = true ↔ (∀ a ∈ l, emptyU a = false → mayUs a = true ∧ a.f1 ∉ S) ∧ l.Pairwise (fun a b => emptyU a = false → emptyU b = false → a.f1 ≠ b.f1) := by
  induction l with
  | nil => intro S; simp [chkU]
  | cons u l ih =>
    intro S
    unfold chkU
    cases hu : emptyU u with
    | true =>
      simp only [if_true]
      rw [ih S, List.pairwise_cons]
      constructor
      · rintro ⟨h1, h2⟩
        refine ⟨fun a ha he => ?_, fun b hb h => absurd (hu.symm.trans h) (by decide), h2⟩
        rcases List.mem_cons.1 ha with rfl | ha
        · rw [hu] at he; cases he
        · exact h1 a ha he
      · rintro ⟨h1, _, h2⟩
        exact ⟨fun a ha => h1 a (List.mem_cons_of_mem _ ha), h2⟩
    | false =>
      simp only [Bool.false_eq_true, if_false]
      rw [List.pairwise_cons]
      by_cases hc : mayUs u = true ∧ S.contains u.f1 = false
      · rw [if_pos hc, ih (u.f1 :: S)]
        constructor
        · rintro ⟨h1, h2⟩
          refine ⟨fun a ha he => ?_, fun b hb _ hbe => ?_, h2⟩
          · rcases List.mem_cons.1 ha with rfl | ha
            · exact ⟨hc.1, by simpa using hc.2⟩
            · have := h1 a ha he
              exact ⟨this.1, fun h => this.2 (List.mem_cons_of_mem _ h)⟩
          · have := h1 b hb hbe
            intro e; exact this.2 (by rw [← e]; exact List.mem_cons_self)
        · rintro ⟨h1, h3, h2⟩
          refine ⟨fun a ha he => ⟨(h1 a (List.mem_cons_of_mem _ ha) he).1, fun h => ?_⟩, h2⟩
          rcases List.mem_cons.1 h with h | h
          · exact h3 a ha hu he h.symm
          · exact (h1 a (List.mem_cons_of_mem _ ha) he).2 h
      · rw [if_neg hc]
        constructor
        · intro h; cases h
        · rintro ⟨h1, _⟩
          have := h1 u List.mem_cons_self hu
          exact absurd ⟨this.1, by simpa using this.2⟩ hc
theorem chkU_ok (l : List Und) : chkU l [] = true ↔ CellsOk l := by
  rw [chkU_iff]
  constructor
  · rintro ⟨h1, h2⟩
    refine ⟨fun i a ha he => (h1 a (List.mem_of_getElem? ha) he).1, fun i j a b hij ha hb hae hbe => ?_⟩
    rw [List.pairwise_iff_getElem] at h2
    obtain ⟨i1, rfl⟩ := List.getElem?_eq_some_iff.1 ha
    obtain ⟨j1, rfl⟩ := List.getElem?_eq_some_iff.1 hb
    rcases Nat.lt_or_gt_of_ne hij with h | h
    · exact h2 i j i1 j1 h hae hbe
    · exact fun e => h2 j i j1 i1 h hbe hae e.symm
  · rintro ⟨h1, h2⟩
    refine ⟨fun a ha he => ?_, ?_⟩
    · obtain ⟨i, hi⟩ := List.mem_iff_getElem?.1 ha
      exact ⟨h1 i a hi he, by simp⟩
    · rw [List.pairwise_iff_getElem]
      intro i j hi hj hij hae hbe
      exact h2 i j _ _ (by omega) (List.getElem?_eq_getElem hi) (List.getElem?_eq_getElem hj) hae hbe
theorem mayC_iff {l : List Und} : mayC l = true ↔ (6 ≤ l.length ∧ l.length ≤ 378 ∧ l.length % 6 = 0) ∧ CellsOk l := by
  unfold mayC; rw [Bool.and_eq_true, decide_eq_true_iff, chkU_ok]
theorem z0U_empty : emptyU z0U = true := by decide
theorem mayC_drop {l : List Und} (h : mayC l = true) (i : Nat) : mayC (l.set i z0U) = true := by
  rw [mayC_iff] at h ⊢
  obtain ⟨h0, h1, h2⟩ := h
  refine ⟨by rw [List.length_set]; exact h0, fun j a ha he => ?_, fun j k a b hjk ha hb hae hbe => ?_⟩
  · rw [List.getElem?_set] at ha
    split at ha
    · split at ha
      · injection ha with ha; rw [← ha, z0U_empty] at he; cases he
      · cases ha
    · exact h1 j a ha he
  · rw [List.getElem?_set] at ha hb
    split at ha
    · split at ha
      · injection ha with ha; rw [← ha, z0U_empty] at hae; cases hae
      · cases ha
    · split at hb
      · split at hb
        · injection hb with hb; rw [← hb, z0U_empty] at hbe; cases hbe
        · cases hb
      · exact h2 j k a b hjk ha hb hae hbe
theorem mayC_put {l : List Und} (h : mayC l = true) (i : Nat) {u : Und} (hm : mayUs u = true) (hn : ∀ a ∈ l, a.f1 ≠ u.f1) : mayC (l.set i u) = true := by
  rw [mayC_iff] at h ⊢
  obtain ⟨h0, h1, h2⟩ := h
  refine ⟨by rw [List.length_set]; exact h0, fun j a ha he => ?_, fun j k a b hjk ha hb hae hbe => ?_⟩
  · rw [List.getElem?_set] at ha
    split at ha
    · split at ha
      · injection ha with ha; rw [← ha]; exact hm
      · cases ha
    · exact h1 j a ha he
  · rw [List.getElem?_set] at ha hb
    split at ha
    · rename_i e1
      split at ha
      · injection ha with ha
        split at hb
        · rename_i e2; exact absurd (e1.symm.trans e2) hjk
        · rw [← ha]; exact fun e => hn b (List.mem_of_getElem? hb) e.symm
      · cases ha
    · split at hb
      · split at hb
        · injection hb with hb; rw [← hb]; exact hn a (List.mem_of_getElem? ha)
        · cases hb
      · exact h2 j k a b hjk ha hb hae hbe
def freeU (l : List Und) : Int := ixOf (l.findIdx? emptyU) + 1
theorem ixOf_range (l : List Und) : -1 ≤ ixOf (l.findIdx? emptyU) ∧ ixOf (l.findIdx? emptyU) < (l.length : Int) := by
  cases h : l.findIdx? emptyU with
  | none => exact ⟨by decide, by show (-1 : Int) < _; omega⟩
  | some i =>
    rw [List.findIdx?_eq_some_iff_getElem] at h
    obtain ⟨h1, _⟩ := h
    exact ⟨by show (-1 : Int) ≤ (i : Int); omega, by show (i : Int) < _; omega⟩
theorem free_ev {l : List Und} (h : shortU l ∧ l.length ≤ 1000000) : undo_Free.f l = some (if mayC l = true then freeU l else 0) := by
  unfold undo_Free.f indexFunc_undo_empty.f
  rw [check_ev h]
  simp only [Option.bind_some]
  have hr := ixOf_range l
  by_cases hm : mayC l = true
  · rw [if_pos hm, if_pos rfl, if_pos h, if_pos hm]
    simp only [Option.bind_some]
    rw [show wrap64 (ixOf (l.findIdx? emptyU) + 1) = freeU l by unfold freeU wrap64; omega]
  · rw [if_neg hm, if_neg (by decide), if_neg hm]
def putU (l : List Und) (u : Und) : List Und × Int × Int :=
  if mayC l = true then
    (if mayUs u = true ∧ l.any (fun e => e.f1 == u.f1) = false then
      (if freeU l = 0 then (l, 0, 9) else (l.set (freeU l - 1).toNat u, freeU l, 0))
    else (l, 0, 1))
  else ([], 0, 1)
theorem put_ev {k : Nat} {l : List Und} {u : Und} (h : shortU l ∧ l.length ≤ 1000000) (hu : u.f6.f2.length ≤ 1000000) (hk : l.length + 6 ≤ k) : undo_Put.f k l u.f0 u.f1 u.f2 u.f3 u.f4 u.f5 u.f6.f0 u.f6.f1 u.f6.f2 u.f6.f3 u.f6.f4.f0 u.f6.f4.f1 = some (putU l u) := by
  have hj1 : undo_Put.j0 k l l true u.f0 u.f1 u.f2 u.f3 u.f4 u.f5 u.f6.f0 u.f6.f1 u.f6.f2 u.f6.f3 u.f6.f4.f0 u.f6.f4.f1 = some (l, 0, 1) := by
    obtain ⟨k, rfl⟩ : ∃ m, k = m + 1 := ⟨k - 1, by omega⟩
    simp only [undo_Put.j0]; rw [if_pos trivial]
  unfold undo_Put.f putU
  rw [check_ev h]
  simp only [Option.bind_some]
  by_cases hm : mayC l = true
  rotate_left
  · rw [if_neg hm, if_neg (by decide), if_neg hm]
  rw [if_pos hm, if_pos rfl, own_ev h.1 h.2 (by omega), uCheck_ev (by omega) hu, if_pos hm]
  simp only [Option.bind_some]
  have hmu : mayUs u = mayU u.f0 u.f1 u.f2 u.f3 u.f4 u.f5 u.f6.f0 u.f6.f1 u.f6.f2 u.f6.f3 u.f6.f4.f0 u.f6.f4.f1 := rfl
  by_cases hx : mayUs u = true
  rotate_left
  · rw [← hmu, if_neg hx, if_neg (by decide), if_neg (fun h => hx h.1)]; exact hj1
  rw [← hmu, if_pos hx, if_pos rfl]
  unfold containsFunc_undo_Put_1.f
  rw [if_pos h.2]
  simp only [Option.bind_some]
  cases hy : l.any (fun e => e.f1 == u.f1) with
  | true => rw [if_neg (fun h => absurd h.2 (by decide))]; exact hj1
  | false =>
    rw [if_pos ⟨hx, rfl⟩]
    obtain ⟨k, rfl⟩ : ∃ m, k = m + 1 := ⟨k - 1, by omega⟩
    simp only [undo_Put.j0]
    rw [if_neg (by decide), free_ev h, if_pos hm]
    simp only [Option.bind_some]
    have hr := ixOf_range l
    by_cases hf : freeU l = 0
    · rw [if_pos hf, if_pos hf]
    · have hw : wrap64 (freeU l - 1) = freeU l - 1 := by unfold freeU wrap64; omega
      rw [if_neg hf, if_neg hf, copied_ev hu]
      simp only [Option.bind_some]
      rw [hw, if_pos (by unfold freeU at *; omega), if_pos (by unfold freeU; omega)]
theorem putU_may {l : List Und} {u : Und} (hm : mayC l = true) : mayC (putU l u).1 = true ∧ (putU l u).1.length = l.length := by
  unfold putU
  rw [if_pos hm]
  split
  · rename_i h
    split
    · exact ⟨hm, rfl⟩
    · refine ⟨mayC_put hm _ h.1 (fun a ha e => ?_), List.length_set ..⟩
      have := List.any_eq_false.1 h.2 a ha
      simp [e] at this
  · exact ⟨hm, rfl⟩
theorem putU_mem {l : List Und} {u : Und} : ∀ x ∈ (putU l u).1, x ∈ l ∨ x = u := by
  intro x hx
  unfold putU at hx
  split at hx
  · split at hx
    · split at hx
      · exact .inl hx
      · exact List.mem_or_eq_of_mem_set hx
    · exact .inl hx
  · cases hx
def dropU (l : List Und) (c : Int) : List Und × Int := if mayC l = true then (if emptyU (atU l c) = true then (l, 3) else (l.set (c - 1).toNat z0U, 0)) else ([], 1)
theorem drop_ev {l : List Und} (c : Int) (h : shortU l ∧ l.length ≤ 1000000) : undo_Drop.f l c = some (dropU l c) := by
  unfold undo_Drop.f; rw [if_pos h]; rfl
theorem dropU_may {l : List Und} {c : Int} (hm : mayC l = true) : mayC (dropU l c).1 = true := by
  unfold dropU; rw [if_pos hm]
  split
  · exact hm
  · exact mayC_drop hm _
theorem dropU_mem {l : List Und} {c : Int} : ∀ x ∈ (dropU l c).1, x ∈ l ∨ x = z0U := by
  intro x hx
  unfold dropU at hx
  split at hx
  · split at hx
    · exact .inl hx
    · exact List.mem_or_eq_of_mem_set hx
  · cases hx
def gotU (l : List Und) (c n : Int) : Bool := mayC l && !emptyU (atU l c) && (atU l c).f1 == n
theorem get_ev {k : Nat} {l : List Und} (c n : Int) (h : shortU l ∧ l.length ≤ 1000000) (hk : 1 ≤ k) : undo_Get.f k l c n = some (if gotU l c n = true then ((atU l c).f0, (atU l c).f1, (atU l c).f2, (atU l c).f3, (atU l c).f4, (atU l c).f5, (atU l c).f6.f0, (atU l c).f6.f1, (atU l c).f6.f2, (atU l c).f6.f3, (atU l c).f6.f4.f0, (atU l c).f6.f4.f1, true) else (0, 0, 0, 0, 0, 0, 0, false, [], 0, 0, 0, false)) := by
  obtain ⟨k, rfl⟩ : ∃ m, k = m + 1 := ⟨k - 1, by omega⟩
  unfold undo_Get.f gotU
  rw [at_ev l c h.2]
  simp only [Option.bind_some]
  rw [check_ev h]
  simp only [Option.bind_some]
  have hs := atU_short h.1 c
  generalize atU l c = u at *
  by_cases hm : mayC l = true
  rotate_left
  · rw [if_neg hm, if_neg (by decide), (Bool.not_eq_true _).mp hm]
    simp only [undo_Get.j0, if_true, Bool.false_and, Bool.false_eq_true, if_false]
  rw [if_pos hm, if_pos rfl, empty_ev hs, hm]
  simp only [Option.bind_some, Bool.true_and]
  cases he : emptyU u with
  | true => simp only [undo_Get.j0, if_true, Bool.not_true, Bool.false_and, Bool.false_eq_true, if_false]
  | false =>
    simp only [undo_Get.j0, Bool.not_false, Bool.true_and, Bool.false_eq_true, if_false]
    by_cases hn : u.f1 = n
    · rw [if_neg (by simp [hn]), copied_ev hs, if_pos (by simp [hn])]; rfl
    · rw [if_pos (by simp [hn]), if_neg (by simp [hn])]
end Go.Proofs.Ytdcllbhkjcdnoaa.P
namespace Go.Proofs.Ytdcllbhkjcdnoaa.P
open Go.RowKit Go.Proofs.YtdcllbhkjcdnoaaW.PrintWords Go.Proofs.YtdcllbhkjcdnoaaW.PrintLast Go.Proofs.YtdcllbhkjcdnoaaW.PrintMore
attribute [local go_sem] max2_int min2_int max_two min_two max_three min_three max_four min_four   -- for this text's walks alone
attribute [local go_sem] run_store_float
set_option linter.unusedVariables false
set_option linter.unusedSimpArgs false
def humusref14_At.l0 : Nat → List (S32) → Int → Int → Option (Int × Int × Int × Int × Int × Int × Nat × Bool × List Nat × Int × Int × Int)
 | 0,_,_,_ => none
 | k + 1,x0,x1,x5 => if x5 < (x0.length : Int) then (if (wrap64 (x5 + 1)) = x1 then (if 0 ≤ x5 then (some ((rd_T32 x0 x5).f0,(rd_T32 x0 x5).f1,(rd_T32 x0 x5).f2,(rd_T32 x0 x5).f3,(rd_T32 x0 x5).f4,(rd_T32 x0 x5).f5,(rd_T32 x0 x5).f6.f0,(rd_T32 x0 x5).f6.f1,(rd_T32 x0 x5).f6.f2,(rd_T32 x0 x5).f6.f3,(rd_T32 x0 x5).f6.f4.f0,(rd_T32 x0 x5).f6.f4.f1)) else (none)) else (humusref14_At.l0 k x0 x1 (wrap64 (x5 + 1)))) else (some (0,0,0,0,0,0,0,false,([] : List Nat),0,0,0))
def humusref14_At.f (k : Nat) (l0 : List (S32)) (a1 : Int) : Option (Int × Int × Int × Int × Int × Int × Nat × Bool × List Nat × Int × Int × Int):=humusref14_At.l0 k l0 a1 0
set_option maxHeartbeats 8000000 in
set_option maxRecDepth 100000 in
theorem humusref14_At.calls (k : Nat) (P0_ : Nat → Prop) (A0 : Option Addr) (c0 : Nat) (l0 : List (S32)) (a1 : Int) (r1 : Int) (r2 : Int) (r3 : Int) (r4 : Int) (r5 : Int) (r6 : Int) (r7 : Nat) (r8 : Bool) (r9 : List Nat) (r10 : Int) (r11 : Int) (r12 : Int) (w : World) (hs0 : Kd.V k32 32 w w.heap.size (fun k_ => P0_ k_) (.slice A0 l0.length c0) l0) (h : humusref14_At.f k l0 a1 = some (r1,r2,r3,r4,r5,r6,r7,r8,r9,r10,r11,r12)) :
  Calls Try.prog 18 #[.slice A0 l0.length c0,.int .i64 a1] w fun e w' => ∃ v8_ : Value,e = .returned (.agg #[.int .i64 r1,.int .i64 r2,.int .i64 r3,.int .i64 r4,.int .i64 r5,.int .i64 r6,.float .f64 r7,.bool r8,v8_,.int .i64 r10,.int .i64 r11,.int .i64 r12]) ∧ Kd.V Kd.f64 25 w' w.heap.size (fun k_ => (P0_ k_ ∨ w.heap.size ≤ k_)) v8_ r9 ∧ Below w.heap.size w w':=by
 have hu32:=Try.underlying32
 have HO0:=Aside0.mk (show Kd.V k32 32 w w.heap.size (fun k_ => (P0_ k_ ∨ w.heap.size ≤ k_)) (.slice A0 l0.length c0) l0 from Kd.V_mono hs0 (fun k_ hk => .inl hk))
 have HB:=Aside0.mk (Below.refl w.heap.size w)
 have H : (humusref14_At.l0 k l0 a1 0) = some (r1,r2,r3,r4,r5,r6,r7,r8,r9,r10,r11,r12):=h
 clear h
 have H':=Aside0.mk H
 clear H
 go_enter Try.func18,Try.ntmps18
 go_wp2_with (first | ((with_reducible refine gate_dst (N:=4) rfl ?_);refine box_event ?hg (N:=4) ?hd (cs:=#[.int .i64 0,.int .i64 0,.int .i64 0,.int .i64 0,.int .i64 0,.int .i64 0,.float .f64 0,.bool false,.slice none 0 0,.int .i64 0,.int .i64 0,.int .i64 0]) (t:=32) ?hr ?_;(case hd => rfl);(case hg => rfl);(case hr => first | (go_simp;done) | (go_simp;rfl));intro gb788 hg w3 hbox hb;have n0_:=Aside0.mk (Kd.V_below (Kd.V_elderB (by (with_reducible repeat (first | apply Kd.V_alloc | apply Kd.V_drewN | apply Kd.V_drew));exact HO0.out) gb788 (Nat.le_of_eq hg.symm)) hb);have n1_:=Aside0.mk (below_step (by repeat (first | (with_reducible first | exact HB.out | apply below_alloc | apply pw_below_drewN | apply below_drew1) | exact HB.out)) hb);have n2_:=Aside0.mk (hbox);have n3_:=Aside0.mk ((by rw [hg];exact (below_size (by repeat (first | (with_reducible first | exact HB.out | apply below_alloc | apply pw_below_drewN | apply below_drew1) | exact HB.out))) : w.heap.size ≤ gb788));have n4_:=Aside0.mk ((by rw [hg];exact (below_size (by repeat (first | (with_reducible first | exact HB.out | apply below_alloc | apply pw_below_drewN | apply below_drew1) | exact HB.out))) : w.heap.size ≤ gb788));clear HO0;clear HB;have HO0:=n0_;have HB:=n1_;have BK788:=n2_;have GW788:=n3_;have GE788:=n4_;clear n0_ n1_ n2_ n3_ n4_;clear hb hbox hg))
 go_loopg [5] k (fun kq v5 w' => ∃ (x5_1 : Int) (x789000_1 : Int) (x789001_1 : Int) (x789002_1 : Int) (x789003_1 : Int) (x789004_1 : Int) (x789005_1 : Int) (x789006_1 : Nat) (x789007_1 : Bool) (x789009_1 : Int) (x789010_1 : Int) (x789011_1 : Int),v5 = .int .i64 x5_1 ∧ Aside0 (humusref14_At.l0 kq l0 a1 x5_1 = some (r1,r2,r3,r4,r5,r6,r7,r8,r9,r10,r11,r12)) ∧ Aside0 (kq ≤ k) ∧ Aside0 (Kd.V k32 32 w' w.heap.size (fun k_ => (P0_ k_ ∨ w.heap.size ≤ k_) ∧ k_ ≠ gb788) (.slice A0 l0.length c0) l0) ∧ Aside0 (w'.heap[gb788]? = some (.cells #[.int .i64 x789000_1,.int .i64 x789001_1,.int .i64 x789002_1,.int .i64 x789003_1,.int .i64 x789004_1,.int .i64 x789005_1,.float .f64 x789006_1,.bool x789007_1,(.slice none 0 0),.int .i64 x789009_1,.int .i64 x789010_1,.int .i64 x789011_1] 32 (0,0))) ∧ Aside0 (Below w.heap.size w w'))
 case atStart => exact ⟨(0),(0),(0),(0),(0),(0),(0),(0),(false),(0),(0),(0),(by first | rfl | (simp;done) | (simp [*];done)),H',⟨Nat.le_refl _⟩,⟨by (with_reducible repeat (first | apply Kd.V_alloc | apply Kd.V_drewN | apply Kd.V_drew));exact HO0.out⟩,⟨by (with_reducible repeat (first | refine blk_drewN ?_ _ | refine blk_drew ?_ | refine blk_alloc ?_ _));exact BK788.out⟩,⟨by repeat (first | (with_reducible first | exact HB.out | apply below_alloc | apply pw_below_drewN | apply below_drew1 | refine below_set ?_ GE788.out) | exact HB.out)⟩⟩
 case round =>
  clear H'
  try clear c1
  try clear p2
  obtain ⟨x5_1,x789000_1,x789001_1,x789002_1,x789003_1,x789004_1,x789005_1,x789006_1,x789007_1,x789009_1,x789010_1,x789011_1,rfl,HA,HK1,HO_0,BK788,HB⟩:=hrel
  cases gk with
  | zero => exact absurd HA.out (by simp [humusref14_At.l0])
  | succ k1 =>
   have H:=HA.out
   clear HA
   simp only [humusref14_At.l0] at H
   by_cases c4 : x5_1 < (l0.length : Int)
   ·rw [if_pos c4] at H
    have c4b0 : decide (x5_1 < (l0.length : Int)) = true:=decide_eq_true c4
    clear c4
    by_cases c5 : (wrap64 (x5_1 + 1)) = a1
    ·rw [if_pos c5] at H
     have c5b0 : ((wrap64 (x5_1 + 1)) == a1) = true:=beq_iff_eq.mpr c5
     have c5b1 : ((wrap64 (x5_1 + 1)) != a1) = false:=bne_eq_false_iff_eq.mpr c5
     clear c5
     by_cases c6 : 0 ≤ x5_1
     ·rw [if_pos c6] at H
      have c6b0 : decide (0 ≤ x5_1) = true:=decide_eq_true c6
      clear c6
      simp only [Option.some.injEq,Prod.mk.injEq] at H
      obtain ⟨rfl,rfl,rfl,rfl,rfl,rfl,rfl,rfl,rfl,rfl,rfl,rfl⟩:=H
      have p789 : 0 ≤ (x5_1 : Int):=of_decide_eq_true (by first | (with_reducible assumption) | assumption)
      have q789 : x5_1 < (l0.length : Int):=of_decide_eq_true (by first | (with_reducible assumption) | assumption)
      obtain ⟨ad789,A789_8,c789_8,e789,hx789_0,hx789_1,hx789_2,hx789_3,hx789_4,hx789_5,hx789_6,hx789_7,hx789_8,hx789_9,hx789_10,hx789_11,hl789_8,hi789_8⟩:=at_T32 (Kd.V_reads' HO_0.out).2.2 x5_1 p789 q789
      cases e789
      obtain ⟨ce789,hce789,hMe789,hcc789⟩:=Kd.V_get HO_0.out z32 x5_1 p789 (by first | exact q789 | exact of_decide_eq_true (by first | (with_reducible assumption) | assumption) | (have e_:=(Kd.V_reads' HO_0.out).1;omega))
      obtain ⟨ua789_8,uc789_8,rfl,ul789_8,ge789_8⟩:=k32_openF hMe789
      have hv789_8:=hcc789 8 _ rfl
      rw [add_field _ _ 8 (by omega)] at hv789_8
      replace hv789_8:=Option.some.inj (hv789_8.symm.trans hx789_8)
      injection hv789_8 with hva_ hvn_ hvc_
      rw [hva_] at ge789_8
      rw [hvc_] at ul789_8
      have HL789_8:=Aside0.mk (show Kd.V Kd.f64 25 _ w.heap.size _ _ ((rd_T32 l0 x5_1).f6.f2) from Kd.V_mk ul789_8 ge789_8)
      clear hva_ hvn_ hvc_ ge789_8 ul789_8
      clear hcc789 hce789
      have HR789_8:=Aside0.mk hi789_8
      have HC789_8:=Aside0.mk hl789_8
      clear hi789_8 hl789_8
      replace p789:=eq_true p789
      replace q789:=eq_true q789
      obtain ⟨hcz7_0,hcz7_1,hcz7_2,hcz7_3,hcz7_4,hcz7_5,hcz7_6,hcz7_7,hcz7_8,hcz7_9,hcz7_10,hcz7_11⟩:=blkc_12 BK788.out
      obtain ⟨hfz7_0,hfz7_1,hfz7_2,hfz7_3,hfz7_4,hfz7_5,hfz7_6,hfz7_7,hfz7_8,hfz7_9,hfz7_10,hfz7_11⟩:=blkz_12 BK788.out
      go_wp2
      refine bodyPost_ret (results_cell_row rfl _ _ gb788 32 #[.int .i64 ((rd_T32 l0 x5_1).f0),.int .i64 ((rd_T32 l0 x5_1).f1),.int .i64 ((rd_T32 l0 x5_1).f2),.int .i64 ((rd_T32 l0 x5_1).f3),.int .i64 ((rd_T32 l0 x5_1).f4),.int .i64 ((rd_T32 l0 x5_1).f5),.float .f64 ((rd_T32 l0 x5_1).f6.f0),.bool ((rd_T32 l0 x5_1).f6.f1),.slice A789_8 ((rd_T32 l0 x5_1).f6.f2).length c789_8,.int .i64 ((rd_T32 l0 x5_1).f6.f3),.int .i64 ((rd_T32 l0 x5_1).f6.f4.f0),.int .i64 ((rd_T32 l0 x5_1).f6.f4.f1)] (0,0) _ rfl (by (with_reducible repeat (first | refine blk_drewN ?_ _ | refine blk_drew ?_ | refine blk_alloc ?_ _));apply blkf_12_0_11;(with_reducible repeat (first | refine blk_drewN ?_ _ | refine blk_drew ?_ | refine blk_alloc ?_ _));exact BK788.out) Try.underlying32 rfl (by kernel_rfl)) rfl ?_
      exact ⟨_,by first | rfl | (simp [errW_none,errW_some] <;> rfl) | (simp [*,errW_none,errW_some] <;> rfl),by (with_reducible repeat (first | apply Kd.V_alloc | apply Kd.V_drewN | apply Kd.V_drew));exact Kd.V_mono (Kd.V_far (p:=⟨gb788,11,none⟩) (Kd.V_far (p:=⟨gb788,10,none⟩) (Kd.V_far (p:=⟨gb788,9,none⟩) (Kd.V_far (p:=⟨gb788,8,none⟩) (Kd.V_far (p:=⟨gb788,7,none⟩) (Kd.V_far (p:=⟨gb788,6,none⟩) (Kd.V_far (p:=⟨gb788,5,none⟩) (Kd.V_far (p:=⟨gb788,4,none⟩) (Kd.V_far (p:=⟨gb788,3,none⟩) (Kd.V_far (p:=⟨gb788,2,none⟩) (Kd.V_far (p:=⟨gb788,1,none⟩) (Kd.V_far (p:=⟨gb788,0,none⟩) (Kd.V_mono HL789_8.out (fun k_ hk => (⟨hk,hk.2⟩ : _ ∧ k_ ≠ gb788))) (fun _ hk => hk.2) (.int .i64 ((rd_T32 l0 x5_1).f0))) (fun _ hk => hk.2) (.int .i64 ((rd_T32 l0 x5_1).f1))) (fun _ hk => hk.2) (.int .i64 ((rd_T32 l0 x5_1).f2))) (fun _ hk => hk.2) (.int .i64 ((rd_T32 l0 x5_1).f3))) (fun _ hk => hk.2) (.int .i64 ((rd_T32 l0 x5_1).f4))) (fun _ hk => hk.2) (.int .i64 ((rd_T32 l0 x5_1).f5))) (fun _ hk => hk.2) (.float .f64 ((rd_T32 l0 x5_1).f6.f0))) (fun _ hk => hk.2) (.bool ((rd_T32 l0 x5_1).f6.f1))) (fun _ hk => hk.2) (.slice A789_8 ((rd_T32 l0 x5_1).f6.f2).length c789_8)) (fun _ hk => hk.2) (.int .i64 ((rd_T32 l0 x5_1).f6.f3))) (fun _ hk => hk.2) (.int .i64 ((rd_T32 l0 x5_1).f6.f4.f0))) (fun _ hk => hk.2) (.int .i64 ((rd_T32 l0 x5_1).f6.f4.f1))) (fun _ hk => hk.1.1),by repeat (first | (with_reducible first | exact HB.out | apply below_alloc | apply pw_below_drewN | apply below_drew1 | refine below_set ?_ GE788.out) | exact HB.out)⟩
     ·rw [if_neg c6] at H
      exact absurd H (by simp)
    ·rw [if_neg c5] at H
     have c5b0 : ((wrap64 (x5_1 + 1)) == a1) = false:=beq_eq_false_iff_ne.mpr c5
     have c5b1 : ((wrap64 (x5_1 + 1)) != a1) = true:=bne_iff_ne.mpr c5
     have H':=Aside0.mk H
     clear H
     go_wp2
     go_roundg k1
     case measure => have:=HK1.out;omega
     case rel => exact ⟨(wrap64 (x5_1 + 1)),(x789000_1),(x789001_1),(x789002_1),(x789003_1),(x789004_1),(x789005_1),(x789006_1),(x789007_1),(x789009_1),(x789010_1),(x789011_1),(by first | rfl | (simp;done) | (simp [*];done)),H',⟨by have:=HK1.out;omega⟩,⟨by (with_reducible repeat (first | apply Kd.V_alloc | apply Kd.V_drewN | apply Kd.V_drew));exact HO_0.out⟩,⟨by (with_reducible repeat (first | refine blk_drewN ?_ _ | refine blk_drew ?_ | refine blk_alloc ?_ _));exact BK788.out⟩,⟨by repeat (first | (with_reducible first | exact HB.out | apply below_alloc | apply pw_below_drewN | apply below_drew1 | refine below_set ?_ GE788.out) | exact HB.out)⟩⟩
   ·rw [if_neg c4] at H
    have c4b0 : decide (x5_1 < (l0.length : Int)) = false:=decide_eq_false c4
    clear c4
    simp only [Option.some.injEq,Prod.mk.injEq] at H
    obtain ⟨rfl,rfl,rfl,rfl,rfl,rfl,rfl,rfl,rfl,rfl,rfl,rfl⟩:=H
    obtain ⟨hcz8_0,hcz8_1,hcz8_2,hcz8_3,hcz8_4,hcz8_5,hcz8_6,hcz8_7,hcz8_8,hcz8_9,hcz8_10,hcz8_11⟩:=blkc_12 BK788.out
    obtain ⟨hfz8_0,hfz8_1,hfz8_2,hfz8_3,hfz8_4,hfz8_5,hfz8_6,hfz8_7,hfz8_8,hfz8_9,hfz8_10,hfz8_11⟩:=blkz_12 BK788.out
    go_wp2
    refine bodyPost_ret (results_cell_row rfl _ _ gb788 32 #[.int .i64 0,.int .i64 0,.int .i64 0,.int .i64 0,.int .i64 0,.int .i64 0,.float .f64 0,.bool false,.slice none 0 0,.int .i64 0,.int .i64 0,.int .i64 0] (0,0) _ rfl (by (with_reducible repeat (first | refine blk_drewN ?_ _ | refine blk_drew ?_ | refine blk_alloc ?_ _));apply blkf_12_0_11;(with_reducible repeat (first | refine blk_drewN ?_ _ | refine blk_drew ?_ | refine blk_alloc ?_ _));exact BK788.out) Try.underlying32 rfl (by kernel_rfl)) rfl ?_
    exact ⟨_,by first | rfl | (simp [errW_none,errW_some] <;> rfl) | (simp [*,errW_none,errW_some] <;> rfl),Kd.V_nil _ _ _ _ _,by repeat (first | (with_reducible first | exact HB.out | apply below_alloc | apply pw_below_drewN | apply below_drew1 | refine below_set ?_ GE788.out) | exact HB.out)⟩
end Go.Proofs.Ytdcllbhkjcdnoaa.P
set_option linter.unusedVariables false
set_option linter.unusedSimpArgs false
namespace Go.Proofs.Ytdcllbhkjcdnoaa.P
open Go.RowKit Go.Proofs.Ytdcllbhkjcdnoaa Go.Proofs.Ytdcllbhkjcdnoaa.Mem Go.Proofs.Ytdcllbhkjcdnoaa.Pac Go.Proofs.YtdcllbhkjcdnoaaW.PrintWords Go.Proofs.YtdcllbhkjcdnoaaW.PrintLast
def u1 : Und := ⟨1, 5, 0, 1, 0, 0, ⟨0, false, [], 0, ⟨0, 0⟩⟩⟩
def L6 : List Und := List.replicate 6 z0U
def L6u : List Und := [u1, z0U, z0U, z0U, z0U, z0U]
theorem put6 : putU L6 u1 = (L6u, 1, 0) := by kernel_rfl
theorem got6 : gotU L6u 1 5 = true := by kernel_rfl
theorem drop6 : dropU L6u 1 = (L6, 0) := by kernel_rfl
theorem got60 : gotU L6 1 5 = false := by kernel_rfl
theorem short6 : shortU L6 ∧ L6.length ≤ 1000000 := by decide
theorem short6u : shortU L6u ∧ L6u.length ≤ 1000000 := by decide
theorem awake14_ev {k : Nat} (hk : 20 ≤ k) : humuslaw14_awake.f k = some true := by
  obtain ⟨k, rfl⟩ : ∃ m, k = m + 1 := ⟨k - 1, by omega⟩
  unfold humuslaw14_awake.f
  rw [if_pos (by decide), show undo_Put.f (k + 1) (List.replicate 6 z32) 1 5 0 1 0 0 0 false [] 0 0 0 = some (putU L6 u1) from put_ev (l := L6) (u := u1) short6 (by decide) (by show 12 ≤ k + 1; omega), put6]
  simp only [Option.bind_some]
  rw [get_ev 1 5 short6u (by omega), if_pos got6]
  simp only [Option.bind_some]
  rw [drop_ev 1 short6u, drop6]
  simp only [Option.bind_some]
  rw [get_ev 1 5 short6 (by omega), if_neg (by rw [got60]; decide)]
  simp only [Option.bind_some, humuslaw14_awake.j0, if_true, Bool.not_false]
theorem at_l0 {l : List Und} (hl : l.length ≤ 1000000) (c : Int) : ∀ (d i k : Nat), d = l.length - i → i ≤ l.length → d + 1 ≤ k →
    humusref14_At.l0 k l c (i : Int) = some ((fun u : Und => (u.f0, u.f1, u.f2, u.f3, u.f4, u.f5, u.f6.f0, u.f6.f1, u.f6.f2, u.f6.f3, u.f6.f4.f0, u.f6.f4.f1)) (if (i : Int) + 1 ≤ c ∧ c ≤ (l.length : Int) then rd_T32 l (c - 1) else z0U)) := by
  intro d
  induction d with
  | zero =>
    intro i k hd hi hk
    obtain ⟨k, rfl⟩ : ∃ m, k = m + 1 := ⟨k - 1, by omega⟩
    simp only [humusref14_At.l0]
    rw [if_neg (by omega), if_neg (by omega)]; rfl
  | succ d ih =>
    intro i k hd hi hk
    obtain ⟨k, rfl⟩ : ∃ m, k = m + 1 := ⟨k - 1, by omega⟩
    simp only [humusref14_At.l0]
    have hw : wrap64 ((i : Int) + 1) = ((i + 1 : Nat) : Int) := by unfold wrap64; omega
    rw [if_pos (by omega), hw]
    by_cases hc : ((i + 1 : Nat) : Int) = c
    · rw [if_pos hc, if_pos (by omega), if_pos (by omega), show c - 1 = (i : Int) by omega]
    · rw [if_neg hc, ih (i + 1) k (by omega) (by omega) (by omega)]
      by_cases h : (i : Int) + 1 ≤ c ∧ c ≤ (l.length : Int)
      · rw [if_pos h, if_pos (by omega)]
      · rw [if_neg h, if_neg (by omega)]
theorem rAt_ev {k : Nat} {l : List Und} (c : Int) (hl : l.length ≤ 1000000) (hk : l.length + 1 ≤ k) : humusref14_At.f k l c = some ((atU l c).f0, (atU l c).f1, (atU l c).f2, (atU l c).f3, (atU l c).f4, (atU l c).f5, (atU l c).f6.f0, (atU l c).f6.f1, (atU l c).f6.f2, (atU l c).f6.f3, (atU l c).f6.f4.f0, (atU l c).f6.f4.f1) := by
  unfold humusref14_At.f
  have h := at_l0 hl c (l.length - 0) 0 k rfl (Nat.zero_le _) (by omega)
  rw [show ((0 : Nat) : Int) = 0 from rfl] at h
  rw [h]
  unfold atU
  simp only [Int.zero_add]
theorem empty_no {e : Und} (h : emptyU e = true) : e.f1 = 0 := (sameU_iff.1 h).1.2.1
end Go.Proofs.Ytdcllbhkjcdnoaa.P
