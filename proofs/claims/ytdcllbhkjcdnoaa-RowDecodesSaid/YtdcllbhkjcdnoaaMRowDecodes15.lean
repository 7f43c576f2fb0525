/- Put together by wip/prune.py out of this claim's texts. -/
import Derived.Test.YtdcllbhkjcdnoaaMRowDecodes5
import Derived.Test.YtdcllbhkjcdnoaaMRowDecodes7
import Derived.Test.YtdcllbhkjcdnoaaMRowDecodes9
import Derived.Test.YtdcllbhkjcdnoaaMRowDecodes10
import Derived.Test.YtdcllbhkjcdnoaaMRowDecodes13
import Derived.Test.YtdcllbhkjcdnoaaMRowDecodes14
namespace Go.Proofs.Ytdcllbhkjcdnoaa.P
open Go.RowKit Go.Proofs.YtdcllbhkjcdnoaaW.PrintWords Go.Proofs.YtdcllbhkjcdnoaaW.PrintLast Go.Proofs.YtdcllbhkjcdnoaaW.PrintMore
attribute [local go_sem] max2_int min2_int max_two min_two max_three min_three max_four min_four   -- for this text's walks alone
attribute [local go_sem] run_store_float
set_option linter.unusedVariables false
set_option linter.unusedSimpArgs false
attribute [local go_sem high] eqA28
def row_Same.f (a0_0 : Nat) (a0_1 : Bool) (l0_2 : List Nat) (a0_3 : Int) (a0_4 : Int) (a0_5 : Int) (a1_0 : Nat) (a1_1 : Bool) (l1_2 : List Nat) (a1_3 : Int) (a1_4 : Int) (a1_5 : Int) : Option (Bool):=(num_Same.f a0_0 a1_0).bind fun t103 => (if t103 = true then (if (a0_1 == a1_1) = true then (if a0_3 = a1_3 then (if (a0_4 == a1_4 && (a0_5 == a1_5)) = true then ((equalFunc_num_Same.f l0_2 l1_2).bind fun t104 => (some t104)) else (some false)) else (some false)) else (some false)) else (some false))
set_option maxHeartbeats 8000000 in
set_option maxRecDepth 100000 in
theorem row_Same.calls (a0_0 : Nat) (a0_1 : Bool) (A0_2 : Option Addr) (c0_2 : Nat) (l0_2 : List Nat) (a0_3 : Int) (a0_4 : Int) (a0_5 : Int) (a1_0 : Nat) (a1_1 : Bool) (A1_2 : Option Addr) (c1_2 : Nat) (l1_2 : List Nat) (a1_3 : Int) (a1_4 : Int) (a1_5 : Int) (r : Bool) (w : World) (hr0_2 : Kd.C Kd.f64 w A0_2 l0_2.length l0_2) (hc0_2 : l0_2.length ≤ c0_2) (hr1_2 : Kd.C Kd.f64 w A1_2 l1_2.length l1_2) (hc1_2 : l1_2.length ≤ c1_2) (h : row_Same.f a0_0 a0_1 l0_2 a0_3 a0_4 a0_5 a1_0 a1_1 l1_2 a1_3 a1_4 a1_5 = some r) :
    Calls Try.prog 43 #[.agg #[.float .f64 a0_0,.bool a0_1,.slice A0_2 l0_2.length c0_2,.int .i64 a0_3,.int .i64 a0_4,.int .i64 a0_5],.agg #[.float .f64 a1_0,.bool a1_1,.slice A1_2 l1_2.length c1_2,.int .i64 a1_3,.int .i64 a1_4,.int .i64 a1_5]] w fun e w' => e = .returned (.bool r) ∧ Below w.heap.size w w':=by
  have hu30:=Try.underlying30
  have hu28:=Try.underlying28
  have HR0_2:=Aside0.mk hr0_2
  have HC0_2:=Aside0.mk hc0_2
  clear hr0_2 hc0_2
  have HR1_2:=Aside0.mk hr1_2
  have HC1_2:=Aside0.mk hc1_2
  clear hr1_2 hc1_2
  have HB:=Aside0.mk (Below.refl w.heap.size w)
  have H : ((num_Same.f a0_0 a1_0).bind fun t103 => (if t103 = true then (if (a0_1 == a1_1) = true then (if a0_3 = a1_3 then (if (a0_4 == a1_4 && (a0_5 == a1_5)) = true then ((equalFunc_num_Same.f l0_2 l1_2).bind fun t104 => (some t104)) else (some false)) else (some false)) else (some false)) else (some false))) = some r:=h
  clear h
  replace H:=Option.bind_eq_some_iff.mp H
  obtain ⟨t103,A30,H⟩:=H
  replace H : (if t103 = true then (if (a0_1 == a1_1) = true then (if a0_3 = a1_3 then (if (a0_4 == a1_4 && (a0_5 == a1_5)) = true then ((equalFunc_num_Same.f l0_2 l1_2).bind fun t104 => (some t104)) else (some false)) else (some false)) else (some false)) else (some false)) = some r:=H
  have A3:=Aside0.mk A30
  clear A30
  by_cases c4 : t103 = true
  · subst c4
    have H1 : (if (a0_1 == a1_1) = true then (if a0_3 = a1_3 then (if (a0_4 == a1_4 && (a0_5 == a1_5)) = true then ((equalFunc_num_Same.f l0_2 l1_2).bind fun t104 => (some t104)) else (some false)) else (some false)) else (some false)) = some r:=by rw [if_pos rfl] at H;exact H
    clear H
    have H:=H1
    clear H1
    by_cases c5 : (a0_1 == a1_1) = true
    · rw [if_pos c5] at H
      have c5b0 : (a0_1 == a1_1) = true:=c5
      (try (have c5b1 : decide (a0_1 = a1_1) = true:=by simpa using c5))
      (try (have c5b2 : (a0_1 == a1_1) = true:=by simpa using c5))
      clear c5
      by_cases c6 : a0_3 = a1_3
      · rw [if_pos c6] at H
        have c6b0 : (a0_3 == a1_3) = true:=beq_iff_eq.mpr c6
        have c6b1 : (a0_3 != a1_3) = false:=bne_eq_false_iff_eq.mpr c6
        clear c6
        by_cases c7 : (a0_4 == a1_4 && (a0_5 == a1_5)) = true
        · rw [if_pos c7] at H
          have c7b0 : (a0_4 == a1_4 && (a0_5 == a1_5)) = true:=c7
          (try (have c7b1 : decide (a0_4 = a1_4 && (a0_5 == a1_5)) = true:=by simpa using c7))
          (try (have c7b2 : (a0_4 == a1_4 && (a0_5 == a1_5)) = true:=by simpa using c7))
          clear c7
          replace H:=Option.bind_eq_some_iff.mp H
          obtain ⟨t104,A80,H⟩:=H
          replace H : (some t104) = some r:=H
          have A8:=Aside0.mk A80
          clear A80
          obtain rfl:=Option.some.inj H
          go_enter Try.func43,Try.ntmps43
          go_wp2_with (first | ((with_reducible refine gate_dst (N:=2) rfl ?_);refine box_event ?hg (N:=2) ?hd (cs:=#[.float .f64 a0_0,.bool a0_1,.slice A0_2 l0_2.length c0_2,.int .i64 a0_3,.int .i64 a0_4,.int .i64 a0_5]) (t:=30) ?hr ?_;(case hd => rfl);(case hg => rfl);(case hr => first | (go_simp;done) | (go_simp;rfl));intro gb101 hg w9 hbox hb;have n0_:=Aside0.mk (below_step (by repeat (first | (with_reducible first | exact HB.out | apply below_alloc | apply pw_below_drewN | apply below_drew1) | exact HB.out)) hb);have n1_:=Aside0.mk (hbox);have n2_:=Aside0.mk ((by rw [hg];exact (below_size (by repeat (first | (with_reducible first | exact HB.out | apply below_alloc | apply pw_below_drewN | apply below_drew1) | exact HB.out))) : w.heap.size ≤ gb101));have n3_:=Aside0.mk ((by rw [hg];exact (below_size (by repeat (first | (with_reducible first | exact HB.out | apply below_alloc | apply pw_below_drewN | apply below_drew1) | exact HB.out))) : w.heap.size ≤ gb101));clear HB;have HB:=n0_;have BK101:=n1_;have GW101:=n2_;have GE101:=n3_;clear n0_ n1_ n2_ n3_;clear hb hbox hg) | ((with_reducible refine gate_dst (N:=3) rfl ?_);refine box_event ?hg (N:=3) ?hd (cs:=#[.float .f64 a1_0,.bool a1_1,.slice A1_2 l1_2.length c1_2,.int .i64 a1_3,.int .i64 a1_4,.int .i64 a1_5]) (t:=30) ?hr ?_;(case hd => rfl);(case hg => rfl);(case hr => first | (go_simp;done) | (go_simp;rfl));intro gb102 hg w10 hbox hb;have n0_:=Aside0.mk (blk_below (g:=gb101) (o:=.cells #[.float .f64 a0_0,.bool a0_1,.slice A0_2 l0_2.length c0_2,.int .i64 a0_3,.int .i64 a0_4,.int .i64 a0_5] 30 (0,0)) (by (with_reducible repeat (first | refine blk_drewN ?_ _ | refine blk_drew ?_ | refine blk_alloc ?_ _));exact BK101.out) hb);have n1_:=Aside0.mk (below_step (by repeat (first | (with_reducible first | exact HB.out | apply below_alloc | apply pw_below_drewN | apply below_drew1 | refine below_set ?_ GE101.out) | exact HB.out)) hb);have n2_:=Aside0.mk (hbox);have n3_:=Aside0.mk ((by rw [hg];exact (below_size (by repeat (first | (with_reducible first | exact HB.out | apply below_alloc | apply pw_below_drewN | apply below_drew1 | refine below_set ?_ GE101.out) | exact HB.out))) : w.heap.size ≤ gb102));have n4_:=Aside0.mk ((by rw [hg];exact (below_size (by repeat (first | (with_reducible first | exact HB.out | apply below_alloc | apply pw_below_drewN | apply below_drew1 | refine below_set ?_ GE101.out) | exact HB.out))) : w.heap.size ≤ gb102));have n5_:=Aside0.mk ((by rw [hg];exact Nat.ne_of_lt (blk_lt (g:=gb101) (o:=.cells #[.float .f64 a0_0,.bool a0_1,.slice A0_2 l0_2.length c0_2,.int .i64 a0_3,.int .i64 a0_4,.int .i64 a0_5] 30 (0,0)) (by (with_reducible repeat (first | refine blk_drewN ?_ _ | refine blk_drew ?_ | refine blk_alloc ?_ _));exact BK101.out)) : gb101 ≠ gb102));have n6_:=Aside0.mk ((by rw [hg];exact Nat.ne_of_gt (blk_lt (g:=gb101) (o:=.cells #[.float .f64 a0_0,.bool a0_1,.slice A0_2 l0_2.length c0_2,.int .i64 a0_3,.int .i64 a0_4,.int .i64 a0_5] 30 (0,0)) (by (with_reducible repeat (first | refine blk_drewN ?_ _ | refine blk_drew ?_ | refine blk_alloc ?_ _));exact BK101.out)) : gb102 ≠ gb101));clear BK101;clear HB;have BK101:=n0_;have HB:=n1_;have BK102:=n2_;have GW102:=n3_;have GE102:=n4_;have NB101_102:=n5_;have NB102_101:=n6_;clear n0_ n1_ n2_ n3_ n4_ n5_ n6_;clear hb hbox hg;have hnb11:=NB101_102.out;have hnc11:=NB102_101.out;have hcz12_0 : w10.cell? ⟨gb101,0,none⟩ = some (.float .f64 a0_0):=(blk_cell BK101.out 0).trans rfl;have hcz12_1 : w10.cell? ⟨gb101,1,none⟩ = some (.bool a0_1):=(blk_cell BK101.out 1).trans rfl;have hcz12_2 : w10.cell? ⟨gb101,2,none⟩ = some (.slice A0_2 l0_2.length c0_2):=(blk_cell BK101.out 2).trans rfl;have hcz12_3 : w10.cell? ⟨gb101,3,none⟩ = some (.int .i64 a0_3):=(blk_cell BK101.out 3).trans rfl;have hcz12_4 : w10.cell? ⟨gb101,4,none⟩ = some (.int .i64 a0_4):=(blk_cell BK101.out 4).trans rfl;have hcz12_5 : w10.cell? ⟨gb101,5,none⟩ = some (.int .i64 a0_5):=(blk_cell BK101.out 5).trans rfl;have hfz12_0:=blk_frozen BK101.out 0;have hfz12_1:=blk_frozen BK101.out 1;have hfz12_2:=blk_frozen BK101.out 2;have hfz12_3:=blk_frozen BK101.out 3;have hfz12_4:=blk_frozen BK101.out 4;have hfz12_5:=blk_frozen BK101.out 5;have hcz13_0 : w10.cell? ⟨gb102,0,none⟩ = some (.float .f64 a1_0):=(blk_cell BK102.out 0).trans rfl;have hcz13_1 : w10.cell? ⟨gb102,1,none⟩ = some (.bool a1_1):=(blk_cell BK102.out 1).trans rfl;have hcz13_2 : w10.cell? ⟨gb102,2,none⟩ = some (.slice A1_2 l1_2.length c1_2):=(blk_cell BK102.out 2).trans rfl;have hcz13_3 : w10.cell? ⟨gb102,3,none⟩ = some (.int .i64 a1_3):=(blk_cell BK102.out 3).trans rfl;have hcz13_4 : w10.cell? ⟨gb102,4,none⟩ = some (.int .i64 a1_4):=(blk_cell BK102.out 4).trans rfl;have hcz13_5 : w10.cell? ⟨gb102,5,none⟩ = some (.int .i64 a1_5):=(blk_cell BK102.out 5).trans rfl;have hfz13_0:=blk_frozen BK102.out 0;have hfz13_1:=blk_frozen BK102.out 1;have hfz13_2:=blk_frozen BK102.out 2;have hfz13_3:=blk_frozen BK102.out 3;have hfz13_4:=blk_frozen BK102.out 4;have hfz13_5:=blk_frozen BK102.out 5) | ((with_reducible refine gate_callee (f:=67) rfl ?_);refine goesL_ (some 9) rfl rfl Try.func67 (by kernel_rfl) rfl #[.float .f64 a0_0,.float .f64 a1_0] rfl (by (try simp only [List.map_toArray,List.map_cons,List.map_nil]);first | done | rfl | (simp only [List.length_drop,List.length_take];rfl)) ?_;(with_reducible refine (num_Same.calls a0_0 a1_0 true _ A3.out).mono ?_);rintro e w' ⟨rfl,⟨nd,rfl⟩⟩;refine ⟨_,rfl,?_⟩) | (go_at_call 81;(with_reducible refine (equalFunc_num_Same.calls _ _ l0_2 _ _ l1_2 t104 _ ?side1 ?side2 ?side3 ?side4 A8.out).mono ?_);(case side1 => repeat (first | exact (Kd.C_below HR0_2.out (by repeat (first | (with_reducible first | exact HB.out | apply below_alloc | apply pw_below_drewN | apply below_drew1 | refine below_set ?_ GE101.out | refine below_set ?_ GE102.out) | exact HB.out))) | (with_reducible refine Kd.C_alloc ?_ _) | (with_reducible refine Kd.C_drewN ?_ _) | (with_reducible refine Kd.C_drew ?_)));(case side2 => exact HC0_2.out);(case side3 => repeat (first | exact (Kd.C_below HR1_2.out (by repeat (first | (with_reducible first | exact HB.out | apply below_alloc | apply pw_below_drewN | apply below_drew1 | refine below_set ?_ GE101.out | refine below_set ?_ GE102.out) | exact HB.out))) | (with_reducible refine Kd.C_alloc ?_ _) | (with_reducible refine Kd.C_drewN ?_ _) | (with_reducible refine Kd.C_drew ?_)));(case side4 => exact HC1_2.out);rintro e w14 ⟨rfl,hb⟩;have n0_:=Aside0.mk (blk_below (g:=gb101) (o:=.cells #[.float .f64 a0_0,.bool a0_1,.slice A0_2 l0_2.length c0_2,.int .i64 a0_3,.int .i64 a0_4,.int .i64 a0_5] 30 (0,0)) (by (with_reducible repeat (first | refine blk_drewN ?_ _ | refine blk_drew ?_ | refine blk_alloc ?_ _));exact BK101.out) hb);have n1_:=Aside0.mk (blk_below (g:=gb102) (o:=.cells #[.float .f64 a1_0,.bool a1_1,.slice A1_2 l1_2.length c1_2,.int .i64 a1_3,.int .i64 a1_4,.int .i64 a1_5] 30 (0,0)) (by (with_reducible repeat (first | refine blk_drewN ?_ _ | refine blk_drew ?_ | refine blk_alloc ?_ _));exact BK102.out) hb);have n2_:=Aside0.mk (below_step (by repeat (first | (with_reducible first | exact HB.out | apply below_alloc | apply pw_below_drewN | apply below_drew1 | refine below_set ?_ GE101.out | refine below_set ?_ GE102.out) | exact HB.out)) hb);clear BK101;clear BK102;clear HB;have BK101:=n0_;have BK102:=n1_;have HB:=n2_;clear n0_ n1_ n2_;(try clear hb);(try clear hb2);(try clear hk);(try clear hi)))
          go_ret
          exact ⟨by first | rfl | (simp [errW_none,errW_some] <;> rfl) | (simp [*,errW_none,errW_some] <;> rfl),by repeat (first | (with_reducible first | exact HB.out | apply below_alloc | apply pw_below_drewN | apply below_drew1 | refine below_set ?_ GE101.out | refine below_set ?_ GE102.out) | exact HB.out)⟩
        · rw [if_neg c7] at H
          have c7b0 : (a0_4 == a1_4 && (a0_5 == a1_5)) = false:=by simpa using c7
          (try (have c7b1 : decide (a0_4 = a1_4 && (a0_5 == a1_5)) = false:=by simpa using c7))
          (try (have c7b2 : (a0_4 == a1_4 && (a0_5 == a1_5)) = false:=by simpa using c7))
          (try (have c7b3 : ¬ (a0_4 = a1_4 && (a0_5 == a1_5)):=by simpa using c7))
          clear c7
          obtain rfl:=Option.some.inj H
          go_enter Try.func43,Try.ntmps43
          go_wp2_with (first | ((with_reducible refine gate_dst (N:=2) rfl ?_);refine box_event ?hg (N:=2) ?hd (cs:=#[.float .f64 a0_0,.bool a0_1,.slice A0_2 l0_2.length c0_2,.int .i64 a0_3,.int .i64 a0_4,.int .i64 a0_5]) (t:=30) ?hr ?_;(case hd => rfl);(case hg => rfl);(case hr => first | (go_simp;done) | (go_simp;rfl));intro gb101 hg w15 hbox hb;have n0_:=Aside0.mk (below_step (by repeat (first | (with_reducible first | exact HB.out | apply below_alloc | apply pw_below_drewN | apply below_drew1) | exact HB.out)) hb);have n1_:=Aside0.mk (hbox);have n2_:=Aside0.mk ((by rw [hg];exact (below_size (by repeat (first | (with_reducible first | exact HB.out | apply below_alloc | apply pw_below_drewN | apply below_drew1) | exact HB.out))) : w.heap.size ≤ gb101));have n3_:=Aside0.mk ((by rw [hg];exact (below_size (by repeat (first | (with_reducible first | exact HB.out | apply below_alloc | apply pw_below_drewN | apply below_drew1) | exact HB.out))) : w.heap.size ≤ gb101));clear HB;have HB:=n0_;have BK101:=n1_;have GW101:=n2_;have GE101:=n3_;clear n0_ n1_ n2_ n3_;clear hb hbox hg) | ((with_reducible refine gate_dst (N:=3) rfl ?_);refine box_event ?hg (N:=3) ?hd (cs:=#[.float .f64 a1_0,.bool a1_1,.slice A1_2 l1_2.length c1_2,.int .i64 a1_3,.int .i64 a1_4,.int .i64 a1_5]) (t:=30) ?hr ?_;(case hd => rfl);(case hg => rfl);(case hr => first | (go_simp;done) | (go_simp;rfl));intro gb102 hg w16 hbox hb;have n0_:=Aside0.mk (blk_below (g:=gb101) (o:=.cells #[.float .f64 a0_0,.bool a0_1,.slice A0_2 l0_2.length c0_2,.int .i64 a0_3,.int .i64 a0_4,.int .i64 a0_5] 30 (0,0)) (by (with_reducible repeat (first | refine blk_drewN ?_ _ | refine blk_drew ?_ | refine blk_alloc ?_ _));exact BK101.out) hb);have n1_:=Aside0.mk (below_step (by repeat (first | (with_reducible first | exact HB.out | apply below_alloc | apply pw_below_drewN | apply below_drew1 | refine below_set ?_ GE101.out) | exact HB.out)) hb);have n2_:=Aside0.mk (hbox);have n3_:=Aside0.mk ((by rw [hg];exact (below_size (by repeat (first | (with_reducible first | exact HB.out | apply below_alloc | apply pw_below_drewN | apply below_drew1 | refine below_set ?_ GE101.out) | exact HB.out))) : w.heap.size ≤ gb102));have n4_:=Aside0.mk ((by rw [hg];exact (below_size (by repeat (first | (with_reducible first | exact HB.out | apply below_alloc | apply pw_below_drewN | apply below_drew1 | refine below_set ?_ GE101.out) | exact HB.out))) : w.heap.size ≤ gb102));have n5_:=Aside0.mk ((by rw [hg];exact Nat.ne_of_lt (blk_lt (g:=gb101) (o:=.cells #[.float .f64 a0_0,.bool a0_1,.slice A0_2 l0_2.length c0_2,.int .i64 a0_3,.int .i64 a0_4,.int .i64 a0_5] 30 (0,0)) (by (with_reducible repeat (first | refine blk_drewN ?_ _ | refine blk_drew ?_ | refine blk_alloc ?_ _));exact BK101.out)) : gb101 ≠ gb102));have n6_:=Aside0.mk ((by rw [hg];exact Nat.ne_of_gt (blk_lt (g:=gb101) (o:=.cells #[.float .f64 a0_0,.bool a0_1,.slice A0_2 l0_2.length c0_2,.int .i64 a0_3,.int .i64 a0_4,.int .i64 a0_5] 30 (0,0)) (by (with_reducible repeat (first | refine blk_drewN ?_ _ | refine blk_drew ?_ | refine blk_alloc ?_ _));exact BK101.out)) : gb102 ≠ gb101));clear BK101;clear HB;have BK101:=n0_;have HB:=n1_;have BK102:=n2_;have GW102:=n3_;have GE102:=n4_;have NB101_102:=n5_;have NB102_101:=n6_;clear n0_ n1_ n2_ n3_ n4_ n5_ n6_;clear hb hbox hg;have hnb17:=NB101_102.out;have hnc17:=NB102_101.out;have hcz18_0 : w16.cell? ⟨gb101,0,none⟩ = some (.float .f64 a0_0):=(blk_cell BK101.out 0).trans rfl;have hcz18_1 : w16.cell? ⟨gb101,1,none⟩ = some (.bool a0_1):=(blk_cell BK101.out 1).trans rfl;have hcz18_2 : w16.cell? ⟨gb101,2,none⟩ = some (.slice A0_2 l0_2.length c0_2):=(blk_cell BK101.out 2).trans rfl;have hcz18_3 : w16.cell? ⟨gb101,3,none⟩ = some (.int .i64 a0_3):=(blk_cell BK101.out 3).trans rfl;have hcz18_4 : w16.cell? ⟨gb101,4,none⟩ = some (.int .i64 a0_4):=(blk_cell BK101.out 4).trans rfl;have hcz18_5 : w16.cell? ⟨gb101,5,none⟩ = some (.int .i64 a0_5):=(blk_cell BK101.out 5).trans rfl;have hfz18_0:=blk_frozen BK101.out 0;have hfz18_1:=blk_frozen BK101.out 1;have hfz18_2:=blk_frozen BK101.out 2;have hfz18_3:=blk_frozen BK101.out 3;have hfz18_4:=blk_frozen BK101.out 4;have hfz18_5:=blk_frozen BK101.out 5;have hcz19_0 : w16.cell? ⟨gb102,0,none⟩ = some (.float .f64 a1_0):=(blk_cell BK102.out 0).trans rfl;have hcz19_1 : w16.cell? ⟨gb102,1,none⟩ = some (.bool a1_1):=(blk_cell BK102.out 1).trans rfl;have hcz19_2 : w16.cell? ⟨gb102,2,none⟩ = some (.slice A1_2 l1_2.length c1_2):=(blk_cell BK102.out 2).trans rfl;have hcz19_3 : w16.cell? ⟨gb102,3,none⟩ = some (.int .i64 a1_3):=(blk_cell BK102.out 3).trans rfl;have hcz19_4 : w16.cell? ⟨gb102,4,none⟩ = some (.int .i64 a1_4):=(blk_cell BK102.out 4).trans rfl;have hcz19_5 : w16.cell? ⟨gb102,5,none⟩ = some (.int .i64 a1_5):=(blk_cell BK102.out 5).trans rfl;have hfz19_0:=blk_frozen BK102.out 0;have hfz19_1:=blk_frozen BK102.out 1;have hfz19_2:=blk_frozen BK102.out 2;have hfz19_3:=blk_frozen BK102.out 3;have hfz19_4:=blk_frozen BK102.out 4;have hfz19_5:=blk_frozen BK102.out 5) | ((with_reducible refine gate_callee (f:=67) rfl ?_);refine goesL_ (some 9) rfl rfl Try.func67 (by kernel_rfl) rfl #[.float .f64 a0_0,.float .f64 a1_0] rfl (by (try simp only [List.map_toArray,List.map_cons,List.map_nil]);first | done | rfl | (simp only [List.length_drop,List.length_take];rfl)) ?_;(with_reducible refine (num_Same.calls a0_0 a1_0 true _ A3.out).mono ?_);rintro e w' ⟨rfl,⟨nd,rfl⟩⟩;refine ⟨_,rfl,?_⟩))
          go_ret
          exact ⟨by first | rfl | (simp [errW_none,errW_some] <;> rfl) | (simp [*,errW_none,errW_some] <;> rfl),by repeat (first | (with_reducible first | exact HB.out | apply below_alloc | apply pw_below_drewN | apply below_drew1 | refine below_set ?_ GE101.out | refine below_set ?_ GE102.out) | exact HB.out)⟩
      · rw [if_neg c6] at H
        have c6b0 : (a0_3 == a1_3) = false:=beq_eq_false_iff_ne.mpr c6
        have c6b1 : (a0_3 != a1_3) = true:=bne_iff_ne.mpr c6
        obtain rfl:=Option.some.inj H
        go_enter Try.func43,Try.ntmps43
        go_wp2_with (first | ((with_reducible refine gate_dst (N:=2) rfl ?_);refine box_event ?hg (N:=2) ?hd (cs:=#[.float .f64 a0_0,.bool a0_1,.slice A0_2 l0_2.length c0_2,.int .i64 a0_3,.int .i64 a0_4,.int .i64 a0_5]) (t:=30) ?hr ?_;(case hd => rfl);(case hg => rfl);(case hr => first | (go_simp;done) | (go_simp;rfl));intro gb101 hg w20 hbox hb;have n0_:=Aside0.mk (below_step (by repeat (first | (with_reducible first | exact HB.out | apply below_alloc | apply pw_below_drewN | apply below_drew1) | exact HB.out)) hb);have n1_:=Aside0.mk (hbox);have n2_:=Aside0.mk ((by rw [hg];exact (below_size (by repeat (first | (with_reducible first | exact HB.out | apply below_alloc | apply pw_below_drewN | apply below_drew1) | exact HB.out))) : w.heap.size ≤ gb101));have n3_:=Aside0.mk ((by rw [hg];exact (below_size (by repeat (first | (with_reducible first | exact HB.out | apply below_alloc | apply pw_below_drewN | apply below_drew1) | exact HB.out))) : w.heap.size ≤ gb101));clear HB;have HB:=n0_;have BK101:=n1_;have GW101:=n2_;have GE101:=n3_;clear n0_ n1_ n2_ n3_;clear hb hbox hg) | ((with_reducible refine gate_dst (N:=3) rfl ?_);refine box_event ?hg (N:=3) ?hd (cs:=#[.float .f64 a1_0,.bool a1_1,.slice A1_2 l1_2.length c1_2,.int .i64 a1_3,.int .i64 a1_4,.int .i64 a1_5]) (t:=30) ?hr ?_;(case hd => rfl);(case hg => rfl);(case hr => first | (go_simp;done) | (go_simp;rfl));intro gb102 hg w21 hbox hb;have n0_:=Aside0.mk (blk_below (g:=gb101) (o:=.cells #[.float .f64 a0_0,.bool a0_1,.slice A0_2 l0_2.length c0_2,.int .i64 a0_3,.int .i64 a0_4,.int .i64 a0_5] 30 (0,0)) (by (with_reducible repeat (first | refine blk_drewN ?_ _ | refine blk_drew ?_ | refine blk_alloc ?_ _));exact BK101.out) hb);have n1_:=Aside0.mk (below_step (by repeat (first | (with_reducible first | exact HB.out | apply below_alloc | apply pw_below_drewN | apply below_drew1 | refine below_set ?_ GE101.out) | exact HB.out)) hb);have n2_:=Aside0.mk (hbox);have n3_:=Aside0.mk ((by rw [hg];exact (below_size (by repeat (first | (with_reducible first | exact HB.out | apply below_alloc | apply pw_below_drewN | apply below_drew1 | refine below_set ?_ GE101.out) | exact HB.out))) : w.heap.size ≤ gb102));have n4_:=Aside0.mk ((by rw [hg];exact (below_size (by repeat (first | (with_reducible first | exact HB.out | apply below_alloc | apply pw_below_drewN | apply below_drew1 | refine below_set ?_ GE101.out) | exact HB.out))) : w.heap.size ≤ gb102));have n5_:=Aside0.mk ((by rw [hg];exact Nat.ne_of_lt (blk_lt (g:=gb101) (o:=.cells #[.float .f64 a0_0,.bool a0_1,.slice A0_2 l0_2.length c0_2,.int .i64 a0_3,.int .i64 a0_4,.int .i64 a0_5] 30 (0,0)) (by (with_reducible repeat (first | refine blk_drewN ?_ _ | refine blk_drew ?_ | refine blk_alloc ?_ _));exact BK101.out)) : gb101 ≠ gb102));have n6_:=Aside0.mk ((by rw [hg];exact Nat.ne_of_gt (blk_lt (g:=gb101) (o:=.cells #[.float .f64 a0_0,.bool a0_1,.slice A0_2 l0_2.length c0_2,.int .i64 a0_3,.int .i64 a0_4,.int .i64 a0_5] 30 (0,0)) (by (with_reducible repeat (first | refine blk_drewN ?_ _ | refine blk_drew ?_ | refine blk_alloc ?_ _));exact BK101.out)) : gb102 ≠ gb101));clear BK101;clear HB;have BK101:=n0_;have HB:=n1_;have BK102:=n2_;have GW102:=n3_;have GE102:=n4_;have NB101_102:=n5_;have NB102_101:=n6_;clear n0_ n1_ n2_ n3_ n4_ n5_ n6_;clear hb hbox hg;have hnb22:=NB101_102.out;have hnc22:=NB102_101.out;have hcz23_0 : w21.cell? ⟨gb101,0,none⟩ = some (.float .f64 a0_0):=(blk_cell BK101.out 0).trans rfl;have hcz23_1 : w21.cell? ⟨gb101,1,none⟩ = some (.bool a0_1):=(blk_cell BK101.out 1).trans rfl;have hcz23_2 : w21.cell? ⟨gb101,2,none⟩ = some (.slice A0_2 l0_2.length c0_2):=(blk_cell BK101.out 2).trans rfl;have hcz23_3 : w21.cell? ⟨gb101,3,none⟩ = some (.int .i64 a0_3):=(blk_cell BK101.out 3).trans rfl;have hcz23_4 : w21.cell? ⟨gb101,4,none⟩ = some (.int .i64 a0_4):=(blk_cell BK101.out 4).trans rfl;have hcz23_5 : w21.cell? ⟨gb101,5,none⟩ = some (.int .i64 a0_5):=(blk_cell BK101.out 5).trans rfl;have hfz23_0:=blk_frozen BK101.out 0;have hfz23_1:=blk_frozen BK101.out 1;have hfz23_2:=blk_frozen BK101.out 2;have hfz23_3:=blk_frozen BK101.out 3;have hfz23_4:=blk_frozen BK101.out 4;have hfz23_5:=blk_frozen BK101.out 5;have hcz24_0 : w21.cell? ⟨gb102,0,none⟩ = some (.float .f64 a1_0):=(blk_cell BK102.out 0).trans rfl;have hcz24_1 : w21.cell? ⟨gb102,1,none⟩ = some (.bool a1_1):=(blk_cell BK102.out 1).trans rfl;have hcz24_2 : w21.cell? ⟨gb102,2,none⟩ = some (.slice A1_2 l1_2.length c1_2):=(blk_cell BK102.out 2).trans rfl;have hcz24_3 : w21.cell? ⟨gb102,3,none⟩ = some (.int .i64 a1_3):=(blk_cell BK102.out 3).trans rfl;have hcz24_4 : w21.cell? ⟨gb102,4,none⟩ = some (.int .i64 a1_4):=(blk_cell BK102.out 4).trans rfl;have hcz24_5 : w21.cell? ⟨gb102,5,none⟩ = some (.int .i64 a1_5):=(blk_cell BK102.out 5).trans rfl;have hfz24_0:=blk_frozen BK102.out 0;have hfz24_1:=blk_frozen BK102.out 1;have hfz24_2:=blk_frozen BK102.out 2;have hfz24_3:=blk_frozen BK102.out 3;have hfz24_4:=blk_frozen BK102.out 4;have hfz24_5:=blk_frozen BK102.out 5) | ((with_reducible refine gate_callee (f:=67) rfl ?_);refine goesL_ (some 9) rfl rfl Try.func67 (by kernel_rfl) rfl #[.float .f64 a0_0,.float .f64 a1_0] rfl (by (try simp only [List.map_toArray,List.map_cons,List.map_nil]);first | done | rfl | (simp only [List.length_drop,List.length_take];rfl)) ?_;(with_reducible refine (num_Same.calls a0_0 a1_0 true _ A3.out).mono ?_);rintro e w' ⟨rfl,⟨nd,rfl⟩⟩;refine ⟨_,rfl,?_⟩))
        go_ret
        exact ⟨by first | rfl | (simp [errW_none,errW_some] <;> rfl) | (simp [*,errW_none,errW_some] <;> rfl),by repeat (first | (with_reducible first | exact HB.out | apply below_alloc | apply pw_below_drewN | apply below_drew1 | refine below_set ?_ GE101.out | refine below_set ?_ GE102.out) | exact HB.out)⟩
    · rw [if_neg c5] at H
      have c5b0 : (a0_1 == a1_1) = false:=by simpa using c5
      (try (have c5b1 : decide (a0_1 = a1_1) = false:=by simpa using c5))
      (try (have c5b2 : (a0_1 == a1_1) = false:=by simpa using c5))
      (try (have c5b3 : ¬ (a0_1 = a1_1):=by simpa using c5))
      clear c5
      obtain rfl:=Option.some.inj H
      go_enter Try.func43,Try.ntmps43
      go_wp2_with (first | ((with_reducible refine gate_dst (N:=2) rfl ?_);refine box_event ?hg (N:=2) ?hd (cs:=#[.float .f64 a0_0,.bool a0_1,.slice A0_2 l0_2.length c0_2,.int .i64 a0_3,.int .i64 a0_4,.int .i64 a0_5]) (t:=30) ?hr ?_;(case hd => rfl);(case hg => rfl);(case hr => first | (go_simp;done) | (go_simp;rfl));intro gb101 hg w25 hbox hb;have n0_:=Aside0.mk (below_step (by repeat (first | (with_reducible first | exact HB.out | apply below_alloc | apply pw_below_drewN | apply below_drew1) | exact HB.out)) hb);have n1_:=Aside0.mk (hbox);have n2_:=Aside0.mk ((by rw [hg];exact (below_size (by repeat (first | (with_reducible first | exact HB.out | apply below_alloc | apply pw_below_drewN | apply below_drew1) | exact HB.out))) : w.heap.size ≤ gb101));have n3_:=Aside0.mk ((by rw [hg];exact (below_size (by repeat (first | (with_reducible first | exact HB.out | apply below_alloc | apply pw_below_drewN | apply below_drew1) | exact HB.out))) : w.heap.size ≤ gb101));clear HB;have HB:=n0_;have BK101:=n1_;have GW101:=n2_;have GE101:=n3_;clear n0_ n1_ n2_ n3_;clear hb hbox hg) | ((with_reducible refine gate_dst (N:=3) rfl ?_);refine box_event ?hg (N:=3) ?hd (cs:=#[.float .f64 a1_0,.bool a1_1,.slice A1_2 l1_2.length c1_2,.int .i64 a1_3,.int .i64 a1_4,.int .i64 a1_5]) (t:=30) ?hr ?_;(case hd => rfl);(case hg => rfl);(case hr => first | (go_simp;done) | (go_simp;rfl));intro gb102 hg w26 hbox hb;have n0_:=Aside0.mk (blk_below (g:=gb101) (o:=.cells #[.float .f64 a0_0,.bool a0_1,.slice A0_2 l0_2.length c0_2,.int .i64 a0_3,.int .i64 a0_4,.int .i64 a0_5] 30 (0,0)) (by (with_reducible repeat (first | refine blk_drewN ?_ _ | refine blk_drew ?_ | refine blk_alloc ?_ _));exact BK101.out) hb);have n1_:=Aside0.mk (below_step (by repeat (first | (with_reducible first | exact HB.out | apply below_alloc | apply pw_below_drewN | apply below_drew1 | refine below_set ?_ GE101.out) | exact HB.out)) hb);have n2_:=Aside0.mk (hbox);have n3_:=Aside0.mk ((by rw [hg];exact (below_size (by repeat (first | (with_reducible first | exact HB.out | apply below_alloc | apply pw_below_drewN | apply below_drew1 | refine below_set ?_ GE101.out) | exact HB.out))) : w.heap.size ≤ gb102));have n4_:=Aside0.mk ((by rw [hg];exact (below_size (by repeat (first | (with_reducible first | exact HB.out | apply below_alloc | apply pw_below_drewN | apply below_drew1 | refine below_set ?_ GE101.out) | exact HB.out))) : w.heap.size ≤ gb102));have n5_:=Aside0.mk ((by rw [hg];exact Nat.ne_of_lt (blk_lt (g:=gb101) (o:=.cells #[.float .f64 a0_0,.bool a0_1,.slice A0_2 l0_2.length c0_2,.int .i64 a0_3,.int .i64 a0_4,.int .i64 a0_5] 30 (0,0)) (by (with_reducible repeat (first | refine blk_drewN ?_ _ | refine blk_drew ?_ | refine blk_alloc ?_ _));exact BK101.out)) : gb101 ≠ gb102));have n6_:=Aside0.mk ((by rw [hg];exact Nat.ne_of_gt (blk_lt (g:=gb101) (o:=.cells #[.float .f64 a0_0,.bool a0_1,.slice A0_2 l0_2.length c0_2,.int .i64 a0_3,.int .i64 a0_4,.int .i64 a0_5] 30 (0,0)) (by (with_reducible repeat (first | refine blk_drewN ?_ _ | refine blk_drew ?_ | refine blk_alloc ?_ _));exact BK101.out)) : gb102 ≠ gb101));clear BK101;clear HB;have BK101:=n0_;have HB:=n1_;have BK102:=n2_;have GW102:=n3_;have GE102:=n4_;have NB101_102:=n5_;have NB102_101:=n6_;clear n0_ n1_ n2_ n3_ n4_ n5_ n6_;clear hb hbox hg;have hnb27:=NB101_102.out;have hnc27:=NB102_101.out;have hcz28_0 : w26.cell? ⟨gb101,0,none⟩ = some (.float .f64 a0_0):=(blk_cell BK101.out 0).trans rfl;have hcz28_1 : w26.cell? ⟨gb101,1,none⟩ = some (.bool a0_1):=(blk_cell BK101.out 1).trans rfl;have hcz28_2 : w26.cell? ⟨gb101,2,none⟩ = some (.slice A0_2 l0_2.length c0_2):=(blk_cell BK101.out 2).trans rfl;have hcz28_3 : w26.cell? ⟨gb101,3,none⟩ = some (.int .i64 a0_3):=(blk_cell BK101.out 3).trans rfl;have hcz28_4 : w26.cell? ⟨gb101,4,none⟩ = some (.int .i64 a0_4):=(blk_cell BK101.out 4).trans rfl;have hcz28_5 : w26.cell? ⟨gb101,5,none⟩ = some (.int .i64 a0_5):=(blk_cell BK101.out 5).trans rfl;have hfz28_0:=blk_frozen BK101.out 0;have hfz28_1:=blk_frozen BK101.out 1;have hfz28_2:=blk_frozen BK101.out 2;have hfz28_3:=blk_frozen BK101.out 3;have hfz28_4:=blk_frozen BK101.out 4;have hfz28_5:=blk_frozen BK101.out 5;have hcz29_0 : w26.cell? ⟨gb102,0,none⟩ = some (.float .f64 a1_0):=(blk_cell BK102.out 0).trans rfl;have hcz29_1 : w26.cell? ⟨gb102,1,none⟩ = some (.bool a1_1):=(blk_cell BK102.out 1).trans rfl;have hcz29_2 : w26.cell? ⟨gb102,2,none⟩ = some (.slice A1_2 l1_2.length c1_2):=(blk_cell BK102.out 2).trans rfl;have hcz29_3 : w26.cell? ⟨gb102,3,none⟩ = some (.int .i64 a1_3):=(blk_cell BK102.out 3).trans rfl;have hcz29_4 : w26.cell? ⟨gb102,4,none⟩ = some (.int .i64 a1_4):=(blk_cell BK102.out 4).trans rfl;have hcz29_5 : w26.cell? ⟨gb102,5,none⟩ = some (.int .i64 a1_5):=(blk_cell BK102.out 5).trans rfl;have hfz29_0:=blk_frozen BK102.out 0;have hfz29_1:=blk_frozen BK102.out 1;have hfz29_2:=blk_frozen BK102.out 2;have hfz29_3:=blk_frozen BK102.out 3;have hfz29_4:=blk_frozen BK102.out 4;have hfz29_5:=blk_frozen BK102.out 5) | ((with_reducible refine gate_callee (f:=67) rfl ?_);refine goesL_ (some 9) rfl rfl Try.func67 (by kernel_rfl) rfl #[.float .f64 a0_0,.float .f64 a1_0] rfl (by (try simp only [List.map_toArray,List.map_cons,List.map_nil]);first | done | rfl | (simp only [List.length_drop,List.length_take];rfl)) ?_;(with_reducible refine (num_Same.calls a0_0 a1_0 true _ A3.out).mono ?_);rintro e w' ⟨rfl,⟨nd,rfl⟩⟩;refine ⟨_,rfl,?_⟩))
      go_ret
      exact ⟨by first | rfl | (simp [errW_none,errW_some] <;> rfl) | (simp [*,errW_none,errW_some] <;> rfl),by repeat (first | (with_reducible first | exact HB.out | apply below_alloc | apply pw_below_drewN | apply below_drew1 | refine below_set ?_ GE101.out | refine below_set ?_ GE102.out) | exact HB.out)⟩
  · replace c4:=Bool.eq_false_iff.mpr c4
    subst c4
    have H1 : (some false) = some r:=by rw [if_neg (show ¬ (false = true) by decide)] at H;exact H
    clear H
    have H:=H1
    clear H1
    obtain rfl:=Option.some.inj H
    go_enter Try.func43,Try.ntmps43
    go_wp2_with (first | ((with_reducible refine gate_dst (N:=2) rfl ?_);refine box_event ?hg (N:=2) ?hd (cs:=#[.float .f64 a0_0,.bool a0_1,.slice A0_2 l0_2.length c0_2,.int .i64 a0_3,.int .i64 a0_4,.int .i64 a0_5]) (t:=30) ?hr ?_;(case hd => rfl);(case hg => rfl);(case hr => first | (go_simp;done) | (go_simp;rfl));intro gb101 hg w30 hbox hb;have n0_:=Aside0.mk (below_step (by repeat (first | (with_reducible first | exact HB.out | apply below_alloc | apply pw_below_drewN | apply below_drew1) | exact HB.out)) hb);have n1_:=Aside0.mk (hbox);have n2_:=Aside0.mk ((by rw [hg];exact (below_size (by repeat (first | (with_reducible first | exact HB.out | apply below_alloc | apply pw_below_drewN | apply below_drew1) | exact HB.out))) : w.heap.size ≤ gb101));have n3_:=Aside0.mk ((by rw [hg];exact (below_size (by repeat (first | (with_reducible first | exact HB.out | apply below_alloc | apply pw_below_drewN | apply below_drew1) | exact HB.out))) : w.heap.size ≤ gb101));clear HB;have HB:=n0_;have BK101:=n1_;have GW101:=n2_;have GE101:=n3_;clear n0_ n1_ n2_ n3_;clear hb hbox hg) | ((with_reducible refine gate_dst (N:=3) rfl ?_);refine box_event ?hg (N:=3) ?hd (cs:=#[.float .f64 a1_0,.bool a1_1,.slice A1_2 l1_2.length c1_2,.int .i64 a1_3,.int .i64 a1_4,.int .i64 a1_5]) (t:=30) ?hr ?_;(case hd => rfl);(case hg => rfl);(case hr => first | (go_simp;done) | (go_simp;rfl));intro gb102 hg w31 hbox hb;have n0_:=Aside0.mk (blk_below (g:=gb101) (o:=.cells #[.float .f64 a0_0,.bool a0_1,.slice A0_2 l0_2.length c0_2,.int .i64 a0_3,.int .i64 a0_4,.int .i64 a0_5] 30 (0,0)) (by (with_reducible repeat (first | refine blk_drewN ?_ _ | refine blk_drew ?_ | refine blk_alloc ?_ _));exact BK101.out) hb);have n1_:=Aside0.mk (below_step (by repeat (first | (with_reducible first | exact HB.out | apply below_alloc | apply pw_below_drewN | apply below_drew1 | refine below_set ?_ GE101.out) | exact HB.out)) hb);have n2_:=Aside0.mk (hbox);have n3_:=Aside0.mk ((by rw [hg];exact (below_size (by repeat (first | (with_reducible first | exact HB.out | apply below_alloc | apply pw_below_drewN | apply below_drew1 | refine below_set ?_ GE101.out) | exact HB.out))) : w.heap.size ≤ gb102));have n4_:=Aside0.mk ((by rw [hg];exact (below_size (by repeat (first | (with_reducible first | exact HB.out | apply below_alloc | apply pw_below_drewN | apply below_drew1 | refine below_set ?_ GE101.out) | exact HB.out))) : w.heap.size ≤ gb102));have n5_:=Aside0.mk ((by rw [hg];exact Nat.ne_of_lt (blk_lt (g:=gb101) (o:=.cells #[.float .f64 a0_0,.bool a0_1,.slice A0_2 l0_2.length c0_2,.int .i64 a0_3,.int .i64 a0_4,.int .i64 a0_5] 30 (0,0)) (by (with_reducible repeat (first | refine blk_drewN ?_ _ | refine blk_drew ?_ | refine blk_alloc ?_ _));exact BK101.out)) : gb101 ≠ gb102));have n6_:=Aside0.mk ((by rw [hg];exact Nat.ne_of_gt (blk_lt (g:=gb101) (o:=.cells #[.float .f64 a0_0,.bool a0_1,.slice A0_2 l0_2.length c0_2,.int .i64 a0_3,.int .i64 a0_4,.int .i64 a0_5] 30 (0,0)) (by (with_reducible repeat (first | refine blk_drewN ?_ _ | refine blk_drew ?_ | refine blk_alloc ?_ _));exact BK101.out)) : gb102 ≠ gb101));clear BK101;clear HB;have BK101:=n0_;have HB:=n1_;have BK102:=n2_;have GW102:=n3_;have GE102:=n4_;have NB101_102:=n5_;have NB102_101:=n6_;clear n0_ n1_ n2_ n3_ n4_ n5_ n6_;clear hb hbox hg;have hnb32:=NB101_102.out;have hnc32:=NB102_101.out;have hcz33_0 : w31.cell? ⟨gb101,0,none⟩ = some (.float .f64 a0_0):=(blk_cell BK101.out 0).trans rfl;have hcz33_1 : w31.cell? ⟨gb101,1,none⟩ = some (.bool a0_1):=(blk_cell BK101.out 1).trans rfl;have hcz33_2 : w31.cell? ⟨gb101,2,none⟩ = some (.slice A0_2 l0_2.length c0_2):=(blk_cell BK101.out 2).trans rfl;have hcz33_3 : w31.cell? ⟨gb101,3,none⟩ = some (.int .i64 a0_3):=(blk_cell BK101.out 3).trans rfl;have hcz33_4 : w31.cell? ⟨gb101,4,none⟩ = some (.int .i64 a0_4):=(blk_cell BK101.out 4).trans rfl;have hcz33_5 : w31.cell? ⟨gb101,5,none⟩ = some (.int .i64 a0_5):=(blk_cell BK101.out 5).trans rfl;have hfz33_0:=blk_frozen BK101.out 0;have hfz33_1:=blk_frozen BK101.out 1;have hfz33_2:=blk_frozen BK101.out 2;have hfz33_3:=blk_frozen BK101.out 3;have hfz33_4:=blk_frozen BK101.out 4;have hfz33_5:=blk_frozen BK101.out 5;have hcz34_0 : w31.cell? ⟨gb102,0,none⟩ = some (.float .f64 a1_0):=(blk_cell BK102.out 0).trans rfl;have hcz34_1 : w31.cell? ⟨gb102,1,none⟩ = some (.bool a1_1):=(blk_cell BK102.out 1).trans rfl;have hcz34_2 : w31.cell? ⟨gb102,2,none⟩ = some (.slice A1_2 l1_2.length c1_2):=(blk_cell BK102.out 2).trans rfl;have hcz34_3 : w31.cell? ⟨gb102,3,none⟩ = some (.int .i64 a1_3):=(blk_cell BK102.out 3).trans rfl;have hcz34_4 : w31.cell? ⟨gb102,4,none⟩ = some (.int .i64 a1_4):=(blk_cell BK102.out 4).trans rfl;have hcz34_5 : w31.cell? ⟨gb102,5,none⟩ = some (.int .i64 a1_5):=(blk_cell BK102.out 5).trans rfl;have hfz34_0:=blk_frozen BK102.out 0;have hfz34_1:=blk_frozen BK102.out 1;have hfz34_2:=blk_frozen BK102.out 2;have hfz34_3:=blk_frozen BK102.out 3;have hfz34_4:=blk_frozen BK102.out 4;have hfz34_5:=blk_frozen BK102.out 5) | ((with_reducible refine gate_callee (f:=67) rfl ?_);refine goesL_ (some 9) rfl rfl Try.func67 (by kernel_rfl) rfl #[.float .f64 a0_0,.float .f64 a1_0] rfl (by (try simp only [List.map_toArray,List.map_cons,List.map_nil]);first | done | rfl | (simp only [List.length_drop,List.length_take];rfl)) ?_;(with_reducible refine (num_Same.calls a0_0 a1_0 false _ A3.out).mono ?_);rintro e w' ⟨rfl,⟨nd,rfl⟩⟩;refine ⟨_,rfl,?_⟩))
    go_ret
    exact ⟨by first | rfl | (simp [errW_none,errW_some] <;> rfl) | (simp [*,errW_none,errW_some] <;> rfl),by repeat (first | (with_reducible first | exact HB.out | apply below_alloc | apply pw_below_drewN | apply below_drew1 | refine below_set ?_ GE101.out | refine below_set ?_ GE102.out) | exact HB.out)⟩
end Go.Proofs.Ytdcllbhkjcdnoaa.P
namespace Go.Proofs.Ytdcllbhkjcdnoaa.P
open Go.RowKit Go.Proofs.YtdcllbhkjcdnoaaW.PrintWords Go.Proofs.YtdcllbhkjcdnoaaW.PrintLast Go.Proofs.YtdcllbhkjcdnoaaW.PrintMore
attribute [local go_sem] max2_int min2_int max_two min_two max_three min_three max_four min_four   -- for this text's walks alone
attribute [local go_sem] run_store_float
set_option linter.unusedVariables false
set_option linter.unusedSimpArgs false
mutual
def row_Encode.j0 : Nat → Int → Nat → Bool → List Nat → Int → Int → Int → Option (List Int × Int)
  | 0,_,_,_,_,_,_,_ => none
  | k + 1,x5,x335000,x335001,x335002,x335003,x335004,x335005 => (row_head.f).bind fun t339 => (row_Encode.l0 k (([(⟨0,x5,0,(⟨#[]⟩ : ByteArray)⟩ : S86),(⟨0,0,x335000,(⟨#[]⟩ : ByteArray)⟩ : S86),(⟨0,x335003,0,(⟨#[]⟩ : ByteArray)⟩ : S86),(⟨0,x335004,0,(⟨#[]⟩ : ByteArray)⟩ : S86),(⟨0,x335005,0,(⟨#[]⟩ : ByteArray)⟩ : S86),(⟨0,(x335002.length : Int),0,(⟨#[]⟩ : ByteArray)⟩ : S86)] : List (S86))) t339 (t339.length : Int) 0 x335000 x335001 x335002 x335003 x335004 x335005)
def row_Encode.l0 : Nat → List (S86) → List Int → Int → Int → Nat → Bool → List Nat → Int → Int → Int → Option (List Int × Int)
  | 0,_,_,_,_,_,_,_,_,_,_ => none
  | k + 1,x6,x39,x40,x41,x335000,x335001,x335002,x335003,x335004,x335005 => if x41 < x40 then (if 0 ≤ x41 then (if x41 < (x39.length : Int) then (if x41 < (x6.length : Int) then (row_Encode.l0 k (x6.set (x41 : Int).toNat (⟨rd x39 x41,(rd_T86 x6 x41).f1,(rd_T86 x6 x41).f2,(rd_T86 x6 x41).f3⟩ : S86)) x39 x40 (wrap64 (x41 + 1)) x335000 x335001 x335002 x335003 x335004 x335005) else (none)) else (none)) else (none)) else (row_Encode.l1 k x6 x335002 (x335002.length : Int) 0)
def row_Encode.l1 : Nat → List (S86) → List Nat → Int → Int → Option (List Int × Int)
  | 0,_,_,_,_ => none
  | k + 1,x6,x53,x54,x55 => if x55 < x54 then (if 0 ≤ x55 then (if x55 < (x53.length : Int) then (if x6.length < 3518437208883 then (row_Encode.l1 k (x6 ++ [(⟨4,0,rdF x53 x55,(⟨#[]⟩ : ByteArray)⟩ : S86)]) x53 x54 (wrap64 (x55 + 1))) else (none)) else (none)) else (none)) else ((pack_Put.f x6).bind fun bt348 => (some (bt348.1,bt348.2)))
end
def row_Encode.f (k : Nat) (a0_0 : Nat) (a0_1 : Bool) (l0_2 : List Nat) (a0_3 : Int) (a0_4 : Int) (a0_5 : Int) : Option (List Int × Int):=(row_Check.f k a0_0 a0_1 l0_2 a0_3 a0_4 a0_5).bind fun t335 => (if t335 = 0 then (if a0_1 = true then (row_Encode.j0 k 1 a0_0 a0_1 l0_2 a0_3 a0_4 a0_5) else (row_Encode.j0 k 0 a0_0 a0_1 l0_2 a0_3 a0_4 a0_5)) else (some (([] : List Int),t335)))
set_option maxHeartbeats 8000000 in
set_option maxRecDepth 100000 in
theorem row_Encode.calls (k : Nat) (a0_0 : Nat) (a0_1 : Bool) (A0_2 : Option Addr) (c0_2 : Nat) (l0_2 : List Nat) (a0_3 : Int) (a0_4 : Int) (a0_5 : Int) (r1 : List Int) (r2 : Int) (w : World) (hr0_2 : Kd.C Kd.f64 w A0_2 l0_2.length l0_2) (hc0_2 : l0_2.length ≤ c0_2) (h : row_Encode.f k a0_0 a0_1 l0_2 a0_3 a0_4 a0_5 = some (r1,r2)) :
    Calls Try.prog 32 #[.agg #[.float .f64 a0_0,.bool a0_1,.slice A0_2 l0_2.length c0_2,.int .i64 a0_3,.int .i64 a0_4,.int .i64 a0_5]] w fun e w' => ∃ v0_ : Value,e = .returned (.tuple #[v0_,.int .i64 r2]) ∧ Kd.R (Kd.int .u8) 5 w' w.heap.size (fun _ => True) v0_ r1 ∧ Below w.heap.size w w':=by
  have hu30:=Try.underlying30
  have hu86:=Try.underlying86
  have HR0_2:=Aside0.mk hr0_2
  have HC0_2:=Aside0.mk hc0_2
  clear hr0_2 hc0_2
  have HB:=Aside0.mk (Below.refl w.heap.size w)
  have H : ((row_Check.f k a0_0 a0_1 l0_2 a0_3 a0_4 a0_5).bind fun t335 => (if t335 = 0 then (if a0_1 = true then (row_Encode.j0 k 1 a0_0 a0_1 l0_2 a0_3 a0_4 a0_5) else (row_Encode.j0 k 0 a0_0 a0_1 l0_2 a0_3 a0_4 a0_5)) else (some (([] : List Int),t335)))) = some (r1,r2):=h
  clear h
  replace H:=Option.bind_eq_some_iff.mp H
  obtain ⟨t335,A20,H⟩:=H
  replace H : (if t335 = 0 then (if a0_1 = true then (row_Encode.j0 k 1 a0_0 a0_1 l0_2 a0_3 a0_4 a0_5) else (row_Encode.j0 k 0 a0_0 a0_1 l0_2 a0_3 a0_4 a0_5)) else (some (([] : List Int),t335))) = some (r1,r2):=H
  have A2:=Aside0.mk A20
  clear A20
  by_cases c3 : t335 = 0
  · rw [if_pos c3] at H
    have c3b0 : (t335 == 0) = true:=beq_iff_eq.mpr c3
    have c3b1 : (t335 != 0) = false:=bne_eq_false_iff_eq.mpr c3
    clear c3
    have HC4:=Aside0.mk H
    clear H
    go_enter Try.func32,Try.ntmps32
    go_upto_if 17 with (first | ((with_reducible refine gate_dst (N:=1) rfl ?_);refine box_event ?hg (N:=1) ?hd (cs:=#[.float .f64 a0_0,.bool a0_1,.slice A0_2 l0_2.length c0_2,.int .i64 a0_3,.int .i64 a0_4,.int .i64 a0_5]) (t:=30) ?hr ?_;(case hd => rfl);(case hg => rfl);(case hr => first | (go_simp;done) | (go_simp;rfl));intro gb334 hg w5 hbox hb;have n0_:=Aside0.mk (below_step (by repeat (first | (with_reducible first | exact HB.out | apply below_alloc | apply pw_below_drewN | apply below_drew1) | exact HB.out)) hb);have n1_:=Aside0.mk (hbox);have n2_:=Aside0.mk ((by rw [hg];exact (below_size (by repeat (first | (with_reducible first | exact HB.out | apply below_alloc | apply pw_below_drewN | apply below_drew1) | exact HB.out))) : w.heap.size ≤ gb334));have n3_:=Aside0.mk ((by rw [hg];exact (below_size (by repeat (first | (with_reducible first | exact HB.out | apply below_alloc | apply pw_below_drewN | apply below_drew1) | exact HB.out))) : w.heap.size ≤ gb334));clear HB;have HB:=n0_;have BK334:=n1_;have GW334:=n2_;have GE334:=n3_;clear n0_ n1_ n2_ n3_;clear hb hbox hg;have hcz6_0 : w5.cell? ⟨gb334,0,none⟩ = some (.float .f64 a0_0):=(blk_cell BK334.out 0).trans rfl;have hcz6_1 : w5.cell? ⟨gb334,1,none⟩ = some (.bool a0_1):=(blk_cell BK334.out 1).trans rfl;have hcz6_2 : w5.cell? ⟨gb334,2,none⟩ = some (.slice A0_2 l0_2.length c0_2):=(blk_cell BK334.out 2).trans rfl;have hcz6_3 : w5.cell? ⟨gb334,3,none⟩ = some (.int .i64 a0_3):=(blk_cell BK334.out 3).trans rfl;have hcz6_4 : w5.cell? ⟨gb334,4,none⟩ = some (.int .i64 a0_4):=(blk_cell BK334.out 4).trans rfl;have hcz6_5 : w5.cell? ⟨gb334,5,none⟩ = some (.int .i64 a0_5):=(blk_cell BK334.out 5).trans rfl;have hfz6_0:=blk_frozen BK334.out 0;have hfz6_1:=blk_frozen BK334.out 1;have hfz6_2:=blk_frozen BK334.out 2;have hfz6_3:=blk_frozen BK334.out 3;have hfz6_4:=blk_frozen BK334.out 4;have hfz6_5:=blk_frozen BK334.out 5) | ((with_reducible refine gate_callee (f:=33) rfl ?_);refine goesL_ (some 12) rfl rfl Try.func33 (by kernel_rfl) rfl #[.agg #[.float .f64 a0_0,.bool a0_1,.slice A0_2 l0_2.length c0_2,.int .i64 a0_3,.int .i64 a0_4,.int .i64 a0_5]] rfl (by (try simp only [List.map_toArray,List.map_cons,List.map_nil]);first | done | rfl | (simp only [List.length_drop,List.length_take];rfl)) ?_;(with_reducible refine (row_Check.calls k a0_0 a0_1 _ _ l0_2 a0_3 a0_4 a0_5 t335 _ ?side1 ?side2 A2.out).mono ?_);(case side1 => repeat (first | exact (Kd.C_below HR0_2.out HB.out) | (with_reducible refine Kd.C_alloc ?_ _) | (with_reducible refine Kd.C_drewN ?_ _) | (with_reducible refine Kd.C_drew ?_)));(case side2 => exact HC0_2.out);rintro e w7 ⟨rfl,hb⟩;refine ⟨_,rfl,?_⟩;have n0_:=Aside0.mk (blk_below (g:=gb334) (o:=.cells #[.float .f64 a0_0,.bool a0_1,.slice A0_2 l0_2.length c0_2,.int .i64 a0_3,.int .i64 a0_4,.int .i64 a0_5] 30 (0,0)) (by (with_reducible repeat (first | refine blk_drewN ?_ _ | refine blk_drew ?_ | refine blk_alloc ?_ _));exact BK334.out) hb);have n1_:=Aside0.mk (below_step (by repeat (first | (with_reducible first | exact HB.out | apply below_alloc | apply pw_below_drewN | apply below_drew1 | refine below_set ?_ GE334.out) | exact HB.out)) hb);clear BK334;clear HB;have BK334:=n0_;have HB:=n1_;clear n0_ n1_;(try clear hb);(try clear hb2);(try clear hk);(try clear hi);have hcz8_0 : w7.cell? ⟨gb334,0,none⟩ = some (.float .f64 a0_0):=(blk_cell BK334.out 0).trans rfl;have hcz8_1 : w7.cell? ⟨gb334,1,none⟩ = some (.bool a0_1):=(blk_cell BK334.out 1).trans rfl;have hcz8_2 : w7.cell? ⟨gb334,2,none⟩ = some (.slice A0_2 l0_2.length c0_2):=(blk_cell BK334.out 2).trans rfl;have hcz8_3 : w7.cell? ⟨gb334,3,none⟩ = some (.int .i64 a0_3):=(blk_cell BK334.out 3).trans rfl;have hcz8_4 : w7.cell? ⟨gb334,4,none⟩ = some (.int .i64 a0_4):=(blk_cell BK334.out 4).trans rfl;have hcz8_5 : w7.cell? ⟨gb334,5,none⟩ = some (.int .i64 a0_5):=(blk_cell BK334.out 5).trans rfl;have hfz8_0:=blk_frozen BK334.out 0;have hfz8_1:=blk_frozen BK334.out 1;have hfz8_2:=blk_frozen BK334.out 2;have hfz8_3:=blk_frozen BK334.out 3;have hfz8_4:=blk_frozen BK334.out 4;have hfz8_5:=blk_frozen BK334.out 5))
    (try simp only [Act.put,List.setIfInBounds_toArray,List.set_cons_zero,List.set_cons_succ])
    go_cut [5] (fun v5 wc => ∃ (kq : Nat) (x5_3 : Int),v5 = .int .i64 x5_3 ∧ Aside0 (row_Encode.j0 kq x5_3 a0_0 a0_1 l0_2 a0_3 a0_4 a0_5 = some (r1,r2)) ∧ Aside0 (kq ≤ k) ∧ Aside0 (wc.heap[gb334]? = some (.cells #[.float .f64 a0_0,.bool a0_1,(.slice A0_2 l0_2.length c0_2),.int .i64 a0_3,.int .i64 a0_4,.int .i64 a0_5] 30 (0,0))) ∧ Aside0 (Below w.heap.size w wc))
    case first =>
      have H:=HC4.out
      clear HC4
      by_cases c9 : a0_1 = true
      · subst c9
        have H1 : (row_Encode.j0 k 1 a0_0 true l0_2 a0_3 a0_4 a0_5) = some (r1,r2):=by rw [if_pos rfl] at H;exact H
        clear H
        have H:=H1
        clear H1
        have H':=Aside0.mk H
        clear H
        go_wp2
        go_meet
        case rel => exact ⟨_,(1),(by first | rfl | (simp;done) | (simp [*];done)),H',⟨by first | omega | exact Nat.le_refl _⟩,⟨by (with_reducible repeat (first | refine blk_drewN ?_ _ | refine blk_drew ?_ | refine blk_alloc ?_ _));exact BK334.out⟩,⟨by repeat (first | (with_reducible first | exact HB.out | apply below_alloc | apply pw_below_drewN | apply below_drew1 | refine below_set ?_ GE334.out) | exact HB.out)⟩⟩
      · replace c9:=Bool.eq_false_iff.mpr c9
        subst c9
        have H1 : (row_Encode.j0 k 0 a0_0 false l0_2 a0_3 a0_4 a0_5) = some (r1,r2):=by rw [if_neg (show ¬ (false = true) by decide)] at H;exact H
        clear H
        have H:=H1
        clear H1
        have H':=Aside0.mk H
        clear H
        go_wp2
        go_meet
        case rel => exact ⟨_,(0),(by first | rfl | (simp;done) | (simp [*];done)),H',⟨by first | omega | exact Nat.le_refl _⟩,⟨by (with_reducible repeat (first | refine blk_drewN ?_ _ | refine blk_drew ?_ | refine blk_alloc ?_ _));exact BK334.out⟩,⟨by repeat (first | (with_reducible first | exact HB.out | apply below_alloc | apply pw_below_drewN | apply below_drew1 | refine below_set ?_ GE334.out) | exact HB.out)⟩⟩
    case rest =>
      clear HC4
      try clear p2
      try clear c3
      try clear c3b0
      try clear c3b1
      try clear c9
      try clear hcz6_0
      try clear hcz6_1
      try clear hcz6_2
      try clear hcz6_3
      try clear hcz6_4
      try clear hcz6_5
      try clear hcz8_0
      try clear hcz8_1
      try clear hcz8_2
      try clear hcz8_3
      try clear hcz8_4
      try clear hcz8_5
      try clear hfz6_0
      try clear hfz6_1
      try clear hfz6_2
      try clear hfz6_3
      try clear hfz6_4
      try clear hfz6_5
      try clear hfz8_0
      try clear hfz8_1
      try clear hfz8_2
      try clear hfz8_3
      try clear hfz8_4
      try clear hfz8_5
      obtain ⟨kq,x5_3,rfl,HA,HJ3,BK334,HB⟩:=hcut
      cases kq with
      | zero => exact absurd HA.out (by simp [row_Encode.j0])
      | succ kj3 =>
        have H:=HA.out
        clear HA
        simp only [row_Encode.j0] at H
        obtain ⟨y336,hy336⟩ : ∃ y_ : List (S86),y_ = (([(⟨0,x5_3,0,(⟨#[]⟩ : ByteArray)⟩ : S86),(⟨0,0,a0_0,(⟨#[]⟩ : ByteArray)⟩ : S86),(⟨0,a0_3,0,(⟨#[]⟩ : ByteArray)⟩ : S86),(⟨0,a0_4,0,(⟨#[]⟩ : ByteArray)⟩ : S86),(⟨0,a0_5,0,(⟨#[]⟩ : ByteArray)⟩ : S86),(⟨0,(l0_2.length : Int),0,(⟨#[]⟩ : ByteArray)⟩ : S86)] : List (S86))):=⟨_,rfl⟩
        replace H : ((row_head.f).bind fun t339 => (row_Encode.l0 kj3 y336 t339 (t339.length : Int) 0 a0_0 a0_1 l0_2 a0_3 a0_4 a0_5)) = some (r1,r2):=by first | (rw [hy336];with_reducible exact H) | (have H2_:=(Option.bind_some _ _).symm.trans H;rw [hy336];with_reducible exact H2_) | (have H2_:=(Option.bind_some _ _).symm.trans H;with_reducible exact H2_) | with_reducible exact H | (rw [hy336];exact H) | exact H
        have Ny336:=Aside0.mk hy336
        clear hy336
        replace H:=Option.bind_eq_some_iff.mp H
        obtain ⟨t339,A100,H⟩:=H
        replace H : (row_Encode.l0 kj3 y336 t339 (t339.length : Int) 0 a0_0 a0_1 l0_2 a0_3 a0_4 a0_5) = some (r1,r2):=H
        have A10:=Aside0.mk A100
        clear A100
        have H':=Aside0.mk H
        clear H
        have hcz11_0 : wc.cell? ⟨gb334,0,none⟩ = some (.float .f64 a0_0):=(blk_cell BK334.out 0).trans rfl
        have hcz11_1 : wc.cell? ⟨gb334,1,none⟩ = some (.bool a0_1):=(blk_cell BK334.out 1).trans rfl
        have hcz11_2 : wc.cell? ⟨gb334,2,none⟩ = some (.slice A0_2 l0_2.length c0_2):=(blk_cell BK334.out 2).trans rfl
        have hcz11_3 : wc.cell? ⟨gb334,3,none⟩ = some (.int .i64 a0_3):=(blk_cell BK334.out 3).trans rfl
        have hcz11_4 : wc.cell? ⟨gb334,4,none⟩ = some (.int .i64 a0_4):=(blk_cell BK334.out 4).trans rfl
        have hcz11_5 : wc.cell? ⟨gb334,5,none⟩ = some (.int .i64 a0_5):=(blk_cell BK334.out 5).trans rfl
        have hfz11_0:=blk_frozen BK334.out 0
        have hfz11_1:=blk_frozen BK334.out 1
        have hfz11_2:=blk_frozen BK334.out 2
        have hfz11_3:=blk_frozen BK334.out 3
        have hfz11_4:=blk_frozen BK334.out 4
        have hfz11_5:=blk_frozen BK334.out 5
        go_wp2_with (first | ((with_reducible refine gate_dst (N:=38) rfl ?_);refine Kd.R_lit k86 _ 86 ?hg (N:=38) ?hd (xs:=([(⟨0,x5_3,0,(⟨#[]⟩ : ByteArray)⟩ : S86),(⟨0,0,a0_0,(⟨#[]⟩ : ByteArray)⟩ : S86),(⟨0,a0_3,0,(⟨#[]⟩ : ByteArray)⟩ : S86),(⟨0,a0_4,0,(⟨#[]⟩ : ByteArray)⟩ : S86),(⟨0,a0_5,0,(⟨#[]⟩ : ByteArray)⟩ : S86),(⟨0,(l0_2.length : Int),0,(⟨#[]⟩ : ByteArray)⟩ : S86)] : List (S86))) (inner:=[.int .i64 0,.int .i64 x5_3,.float .f64 0,.string (⟨#[]⟩ : ByteArray),.int .i64 0,.int .i64 0,.float .f64 a0_0,.string (⟨#[]⟩ : ByteArray),.int .i64 0,.int .i64 a0_3,.float .f64 0,.string (⟨#[]⟩ : ByteArray),.int .i64 0,.int .i64 a0_4,.float .f64 0,.string (⟨#[]⟩ : ByteArray),.int .i64 0,.int .i64 a0_5,.float .f64 0,.string (⟨#[]⟩ : ByteArray),.int .i64 0,.int .i64 (l0_2.length : Int),.float .f64 0,.string (⟨#[]⟩ : ByteArray)]) (ok:=fun _ => True) (okp:=fun _ => True) ?hr ?hp (fun _ hk => hk) trivial (Below.refl _ _) (Nat.le_refl _) (by simp) ?_;(case hd => rfl);(case hg => rfl);(case hr => first | (go_simp;done) | (go_simp;rfl));(case hp => exact (Reps.c4 (show Kd.M k86 _ _ _ (⟨0,x5_3,0,(⟨#[]⟩ : ByteArray)⟩ : S86) [.int .i64 0,.int .i64 x5_3,.float .f64 0,.string (⟨#[]⟩ : ByteArray)] from (k86_mkM _ _ _ (⟨0,x5_3,0,(⟨#[]⟩ : ByteArray)⟩ : S86) )) (Reps.c4 (show Kd.M k86 _ _ _ (⟨0,0,a0_0,(⟨#[]⟩ : ByteArray)⟩ : S86) [.int .i64 0,.int .i64 0,.float .f64 a0_0,.string (⟨#[]⟩ : ByteArray)] from (k86_mkM _ _ _ (⟨0,0,a0_0,(⟨#[]⟩ : ByteArray)⟩ : S86) )) (Reps.c4 (show Kd.M k86 _ _ _ (⟨0,a0_3,0,(⟨#[]⟩ : ByteArray)⟩ : S86) [.int .i64 0,.int .i64 a0_3,.float .f64 0,.string (⟨#[]⟩ : ByteArray)] from (k86_mkM _ _ _ (⟨0,a0_3,0,(⟨#[]⟩ : ByteArray)⟩ : S86) )) (Reps.c4 (show Kd.M k86 _ _ _ (⟨0,a0_4,0,(⟨#[]⟩ : ByteArray)⟩ : S86) [.int .i64 0,.int .i64 a0_4,.float .f64 0,.string (⟨#[]⟩ : ByteArray)] from (k86_mkM _ _ _ (⟨0,a0_4,0,(⟨#[]⟩ : ByteArray)⟩ : S86) )) (Reps.c4 (show Kd.M k86 _ _ _ (⟨0,a0_5,0,(⟨#[]⟩ : ByteArray)⟩ : S86) [.int .i64 0,.int .i64 a0_5,.float .f64 0,.string (⟨#[]⟩ : ByteArray)] from (k86_mkM _ _ _ (⟨0,a0_5,0,(⟨#[]⟩ : ByteArray)⟩ : S86) )) (Reps.c4 (show Kd.M k86 _ _ _ (⟨0,(l0_2.length : Int),0,(⟨#[]⟩ : ByteArray)⟩ : S86) [.int .i64 0,.int .i64 (l0_2.length : Int),.float .f64 0,.string (⟨#[]⟩ : ByteArray)] from (k86_mkM _ _ _ (⟨0,(l0_2.length : Int),0,(⟨#[]⟩ : ByteArray)⟩ : S86) )) (Reps.none _ _))))))));intro v337 w12 ho13 hb hg_ hnew_;clear hg_ hnew_;(first | rw [← Ny336.out] at ho13 | (simp only [Int.reduceToNat] at ho13;rw [← Ny336.out] at ho13));have n0_:=Aside0.mk (Kd.R_lower ho13 (below_size (by repeat (first | (with_reducible first | exact HB.out | apply below_alloc | apply pw_below_drewN | apply below_drew1 | refine below_set ?_ GE334.out) | exact HB.out))));have n1_:=Aside0.mk (blk_below (g:=gb334) (o:=.cells #[.float .f64 a0_0,.bool a0_1,.slice A0_2 l0_2.length c0_2,.int .i64 a0_3,.int .i64 a0_4,.int .i64 a0_5] 30 (0,0)) (by (with_reducible repeat (first | refine blk_drewN ?_ _ | refine blk_drew ?_ | refine blk_alloc ?_ _));exact BK334.out) hb);have n2_:=Aside0.mk (below_step (by repeat (first | (with_reducible first | exact HB.out | apply below_alloc | apply pw_below_drewN | apply below_drew1 | refine below_set ?_ GE334.out) | exact HB.out)) hb);clear BK334;clear HB;have HO338:=n0_;have BK334:=n1_;have HB:=n2_;clear n0_ n1_ n2_;clear hb ho13) | ((with_reducible refine gate_callee (f:=63) rfl ?_);refine goesL_ (some 39) rfl rfl Try.func63 (by kernel_rfl) rfl #[] rfl (by (try simp only [List.map_toArray,List.map_cons,List.map_nil]);first | done | rfl | (simp only [List.length_drop,List.length_take];rfl)) ?_;(with_reducible refine (row_head.calls  t339 _ A10.out).mono ?_);rintro e w14 ⟨v340,rfl,ho0,hb⟩;refine ⟨_,rfl,?_⟩;have n0_:=Aside0.mk (Kd.R_below (by (with_reducible repeat (first | apply Kd.R_alloc | apply Kd.R_drewN | apply Kd.R_drew));exact HO338.out) hb);have n1_:=Aside0.mk (Kd.R_lower ho0 (below_size (by repeat (first | (with_reducible first | exact HB.out | apply below_alloc | apply pw_below_drewN | apply below_drew1 | refine below_set ?_ GE334.out) | exact HB.out))));have n2_:=Aside0.mk (blk_below (g:=gb334) (o:=.cells #[.float .f64 a0_0,.bool a0_1,.slice A0_2 l0_2.length c0_2,.int .i64 a0_3,.int .i64 a0_4,.int .i64 a0_5] 30 (0,0)) (by (with_reducible repeat (first | refine blk_drewN ?_ _ | refine blk_drew ?_ | refine blk_alloc ?_ _));exact BK334.out) hb);have n3_:=Aside0.mk (below_step (by repeat (first | (with_reducible first | exact HB.out | apply below_alloc | apply pw_below_drewN | apply below_drew1 | refine below_set ?_ GE334.out) | exact HB.out)) hb);clear HO338;clear BK334;clear HB;have HO338:=n0_;have HO341:=n1_;have BK334:=n2_;have HB:=n3_;clear n0_ n1_ n2_ n3_;(try clear hb);(try clear hb2);(try clear hk);(try clear hi);(try clear ho0);obtain ⟨Ao15,co15,eo15⟩:=Kd.R_slice HO341.out;subst eo15))
        go_loopg [41] kj3 (fun kq v41 w' => ∃ (x6_2 : List (S86)) (x41_2 : Int),v41 = .int .i64 x41_2 ∧ Aside0 (row_Encode.l0 kq x6_2 t339 (t339.length : Int) x41_2 a0_0 a0_1 l0_2 a0_3 a0_4 a0_5 = some (r1,r2)) ∧ Aside0 (kq ≤ kj3) ∧ Aside0 (Kd.R k86 86 w' w.heap.size (fun _ => True) v337 x6_2) ∧ Aside0 (Kd.R (Kd.int .i64) 3 w' w.heap.size (fun _ => True) (.slice Ao15 t339.length co15) t339) ∧ Aside0 (w'.heap[gb334]? = some (.cells #[.float .f64 a0_0,.bool a0_1,(.slice A0_2 l0_2.length c0_2),.int .i64 a0_3,.int .i64 a0_4,.int .i64 a0_5] 30 (0,0))) ∧ Aside0 (Below w.heap.size w w'))
        case atStart => exact ⟨(y336),(0),(by first | rfl | (simp;done) | (simp [*];done)),H',⟨Nat.le_refl _⟩,⟨by (with_reducible repeat (first | apply Kd.R_alloc | apply Kd.R_drewN | apply Kd.R_drew));exact HO338.out⟩,⟨by (with_reducible repeat (first | apply Kd.R_alloc | apply Kd.R_drewN | apply Kd.R_drew));exact HO341.out⟩,⟨by (with_reducible repeat (first | refine blk_drewN ?_ _ | refine blk_drew ?_ | refine blk_alloc ?_ _));exact BK334.out⟩,⟨by repeat (first | (with_reducible first | exact HB.out | apply below_alloc | apply pw_below_drewN | apply below_drew1 | refine below_set ?_ GE334.out) | exact HB.out)⟩⟩
        case round =>
          clear H'
          try clear p2
          try clear c3
          try clear c3b0
          try clear c3b1
          try clear c4
          try clear c6
          try clear c9
          try clear hcz11_0
          try clear hcz11_1
          try clear hcz11_2
          try clear hcz11_3
          try clear hcz11_4
          try clear hcz11_5
          try clear hcz6_0
          try clear hcz6_1
          try clear hcz6_2
          try clear hcz6_3
          try clear hcz6_4
          try clear hcz6_5
          try clear hcz8_0
          try clear hcz8_1
          try clear hcz8_2
          try clear hcz8_3
          try clear hcz8_4
          try clear hcz8_5
          try clear hfz11_0
          try clear hfz11_1
          try clear hfz11_2
          try clear hfz11_3
          try clear hfz11_4
          try clear hfz11_5
          try clear hfz6_0
          try clear hfz6_1
          try clear hfz6_2
          try clear hfz6_3
          try clear hfz6_4
          try clear hfz6_5
          try clear hfz8_0
          try clear hfz8_1
          try clear hfz8_2
          try clear hfz8_3
          try clear hfz8_4
          try clear hfz8_5
          try clear p2
          obtain ⟨x6_2,x41_2,rfl,HA,HK2,HO_6,HO_39,BK334,HB⟩:=hrel
          cases gk with
          | zero => exact absurd HA.out (by simp [row_Encode.l0])
          | succ k2 =>
            have H:=HA.out
            clear HA
            simp only [row_Encode.l0] at H
            by_cases c16 : x41_2 < (t339.length : Int)
            · rw [if_pos c16] at H
              have c16b0 : decide (x41_2 < (t339.length : Int)) = true:=decide_eq_true c16
              clear c16
              by_cases c17 : 0 ≤ x41_2
              · rw [if_pos c17] at H
                have c17b0 : decide (0 ≤ x41_2) = true:=decide_eq_true c17
                clear c17
                by_cases c18 : x41_2 < (t339.length : Int)
                · rw [if_pos c18] at H
                  have c18b0 : decide (x41_2 < (t339.length : Int)) = true:=decide_eq_true c18
                  clear c18
                  by_cases c19 : x41_2 < (x6_2.length : Int)
                  · rw [if_pos c19] at H
                    have c19b0 : decide (x41_2 < (x6_2.length : Int)) = true:=decide_eq_true c19
                    clear c19
                    obtain ⟨y343,hy343⟩ : ∃ y_ : List (S86),y_ = (x6_2.set (x41_2 : Int).toNat (⟨rd t339 x41_2,(rd_T86 x6_2 x41_2).f1,(rd_T86 x6_2 x41_2).f2,(rd_T86 x6_2 x41_2).f3⟩ : S86)):=⟨_,rfl⟩
                    replace H : (row_Encode.l0 k2 y343 t339 (t339.length : Int) (wrap64 (x41_2 + 1)) a0_0 a0_1 l0_2 a0_3 a0_4 a0_5) = some (r1,r2):=by first | (rw [hy343];with_reducible exact H) | (have H2_:=(Option.bind_some _ _).symm.trans H;rw [hy343];with_reducible exact H2_) | (have H2_:=(Option.bind_some _ _).symm.trans H;with_reducible exact H2_) | with_reducible exact H | (rw [hy343];exact H) | exact H
                    have Ny343:=Aside0.mk hy343
                    clear hy343
                    have H':=Aside0.mk H
                    clear H
                    have p342 : 0 ≤ (x41_2 : Int):=of_decide_eq_true (by first | (with_reducible assumption) | assumption)
                    have q342 : x41_2 < (t339.length : Int):=of_decide_eq_true (by first | (with_reducible assumption) | assumption)
                    obtain ⟨ad342,e342,hx342_0⟩:=Kd.at_int (Kd.R_reads' HO_39.out).2.2 x41_2 p342 q342
                    cases e342
                    replace p342:=eq_true p342
                    replace q342:=eq_true q342
                    have p20 : 0 ≤ (x41_2 : Int):=of_decide_eq_true (by first | (with_reducible assumption) | assumption)
                    have q20 : (x41_2 : Int) < ((x6_2.length : Int) : Int):=of_decide_eq_true (by first | (with_reducible assumption) | assumption)
                    obtain ⟨go20,co20,eo20,gb20,gl20,cl20,HG20⟩:=Kd.R_form HO_6.out (by omega)
                    (first | cases eo20 | (injection eo20 with ea_ en_ ec_;(first | subst ea_ | (injection ea_ with ea_;subst ea_));subst ec_;clear en_))
                    have GB20:=Aside0.mk gb20
                    have GG20:=Aside0.mk HG20
                    clear gb20 gl20 HG20
                    obtain ⟨ce20,hcl20,hM20,hcc20,hfr20⟩:=Kd.R_elem HO_6.out z86 (x41_2 : Int) p20 q20
                    obtain rfl:=k86_openM hM20
                    have hx20_0 : wr.cell? ⟨go20,(x41_2 : Int).toNat * 4,none⟩ = some (.int .i64 ((rd_T86 x6_2 x41_2).f0)):=hcc20 0 _ rfl
                    have hx20_1 : wr.cell? ⟨go20,(x41_2 : Int).toNat * 4 + 1,none⟩ = some (.int .i64 ((rd_T86 x6_2 x41_2).f1)):=hcc20 1 _ rfl
                    have hx20_2 : wr.cell? ⟨go20,(x41_2 : Int).toNat * 4 + 2,none⟩ = some (.float .f64 ((rd_T86 x6_2 x41_2).f2)):=hcc20 2 _ rfl
                    have hx20_3 : wr.cell? ⟨go20,(x41_2 : Int).toNat * 4 + 3,none⟩ = some (.string ((rd_T86 x6_2 x41_2).f3)):=hcc20 3 _ rfl
                    have hf20_0 : wr.frozen? ⟨go20,(x41_2 : Int).toNat * 4,none⟩ = false:=hfr20 0
                    have hf20_1 : wr.frozen? ⟨go20,(x41_2 : Int).toNat * 4 + 1,none⟩ = false:=hfr20 1
                    have hf20_2 : wr.frozen? ⟨go20,(x41_2 : Int).toNat * 4 + 2,none⟩ = false:=hfr20 2
                    have hf20_3 : wr.frozen? ⟨go20,(x41_2 : Int).toNat * 4 + 3,none⟩ = false:=hfr20 3
                    clear hcl20 hcc20 hfr20 hM20
                    replace p20:=eq_true p20
                    replace q20:=eq_true q20
                    have HX21:=Aside0.mk (show Kd.R k86 86 wr w.heap.size (fun _ => True) (.slice (some ⟨go20,0,none⟩) x6_2.length co20) x6_2 from (by (with_reducible repeat (first | apply Kd.R_alloc | apply Kd.R_drewN | apply Kd.R_drew));exact HO_6.out))
                    obtain ⟨ce21,hcl21,hM21,hcc21,hfr21⟩:=Kd.R_elem HX21.out z86 (x41_2 : Int) (of_decide_eq_true (by first | (with_reducible assumption) | assumption)) (by have h_ : (x41_2 : Int) < ((x6_2.length : Int) : Int):=of_decide_eq_true (by first | (with_reducible assumption) | assumption);first | exact h_ | (have e_:=(Kd.R_reads' HO_6.out).1;omega) | simpa using h_)
                    obtain rfl:=k86_openM hM21
                    have HP21:=Kd.R_seg HX21.out (x41_2 : Int) (of_decide_eq_true (by first | (with_reducible assumption) | assumption)) (by have h_ : (x41_2 : Int) < ((x6_2.length : Int) : Int):=of_decide_eq_true (by first | (with_reducible assumption) | assumption);first | exact h_ | (have e_:=(Kd.R_reads' HO_6.out).1;omega) | simpa using h_) (seg:=[.int .i64 (rd t339 x41_2)]) (j:=0) hcl21 hcc21 (show 1 ≤ 4 from by decide) (x':=(⟨rd t339 x41_2,(rd_T86 x6_2 x41_2).f1,(rd_T86 x6_2 x41_2).f2,(rd_T86 x6_2 x41_2).f3⟩ : S86)) (k86_mkM _ _ _ (⟨rd t339 x41_2,(rd_T86 x6_2 x41_2).f1,(rd_T86 x6_2 x41_2).f2,(rd_T86 x6_2 x41_2).f3⟩ : S86) ) (fun _ hk => hk)
                    have hx21_0:=hcc21 0 _ rfl
                    (try simp only [show (k86).sz = 4 from rfl,Nat.mul_one,Nat.add_zero] at hx21_0)
                    have hf21_0:=hfr21 0
                    (try simp only [show (k86).sz = 4 from rfl,Nat.mul_one,Nat.add_zero] at hf21_0)
                    clear hcl21 hcc21 hfr21 hM21
                    go_wp2_with (first | ((with_reducible refine gate_store (t:=3) (p:=50) rfl ?_);refine store_event (t:=3) (p:=50) (v:=?vo_w22) (w1:=(wr.setCell ⟨go20,(x41_2 : Int).toNat * 4,none⟩ (.int .i64 (rd t339 x41_2)))) ?hg ?ho ?hn ?hr ?_;(case ho => rfl);(case hg => rfl);(case hn => rfl);(case hr => first | (go_simp;done) | (go_simp;rfl));intro w22 hw;have hg : wr.grownBy w22 (some go20):=(by rw [hw];exact HP21.2);have hp_ : Kd.R k86 86 w22 w.heap.size (fun _ => True) (.slice (some ⟨go20,0,none⟩) x6_2.length co20) y343:=(by rw [hw,Ny343.out];exact HP21.1);clear HP21;have n0_:=Aside0.mk (hp_);have n1_:=Aside0.mk (Kd.R_over' (v:=(.slice (some ⟨go20,0,none⟩) x6_2.length co20)) (by (with_reducible repeat (first | apply Kd.R_alloc | apply Kd.R_drewN | apply Kd.R_drew));exact HO_39.out) (Kd.R_typed HO_6.out) (by decide) hg);have n2_:=Aside0.mk (blk_grown (g:=gb334) (o:=.cells #[.float .f64 a0_0,.bool a0_1,.slice A0_2 l0_2.length c0_2,.int .i64 a0_3,.int .i64 a0_4,.int .i64 a0_5] 30 (0,0)) (by (with_reducible repeat (first | refine blk_drewN ?_ _ | refine blk_drew ?_ | refine blk_alloc ?_ _));exact BK334.out) hg (Kd.R_ne HO_6.out BK334.out (by decide)));have n3_:=Aside0.mk ((by rw [hw];exact below_set (HB.out) GB20.out : Below w.heap.size w w22));clear HO_6;clear HO_39;clear BK334;clear HB;have HO_6:=n0_;have HO_39:=n1_;have BK334:=n2_;have HB:=n3_;clear n0_ n1_ n2_ n3_;clear hg hw hp_))
                    go_roundg k2
                    case measure => have:=HJ3.out;have:=HK2.out;omega
                    case rel => exact ⟨(y343),(wrap64 (x41_2 + 1)),(by first | rfl | (simp;done) | (simp [*];done)),H',⟨by have:=HJ3.out;have:=HK2.out;omega⟩,⟨by (with_reducible repeat (first | apply Kd.R_alloc | apply Kd.R_drewN | apply Kd.R_drew));exact HO_6.out⟩,⟨by (with_reducible repeat (first | apply Kd.R_alloc | apply Kd.R_drewN | apply Kd.R_drew));exact HO_39.out⟩,⟨by (with_reducible repeat (first | refine blk_drewN ?_ _ | refine blk_drew ?_ | refine blk_alloc ?_ _));exact BK334.out⟩,⟨by repeat (first | (with_reducible first | exact HB.out | apply below_alloc | apply pw_below_drewN | apply below_drew1 | refine below_set ?_ GE334.out) | exact HB.out)⟩⟩
                  · rw [if_neg c19] at H
                    exact absurd H (by simp)
                · rw [if_neg c18] at H
                  exact absurd H (by simp)
              · rw [if_neg c17] at H
                exact absurd H (by simp)
            · rw [if_neg c16] at H
              have c16b0 : decide (x41_2 < (t339.length : Int)) = false:=decide_eq_false c16
              clear c16
              have H':=Aside0.mk H
              clear H
              have hcz23_0 : wr.cell? ⟨gb334,0,none⟩ = some (.float .f64 a0_0):=(blk_cell BK334.out 0).trans rfl
              have hcz23_1 : wr.cell? ⟨gb334,1,none⟩ = some (.bool a0_1):=(blk_cell BK334.out 1).trans rfl
              have hcz23_2 : wr.cell? ⟨gb334,2,none⟩ = some (.slice A0_2 l0_2.length c0_2):=(blk_cell BK334.out 2).trans rfl
              have hcz23_3 : wr.cell? ⟨gb334,3,none⟩ = some (.int .i64 a0_3):=(blk_cell BK334.out 3).trans rfl
              have hcz23_4 : wr.cell? ⟨gb334,4,none⟩ = some (.int .i64 a0_4):=(blk_cell BK334.out 4).trans rfl
              have hcz23_5 : wr.cell? ⟨gb334,5,none⟩ = some (.int .i64 a0_5):=(blk_cell BK334.out 5).trans rfl
              have hfz23_0:=blk_frozen BK334.out 0
              have hfz23_1:=blk_frozen BK334.out 1
              have hfz23_2:=blk_frozen BK334.out 2
              have hfz23_3:=blk_frozen BK334.out 3
              have hfz23_4:=blk_frozen BK334.out 4
              have hfz23_5:=blk_frozen BK334.out 5
              go_wp2
              go_loopg [6,55] k2 (fun kq v6 v55 w' => ∃ (x6_3 : List (S86)) (x55_3 : Int),v55 = .int .i64 x55_3 ∧ Aside0 (row_Encode.l1 kq x6_3 l0_2 (l0_2.length : Int) x55_3 = some (r1,r2)) ∧ Aside0 (kq ≤ k2) ∧ Aside0 (Kd.R k86 86 w' w.heap.size (fun _ => True) v6 x6_3) ∧ Aside0 (w'.heap[gb334]? = some (.cells #[.float .f64 a0_0,.bool a0_1,(.slice A0_2 l0_2.length c0_2),.int .i64 a0_3,.int .i64 a0_4,.int .i64 a0_5] 30 (0,0))) ∧ Aside0 (Below w.heap.size w w'))
              case atStart => exact ⟨(x6_2),(0),(by first | rfl | (simp;done) | (simp [*];done)),H',⟨Nat.le_refl _⟩,⟨by (with_reducible repeat (first | apply Kd.R_alloc | apply Kd.R_drewN | apply Kd.R_drew));exact HO_6.out⟩,⟨by (with_reducible repeat (first | refine blk_drewN ?_ _ | refine blk_drew ?_ | refine blk_alloc ?_ _));exact BK334.out⟩,⟨by repeat (first | (with_reducible first | exact HB.out | apply below_alloc | apply pw_below_drewN | apply below_drew1 | refine below_set ?_ GE334.out) | exact HB.out)⟩⟩
              case round =>
                clear H'
                try clear c1
                try clear c2
                try clear p2
                try clear q2
                try clear hx2
                try clear hf2
                try clear c3
                try clear c3b0
                try clear c3b1
                try clear p3
                try clear q3
                try clear hx3
                try clear c4
                try clear c6
                try clear p6
                try clear c9
                try clear c16
                try clear c16b0
                try clear c17
                try clear c17b0
                try clear c18
                try clear c18b0
                try clear c19
                try clear c19b0
                try clear c20
                try clear p20
                try clear q20
                try clear hx20
                try clear hf20
                try clear c21
                try clear hx21
                try clear hf21
                try clear hcz11_0
                try clear hcz11_1
                try clear hcz11_2
                try clear hcz11_3
                try clear hcz11_4
                try clear hcz11_5
                try clear hcz23_0
                try clear hcz23_1
                try clear hcz23_2
                try clear hcz23_3
                try clear hcz23_4
                try clear hcz23_5
                try clear hcz6_0
                try clear hcz6_1
                try clear hcz6_2
                try clear hcz6_3
                try clear hcz6_4
                try clear hcz6_5
                try clear hcz8_0
                try clear hcz8_1
                try clear hcz8_2
                try clear hcz8_3
                try clear hcz8_4
                try clear hcz8_5
                try clear hfz11_0
                try clear hfz11_1
                try clear hfz11_2
                try clear hfz11_3
                try clear hfz11_4
                try clear hfz11_5
                try clear hfz23_0
                try clear hfz23_1
                try clear hfz23_2
                try clear hfz23_3
                try clear hfz23_4
                try clear hfz23_5
                try clear hfz6_0
                try clear hfz6_1
                try clear hfz6_2
                try clear hfz6_3
                try clear hfz6_4
                try clear hfz6_5
                try clear hfz8_0
                try clear hfz8_1
                try clear hfz8_2
                try clear hfz8_3
                try clear hfz8_4
                try clear hfz8_5
                try clear hx20_0
                try clear hx20_1
                try clear hx20_2
                try clear hx20_3
                try clear hx21_0
                try clear hx342_0
                try clear p2
                try clear p20
                try clear p342
                try clear q20
                try clear q342
                obtain ⟨x6_3,x55_3,rfl,HA,HK3,HO_6,BK334,HB⟩:=hrel
                cases gk with
                | zero => exact absurd HA.out (by simp [row_Encode.l1])
                | succ k3 =>
                  have H:=HA.out
                  clear HA
                  simp only [row_Encode.l1] at H
                  by_cases c24 : x55_3 < (l0_2.length : Int)
                  · rw [if_pos c24] at H
                    have c24b0 : decide (x55_3 < (l0_2.length : Int)) = true:=decide_eq_true c24
                    clear c24
                    by_cases c25 : 0 ≤ x55_3
                    · rw [if_pos c25] at H
                      have c25b0 : decide (0 ≤ x55_3) = true:=decide_eq_true c25
                      clear c25
                      by_cases c26 : x55_3 < (l0_2.length : Int)
                      · rw [if_pos c26] at H
                        have c26b0 : decide (x55_3 < (l0_2.length : Int)) = true:=decide_eq_true c26
                        clear c26
                        by_cases c27 : x6_3.length < 3518437208883
                        · rw [if_pos c27] at H
                          have LMc27:=Aside0.mk c27
                          clear c27
                          obtain ⟨y345,hy345⟩ : ∃ y_ : List (S86),y_ = (x6_3 ++ [(⟨4,0,rdF l0_2 x55_3,(⟨#[]⟩ : ByteArray)⟩ : S86)]):=⟨_,rfl⟩
                          replace H : (row_Encode.l1 k3 y345 l0_2 (l0_2.length : Int) (wrap64 (x55_3 + 1))) = some (r1,r2):=by first | (rw [hy345];with_reducible exact H) | (have H2_:=(Option.bind_some _ _).symm.trans H;rw [hy345];with_reducible exact H2_) | (have H2_:=(Option.bind_some _ _).symm.trans H;with_reducible exact H2_) | with_reducible exact H | (rw [hy345];exact H) | exact H
                          have Ny345:=Aside0.mk hy345
                          clear hy345
                          have H':=Aside0.mk H
                          clear H
                          have p344 : 0 ≤ (x55_3 : Int):=of_decide_eq_true (by first | (with_reducible assumption) | assumption)
                          have q344 : x55_3 < (l0_2.length : Int):=of_decide_eq_true (by first | (with_reducible assumption) | assumption)
                          obtain ⟨ad344,e344,hx344_0⟩:=Kd.at_f64 HR0_2.out x55_3 p344 q344
                          cases e344
                          replace hx344_0:=(HB.out.cell (World.block_lt_of_cell? w _ hx344_0)).trans hx344_0
                          replace p344:=eq_true p344
                          replace q344:=eq_true q344
                          go_wp2_with (first | ((with_reducible refine gate_builtin (b:=.append) (xs:=#[.tmp 59,.tmp 62]) rfl ?_);at_builtin;refine Kd.R_append k86 (w0:=w) w.heap.size rfl (.tmp 59) (.tmp 62) 87 86 (.agg #[(.int .i64 0),(.int .i64 0),(.float .f64 0),(.string ⟨#[]⟩)]) 40 rfl Try.underlying87 info86 rfl (by decide) (by omega) u6 x6_3 (⟨4,0,rdF l0_2 x55_3,(⟨#[]⟩ : ByteArray)⟩ : S86) [.int .i64 4,.int .i64 0,.float .f64 (rdF l0_2 x55_3),.string (⟨#[]⟩ : ByteArray)] (fun _ => True) (fun _ => False) rfl rfl ?aP (fun _ hk => hk.elim) ?aF ?aO ?aB ?aS ?aL ?_;(case aP => exact k86_mkM _ _ _ (⟨4,0,rdF l0_2 x55_3,(⟨#[]⟩ : ByteArray)⟩ : S86));(case aB => exact (by repeat (first | (with_reducible first | exact HB.out | apply below_alloc | apply pw_below_drewN | apply below_drew1 | refine below_set ?_ GE334.out) | exact HB.out)));(case aF => exact (fun _ _ => trivial));(case aO => exact (by (with_reducible repeat (first | apply Kd.R_alloc | apply Kd.R_drewN | apply Kd.R_drew));exact HO_6.out));(case aS => exact (below_size (by repeat (first | (with_reducible first | exact HB.out | apply below_alloc | apply pw_below_drewN | apply below_drew1 | refine below_set ?_ GE334.out) | exact HB.out))));(case aL => have:=LMc27.out;omega);intro v346 w28 ho hb hg hat;rw [← Ny345.out] at ho;have n0_:=Aside0.mk (blk_grown (g:=gb334) (o:=.cells #[.float .f64 a0_0,.bool a0_1,.slice (some ad344) l0_2.length c0_2,.int .i64 a0_3,.int .i64 a0_4,.int .i64 a0_5] 30 (0,0)) (by (with_reducible repeat (first | refine blk_drewN ?_ _ | refine blk_drew ?_ | refine blk_alloc ?_ _));exact BK334.out) hg (Kd.R_ne HO_6.out BK334.out (by decide)));have n1_:=Aside0.mk (hb);have n2_:=Aside0.mk (ho);clear BK334;clear HB;clear HO_6;have BK334:=n0_;have HB:=n1_;have HO347:=n2_;clear n0_ n1_ n2_;clear ho hb hg hat))
                          go_roundg k3
                          case measure => have:=HJ3.out;have:=HK2.out;have:=HK3.out;omega
                          case rel => exact ⟨(y345),(wrap64 (x55_3 + 1)),(by first | rfl | (simp;done) | (simp [*];done)),H',⟨by have:=HJ3.out;have:=HK2.out;have:=HK3.out;omega⟩,⟨by (with_reducible repeat (first | apply Kd.R_alloc | apply Kd.R_drewN | apply Kd.R_drew));exact HO347.out⟩,⟨by (with_reducible repeat (first | refine blk_drewN ?_ _ | refine blk_drew ?_ | refine blk_alloc ?_ _));exact BK334.out⟩,⟨by repeat (first | (with_reducible first | exact HB.out | apply below_alloc | apply pw_below_drewN | apply below_drew1 | refine below_set ?_ GE334.out) | exact HB.out)⟩⟩
                        · rw [if_neg c27] at H
                          exact absurd H (by simp)
                      · rw [if_neg c26] at H
                        exact absurd H (by simp)
                    · rw [if_neg c25] at H
                      exact absurd H (by simp)
                  · rw [if_neg c24] at H
                    have c24b0 : decide (x55_3 < (l0_2.length : Int)) = false:=decide_eq_false c24
                    clear c24
                    replace H:=Option.bind_eq_some_iff.mp H
                    obtain ⟨⟨t348,t349⟩,A290,H⟩:=H
                    replace H : (some (t348,t349)) = some (r1,r2):=H
                    have A29:=Aside0.mk A290
                    clear A290
                    simp only [Option.some.injEq,Prod.mk.injEq] at H
                    obtain ⟨rfl,rfl⟩:=H
                    obtain ⟨Ao30,co30,eo30⟩:=Kd.R_slice HO_6.out
                    subst eo30
                    go_wp2_with (first | ((with_reducible refine gate_callee (f:=64) rfl ?_);refine goesL_ (some 66) rfl rfl Try.func64 (by kernel_rfl) rfl #[.slice Ao30 x6_3.length co30] rfl (by (try simp only [List.map_toArray,List.map_cons,List.map_nil]);first | done | rfl | (simp only [List.length_drop,List.length_take];rfl)) ?_;(with_reducible refine (pack_Put.calls _ _ x6_3 t348 t349 _ ?side1 ?side2 A29.out).mono ?_);(case side1 => repeat (first | exact (Kd.R_reads' HO_6.out).2.2 | (with_reducible refine Kd.C_alloc ?_ _) | (with_reducible refine Kd.C_drewN ?_ _) | (with_reducible refine Kd.C_drew ?_)));(case side2 => exact (Kd.R_reads' HO_6.out).2.1);rintro e w31 ⟨v350,rfl,ho0,hb⟩;refine ⟨_,rfl,?_⟩;have n0_:=Aside0.mk (Kd.R_below (by (with_reducible repeat (first | apply Kd.R_alloc | apply Kd.R_drewN | apply Kd.R_drew));exact HO_6.out) hb);have n1_:=Aside0.mk (Kd.R_lower ho0 (below_size (by repeat (first | (with_reducible first | exact HB.out | apply below_alloc | apply pw_below_drewN | apply below_drew1 | refine below_set ?_ GE334.out) | exact HB.out))));have n2_:=Aside0.mk (blk_below (g:=gb334) (o:=.cells #[.float .f64 a0_0,.bool a0_1,.slice A0_2 l0_2.length c0_2,.int .i64 a0_3,.int .i64 a0_4,.int .i64 a0_5] 30 (0,0)) (by (with_reducible repeat (first | refine blk_drewN ?_ _ | refine blk_drew ?_ | refine blk_alloc ?_ _));exact BK334.out) hb);have n3_:=Aside0.mk (below_step (by repeat (first | (with_reducible first | exact HB.out | apply below_alloc | apply pw_below_drewN | apply below_drew1 | refine below_set ?_ GE334.out) | exact HB.out)) hb);clear HO_6;clear BK334;clear HB;have HO_6:=n0_;have HO351:=n1_;have BK334:=n2_;have HB:=n3_;clear n0_ n1_ n2_ n3_;(try clear hb);(try clear hb2);(try clear hk);(try clear hi);(try clear ho0)))
                    go_ret2
                    exact ⟨_,by first | rfl | (simp [errW_none,errW_some] <;> rfl) | (simp [*,errW_none,errW_some] <;> rfl),by (with_reducible repeat (first | apply Kd.R_alloc | apply Kd.R_drewN | apply Kd.R_drew));exact HO351.out,by repeat (first | (with_reducible first | exact HB.out | apply below_alloc | apply pw_below_drewN | apply below_drew1 | refine below_set ?_ GE334.out) | exact HB.out)⟩
  · rw [if_neg c3] at H
    have c3b0 : (t335 == 0) = false:=beq_eq_false_iff_ne.mpr c3
    have c3b1 : (t335 != 0) = true:=bne_iff_ne.mpr c3
    simp only [Option.some.injEq,Prod.mk.injEq] at H
    obtain ⟨rfl,rfl⟩:=H
    go_enter Try.func32,Try.ntmps32
    go_wp2_with (first | ((with_reducible refine gate_dst (N:=1) rfl ?_);refine box_event ?hg (N:=1) ?hd (cs:=#[.float .f64 a0_0,.bool a0_1,.slice A0_2 l0_2.length c0_2,.int .i64 a0_3,.int .i64 a0_4,.int .i64 a0_5]) (t:=30) ?hr ?_;(case hd => rfl);(case hg => rfl);(case hr => first | (go_simp;done) | (go_simp;rfl));intro gb334 hg w32 hbox hb;have n0_:=Aside0.mk (below_step (by repeat (first | (with_reducible first | exact HB.out | apply below_alloc | apply pw_below_drewN | apply below_drew1) | exact HB.out)) hb);have n1_:=Aside0.mk (hbox);have n2_:=Aside0.mk ((by rw [hg];exact (below_size (by repeat (first | (with_reducible first | exact HB.out | apply below_alloc | apply pw_below_drewN | apply below_drew1) | exact HB.out))) : w.heap.size ≤ gb334));have n3_:=Aside0.mk ((by rw [hg];exact (below_size (by repeat (first | (with_reducible first | exact HB.out | apply below_alloc | apply pw_below_drewN | apply below_drew1) | exact HB.out))) : w.heap.size ≤ gb334));clear HB;have HB:=n0_;have BK334:=n1_;have GW334:=n2_;have GE334:=n3_;clear n0_ n1_ n2_ n3_;clear hb hbox hg;have hcz33_0 : w32.cell? ⟨gb334,0,none⟩ = some (.float .f64 a0_0):=(blk_cell BK334.out 0).trans rfl;have hcz33_1 : w32.cell? ⟨gb334,1,none⟩ = some (.bool a0_1):=(blk_cell BK334.out 1).trans rfl;have hcz33_2 : w32.cell? ⟨gb334,2,none⟩ = some (.slice A0_2 l0_2.length c0_2):=(blk_cell BK334.out 2).trans rfl;have hcz33_3 : w32.cell? ⟨gb334,3,none⟩ = some (.int .i64 a0_3):=(blk_cell BK334.out 3).trans rfl;have hcz33_4 : w32.cell? ⟨gb334,4,none⟩ = some (.int .i64 a0_4):=(blk_cell BK334.out 4).trans rfl;have hcz33_5 : w32.cell? ⟨gb334,5,none⟩ = some (.int .i64 a0_5):=(blk_cell BK334.out 5).trans rfl;have hfz33_0:=blk_frozen BK334.out 0;have hfz33_1:=blk_frozen BK334.out 1;have hfz33_2:=blk_frozen BK334.out 2;have hfz33_3:=blk_frozen BK334.out 3;have hfz33_4:=blk_frozen BK334.out 4;have hfz33_5:=blk_frozen BK334.out 5) | ((with_reducible refine gate_callee (f:=33) rfl ?_);refine goesL_ (some 12) rfl rfl Try.func33 (by kernel_rfl) rfl #[.agg #[.float .f64 a0_0,.bool a0_1,.slice A0_2 l0_2.length c0_2,.int .i64 a0_3,.int .i64 a0_4,.int .i64 a0_5]] rfl (by (try simp only [List.map_toArray,List.map_cons,List.map_nil]);first | done | rfl | (simp only [List.length_drop,List.length_take];rfl)) ?_;(with_reducible refine (row_Check.calls k a0_0 a0_1 _ _ l0_2 a0_3 a0_4 a0_5 t335 _ ?side1 ?side2 A2.out).mono ?_);(case side1 => repeat (first | exact (Kd.C_below HR0_2.out HB.out) | (with_reducible refine Kd.C_alloc ?_ _) | (with_reducible refine Kd.C_drewN ?_ _) | (with_reducible refine Kd.C_drew ?_)));(case side2 => exact HC0_2.out);rintro e w34 ⟨rfl,hb⟩;refine ⟨_,rfl,?_⟩;have n0_:=Aside0.mk (blk_below (g:=gb334) (o:=.cells #[.float .f64 a0_0,.bool a0_1,.slice A0_2 l0_2.length c0_2,.int .i64 a0_3,.int .i64 a0_4,.int .i64 a0_5] 30 (0,0)) (by (with_reducible repeat (first | refine blk_drewN ?_ _ | refine blk_drew ?_ | refine blk_alloc ?_ _));exact BK334.out) hb);have n1_:=Aside0.mk (below_step (by repeat (first | (with_reducible first | exact HB.out | apply below_alloc | apply pw_below_drewN | apply below_drew1 | refine below_set ?_ GE334.out) | exact HB.out)) hb);clear BK334;clear HB;have BK334:=n0_;have HB:=n1_;clear n0_ n1_;(try clear hb);(try clear hb2);(try clear hk);(try clear hi)))
    go_ret2
    exact ⟨_,by first | rfl | (simp [errW_none,errW_some] <;> rfl) | (simp [*,errW_none,errW_some] <;> rfl),by first | exact Kd.R_nil _ _ _ _ _ | exact Kd.N_nil _ _ _ _ _ | exact Kd.V_nil _ _ _ _ _ | exact Kd.Q_nil _ _ _ _ _ | exact Kd.S_nil _ _ _ _ _,by repeat (first | (with_reducible first | exact HB.out | apply below_alloc | apply pw_below_drewN | apply below_drew1 | refine below_set ?_ GE334.out) | exact HB.out)⟩
end Go.Proofs.Ytdcllbhkjcdnoaa.P
namespace Go.Proofs.Ytdcllbhkjcdnoaa.P
open Go.RowKit Go.Proofs.YtdcllbhkjcdnoaaW.PrintWords Go.Proofs.YtdcllbhkjcdnoaaW.PrintLast Go.Proofs.YtdcllbhkjcdnoaaW.PrintMore
attribute [local go_sem] max2_int min2_int max_two min_two max_three min_three max_four min_four   -- for this text's walks alone
attribute [local go_sem] run_store_float
set_option linter.unusedVariables false
set_option linter.unusedSimpArgs false
def row_Of.l0 : Nat → List Nat → Int → Int → Nat → Bool → List Nat → Int → Int → Int → Option (Nat × Bool × List Nat × Int × Int × Int × Int)
  | 0,_,_,_,_,_,_,_,_,_ => none
  | k + 1,x16,x17,x18,x391000,x391001,x391002,x391003,x391004,x391005 => if x18 < x17 then (if 0 ≤ x18 then (if x18 < (x16.length : Int) then ((num_Value.f (rdF x16 x18)).bind fun t392 => (if x391002.length < 17592186044416 then (row_Of.l0 k x16 x17 (wrap64 (x18 + 1)) x391000 x391001 (x391002 ++ [t392]) x391003 x391004 x391005) else (none))) else (none)) else (none)) else (some (x391000,x391001,x391002,x391003,x391004,x391005,0))
def row_Of.f (k : Nat) (a0 : Nat) (l1 : List Nat) : Option (Nat × Bool × List Nat × Int × Int × Int × Int):=if (l1.length : Int) > 4 then (some (0,false,([] : List Nat),0,0,0,1)) else ((num_Key.f a0).bind fun t389 => (row_Of.l0 k l1 (l1.length : Int) 0 t389 false ([] : List Nat) 0 0 0))
def row_Of.T7 : Bool × List (List Nat × List Nat):=(true,[([],[]),([0],[0]),([],[]),([2],[2]),([3],[3]),([1,4,3],[1,4]),([0,1,2,3,4,5],[]),([6,5,5,0,1,2,3,4,5],[5,6])])
def row_Of.B7 : List Nat:=[0,1,0,4,12,31,63,127]
theorem row_Of.tab7 : rtab .any (opsOf Try.f39 7) = row_Of.T7:=by kernel_rfl
theorem row_Of.bits7 : waitsOk row_Of.T7.2 row_Of.B7 = true:=by kernel_rfl
set_option maxHeartbeats 8000000 in
set_option maxRecDepth 100000 in
theorem row_Of.calls (k : Nat) (a0 : Nat) (A1 : Option Addr) (c1 : Nat) (l1 : List Nat) (r1 : Nat) (r2 : Bool) (r3 : List Nat) (r4 : Int) (r5 : Int) (r6 : Int) (r7 : Int) (w : World) (hr1 : Kd.C Kd.f64 w A1 l1.length l1) (hc1 : l1.length ≤ c1) (h : row_Of.f k a0 l1 = some (r1,r2,r3,r4,r5,r6,r7)) :
    Calls Try.prog 39 #[.float .f64 a0,.slice A1 l1.length c1] w fun e w' => ∃ v2_ : Value,e = .returned (.tuple #[.agg #[.float .f64 r1,.bool r2,v2_,.int .i64 r4,.int .i64 r5,.int .i64 r6],.int .i64 r7]) ∧ Kd.R Kd.f64 25 w' w.heap.size (fun _ => True) v2_ r3 ∧ Below w.heap.size w w':=by
  have hu30:=Try.underlying30
  have HR1:=Aside0.mk hr1
  have HC1:=Aside0.mk hc1
  clear hr1 hc1
  have HB:=Aside0.mk (Below.refl w.heap.size w)
  have H : (if (l1.length : Int) > 4 then (some (0,false,([] : List Nat),0,0,0,1)) else ((num_Key.f a0).bind fun t389 => (row_Of.l0 k l1 (l1.length : Int) 0 t389 false ([] : List Nat) 0 0 0))) = some (r1,r2,r3,r4,r5,r6,r7):=h
  clear h
  by_cases c3 : (l1.length : Int) > 4
  · rw [if_pos c3] at H
    have c3b0 : decide (4 < (l1.length : Int)) = true:=decide_eq_true c3
    have c3b1 : decide (4 < l1.length) = true:=decide_eq_true (by omega)
    clear c3
    simp only [Option.some.injEq,Prod.mk.injEq] at H
    obtain ⟨rfl,rfl,rfl,rfl,rfl,rfl,rfl⟩:=H
    go_enter Try.func39,Try.ntmps39
    go_wp2_with (first | ((with_reducible refine gate_dst (N:=4) rfl ?_);refine box_event ?hg (N:=4) ?hd (cs:=#[.float .f64 0,.bool false,.slice none 0 0,.int .i64 0,.int .i64 0,.int .i64 0]) (t:=30) ?hr ?_;(case hd => rfl);(case hg => rfl);(case hr => first | (go_simp;done) | (go_simp;rfl));intro gb388 hg w4 hbox hb;have n0_:=Aside0.mk (below_step (by repeat (first | (with_reducible first | exact HB.out | apply below_alloc | apply pw_below_drewN | apply below_drew1) | exact HB.out)) hb);have n1_:=Aside0.mk (hbox);have n2_:=Aside0.mk ((by rw [hg];exact (below_size (by repeat (first | (with_reducible first | exact HB.out | apply below_alloc | apply pw_below_drewN | apply below_drew1) | exact HB.out))) : w.heap.size ≤ gb388));have n3_:=Aside0.mk ((by rw [hg];exact (below_size (by repeat (first | (with_reducible first | exact HB.out | apply below_alloc | apply pw_below_drewN | apply below_drew1) | exact HB.out))) : w.heap.size ≤ gb388));clear HB;have HB:=n0_;have BK388:=n1_;have GW388:=n2_;have GE388:=n3_;clear n0_ n1_ n2_ n3_;clear hb hbox hg;have hcz5_0 : w4.cell? ⟨gb388,0,none⟩ = some (.float .f64 0):=(blk_cell BK388.out 0).trans rfl;have hcz5_1 : w4.cell? ⟨gb388,1,none⟩ = some (.bool false):=(blk_cell BK388.out 1).trans rfl;have hcz5_2 : w4.cell? ⟨gb388,2,none⟩ = some (.slice none 0 0):=(blk_cell BK388.out 2).trans rfl;have hcz5_3 : w4.cell? ⟨gb388,3,none⟩ = some (.int .i64 0):=(blk_cell BK388.out 3).trans rfl;have hcz5_4 : w4.cell? ⟨gb388,4,none⟩ = some (.int .i64 0):=(blk_cell BK388.out 4).trans rfl;have hcz5_5 : w4.cell? ⟨gb388,5,none⟩ = some (.int .i64 0):=(blk_cell BK388.out 5).trans rfl;have hfz5_0:=blk_frozen BK388.out 0;have hfz5_1:=blk_frozen BK388.out 1;have hfz5_2:=blk_frozen BK388.out 2;have hfz5_3:=blk_frozen BK388.out 3;have hfz5_4:=blk_frozen BK388.out 4;have hfz5_5:=blk_frozen BK388.out 5))
    refine bodyPost_ret (results_ct rfl _ _ gb388 30 #[.float .f64 0,.bool false,.slice none 0 0,.int .i64 0,.int .i64 0,.int .i64 0] (0,0) _ rfl (by (with_reducible repeat (first | refine blk_drewN ?_ _ | refine blk_drew ?_ | refine blk_alloc ?_ _));refine blk_put (cs:=#[.float .f64 0,.bool false,.slice none 0 0,.int .i64 0,.int .i64 0,.int .i64 0]) ?_ 5 _ rfl;(with_reducible repeat (first | refine blk_drewN ?_ _ | refine blk_drew ?_ | refine blk_alloc ?_ _));refine blk_put (cs:=#[.float .f64 0,.bool false,.slice none 0 0,.int .i64 0,.int .i64 0,.int .i64 0]) ?_ 4 _ rfl;(with_reducible repeat (first | refine blk_drewN ?_ _ | refine blk_drew ?_ | refine blk_alloc ?_ _));refine blk_put (cs:=#[.float .f64 0,.bool false,.slice none 0 0,.int .i64 0,.int .i64 0,.int .i64 0]) ?_ 3 _ rfl;(with_reducible repeat (first | refine blk_drewN ?_ _ | refine blk_drew ?_ | refine blk_alloc ?_ _));refine blk_put (cs:=#[.float .f64 0,.bool false,.slice none 0 0,.int .i64 0,.int .i64 0,.int .i64 0]) ?_ 2 _ rfl;(with_reducible repeat (first | refine blk_drewN ?_ _ | refine blk_drew ?_ | refine blk_alloc ?_ _));refine blk_put (cs:=#[.float .f64 0,.bool false,.slice none 0 0,.int .i64 0,.int .i64 0,.int .i64 0]) ?_ 1 _ rfl;(with_reducible repeat (first | refine blk_drewN ?_ _ | refine blk_drew ?_ | refine blk_alloc ?_ _));refine blk_put (cs:=#[.float .f64 0,.bool false,.slice none 0 0,.int .i64 0,.int .i64 0,.int .i64 0]) ?_ 0 _ rfl;(with_reducible repeat (first | refine blk_drewN ?_ _ | refine blk_drew ?_ | refine blk_alloc ?_ _));exact BK388.out) Try.underlying30 rfl (by kernel_rfl)) rfl ?_
    exact ⟨_,by first | rfl | (simp [errW_none,errW_some] <;> rfl) | (simp [*,errW_none,errW_some] <;> rfl),by first | exact Kd.R_nil _ _ _ _ _ | exact Kd.N_nil _ _ _ _ _ | exact Kd.V_nil _ _ _ _ _ | exact Kd.Q_nil _ _ _ _ _ | exact Kd.S_nil _ _ _ _ _,by repeat (first | (with_reducible first | exact HB.out | apply below_alloc | apply pw_below_drewN | apply below_drew1 | refine below_set ?_ GE388.out) | exact HB.out)⟩
  · rw [if_neg c3] at H
    have c3b0 : decide (4 < (l1.length : Int)) = false:=decide_eq_false c3
    have c3b1 : decide (4 < l1.length) = false:=decide_eq_false (by omega)
    clear c3
    replace H:=Option.bind_eq_some_iff.mp H
    obtain ⟨t389,A60,H⟩:=H
    replace H : (row_Of.l0 k l1 (l1.length : Int) 0 t389 false ([] : List Nat) 0 0 0) = some (r1,r2,r3,r4,r5,r6,r7):=H
    have A6:=Aside0.mk A60
    clear A60
    have H':=Aside0.mk H
    clear H
    go_enter Try.func39,Try.ntmps39
    go_wp2_with (first | ((with_reducible refine gate_dst (N:=4) rfl ?_);refine box_event ?hg (N:=4) ?hd (cs:=#[.float .f64 0,.bool false,.slice none 0 0,.int .i64 0,.int .i64 0,.int .i64 0]) (t:=30) ?hr ?_;(case hd => rfl);(case hg => rfl);(case hr => first | (go_simp;done) | (go_simp;rfl));intro gb388 hg w7 hbox hb;have n0_:=Aside0.mk (below_step (by repeat (first | (with_reducible first | exact HB.out | apply below_alloc | apply pw_below_drewN | apply below_drew1) | exact HB.out)) hb);have n1_:=Aside0.mk (hbox);have n2_:=Aside0.mk ((by rw [hg];exact (below_size (by repeat (first | (with_reducible first | exact HB.out | apply below_alloc | apply pw_below_drewN | apply below_drew1) | exact HB.out))) : w.heap.size ≤ gb388));have n3_:=Aside0.mk ((by rw [hg];exact (below_size (by repeat (first | (with_reducible first | exact HB.out | apply below_alloc | apply pw_below_drewN | apply below_drew1) | exact HB.out))) : w.heap.size ≤ gb388));clear HB;have HB:=n0_;have BK388:=n1_;have GW388:=n2_;have GE388:=n3_;clear n0_ n1_ n2_ n3_;clear hb hbox hg) | ((with_reducible refine gate_callee (f:=69) rfl ?_);refine goesL_ (some 14) rfl rfl Try.func69 (by kernel_rfl) rfl #[.float .f64 a0] rfl (by (try simp only [List.map_toArray,List.map_cons,List.map_nil]);first | done | rfl | (simp only [List.length_drop,List.length_take];rfl)) ?_;(with_reducible refine (num_Key.calls a0 t389 _ A6.out).mono ?_);rintro e w' ⟨rfl,⟨nd,rfl⟩⟩;refine ⟨_,rfl,?_⟩;(try (rw [drewN_self w7];generalize hq_ : World.drewN w7 _ = w7;have n0_ : Aside0 (w7.heap[gb388]? = some (.cells #[.float .f64 0,.bool false,.slice none 0 0,.int .i64 0,.int .i64 0,.int .i64 0] 30 (0,0))):=⟨by rw [← hq_];exact (by (with_reducible repeat (first | refine blk_drewN ?_ _ | refine blk_drew ?_ | refine blk_alloc ?_ _));exact BK388.out)⟩;have n1_ : Aside0 (Below w.heap.size w w7):=⟨by rw [← hq_];exact (by repeat (first | (with_reducible first | exact HB.out | apply below_alloc | apply pw_below_drewN | apply below_drew1 | refine below_set ?_ GE388.out) | exact HB.out))⟩;clear BK388 HB hq_;have BK388:=n0_;have HB:=n1_;clear n0_ n1_))) | ((with_reducible refine gate_dst (N:=6) rfl ?_);refine box_event ?hg (N:=6) ?hd (cs:=#[.float .f64 0,.bool false,.slice none 0 0,.int .i64 0,.int .i64 0,.int .i64 0]) (t:=30) ?hr ?_;(case hd => rfl);(case hg => rfl);(case hr => first | (go_simp;done) | (go_simp;rfl));intro gb390 hg w8 hbox hb;have n0_:=Aside0.mk (blk_below (g:=gb388) (o:=.cells #[.float .f64 0,.bool false,.slice none 0 0,.int .i64 0,.int .i64 0,.int .i64 0] 30 (0,0)) (by (with_reducible repeat (first | refine blk_drewN ?_ _ | refine blk_drew ?_ | refine blk_alloc ?_ _));exact BK388.out) hb);have n1_:=Aside0.mk (below_step (by repeat (first | (with_reducible first | exact HB.out | apply below_alloc | apply pw_below_drewN | apply below_drew1 | refine below_set ?_ GE388.out) | exact HB.out)) hb);have n2_:=Aside0.mk (hbox);have n3_:=Aside0.mk ((by rw [hg];exact (below_size (by repeat (first | (with_reducible first | exact HB.out | apply below_alloc | apply pw_below_drewN | apply below_drew1 | refine below_set ?_ GE388.out) | exact HB.out))) : w.heap.size ≤ gb390));have n4_:=Aside0.mk ((by rw [hg];exact (below_size (by repeat (first | (with_reducible first | exact HB.out | apply below_alloc | apply pw_below_drewN | apply below_drew1 | refine below_set ?_ GE388.out) | exact HB.out))) : w.heap.size ≤ gb390));have n5_:=Aside0.mk ((by rw [hg];exact Nat.ne_of_lt (blk_lt (g:=gb388) (o:=.cells #[.float .f64 0,.bool false,.slice none 0 0,.int .i64 0,.int .i64 0,.int .i64 0] 30 (0,0)) (by (with_reducible repeat (first | refine blk_drewN ?_ _ | refine blk_drew ?_ | refine blk_alloc ?_ _));exact BK388.out)) : gb388 ≠ gb390));have n6_:=Aside0.mk ((by rw [hg];exact Nat.ne_of_gt (blk_lt (g:=gb388) (o:=.cells #[.float .f64 0,.bool false,.slice none 0 0,.int .i64 0,.int .i64 0,.int .i64 0] 30 (0,0)) (by (with_reducible repeat (first | refine blk_drewN ?_ _ | refine blk_drew ?_ | refine blk_alloc ?_ _));exact BK388.out)) : gb390 ≠ gb388));clear BK388;clear HB;have BK388:=n0_;have HB:=n1_;have BK390:=n2_;have GW390:=n3_;have GE390:=n4_;have NB388_390:=n5_;have NB390_388:=n6_;clear n0_ n1_ n2_ n3_ n4_ n5_ n6_;clear hb hbox hg;have hnb9:=NB390_388.out;have hnc9:=NB388_390.out;have hcz10_0 : w8.cell? ⟨gb390,0,none⟩ = some (.float .f64 0):=(blk_cell BK390.out 0).trans rfl;have hcz10_1 : w8.cell? ⟨gb390,1,none⟩ = some (.bool false):=(blk_cell BK390.out 1).trans rfl;have hcz10_2 : w8.cell? ⟨gb390,2,none⟩ = some (.slice none 0 0):=(blk_cell BK390.out 2).trans rfl;have hcz10_3 : w8.cell? ⟨gb390,3,none⟩ = some (.int .i64 0):=(blk_cell BK390.out 3).trans rfl;have hcz10_4 : w8.cell? ⟨gb390,4,none⟩ = some (.int .i64 0):=(blk_cell BK390.out 4).trans rfl;have hcz10_5 : w8.cell? ⟨gb390,5,none⟩ = some (.int .i64 0):=(blk_cell BK390.out 5).trans rfl;have hfz10_0:=blk_frozen BK390.out 0;have hfz10_1:=blk_frozen BK390.out 1;have hfz10_2:=blk_frozen BK390.out 2;have hfz10_3:=blk_frozen BK390.out 3;have hfz10_4:=blk_frozen BK390.out 4;have hfz10_5:=blk_frozen BK390.out 5))
    go_loopg [18] k (fun kq v18 w' => ∃ (x18_1 : Int) (x391002_1 : List Nat) (u391002 : Value),v18 = .int .i64 x18_1 ∧ Aside0 (row_Of.l0 kq l1 (l1.length : Int) x18_1 t389 false x391002_1 0 0 0 = some (r1,r2,r3,r4,r5,r6,r7)) ∧ Aside0 (kq ≤ k) ∧ Aside0 (Kd.R Kd.f64 25 w' w.heap.size (fun _ => True) u391002 x391002_1) ∧ Aside0 (w'.heap[gb388]? = some (.cells #[.float .f64 0,.bool false,(.slice none 0 0),.int .i64 0,.int .i64 0,.int .i64 0] 30 (0,0))) ∧ Aside0 (w'.heap[gb390]? = some (.cells #[.float .f64 t389,.bool false,u391002,.int .i64 0,.int .i64 0,.int .i64 0] 30 (0,0))) ∧ Aside0 (Below w.heap.size w w'))
    case atStart => exact ⟨(0),(([] : List Nat)),(.slice none 0 0),(by first | rfl | (simp;done) | (simp [*];done)),H',⟨Nat.le_refl _⟩,⟨by first | exact Kd.R_nil _ _ _ _ _ | exact Kd.N_nil _ _ _ _ _ | exact Kd.V_nil _ _ _ _ _ | exact Kd.Q_nil _ _ _ _ _ | exact Kd.S_nil _ _ _ _ _⟩,⟨by (with_reducible repeat (first | refine blk_drewN ?_ _ | refine blk_drew ?_ | refine blk_alloc ?_ _));refine blk_far ?_ NB388_390.out _;(with_reducible repeat (first | refine blk_drewN ?_ _ | refine blk_drew ?_ | refine blk_alloc ?_ _));refine blk_far ?_ NB388_390.out _;(with_reducible repeat (first | refine blk_drewN ?_ _ | refine blk_drew ?_ | refine blk_alloc ?_ _));refine blk_far ?_ NB388_390.out _;(with_reducible repeat (first | refine blk_drewN ?_ _ | refine blk_drew ?_ | refine blk_alloc ?_ _));refine blk_far ?_ NB388_390.out _;(with_reducible repeat (first | refine blk_drewN ?_ _ | refine blk_drew ?_ | refine blk_alloc ?_ _));refine blk_far ?_ NB388_390.out _;(with_reducible repeat (first | refine blk_drewN ?_ _ | refine blk_drew ?_ | refine blk_alloc ?_ _));refine blk_far ?_ NB388_390.out _;(with_reducible repeat (first | refine blk_drewN ?_ _ | refine blk_drew ?_ | refine blk_alloc ?_ _));exact BK388.out⟩,⟨by (with_reducible repeat (first | refine blk_drewN ?_ _ | refine blk_drew ?_ | refine blk_alloc ?_ _));refine blk_put (cs:=#[.float .f64 t389,.bool false,.slice none 0 0,.int .i64 0,.int .i64 0,.int .i64 0]) ?_ 5 _ rfl;(with_reducible repeat (first | refine blk_drewN ?_ _ | refine blk_drew ?_ | refine blk_alloc ?_ _));refine blk_put (cs:=#[.float .f64 t389,.bool false,.slice none 0 0,.int .i64 0,.int .i64 0,.int .i64 0]) ?_ 4 _ rfl;(with_reducible repeat (first | refine blk_drewN ?_ _ | refine blk_drew ?_ | refine blk_alloc ?_ _));refine blk_put (cs:=#[.float .f64 t389,.bool false,.slice none 0 0,.int .i64 0,.int .i64 0,.int .i64 0]) ?_ 3 _ rfl;(with_reducible repeat (first | refine blk_drewN ?_ _ | refine blk_drew ?_ | refine blk_alloc ?_ _));refine blk_put (cs:=#[.float .f64 t389,.bool false,.slice none 0 0,.int .i64 0,.int .i64 0,.int .i64 0]) ?_ 2 _ rfl;(with_reducible repeat (first | refine blk_drewN ?_ _ | refine blk_drew ?_ | refine blk_alloc ?_ _));refine blk_put (cs:=#[.float .f64 t389,.bool false,.slice none 0 0,.int .i64 0,.int .i64 0,.int .i64 0]) ?_ 1 _ rfl;(with_reducible repeat (first | refine blk_drewN ?_ _ | refine blk_drew ?_ | refine blk_alloc ?_ _));refine blk_put (cs:=#[.float .f64 0,.bool false,.slice none 0 0,.int .i64 0,.int .i64 0,.int .i64 0]) ?_ 0 _ rfl;(with_reducible repeat (first | refine blk_drewN ?_ _ | refine blk_drew ?_ | refine blk_alloc ?_ _));exact BK390.out⟩,⟨by repeat (first | (with_reducible first | exact HB.out | apply below_alloc | apply pw_below_drewN | apply below_drew1 | refine below_set ?_ GE388.out | refine below_set ?_ GE390.out) | exact HB.out)⟩⟩
    case round =>
      clear H'
      try clear c1
      try clear p2
      try clear c3
      try clear c3b0
      try clear c3b1
      try clear c6
      try clear c9
      try clear hcz10_0
      try clear hcz10_1
      try clear hcz10_2
      try clear hcz10_3
      try clear hcz10_4
      try clear hcz10_5
      try clear hcz5_0
      try clear hcz5_1
      try clear hcz5_2
      try clear hcz5_3
      try clear hcz5_4
      try clear hcz5_5
      try clear hfz10_0
      try clear hfz10_1
      try clear hfz10_2
      try clear hfz10_3
      try clear hfz10_4
      try clear hfz10_5
      try clear hfz5_0
      try clear hfz5_1
      try clear hfz5_2
      try clear hfz5_3
      try clear hfz5_4
      try clear hfz5_5
      obtain ⟨x18_1,x391002_1,u391002,rfl,HA,HK1,HO_391002,BK388,BK390,HB⟩:=hrel
      cases gk with
      | zero => exact absurd HA.out (by simp [row_Of.l0])
      | succ k1 =>
        have H:=HA.out
        clear HA
        simp only [row_Of.l0] at H
        by_cases c11 : x18_1 < (l1.length : Int)
        · rw [if_pos c11] at H
          have c11b0 : decide (x18_1 < (l1.length : Int)) = true:=decide_eq_true c11
          clear c11
          by_cases c12 : 0 ≤ x18_1
          · rw [if_pos c12] at H
            have c12b0 : decide (0 ≤ x18_1) = true:=decide_eq_true c12
            clear c12
            by_cases c13 : x18_1 < (l1.length : Int)
            · rw [if_pos c13] at H
              have c13b0 : decide (x18_1 < (l1.length : Int)) = true:=decide_eq_true c13
              clear c13
              replace H:=Option.bind_eq_some_iff.mp H
              obtain ⟨t392,A140,H⟩:=H
              replace H : (if x391002_1.length < 17592186044416 then (row_Of.l0 k1 l1 (l1.length : Int) (wrap64 (x18_1 + 1)) t389 false (x391002_1 ++ [t392]) 0 0 0) else (none)) = some (r1,r2,r3,r4,r5,r6,r7):=H
              have A14:=Aside0.mk A140
              clear A140
              by_cases c15 : x391002_1.length < 17592186044416
              · rw [if_pos c15] at H
                have LMc15:=Aside0.mk c15
                clear c15
                obtain ⟨y393,hy393⟩ : ∃ y_ : List Nat,y_ = (x391002_1 ++ [t392]):=⟨_,rfl⟩
                replace H : (row_Of.l0 k1 l1 (l1.length : Int) (wrap64 (x18_1 + 1)) t389 false y393 0 0 0) = some (r1,r2,r3,r4,r5,r6,r7):=by first | (rw [hy393];with_reducible exact H) | (have H2_:=(Option.bind_some _ _).symm.trans H;rw [hy393];with_reducible exact H2_) | (have H2_:=(Option.bind_some _ _).symm.trans H;with_reducible exact H2_) | with_reducible exact H | (rw [hy393];exact H) | exact H
                have Ny393:=Aside0.mk hy393
                clear hy393
                have H':=Aside0.mk H
                clear H
                have p391 : 0 ≤ (x18_1 : Int):=of_decide_eq_true (by first | (with_reducible assumption) | assumption)
                have q391 : x18_1 < (l1.length : Int):=of_decide_eq_true (by first | (with_reducible assumption) | assumption)
                obtain ⟨ad391,e391,hx391_0⟩:=Kd.at_f64 HR1.out x18_1 p391 q391
                cases e391
                replace hx391_0:=(HB.out.cell (World.block_lt_of_cell? w _ hx391_0)).trans hx391_0
                replace p391:=eq_true p391
                replace q391:=eq_true q391
                try go_wp2
                have n0_:=Aside0.mk (Kd.R_drew HO_391002.out)
                have n1_:=Aside0.mk (blk_drew BK388.out)
                have n2_:=Aside0.mk (blk_drew BK390.out)
                have n3_:=Aside0.mk (below_drew1 HB.out)
                clear HO_391002
                clear BK388
                clear BK390
                clear HB
                have HO_391002:=n0_
                have BK388:=n1_
                have BK390:=n2_
                have HB:=n3_
                clear n0_ n1_ n2_ n3_
                refine start_ (n:=8) (S:=fun w' => w'.cell? ⟨gb390,0,none⟩ = some (.float .f64 t389) ∧ w'.cell? ⟨gb390,1,none⟩ = some (.bool false) ∧ w'.cell? ⟨gb390,2,none⟩ = some (u391002) ∧ w'.cell? ⟨gb390,3,none⟩ = some (.int .i64 0) ∧ w'.cell? ⟨gb390,4,none⟩ = some (.int .i64 0) ∧ w'.cell? ⟨gb390,5,none⟩ = some (.int .i64 0)) (ds:=[7]) #[false,false,false,false,false,false,false,false] (by kernel_rfl) rfl rfl ⟨(blk_cell BK390.out 0).trans rfl,(blk_cell BK390.out 1).trans rfl,(blk_cell BK390.out 2).trans rfl,(blk_cell BK390.out 3).trans rfl,(blk_cell BK390.out 4).trans rfl,(blk_cell BK390.out 5).trans rfl⟩ (fun hHeld => ?_);refine with_tabW row_Of.tab7 row_Of.bits7 (fun HT_ HW_ => ?_)
                generalize wr.drew = w16 at HO_391002 BK388 BK390 HB hHeld ⊢
                refine pure_ (i:=0) (N:=some 22) (v:=?_) (a':=?_) #[true,false,false,false,false,false,false,false] rfl rfl (any_of HT_.out (by kernel_rfl)) (fun _ _ _ h => h) (Or.inl ⟨by rfl,?_⟩) ?_ ?_
                rotate_left
                · intro w'
                  go_simp
                  with_reducible rfl
                rotate_left
                · simp only [Act.put,List.setIfInBounds_toArray,List.set_cons_zero,List.set_cons_succ,i64_w,i32_w]
                  rfl
                refine pure_ (i:=2) (N:=some 24) (v:=?_) (a':=?_) #[true,false,true,false,false,false,false,false] rfl rfl (any_of HT_.out (by kernel_rfl)) (fun _ _ _ h => h) (Or.inl ⟨by rfl,?_⟩) ?_ ?_
                rotate_left
                · intro w'
                  go_simp
                  with_reducible rfl
                rotate_left
                · simp only [Act.put,List.setIfInBounds_toArray,List.set_cons_zero,List.set_cons_succ,i64_w,i32_w]
                  rfl
                refine take_ (i:=1) (N:=some 23) (v:=?_) (a':=?_) #[true,true,true,false,false,false,false,false] rfl rfl (take_ofW HT_.out HW_.out (by kernel_rfl)) (fun _ _ _ h => h) (Or.inl ⟨by rfl,?_⟩) hHeld ?_ ?_
                rotate_left
                · rintro w' ⟨s0,s1,s2,s3,s4,s5⟩
                  go_simp
                  with_reducible rfl
                rotate_left
                · simp only [Act.put,List.setIfInBounds_toArray,List.set_cons_zero,List.set_cons_succ,i64_w,i32_w]
                  rfl
                refine one_ (i:=3) (N:=some 25) #[true,true,true,true,false,false,false,false] rfl rfl (one_of HT_.out (by kernel_rfl)) (by decide) (fun K hK => ?_)
                refine goes_ Try.func68 (by kernel_rfl) rfl #[.float .f64 (rdF l1 x18_1)] (by rfl) rfl rfl (by (try simp only [List.map_toArray,List.map_cons,List.map_nil]);first | done | rfl | (simp only [List.length_drop,List.length_take];rfl)) ?_
                with_reducible refine (num_Value.calls (rdF l1 x18_1) t392 _ A14.out).mono ?_
                rintro e w' ⟨rfl,⟨nd,rfl⟩⟩
                refine ⟨_,rfl,?_⟩
                refine hK.out _ _ ⟨(blk_cell BK390.out 0).trans rfl,(blk_cell BK390.out 1).trans rfl,(blk_cell BK390.out 2).trans rfl,(blk_cell BK390.out 3).trans rfl,(blk_cell BK390.out 4).trans rfl,(blk_cell BK390.out 5).trans rfl⟩ (fun hHeld => ?_)
                clear hK K
                refine norm_ (a':=?_) ?_ ?_
                rotate_left
                · show Act.put _ (some 25) _ = _
                  simp only [Act.put,List.setIfInBounds_toArray,List.set_cons_zero,List.set_cons_succ,i64_w,i32_w]
                  rfl
                refine one_ (i:=4) (N:=some 26) #[true,true,true,true,true,false,false,false] rfl rfl (one_of HT_.out (by kernel_rfl)) (by decide) (fun K hK => ?_)
                refine value_ (w1:=?_) (v:=?_) (by rfl) rfl ?_ ?_
                rotate_left 2
                · go_simp
                  constructor
                  · rfl
                  · rfl
                refine hK.out _ _ ⟨(blk_cell (blk_alloc BK390.out _) 0).trans rfl,(blk_cell (blk_alloc BK390.out _) 1).trans rfl,(blk_cell (blk_alloc BK390.out _) 2).trans rfl,(blk_cell (blk_alloc BK390.out _) 3).trans rfl,(blk_cell (blk_alloc BK390.out _) 4).trans rfl,(blk_cell (blk_alloc BK390.out _) 5).trans rfl⟩ (fun hHeld => ?_)
                clear hK K
                refine norm_ (a':=?_) ?_ ?_
                rotate_left
                · show Act.put _ (some 26) _ = _
                  simp only [Act.put,List.setIfInBounds_toArray,List.set_cons_zero,List.set_cons_succ,i64_w,i32_w]
                  rfl
                refine one_ (i:=5) (N:=some 27) #[true,true,true,true,true,true,false,false] rfl rfl (one_of HT_.out (by kernel_rfl)) (by decide) (fun K hK => ?_)
                refine Kd.R_append_step Kd.f64 (w0:=w) w.heap.size (by rfl) (.tmp 23) (.tmp 26) 26 25 (.float .f64 0) 8 rfl Try.underlying26 info25 rfl (by decide) (by omega) u391002 x391002_1 t392 [.float .f64 t392] (fun _ => True) (fun _ => False) rfl rfl ?aP (fun _ hk => hk.elim) ?aF ?aO ?aB ?aS ?aL ?_
                (case aP => exact rfl)
                (case aB => exact (by repeat (first | (with_reducible first | exact HB.out | apply below_alloc | apply pw_below_drewN | apply below_drew1 | refine below_set ?_ GE388.out | refine below_set ?_ GE390.out) | exact HB.out)))
                (case aF => exact (fun _ _ => trivial))
                (case aO => exact (by (with_reducible repeat (first | apply Kd.R_alloc | apply Kd.R_drewN | apply Kd.R_drew));exact HO_391002.out))
                (case aS => exact (below_size (by repeat (first | (with_reducible first | exact HB.out | apply below_alloc | apply pw_below_drewN | apply below_drew1 | refine below_set ?_ GE388.out | refine below_set ?_ GE390.out) | exact HB.out))))
                (case aL => have:=LMc15.out;omega)
                intro v394 w17 ho hb hg hat
                rw [← Ny393.out] at ho
                have n0_:=Aside0.mk (blk_grown (g:=gb388) (o:=.cells #[.float .f64 0,.bool false,.slice none 0 0,.int .i64 0,.int .i64 0,.int .i64 0] 30 (0,0)) (by (with_reducible repeat (first | refine blk_drewN ?_ _ | refine blk_drew ?_ | refine blk_alloc ?_ _));exact BK388.out) hg (Kd.R_ne HO_391002.out BK388.out (by decide)))
                have n1_:=Aside0.mk (blk_grown (g:=gb390) (o:=.cells #[.float .f64 t389,.bool false,u391002,.int .i64 0,.int .i64 0,.int .i64 0] 30 (0,0)) (by (with_reducible repeat (first | refine blk_drewN ?_ _ | refine blk_drew ?_ | refine blk_alloc ?_ _));exact BK390.out) hg (Kd.R_ne HO_391002.out BK390.out (by decide)))
                have n2_:=Aside0.mk (hb)
                have n3_:=Aside0.mk (ho)
                clear BK388
                clear BK390
                clear HB
                clear HO_391002
                have BK388:=n0_
                have BK390:=n1_
                have HB:=n2_
                have HO395:=n3_
                clear n0_ n1_ n2_ n3_
                clear ho hb hg hat
                obtain ⟨Ao18,co18,eo18⟩:=Kd.R_slice HO395.out
                (first | subst eo18 | (injection eo18 with f1_ f2_ f3_;have f4_:=f1_.symm;have f5_:=f3_.symm;clear f1_ f2_ f3_;subst f4_;subst f5_))
                refine hK.out _ _ ⟨(blk_cell BK390.out 0).trans rfl,(blk_cell BK390.out 1).trans rfl,(blk_cell BK390.out 2).trans rfl,(blk_cell BK390.out 3).trans rfl,(blk_cell BK390.out 4).trans rfl,(blk_cell BK390.out 5).trans rfl⟩ (fun hHeld => ?_)
                clear hK K
                refine norm_ (a':=?_) ?_ ?_
                rotate_left
                · show Act.put _ (some 27) _ = _
                  simp only [Act.put,List.setIfInBounds_toArray,List.set_cons_zero,List.set_cons_succ,i64_w,i32_w]
                  rfl
                refine pure_ (i:=6) (N:=some 28) (v:=?_) (a':=?_) #[true,true,true,true,true,true,true,false] rfl rfl (any_of HT_.out (by kernel_rfl)) (fun _ _ _ h => h) (Or.inl ⟨by rfl,?_⟩) ?_ ?_
                rotate_left
                · intro w'
                  go_simp
                  with_reducible rfl
                rotate_left
                · simp only [Act.put,List.setIfInBounds_toArray,List.set_cons_zero,List.set_cons_succ,i64_w,i32_w]
                  rfl
                refine last_ (i:=7) (N:=none) #[true,true,true,true,true,true,true,true] rfl rfl (one_of HT_.out (by kernel_rfl)) (by decide) (fun K hK => ?_)
                have hs19 : w17.cell? ⟨gb390,2,none⟩ = some (u391002):=(blk_cell BK390.out 2).trans rfl
                have hfs19:=blk_frozen BK390.out 2
                have hns19_0:=NB388_390.out
                have hms19_0:=NB390_388.out
                refine skip_ (w1:=?_) (by rfl) rfl ?_ ?_
                rotate_left
                · go_simp
                  rfl
                refine hK.out _ _ ?_
                clear hK K
                refine done_ (done_of HT_.out (by kernel_rfl)) ?_
                try go_wp2
                go_roundg k1
                case measure => have:=HK1.out;omega
                case rel => exact ⟨(wrap64 (x18_1 + 1)),(y393),(.slice Ao18 y393.length co18),(by first | rfl | (simp;done) | (simp [*];done)),H',⟨by have:=HK1.out;omega⟩,⟨by (with_reducible repeat (first | apply Kd.R_alloc | apply Kd.R_drewN | apply Kd.R_drew));exact Kd.R_mono (Kd.R_far (p:=⟨gb390,2,none⟩) (Kd.R_types HO395.out BK390.out (by decide)) (fun _ hk => hk.2) (.slice Ao18 y393.length co18)) (fun _ hk => trivial)⟩,⟨by (with_reducible repeat (first | refine blk_drewN ?_ _ | refine blk_drew ?_ | refine blk_alloc ?_ _));refine blk_far ?_ NB388_390.out _;(with_reducible repeat (first | refine blk_drewN ?_ _ | refine blk_drew ?_ | refine blk_alloc ?_ _));exact BK388.out⟩,⟨by (with_reducible repeat (first | refine blk_drewN ?_ _ | refine blk_drew ?_ | refine blk_alloc ?_ _));refine blk_put (cs:=#[.float .f64 t389,.bool false,u391002,.int .i64 0,.int .i64 0,.int .i64 0]) ?_ 2 _ rfl;(with_reducible repeat (first | refine blk_drewN ?_ _ | refine blk_drew ?_ | refine blk_alloc ?_ _));exact BK390.out⟩,⟨by repeat (first | (with_reducible first | exact HB.out | apply below_alloc | apply pw_below_drewN | apply below_drew1 | refine below_set ?_ GE388.out | refine below_set ?_ GE390.out) | exact HB.out)⟩⟩
              · rw [if_neg c15] at H
                exact absurd H (by simp)
            · rw [if_neg c13] at H
              exact absurd H (by simp)
          · rw [if_neg c12] at H
            exact absurd H (by simp)
        · rw [if_neg c11] at H
          have c11b0 : decide (x18_1 < (l1.length : Int)) = false:=decide_eq_false c11
          clear c11
          simp only [Option.some.injEq,Prod.mk.injEq] at H
          obtain ⟨rfl,rfl,rfl,rfl,rfl,rfl,rfl⟩:=H
          have hnb20:=NB390_388.out
          have hnc20:=NB388_390.out
          have hcz21_0 : wr.cell? ⟨gb390,0,none⟩ = some (.float .f64 t389):=(blk_cell BK390.out 0).trans rfl
          have hcz21_1 : wr.cell? ⟨gb390,1,none⟩ = some (.bool false):=(blk_cell BK390.out 1).trans rfl
          have hcz21_2 : wr.cell? ⟨gb390,2,none⟩ = some (u391002):=(blk_cell BK390.out 2).trans rfl
          have hcz21_3 : wr.cell? ⟨gb390,3,none⟩ = some (.int .i64 0):=(blk_cell BK390.out 3).trans rfl
          have hcz21_4 : wr.cell? ⟨gb390,4,none⟩ = some (.int .i64 0):=(blk_cell BK390.out 4).trans rfl
          have hcz21_5 : wr.cell? ⟨gb390,5,none⟩ = some (.int .i64 0):=(blk_cell BK390.out 5).trans rfl
          have hfz21_0:=blk_frozen BK390.out 0
          have hfz21_1:=blk_frozen BK390.out 1
          have hfz21_2:=blk_frozen BK390.out 2
          have hfz21_3:=blk_frozen BK390.out 3
          have hfz21_4:=blk_frozen BK390.out 4
          have hfz21_5:=blk_frozen BK390.out 5
          have hcz22_0 : wr.cell? ⟨gb388,0,none⟩ = some (.float .f64 0):=(blk_cell BK388.out 0).trans rfl
          have hcz22_1 : wr.cell? ⟨gb388,1,none⟩ = some (.bool false):=(blk_cell BK388.out 1).trans rfl
          have hcz22_2 : wr.cell? ⟨gb388,2,none⟩ = some (.slice none 0 0):=(blk_cell BK388.out 2).trans rfl
          have hcz22_3 : wr.cell? ⟨gb388,3,none⟩ = some (.int .i64 0):=(blk_cell BK388.out 3).trans rfl
          have hcz22_4 : wr.cell? ⟨gb388,4,none⟩ = some (.int .i64 0):=(blk_cell BK388.out 4).trans rfl
          have hcz22_5 : wr.cell? ⟨gb388,5,none⟩ = some (.int .i64 0):=(blk_cell BK388.out 5).trans rfl
          have hfz22_0:=blk_frozen BK388.out 0
          have hfz22_1:=blk_frozen BK388.out 1
          have hfz22_2:=blk_frozen BK388.out 2
          have hfz22_3:=blk_frozen BK388.out 3
          have hfz22_4:=blk_frozen BK388.out 4
          have hfz22_5:=blk_frozen BK388.out 5
          obtain ⟨Ao23,co23,eo23⟩:=Kd.R_slice HO_391002.out
          subst eo23
          go_wp2
          refine bodyPost_ret (results_ct rfl _ _ gb388 30 #[.float .f64 t389,.bool false,.slice Ao23 x391002_1.length co23,.int .i64 0,.int .i64 0,.int .i64 0] (0,0) _ rfl (by (with_reducible repeat (first | refine blk_drewN ?_ _ | refine blk_drew ?_ | refine blk_alloc ?_ _));refine blk_put (cs:=#[.float .f64 t389,.bool false,.slice Ao23 x391002_1.length co23,.int .i64 0,.int .i64 0,.int .i64 0]) ?_ 5 _ rfl;(with_reducible repeat (first | refine blk_drewN ?_ _ | refine blk_drew ?_ | refine blk_alloc ?_ _));refine blk_put (cs:=#[.float .f64 t389,.bool false,.slice Ao23 x391002_1.length co23,.int .i64 0,.int .i64 0,.int .i64 0]) ?_ 4 _ rfl;(with_reducible repeat (first | refine blk_drewN ?_ _ | refine blk_drew ?_ | refine blk_alloc ?_ _));refine blk_put (cs:=#[.float .f64 t389,.bool false,.slice Ao23 x391002_1.length co23,.int .i64 0,.int .i64 0,.int .i64 0]) ?_ 3 _ rfl;(with_reducible repeat (first | refine blk_drewN ?_ _ | refine blk_drew ?_ | refine blk_alloc ?_ _));refine blk_put (cs:=#[.float .f64 t389,.bool false,.slice none 0 0,.int .i64 0,.int .i64 0,.int .i64 0]) ?_ 2 _ rfl;(with_reducible repeat (first | refine blk_drewN ?_ _ | refine blk_drew ?_ | refine blk_alloc ?_ _));refine blk_put (cs:=#[.float .f64 t389,.bool false,.slice none 0 0,.int .i64 0,.int .i64 0,.int .i64 0]) ?_ 1 _ rfl;(with_reducible repeat (first | refine blk_drewN ?_ _ | refine blk_drew ?_ | refine blk_alloc ?_ _));refine blk_put (cs:=#[.float .f64 0,.bool false,.slice none 0 0,.int .i64 0,.int .i64 0,.int .i64 0]) ?_ 0 _ rfl;(with_reducible repeat (first | refine blk_drewN ?_ _ | refine blk_drew ?_ | refine blk_alloc ?_ _));exact BK388.out) Try.underlying30 rfl (by kernel_rfl)) rfl ?_
          exact ⟨_,by first | rfl | (simp [errW_none,errW_some] <;> rfl) | (simp [*,errW_none,errW_some] <;> rfl),by (with_reducible repeat (first | apply Kd.R_alloc | apply Kd.R_drewN | apply Kd.R_drew));exact Kd.R_mono (Kd.R_far (p:=⟨gb388,5,none⟩) (Kd.R_far (p:=⟨gb388,4,none⟩) (Kd.R_far (p:=⟨gb388,3,none⟩) (Kd.R_far (p:=⟨gb388,2,none⟩) (Kd.R_far (p:=⟨gb388,1,none⟩) (Kd.R_far (p:=⟨gb388,0,none⟩) (Kd.R_types HO_391002.out BK388.out (by decide)) (fun _ hk => hk.2) (.float .f64 t389)) (fun _ hk => hk.2) (.bool false)) (fun _ hk => hk.2) (.slice Ao23 x391002_1.length co23)) (fun _ hk => hk.2) (.int .i64 0)) (fun _ hk => hk.2) (.int .i64 0)) (fun _ hk => hk.2) (.int .i64 0)) (fun _ hk => trivial),by repeat (first | (with_reducible first | exact HB.out | apply below_alloc | apply pw_below_drewN | apply below_drew1 | refine below_set ?_ GE388.out | refine below_set ?_ GE390.out) | exact HB.out)⟩
end Go.Proofs.Ytdcllbhkjcdnoaa.P
namespace Go.Proofs.Ytdcllbhkjcdnoaa.P
open Go.RowKit Go.Proofs.YtdcllbhkjcdnoaaW.PrintWords Go.Proofs.YtdcllbhkjcdnoaaW.PrintLast Go.Proofs.YtdcllbhkjcdnoaaW.PrintMore
attribute [local go_sem] max2_int min2_int max_two min_two max_three min_three max_four min_four   -- for this text's walks alone
attribute [local go_sem] run_store_float
set_option linter.unusedVariables false
set_option linter.unusedSimpArgs false
def humuslaw04_awake.j0 : Nat → Bool → Option (Bool)
  | 0,_ => none
  | k + 1,x0 => some x0
def humuslaw04_awake.f (k : Nat)  : Option (Bool):=(row_Of.f k 4611686018427387904 (([4619567317775286272] : List Nat))).bind fun bt399 => ((row_Encode.f k bt399.1 bt399.2.1 bt399.2.2.1 bt399.2.2.2.1 bt399.2.2.2.2.1 bt399.2.2.2.2.2.1).bind fun bt409 => ((row_Decode.f k bt409.1).bind fun bt413 => (if bt399.2.2.2.2.2.2 = 0 then (if bt409.2 = 0 then (if bt413.2.2.2.2.2.2 = 0 then (if (bt409.1.length : Int) = 28 then ((row_Same.f bt413.1 bt413.2.1 bt413.2.2.1 bt413.2.2.2.1 bt413.2.2.2.2.1 bt413.2.2.2.2.2.1 bt399.1 bt399.2.1 bt399.2.2.1 bt399.2.2.2.1 bt399.2.2.2.2.1 bt399.2.2.2.2.2.1).bind fun t423 => (humuslaw04_awake.j0 k t423)) else (humuslaw04_awake.j0 k false)) else (humuslaw04_awake.j0 k false)) else (humuslaw04_awake.j0 k false)) else (humuslaw04_awake.j0 k false))))
set_option maxHeartbeats 8000000 in
set_option maxRecDepth 100000 in
theorem humuslaw04_awake.calls (k : Nat)  (r : Bool) (w : World) (h : humuslaw04_awake.f k  = some r) :
    Calls Try.prog 31 #[] w fun e w' => e = .returned (.bool r) ∧ Below w.heap.size w w':=by
  have hu30:=Try.underlying30
  have HB:=Aside0.mk (Below.refl w.heap.size w)
  have H : ((row_Of.f k 4611686018427387904 (([4619567317775286272] : List Nat))).bind fun bt399 => ((row_Encode.f k bt399.1 bt399.2.1 bt399.2.2.1 bt399.2.2.2.1 bt399.2.2.2.2.1 bt399.2.2.2.2.2.1).bind fun bt409 => ((row_Decode.f k bt409.1).bind fun bt413 => (if bt399.2.2.2.2.2.2 = 0 then (if bt409.2 = 0 then (if bt413.2.2.2.2.2.2 = 0 then (if (bt409.1.length : Int) = 28 then ((row_Same.f bt413.1 bt413.2.1 bt413.2.2.1 bt413.2.2.2.1 bt413.2.2.2.2.1 bt413.2.2.2.2.2.1 bt399.1 bt399.2.1 bt399.2.2.1 bt399.2.2.2.1 bt399.2.2.2.2.1 bt399.2.2.2.2.2.1).bind fun t423 => (humuslaw04_awake.j0 k t423)) else (humuslaw04_awake.j0 k false)) else (humuslaw04_awake.j0 k false)) else (humuslaw04_awake.j0 k false)) else (humuslaw04_awake.j0 k false))))) = some r:=h
  clear h
  obtain ⟨y396,hy396⟩ : ∃ y_ : List Nat,y_ = (([4619567317775286272] : List Nat)):=⟨_,rfl⟩
  replace H : ((row_Of.f k 4611686018427387904 y396).bind fun bt399 => ((row_Encode.f k bt399.1 bt399.2.1 bt399.2.2.1 bt399.2.2.2.1 bt399.2.2.2.2.1 bt399.2.2.2.2.2.1).bind fun bt409 => ((row_Decode.f k bt409.1).bind fun bt413 => (if bt399.2.2.2.2.2.2 = 0 then (if bt409.2 = 0 then (if bt413.2.2.2.2.2.2 = 0 then (if (bt409.1.length : Int) = 28 then ((row_Same.f bt413.1 bt413.2.1 bt413.2.2.1 bt413.2.2.2.1 bt413.2.2.2.2.1 bt413.2.2.2.2.2.1 bt399.1 bt399.2.1 bt399.2.2.1 bt399.2.2.2.1 bt399.2.2.2.2.1 bt399.2.2.2.2.2.1).bind fun t423 => (humuslaw04_awake.j0 k t423)) else (humuslaw04_awake.j0 k false)) else (humuslaw04_awake.j0 k false)) else (humuslaw04_awake.j0 k false)) else (humuslaw04_awake.j0 k false))))) = some r:=by first | (rw [hy396];with_reducible exact H) | (have H2_:=(Option.bind_some _ _).symm.trans H;rw [hy396];with_reducible exact H2_) | (have H2_:=(Option.bind_some _ _).symm.trans H;with_reducible exact H2_) | with_reducible exact H | (rw [hy396];exact H) | exact H
  have Ny396:=Aside0.mk hy396
  clear hy396
  replace H:=Option.bind_eq_some_iff.mp H
  obtain ⟨⟨t399,t400,t401,t404,t405,t406,t407⟩,A10,H⟩:=H
  replace H : ((row_Encode.f k t399 t400 t401 t404 t405 t406).bind fun bt409 => ((row_Decode.f k bt409.1).bind fun bt413 => (if t407 = 0 then (if bt409.2 = 0 then (if bt413.2.2.2.2.2.2 = 0 then (if (bt409.1.length : Int) = 28 then ((row_Same.f bt413.1 bt413.2.1 bt413.2.2.1 bt413.2.2.2.1 bt413.2.2.2.2.1 bt413.2.2.2.2.2.1 t399 t400 t401 t404 t405 t406).bind fun t423 => (humuslaw04_awake.j0 k t423)) else (humuslaw04_awake.j0 k false)) else (humuslaw04_awake.j0 k false)) else (humuslaw04_awake.j0 k false)) else (humuslaw04_awake.j0 k false)))) = some r:=H
  have A1:=Aside0.mk A10
  clear A10
  replace H:=Option.bind_eq_some_iff.mp H
  obtain ⟨⟨t409,t412⟩,A20,H⟩:=H
  replace H : ((row_Decode.f k t409).bind fun bt413 => (if t407 = 0 then (if t412 = 0 then (if bt413.2.2.2.2.2.2 = 0 then (if (t409.length : Int) = 28 then ((row_Same.f bt413.1 bt413.2.1 bt413.2.2.1 bt413.2.2.2.1 bt413.2.2.2.2.1 bt413.2.2.2.2.2.1 t399 t400 t401 t404 t405 t406).bind fun t423 => (humuslaw04_awake.j0 k t423)) else (humuslaw04_awake.j0 k false)) else (humuslaw04_awake.j0 k false)) else (humuslaw04_awake.j0 k false)) else (humuslaw04_awake.j0 k false))) = some r:=H
  have A2:=Aside0.mk A20
  clear A20
  replace H:=Option.bind_eq_some_iff.mp H
  obtain ⟨⟨t413,t414,t415,t418,t419,t420,t421⟩,A30,H⟩:=H
  replace H : (if t407 = 0 then (if t412 = 0 then (if t421 = 0 then (if (t409.length : Int) = 28 then ((row_Same.f t413 t414 t415 t418 t419 t420 t399 t400 t401 t404 t405 t406).bind fun t423 => (humuslaw04_awake.j0 k t423)) else (humuslaw04_awake.j0 k false)) else (humuslaw04_awake.j0 k false)) else (humuslaw04_awake.j0 k false)) else (humuslaw04_awake.j0 k false)) = some r:=H
  have A3:=Aside0.mk A30
  clear A30
  have HC4:=Aside0.mk H
  clear H
  go_enter Try.func31,Try.ntmps31
  go_upto_region 4 with (first | ((with_reducible refine gate_dst (N:=8) rfl ?_);(try (refine gate_guard (by rfl) ?_;dsimp only));refine Kd.R_lit Kd.f64 _ 25 ?hg (N:=8) ?hd (xs:=([4619567317775286272] : List Nat)) (inner:=[.float .f64 4619567317775286272]) (ok:=fun _ => True) (okp:=fun _ => True) ?hr ?hp (fun _ hk => hk) trivial (Below.refl _ _) (Nat.le_refl _) (by simp) ?_;(case hd => rfl);(case hg => rfl);(case hr => first | (go_simp;done) | (go_simp;rfl));(case hp => exact (Reps.one (show Kd.M Kd.f64 _ _ _ 4619567317775286272 [.float .f64 4619567317775286272] from rfl) (Reps.none _ _)));intro v397 w5 ho6 hb hg_ hnew_;clear hg_ hnew_;(first | rw [← Ny396.out] at ho6 | (simp only [Int.reduceToNat] at ho6;rw [← Ny396.out] at ho6));have n0_:=Aside0.mk (Kd.R_lower ho6 (below_size (by repeat (first | (with_reducible first | exact HB.out | apply below_alloc | apply pw_below_drewN | apply below_drew1) | exact HB.out))));have n1_:=Aside0.mk (below_step (by repeat (first | (with_reducible first | exact HB.out | apply below_alloc | apply pw_below_drewN | apply below_drew1) | exact HB.out)) hb);clear HB;have HO398:=n0_;have HB:=n1_;clear n0_ n1_;clear hb ho6;obtain ⟨Ao7,co7,eo7⟩:=Kd.R_slice HO398.out;subst eo7) | ((with_reducible refine gate_callee (f:=39) rfl ?_);refine goesL_ (some 9) rfl rfl Try.func39 (by kernel_rfl) rfl #[.float .f64 4611686018427387904,.slice Ao7 y396.length co7] rfl (by (try simp only [List.map_toArray,List.map_cons,List.map_nil]);first | done | rfl | (simp only [List.length_drop,List.length_take];rfl)) ?_;(with_reducible refine (row_Of.calls k 4611686018427387904 _ _ y396 t399 t400 t401 t404 t405 t406 t407 _ ?side1 ?side2 A1.out).mono ?_);(case side1 => repeat (first | exact (Kd.R_reads' HO398.out).2.2 | (with_reducible refine Kd.C_alloc ?_ _) | (with_reducible refine Kd.C_drewN ?_ _) | (with_reducible refine Kd.C_drew ?_)));(case side2 => exact (Kd.R_reads' HO398.out).2.1);rintro e w8 ⟨v402,rfl,ho0,hb⟩;refine ⟨_,rfl,?_⟩;have n0_:=Aside0.mk (Kd.R_elder' (by (with_reducible repeat (first | apply Kd.R_alloc | apply Kd.R_drewN | apply Kd.R_drew));exact HO398.out) (Kd.R_base ho0) hb);have n1_:=Aside0.mk (Kd.R_lower (Kd.R_new' ho0 (Kd.R_lt (by (with_reducible repeat (first | apply Kd.R_alloc | apply Kd.R_drewN | apply Kd.R_drew));exact HO398.out))) (below_size (by repeat (first | (with_reducible first | exact HB.out | apply below_alloc | apply pw_below_drewN | apply below_drew1) | exact HB.out))));have n2_:=Aside0.mk (below_step (by repeat (first | (with_reducible first | exact HB.out | apply below_alloc | apply pw_below_drewN | apply below_drew1) | exact HB.out)) hb);clear HO398;clear HB;have HO398:=n0_;have HO403:=n1_;have HB:=n2_;clear n0_ n1_ n2_;(try clear hb);(try clear hb2);(try clear hk);(try clear hi);(try clear ho0)) | ((with_reducible refine gate_dst (N:=1) rfl ?_);(try (refine gate_guard (by rfl) ?_;dsimp only));refine box_event ?hg (N:=1) ?hd (cs:=#[.float .f64 0,.bool false,.slice none 0 0,.int .i64 0,.int .i64 0,.int .i64 0]) (t:=30) ?hr ?_;(case hd => rfl);(case hg => rfl);(case hr => first | (go_simp;done) | (go_simp;rfl));intro gb408 hg w9 hbox hb;have n0_:=Aside0.mk (Kd.R_below (by (with_reducible repeat (first | apply Kd.R_alloc | apply Kd.R_drewN | apply Kd.R_drew));exact HO398.out) hb);have n1_:=Aside0.mk (Kd.R_below (by (with_reducible repeat (first | apply Kd.R_alloc | apply Kd.R_drewN | apply Kd.R_drew));exact HO403.out) hb);have n2_:=Aside0.mk (below_step (by repeat (first | (with_reducible first | exact HB.out | apply below_alloc | apply pw_below_drewN | apply below_drew1) | exact HB.out)) hb);have n3_:=Aside0.mk (hbox);have n4_:=Aside0.mk ((by rw [hg];exact (below_size (by repeat (first | (with_reducible first | exact HB.out | apply below_alloc | apply pw_below_drewN | apply below_drew1) | exact HB.out))) : w.heap.size ≤ gb408));have n5_:=Aside0.mk ((by rw [hg];exact (below_size (by repeat (first | (with_reducible first | exact HB.out | apply below_alloc | apply pw_below_drewN | apply below_drew1) | exact HB.out))) : w.heap.size ≤ gb408));clear HO398;clear HO403;clear HB;have HO398:=n0_;have HO403:=n1_;have HB:=n2_;have BK408:=n3_;have GW408:=n4_;have GE408:=n5_;clear n0_ n1_ n2_ n3_ n4_ n5_;clear hb hbox hg;have hcz10_0 : w9.cell? ⟨gb408,0,none⟩ = some (.float .f64 0):=(blk_cell BK408.out 0).trans rfl;have hcz10_1 : w9.cell? ⟨gb408,1,none⟩ = some (.bool false):=(blk_cell BK408.out 1).trans rfl;have hcz10_2 : w9.cell? ⟨gb408,2,none⟩ = some (.slice none 0 0):=(blk_cell BK408.out 2).trans rfl;have hcz10_3 : w9.cell? ⟨gb408,3,none⟩ = some (.int .i64 0):=(blk_cell BK408.out 3).trans rfl;have hcz10_4 : w9.cell? ⟨gb408,4,none⟩ = some (.int .i64 0):=(blk_cell BK408.out 4).trans rfl;have hcz10_5 : w9.cell? ⟨gb408,5,none⟩ = some (.int .i64 0):=(blk_cell BK408.out 5).trans rfl;have hfz10_0:=blk_frozen BK408.out 0;have hfz10_1:=blk_frozen BK408.out 1;have hfz10_2:=blk_frozen BK408.out 2;have hfz10_3:=blk_frozen BK408.out 3;have hfz10_4:=blk_frozen BK408.out 4;have hfz10_5:=blk_frozen BK408.out 5;obtain ⟨Ao11,co11,eo11⟩:=Kd.R_slice HO403.out;subst eo11) | ((with_reducible refine gate_callee (f:=32) rfl ?_);refine goesL_ (some 14) rfl rfl Try.func32 (by kernel_rfl) rfl #[.agg #[.float .f64 t399,.bool t400,.slice Ao11 t401.length co11,.int .i64 t404,.int .i64 t405,.int .i64 t406]] rfl (by (try simp only [List.map_toArray,List.map_cons,List.map_nil]);first | done | rfl | (simp only [List.length_drop,List.length_take];rfl)) ?_;(with_reducible refine (row_Encode.calls k t399 t400 _ _ t401 t404 t405 t406 t409 t412 _ ?side1 ?side2 A2.out).mono ?_);(case side1 => refine (Kd.R_reads' (e:=25) (base:=w.heap.size) (ok:=fun k_ => (True ∧ some k_ ≠ (.slice Ao7 y396.length co7 : Value).ownBlock)) (n:=t401.length) (c:=co11) ?_).2.2;exact (by (with_reducible repeat (first | apply Kd.R_alloc | apply Kd.R_drewN | apply Kd.R_drew));exact (Kd.R_mono (Kd.R_far (p:=⟨gb408,5,none⟩) (Kd.R_far (p:=⟨gb408,4,none⟩) (Kd.R_far (p:=⟨gb408,3,none⟩) (Kd.R_far (p:=⟨gb408,2,none⟩) (Kd.R_far (p:=⟨gb408,1,none⟩) (Kd.R_far (p:=⟨gb408,0,none⟩) (Kd.R_types HO403.out BK408.out (by decide)) (fun _ hk => hk.2) (.float .f64 t399)) (fun _ hk => hk.2) (.bool t400)) (fun _ hk => hk.2) (.slice Ao11 t401.length co11)) (fun _ hk => hk.2) (.int .i64 t404)) (fun _ hk => hk.2) (.int .i64 t405)) (fun _ hk => hk.2) (.int .i64 t406)) (fun _ h_ => h_.1))));(case side2 => exact (Kd.R_reads' HO403.out).2.1);rintro e w12 ⟨v410,rfl,ho0,hb⟩;refine ⟨_,rfl,?_⟩;have n0_:=Aside0.mk (Kd.R_below (by (with_reducible repeat (first | apply Kd.R_alloc | apply Kd.R_drewN | apply Kd.R_drew));exact (Kd.R_mono (Kd.R_far (p:=⟨gb408,5,none⟩) (Kd.R_far (p:=⟨gb408,4,none⟩) (Kd.R_far (p:=⟨gb408,3,none⟩) (Kd.R_far (p:=⟨gb408,2,none⟩) (Kd.R_far (p:=⟨gb408,1,none⟩) (Kd.R_far (p:=⟨gb408,0,none⟩) (Kd.R_types HO398.out BK408.out (by decide)) (fun _ hk => hk.2) (.float .f64 t399)) (fun _ hk => hk.2) (.bool t400)) (fun _ hk => hk.2) (.slice Ao11 t401.length co11)) (fun _ hk => hk.2) (.int .i64 t404)) (fun _ hk => hk.2) (.int .i64 t405)) (fun _ hk => hk.2) (.int .i64 t406)) (fun _ h_ => h_.1))) hb);have n1_:=Aside0.mk (Kd.R_below (by (with_reducible repeat (first | apply Kd.R_alloc | apply Kd.R_drewN | apply Kd.R_drew));exact (Kd.R_mono (Kd.R_far (p:=⟨gb408,5,none⟩) (Kd.R_far (p:=⟨gb408,4,none⟩) (Kd.R_far (p:=⟨gb408,3,none⟩) (Kd.R_far (p:=⟨gb408,2,none⟩) (Kd.R_far (p:=⟨gb408,1,none⟩) (Kd.R_far (p:=⟨gb408,0,none⟩) (Kd.R_types HO403.out BK408.out (by decide)) (fun _ hk => hk.2) (.float .f64 t399)) (fun _ hk => hk.2) (.bool t400)) (fun _ hk => hk.2) (.slice Ao11 t401.length co11)) (fun _ hk => hk.2) (.int .i64 t404)) (fun _ hk => hk.2) (.int .i64 t405)) (fun _ hk => hk.2) (.int .i64 t406)) (fun _ h_ => h_.1))) hb);have n2_:=Aside0.mk (Kd.R_lower ho0 (below_size (by repeat (first | (with_reducible first | exact HB.out | apply below_alloc | apply pw_below_drewN | apply below_drew1 | refine below_set ?_ GE408.out) | exact HB.out))));have n3_:=Aside0.mk (blk_below (g:=gb408) (o:=.cells #[.float .f64 t399,.bool t400,.slice Ao11 t401.length co11,.int .i64 t404,.int .i64 t405,.int .i64 t406] 30 (0,0)) (by (with_reducible repeat (first | refine blk_drewN ?_ _ | refine blk_drew ?_ | refine blk_alloc ?_ _));refine blk_put (cs:=#[.float .f64 t399,.bool t400,.slice Ao11 t401.length co11,.int .i64 t404,.int .i64 t405,.int .i64 0]) ?_ 5 _ rfl;(with_reducible repeat (first | refine blk_drewN ?_ _ | refine blk_drew ?_ | refine blk_alloc ?_ _));refine blk_put (cs:=#[.float .f64 t399,.bool t400,.slice Ao11 t401.length co11,.int .i64 t404,.int .i64 0,.int .i64 0]) ?_ 4 _ rfl;(with_reducible repeat (first | refine blk_drewN ?_ _ | refine blk_drew ?_ | refine blk_alloc ?_ _));refine blk_put (cs:=#[.float .f64 t399,.bool t400,.slice Ao11 t401.length co11,.int .i64 0,.int .i64 0,.int .i64 0]) ?_ 3 _ rfl;(with_reducible repeat (first | refine blk_drewN ?_ _ | refine blk_drew ?_ | refine blk_alloc ?_ _));refine blk_put (cs:=#[.float .f64 t399,.bool t400,.slice none 0 0,.int .i64 0,.int .i64 0,.int .i64 0]) ?_ 2 _ rfl;(with_reducible repeat (first | refine blk_drewN ?_ _ | refine blk_drew ?_ | refine blk_alloc ?_ _));refine blk_put (cs:=#[.float .f64 t399,.bool false,.slice none 0 0,.int .i64 0,.int .i64 0,.int .i64 0]) ?_ 1 _ rfl;(with_reducible repeat (first | refine blk_drewN ?_ _ | refine blk_drew ?_ | refine blk_alloc ?_ _));refine blk_put (cs:=#[.float .f64 0,.bool false,.slice none 0 0,.int .i64 0,.int .i64 0,.int .i64 0]) ?_ 0 _ rfl;(with_reducible repeat (first | refine blk_drewN ?_ _ | refine blk_drew ?_ | refine blk_alloc ?_ _));exact BK408.out) hb);have n4_:=Aside0.mk (below_step (by repeat (first | (with_reducible first | exact HB.out | apply below_alloc | apply pw_below_drewN | apply below_drew1 | refine below_set ?_ GE408.out) | exact HB.out)) hb);clear HO398;clear HO403;clear BK408;clear HB;have HO398:=n0_;have HO403:=n1_;have HO411:=n2_;have BK408:=n3_;have HB:=n4_;clear n0_ n1_ n2_ n3_ n4_;(try clear hb);(try clear hb2);(try clear hk);(try clear hi);(try clear ho0);obtain ⟨Ao13,co13,eo13⟩:=Kd.R_slice HO411.out;subst eo13) | ((with_reducible refine gate_callee (f:=35) rfl ?_);refine goesL_ (some 19) rfl rfl Try.func35 (by kernel_rfl) rfl #[.slice Ao13 t409.length co13] rfl (by (try simp only [List.map_toArray,List.map_cons,List.map_nil]);first | done | rfl | (simp only [List.length_drop,List.length_take];rfl)) ?_;(with_reducible refine (row_Decode.calls k _ _ t409 t413 t414 t415 t418 t419 t420 t421 _ ?side1 ?side2 A3.out).mono ?_);(case side1 => repeat (first | exact (Kd.R_reads' HO411.out).2.2 | (with_reducible refine Kd.C_alloc ?_ _) | (with_reducible refine Kd.C_drewN ?_ _) | (with_reducible refine Kd.C_drew ?_)));(case side2 => exact (Kd.R_reads' HO411.out).2.1);rintro e w14 ⟨v416,rfl,ho0,hb⟩;refine ⟨_,rfl,?_⟩;have n0_:=Aside0.mk (Kd.R_elder' (by (with_reducible repeat (first | apply Kd.R_alloc | apply Kd.R_drewN | apply Kd.R_drew));exact HO398.out) (Kd.R_base ho0) hb);have n1_:=Aside0.mk (Kd.R_elder' (by (with_reducible repeat (first | apply Kd.R_alloc | apply Kd.R_drewN | apply Kd.R_drew));exact HO403.out) (Kd.R_base ho0) hb);have n2_:=Aside0.mk (Kd.R_below (by (with_reducible repeat (first | apply Kd.R_alloc | apply Kd.R_drewN | apply Kd.R_drew));exact HO411.out) hb);have n3_:=Aside0.mk (Kd.R_lower (Kd.R_new' (Kd.R_new' ho0 (Kd.R_lt (by (with_reducible repeat (first | apply Kd.R_alloc | apply Kd.R_drewN | apply Kd.R_drew));exact HO398.out))) (Kd.R_lt (by (with_reducible repeat (first | apply Kd.R_alloc | apply Kd.R_drewN | apply Kd.R_drew));exact HO403.out))) (below_size (by repeat (first | (with_reducible first | exact HB.out | apply below_alloc | apply pw_below_drewN | apply below_drew1 | refine below_set ?_ GE408.out) | exact HB.out))));have n4_:=Aside0.mk (blk_below (g:=gb408) (o:=.cells #[.float .f64 t399,.bool t400,.slice Ao11 t401.length co11,.int .i64 t404,.int .i64 t405,.int .i64 t406] 30 (0,0)) (by (with_reducible repeat (first | refine blk_drewN ?_ _ | refine blk_drew ?_ | refine blk_alloc ?_ _));exact BK408.out) hb);have n5_:=Aside0.mk (below_step (by repeat (first | (with_reducible first | exact HB.out | apply below_alloc | apply pw_below_drewN | apply below_drew1 | refine below_set ?_ GE408.out) | exact HB.out)) hb);clear HO398;clear HO403;clear HO411;clear BK408;clear HB;have HO398:=n0_;have HO403:=n1_;have HO411:=n2_;have HO417:=n3_;have BK408:=n4_;have HB:=n5_;clear n0_ n1_ n2_ n3_ n4_ n5_;(try clear hb);(try clear hb2);(try clear hk);(try clear hi);(try clear ho0)) | ((with_reducible refine gate_dst (N:=5) rfl ?_);(try (refine gate_guard (by rfl) ?_;dsimp only));refine box_event ?hg (N:=5) ?hd (cs:=#[.float .f64 0,.bool false,.slice none 0 0,.int .i64 0,.int .i64 0,.int .i64 0]) (t:=30) ?hr ?_;(case hd => rfl);(case hg => rfl);(case hr => first | (go_simp;done) | (go_simp;rfl));intro gb422 hg w15 hbox hb;have n0_:=Aside0.mk (Kd.R_below (by (with_reducible repeat (first | apply Kd.R_alloc | apply Kd.R_drewN | apply Kd.R_drew));exact HO398.out) hb);have n1_:=Aside0.mk (Kd.R_below (by (with_reducible repeat (first | apply Kd.R_alloc | apply Kd.R_drewN | apply Kd.R_drew));exact HO403.out) hb);have n2_:=Aside0.mk (Kd.R_below (by (with_reducible repeat (first | apply Kd.R_alloc | apply Kd.R_drewN | apply Kd.R_drew));exact HO411.out) hb);have n3_:=Aside0.mk (Kd.R_below (by (with_reducible repeat (first | apply Kd.R_alloc | apply Kd.R_drewN | apply Kd.R_drew));exact HO417.out) hb);have n4_:=Aside0.mk (blk_below (g:=gb408) (o:=.cells #[.float .f64 t399,.bool t400,.slice Ao11 t401.length co11,.int .i64 t404,.int .i64 t405,.int .i64 t406] 30 (0,0)) (by (with_reducible repeat (first | refine blk_drewN ?_ _ | refine blk_drew ?_ | refine blk_alloc ?_ _));exact BK408.out) hb);have n5_:=Aside0.mk (below_step (by repeat (first | (with_reducible first | exact HB.out | apply below_alloc | apply pw_below_drewN | apply below_drew1 | refine below_set ?_ GE408.out) | exact HB.out)) hb);have n6_:=Aside0.mk (hbox);have n7_:=Aside0.mk ((by rw [hg];exact (below_size (by repeat (first | (with_reducible first | exact HB.out | apply below_alloc | apply pw_below_drewN | apply below_drew1 | refine below_set ?_ GE408.out) | exact HB.out))) : w.heap.size ≤ gb422));have n8_:=Aside0.mk ((by rw [hg];exact (below_size (by repeat (first | (with_reducible first | exact HB.out | apply below_alloc | apply pw_below_drewN | apply below_drew1 | refine below_set ?_ GE408.out) | exact HB.out))) : w.heap.size ≤ gb422));have n9_:=Aside0.mk ((by rw [hg];exact Nat.ne_of_lt (blk_lt (g:=gb408) (o:=.cells #[.float .f64 t399,.bool t400,.slice Ao11 t401.length co11,.int .i64 t404,.int .i64 t405,.int .i64 t406] 30 (0,0)) (by (with_reducible repeat (first | refine blk_drewN ?_ _ | refine blk_drew ?_ | refine blk_alloc ?_ _));exact BK408.out)) : gb408 ≠ gb422));have n10_:=Aside0.mk ((by rw [hg];exact Nat.ne_of_gt (blk_lt (g:=gb408) (o:=.cells #[.float .f64 t399,.bool t400,.slice Ao11 t401.length co11,.int .i64 t404,.int .i64 t405,.int .i64 t406] 30 (0,0)) (by (with_reducible repeat (first | refine blk_drewN ?_ _ | refine blk_drew ?_ | refine blk_alloc ?_ _));exact BK408.out)) : gb422 ≠ gb408));clear HO398;clear HO403;clear HO411;clear HO417;clear BK408;clear HB;have HO398:=n0_;have HO403:=n1_;have HO411:=n2_;have HO417:=n3_;have BK408:=n4_;have HB:=n5_;have BK422:=n6_;have GW422:=n7_;have GE422:=n8_;have NB408_422:=n9_;have NB422_408:=n10_;clear n0_ n1_ n2_ n3_ n4_ n5_ n6_ n7_ n8_ n9_ n10_;clear hb hbox hg;have hnb16:=NB422_408.out;have hnc16:=NB408_422.out;have hcz17_0 : w15.cell? ⟨gb422,0,none⟩ = some (.float .f64 0):=(blk_cell BK422.out 0).trans rfl;have hcz17_1 : w15.cell? ⟨gb422,1,none⟩ = some (.bool false):=(blk_cell BK422.out 1).trans rfl;have hcz17_2 : w15.cell? ⟨gb422,2,none⟩ = some (.slice none 0 0):=(blk_cell BK422.out 2).trans rfl;have hcz17_3 : w15.cell? ⟨gb422,3,none⟩ = some (.int .i64 0):=(blk_cell BK422.out 3).trans rfl;have hcz17_4 : w15.cell? ⟨gb422,4,none⟩ = some (.int .i64 0):=(blk_cell BK422.out 4).trans rfl;have hcz17_5 : w15.cell? ⟨gb422,5,none⟩ = some (.int .i64 0):=(blk_cell BK422.out 5).trans rfl;have hfz17_0:=blk_frozen BK422.out 0;have hfz17_1:=blk_frozen BK422.out 1;have hfz17_2:=blk_frozen BK422.out 2;have hfz17_3:=blk_frozen BK422.out 3;have hfz17_4:=blk_frozen BK422.out 4;have hfz17_5:=blk_frozen BK422.out 5;obtain ⟨Ao18,co18,eo18⟩:=Kd.R_slice HO417.out;subst eo18))
  (try simp only [Act.put,List.setIfInBounds_toArray,List.set_cons_zero,List.set_cons_succ])
  go_cut [0] (fun v0 wc => ∃ (kq : Nat) (x0_3 : Bool),v0 = .bool x0_3 ∧ Aside0 (humuslaw04_awake.j0 kq x0_3 = some r) ∧ Aside0 (kq ≤ k) ∧ Aside0 (Kd.R Kd.f64 25 wc w.heap.size (fun k_ => some k_ ≠ ((.slice Ao18 t415.length co18) : Value).ownBlock) (.slice Ao11 t401.length co11) t401) ∧ Aside0 (Kd.R Kd.f64 25 wc w.heap.size (fun k_ => some k_ ≠ ((.slice Ao11 t401.length co11) : Value).ownBlock) (.slice Ao18 t415.length co18) t415) ∧ Aside0 (wc.heap[gb408]? = some (.cells #[.float .f64 t399,.bool t400,(.slice Ao11 t401.length co11),.int .i64 t404,.int .i64 t405,.int .i64 t406] 30 (0,0))) ∧ Aside0 (wc.heap[gb422]? = some (.cells #[.float .f64 t413,.bool t414,(.slice Ao18 t415.length co18),.int .i64 t418,.int .i64 t419,.int .i64 t420] 30 (0,0))) ∧ Aside0 (Below w.heap.size w wc))
  case first =>
    have H:=HC4.out
    clear HC4
    by_cases c19 : t407 = 0
    · rw [if_pos c19] at H
      have c19b0 : (t407 == 0) = true:=beq_iff_eq.mpr c19
      have c19b1 : (t407 != 0) = false:=bne_eq_false_iff_eq.mpr c19
      clear c19
      (first | rw [c19b0] | (simp only [i64_w,i32_w];rw [c19b0]) | skip)
      by_cases c20 : t412 = 0
      · rw [if_pos c20] at H
        have c20b0 : (t412 == 0) = true:=beq_iff_eq.mpr c20
        have c20b1 : (t412 != 0) = false:=bne_eq_false_iff_eq.mpr c20
        clear c20
        by_cases c21 : t421 = 0
        · rw [if_pos c21] at H
          have c21b0 : (t421 == 0) = true:=beq_iff_eq.mpr c21
          have c21b1 : (t421 != 0) = false:=bne_eq_false_iff_eq.mpr c21
          clear c21
          by_cases c22 : (t409.length : Int) = 28
          · rw [if_pos c22] at H
            have c22b0 : ((t409.length : Int) == 28) = true:=beq_iff_eq.mpr c22
            have c22b1 : ((t409.length : Int) != 28) = false:=bne_eq_false_iff_eq.mpr c22
            clear c22
            replace H:=Option.bind_eq_some_iff.mp H
            obtain ⟨t423,A230,H⟩:=H
            replace H : (humuslaw04_awake.j0 k t423) = some r:=H
            have A23:=Aside0.mk A230
            clear A230
            have H':=Aside0.mk H
            clear H
            have hnb24:=NB422_408.out
            have hnc24:=NB408_422.out
            have hcz25_0 : w15.cell? ⟨gb422,0,none⟩ = some (.float .f64 0):=(blk_cell BK422.out 0).trans rfl
            have hcz25_1 : w15.cell? ⟨gb422,1,none⟩ = some (.bool false):=(blk_cell BK422.out 1).trans rfl
            have hcz25_2 : w15.cell? ⟨gb422,2,none⟩ = some (.slice none 0 0):=(blk_cell BK422.out 2).trans rfl
            have hcz25_3 : w15.cell? ⟨gb422,3,none⟩ = some (.int .i64 0):=(blk_cell BK422.out 3).trans rfl
            have hcz25_4 : w15.cell? ⟨gb422,4,none⟩ = some (.int .i64 0):=(blk_cell BK422.out 4).trans rfl
            have hcz25_5 : w15.cell? ⟨gb422,5,none⟩ = some (.int .i64 0):=(blk_cell BK422.out 5).trans rfl
            have hfz25_0:=blk_frozen BK422.out 0
            have hfz25_1:=blk_frozen BK422.out 1
            have hfz25_2:=blk_frozen BK422.out 2
            have hfz25_3:=blk_frozen BK422.out 3
            have hfz25_4:=blk_frozen BK422.out 4
            have hfz25_5:=blk_frozen BK422.out 5
            have hcz26_0 : w15.cell? ⟨gb408,0,none⟩ = some (.float .f64 t399):=(blk_cell BK408.out 0).trans rfl
            have hcz26_1 : w15.cell? ⟨gb408,1,none⟩ = some (.bool t400):=(blk_cell BK408.out 1).trans rfl
            have hcz26_2 : w15.cell? ⟨gb408,2,none⟩ = some (.slice Ao11 t401.length co11):=(blk_cell BK408.out 2).trans rfl
            have hcz26_3 : w15.cell? ⟨gb408,3,none⟩ = some (.int .i64 t404):=(blk_cell BK408.out 3).trans rfl
            have hcz26_4 : w15.cell? ⟨gb408,4,none⟩ = some (.int .i64 t405):=(blk_cell BK408.out 4).trans rfl
            have hcz26_5 : w15.cell? ⟨gb408,5,none⟩ = some (.int .i64 t406):=(blk_cell BK408.out 5).trans rfl
            have hfz26_0:=blk_frozen BK408.out 0
            have hfz26_1:=blk_frozen BK408.out 1
            have hfz26_2:=blk_frozen BK408.out 2
            have hfz26_3:=blk_frozen BK408.out 3
            have hfz26_4:=blk_frozen BK408.out 4
            have hfz26_5:=blk_frozen BK408.out 5
            go_wp2_with (first | (go_at_call 43;(with_reducible refine (row_Same.calls t413 t414 _ _ t415 t418 t419 t420 t399 t400 _ _ t401 t404 t405 t406 t423 _ ?side1 ?side2 ?side3 ?side4 A23.out).mono ?_);(case side1 => refine (Kd.R_reads' (e:=25) (base:=w.heap.size) (ok:=fun k_ => ((True ∧ some k_ ≠ (.slice Ao7 y396.length co7 : Value).ownBlock) ∧ some k_ ≠ (.slice Ao11 t401.length co11 : Value).ownBlock)) (n:=t415.length) (c:=co18) ?_).2.2;exact (by (with_reducible repeat (first | apply Kd.R_alloc | apply Kd.R_drewN | apply Kd.R_drew));exact (Kd.R_mono (Kd.R_far (p:=⟨gb422,5,none⟩) (Kd.R_far (p:=⟨gb422,4,none⟩) (Kd.R_far (p:=⟨gb422,3,none⟩) (Kd.R_far (p:=⟨gb422,2,none⟩) (Kd.R_far (p:=⟨gb422,1,none⟩) (Kd.R_far (p:=⟨gb422,0,none⟩) (Kd.R_types HO417.out BK422.out (by decide)) (fun _ hk => hk.2) (.float .f64 t413)) (fun _ hk => hk.2) (.bool t414)) (fun _ hk => hk.2) (.slice Ao18 t415.length co18)) (fun _ hk => hk.2) (.int .i64 t418)) (fun _ hk => hk.2) (.int .i64 t419)) (fun _ hk => hk.2) (.int .i64 t420)) (fun _ h_ => h_.1))));(case side2 => exact (Kd.R_reads' HO417.out).2.1);(case side3 => refine (Kd.R_reads' (e:=25) (base:=w.heap.size) (ok:=fun k_ => ((True ∧ some k_ ≠ (.slice Ao7 y396.length co7 : Value).ownBlock) ∧ some k_ ≠ (.slice Ao18 t415.length co18 : Value).ownBlock)) (n:=t401.length) (c:=co11) ?_).2.2;exact (by (with_reducible repeat (first | apply Kd.R_alloc | apply Kd.R_drewN | apply Kd.R_drew));exact (Kd.R_mono (Kd.R_far (p:=⟨gb422,5,none⟩) (Kd.R_far (p:=⟨gb422,4,none⟩) (Kd.R_far (p:=⟨gb422,3,none⟩) (Kd.R_far (p:=⟨gb422,2,none⟩) (Kd.R_far (p:=⟨gb422,1,none⟩) (Kd.R_far (p:=⟨gb422,0,none⟩) (Kd.R_types HO403.out BK422.out (by decide)) (fun _ hk => hk.2) (.float .f64 t413)) (fun _ hk => hk.2) (.bool t414)) (fun _ hk => hk.2) (.slice Ao18 t415.length co18)) (fun _ hk => hk.2) (.int .i64 t418)) (fun _ hk => hk.2) (.int .i64 t419)) (fun _ hk => hk.2) (.int .i64 t420)) (fun _ h_ => h_.1))));(case side4 => exact (Kd.R_reads' HO403.out).2.1);rintro e w27 ⟨rfl,hb⟩;have n0_:=Aside0.mk (Kd.R_below (by (with_reducible repeat (first | apply Kd.R_alloc | apply Kd.R_drewN | apply Kd.R_drew));exact (Kd.R_mono (Kd.R_far (p:=⟨gb422,5,none⟩) (Kd.R_far (p:=⟨gb422,4,none⟩) (Kd.R_far (p:=⟨gb422,3,none⟩) (Kd.R_far (p:=⟨gb422,2,none⟩) (Kd.R_far (p:=⟨gb422,1,none⟩) (Kd.R_far (p:=⟨gb422,0,none⟩) (Kd.R_types HO398.out BK422.out (by decide)) (fun _ hk => hk.2) (.float .f64 t413)) (fun _ hk => hk.2) (.bool t414)) (fun _ hk => hk.2) (.slice Ao18 t415.length co18)) (fun _ hk => hk.2) (.int .i64 t418)) (fun _ hk => hk.2) (.int .i64 t419)) (fun _ hk => hk.2) (.int .i64 t420)) (fun _ h_ => h_.1))) hb);have n1_:=Aside0.mk (Kd.R_below (by (with_reducible repeat (first | apply Kd.R_alloc | apply Kd.R_drewN | apply Kd.R_drew));exact (Kd.R_mono (Kd.R_far (p:=⟨gb422,5,none⟩) (Kd.R_far (p:=⟨gb422,4,none⟩) (Kd.R_far (p:=⟨gb422,3,none⟩) (Kd.R_far (p:=⟨gb422,2,none⟩) (Kd.R_far (p:=⟨gb422,1,none⟩) (Kd.R_far (p:=⟨gb422,0,none⟩) (Kd.R_types HO403.out BK422.out (by decide)) (fun _ hk => hk.2) (.float .f64 t413)) (fun _ hk => hk.2) (.bool t414)) (fun _ hk => hk.2) (.slice Ao18 t415.length co18)) (fun _ hk => hk.2) (.int .i64 t418)) (fun _ hk => hk.2) (.int .i64 t419)) (fun _ hk => hk.2) (.int .i64 t420)) (fun _ h_ => h_.1))) hb);have n2_:=Aside0.mk (Kd.R_below (by (with_reducible repeat (first | apply Kd.R_alloc | apply Kd.R_drewN | apply Kd.R_drew));exact (Kd.R_mono (Kd.R_far (p:=⟨gb422,5,none⟩) (Kd.R_far (p:=⟨gb422,4,none⟩) (Kd.R_far (p:=⟨gb422,3,none⟩) (Kd.R_far (p:=⟨gb422,2,none⟩) (Kd.R_far (p:=⟨gb422,1,none⟩) (Kd.R_far (p:=⟨gb422,0,none⟩) (Kd.R_types HO411.out BK422.out (by decide)) (fun _ hk => hk.2) (.float .f64 t413)) (fun _ hk => hk.2) (.bool t414)) (fun _ hk => hk.2) (.slice Ao18 t415.length co18)) (fun _ hk => hk.2) (.int .i64 t418)) (fun _ hk => hk.2) (.int .i64 t419)) (fun _ hk => hk.2) (.int .i64 t420)) (fun _ h_ => h_.1))) hb);have n3_:=Aside0.mk (Kd.R_below (by (with_reducible repeat (first | apply Kd.R_alloc | apply Kd.R_drewN | apply Kd.R_drew));exact (Kd.R_mono (Kd.R_far (p:=⟨gb422,5,none⟩) (Kd.R_far (p:=⟨gb422,4,none⟩) (Kd.R_far (p:=⟨gb422,3,none⟩) (Kd.R_far (p:=⟨gb422,2,none⟩) (Kd.R_far (p:=⟨gb422,1,none⟩) (Kd.R_far (p:=⟨gb422,0,none⟩) (Kd.R_types HO417.out BK422.out (by decide)) (fun _ hk => hk.2) (.float .f64 t413)) (fun _ hk => hk.2) (.bool t414)) (fun _ hk => hk.2) (.slice Ao18 t415.length co18)) (fun _ hk => hk.2) (.int .i64 t418)) (fun _ hk => hk.2) (.int .i64 t419)) (fun _ hk => hk.2) (.int .i64 t420)) (fun _ h_ => h_.1))) hb);have n4_:=Aside0.mk (blk_below (g:=gb408) (o:=.cells #[.float .f64 t399,.bool t400,.slice Ao11 t401.length co11,.int .i64 t404,.int .i64 t405,.int .i64 t406] 30 (0,0)) (by (with_reducible repeat (first | refine blk_drewN ?_ _ | refine blk_drew ?_ | refine blk_alloc ?_ _));refine blk_far ?_ NB408_422.out _;(with_reducible repeat (first | refine blk_drewN ?_ _ | refine blk_drew ?_ | refine blk_alloc ?_ _));refine blk_far ?_ NB408_422.out _;(with_reducible repeat (first | refine blk_drewN ?_ _ | refine blk_drew ?_ | refine blk_alloc ?_ _));refine blk_far ?_ NB408_422.out _;(with_reducible repeat (first | refine blk_drewN ?_ _ | refine blk_drew ?_ | refine blk_alloc ?_ _));refine blk_far ?_ NB408_422.out _;(with_reducible repeat (first | refine blk_drewN ?_ _ | refine blk_drew ?_ | refine blk_alloc ?_ _));refine blk_far ?_ NB408_422.out _;(with_reducible repeat (first | refine blk_drewN ?_ _ | refine blk_drew ?_ | refine blk_alloc ?_ _));refine blk_far ?_ NB408_422.out _;(with_reducible repeat (first | refine blk_drewN ?_ _ | refine blk_drew ?_ | refine blk_alloc ?_ _));exact BK408.out) hb);have n5_:=Aside0.mk (blk_below (g:=gb422) (o:=.cells #[.float .f64 t413,.bool t414,.slice Ao18 t415.length co18,.int .i64 t418,.int .i64 t419,.int .i64 t420] 30 (0,0)) (by (with_reducible repeat (first | refine blk_drewN ?_ _ | refine blk_drew ?_ | refine blk_alloc ?_ _));refine blk_put (cs:=#[.float .f64 t413,.bool t414,.slice Ao18 t415.length co18,.int .i64 t418,.int .i64 t419,.int .i64 0]) ?_ 5 _ rfl;(with_reducible repeat (first | refine blk_drewN ?_ _ | refine blk_drew ?_ | refine blk_alloc ?_ _));refine blk_put (cs:=#[.float .f64 t413,.bool t414,.slice Ao18 t415.length co18,.int .i64 t418,.int .i64 0,.int .i64 0]) ?_ 4 _ rfl;(with_reducible repeat (first | refine blk_drewN ?_ _ | refine blk_drew ?_ | refine blk_alloc ?_ _));refine blk_put (cs:=#[.float .f64 t413,.bool t414,.slice Ao18 t415.length co18,.int .i64 0,.int .i64 0,.int .i64 0]) ?_ 3 _ rfl;(with_reducible repeat (first | refine blk_drewN ?_ _ | refine blk_drew ?_ | refine blk_alloc ?_ _));refine blk_put (cs:=#[.float .f64 t413,.bool t414,.slice none 0 0,.int .i64 0,.int .i64 0,.int .i64 0]) ?_ 2 _ rfl;(with_reducible repeat (first | refine blk_drewN ?_ _ | refine blk_drew ?_ | refine blk_alloc ?_ _));refine blk_put (cs:=#[.float .f64 t413,.bool false,.slice none 0 0,.int .i64 0,.int .i64 0,.int .i64 0]) ?_ 1 _ rfl;(with_reducible repeat (first | refine blk_drewN ?_ _ | refine blk_drew ?_ | refine blk_alloc ?_ _));refine blk_put (cs:=#[.float .f64 0,.bool false,.slice none 0 0,.int .i64 0,.int .i64 0,.int .i64 0]) ?_ 0 _ rfl;(with_reducible repeat (first | refine blk_drewN ?_ _ | refine blk_drew ?_ | refine blk_alloc ?_ _));exact BK422.out) hb);have n6_:=Aside0.mk (below_step (by repeat (first | (with_reducible first | exact HB.out | apply below_alloc | apply pw_below_drewN | apply below_drew1 | refine below_set ?_ GE408.out | refine below_set ?_ GE422.out) | exact HB.out)) hb);clear HO398;clear HO403;clear HO411;clear HO417;clear BK408;clear BK422;clear HB;have HO398:=n0_;have HO403:=n1_;have HO411:=n2_;have HO417:=n3_;have BK408:=n4_;have BK422:=n5_;have HB:=n6_;clear n0_ n1_ n2_ n3_ n4_ n5_ n6_;(try clear hb);(try clear hb2);(try clear hk);(try clear hi)))
            go_meet
            case rel => exact ⟨_,(t423),(by first | rfl | (simp;done) | (simp [*];done)),H',⟨by first | omega | exact Nat.le_refl _⟩,⟨by (with_reducible repeat (first | apply Kd.R_alloc | apply Kd.R_drewN | apply Kd.R_drew));exact Kd.R_mono HO403.out (fun _ hk => hk.2)⟩,⟨by (with_reducible repeat (first | apply Kd.R_alloc | apply Kd.R_drewN | apply Kd.R_drew));exact Kd.R_mono HO417.out (fun _ hk => hk.2)⟩,⟨by (with_reducible repeat (first | refine blk_drewN ?_ _ | refine blk_drew ?_ | refine blk_alloc ?_ _));exact BK408.out⟩,⟨by (with_reducible repeat (first | refine blk_drewN ?_ _ | refine blk_drew ?_ | refine blk_alloc ?_ _));exact BK422.out⟩,⟨by repeat (first | (with_reducible first | exact HB.out | apply below_alloc | apply pw_below_drewN | apply below_drew1 | refine below_set ?_ GE408.out | refine below_set ?_ GE422.out) | exact HB.out)⟩⟩
          · rw [if_neg c22] at H
            have c22b0 : ((t409.length : Int) == 28) = false:=beq_eq_false_iff_ne.mpr c22
            have c22b1 : ((t409.length : Int) != 28) = true:=bne_iff_ne.mpr c22
            have H':=Aside0.mk H
            clear H
            go_wp2
            go_meet
            case rel => exact ⟨_,(false),(by first | rfl | (simp;done) | (simp [*];done)),H',⟨by first | omega | exact Nat.le_refl _⟩,⟨by (with_reducible repeat (first | apply Kd.R_alloc | apply Kd.R_drewN | apply Kd.R_drew));exact Kd.R_mono (Kd.R_far (p:=⟨gb422,5,none⟩) (Kd.R_far (p:=⟨gb422,4,none⟩) (Kd.R_far (p:=⟨gb422,3,none⟩) (Kd.R_far (p:=⟨gb422,2,none⟩) (Kd.R_far (p:=⟨gb422,1,none⟩) (Kd.R_far (p:=⟨gb422,0,none⟩) (Kd.R_types HO403.out BK422.out (by decide)) (fun _ hk => hk.2) (.float .f64 t413)) (fun _ hk => hk.2) (.bool t414)) (fun _ hk => hk.2) (.slice Ao18 t415.length co18)) (fun _ hk => hk.2) (.int .i64 t418)) (fun _ hk => hk.2) (.int .i64 t419)) (fun _ hk => hk.2) (.int .i64 t420)) (fun _ hk => hk.1.2)⟩,⟨by (with_reducible repeat (first | apply Kd.R_alloc | apply Kd.R_drewN | apply Kd.R_drew));exact Kd.R_mono (Kd.R_far (p:=⟨gb422,5,none⟩) (Kd.R_far (p:=⟨gb422,4,none⟩) (Kd.R_far (p:=⟨gb422,3,none⟩) (Kd.R_far (p:=⟨gb422,2,none⟩) (Kd.R_far (p:=⟨gb422,1,none⟩) (Kd.R_far (p:=⟨gb422,0,none⟩) (Kd.R_types HO417.out BK422.out (by decide)) (fun _ hk => hk.2) (.float .f64 t413)) (fun _ hk => hk.2) (.bool t414)) (fun _ hk => hk.2) (.slice Ao18 t415.length co18)) (fun _ hk => hk.2) (.int .i64 t418)) (fun _ hk => hk.2) (.int .i64 t419)) (fun _ hk => hk.2) (.int .i64 t420)) (fun _ hk => hk.1.2)⟩,⟨by (with_reducible repeat (first | refine blk_drewN ?_ _ | refine blk_drew ?_ | refine blk_alloc ?_ _));refine blk_far ?_ NB408_422.out _;(with_reducible repeat (first | refine blk_drewN ?_ _ | refine blk_drew ?_ | refine blk_alloc ?_ _));refine blk_far ?_ NB408_422.out _;(with_reducible repeat (first | refine blk_drewN ?_ _ | refine blk_drew ?_ | refine blk_alloc ?_ _));refine blk_far ?_ NB408_422.out _;(with_reducible repeat (first | refine blk_drewN ?_ _ | refine blk_drew ?_ | refine blk_alloc ?_ _));refine blk_far ?_ NB408_422.out _;(with_reducible repeat (first | refine blk_drewN ?_ _ | refine blk_drew ?_ | refine blk_alloc ?_ _));refine blk_far ?_ NB408_422.out _;(with_reducible repeat (first | refine blk_drewN ?_ _ | refine blk_drew ?_ | refine blk_alloc ?_ _));refine blk_far ?_ NB408_422.out _;(with_reducible repeat (first | refine blk_drewN ?_ _ | refine blk_drew ?_ | refine blk_alloc ?_ _));exact BK408.out⟩,⟨by (with_reducible repeat (first | refine blk_drewN ?_ _ | refine blk_drew ?_ | refine blk_alloc ?_ _));refine blk_put (cs:=#[.float .f64 t413,.bool t414,.slice Ao18 t415.length co18,.int .i64 t418,.int .i64 t419,.int .i64 0]) ?_ 5 _ rfl;(with_reducible repeat (first | refine blk_drewN ?_ _ | refine blk_drew ?_ | refine blk_alloc ?_ _));refine blk_put (cs:=#[.float .f64 t413,.bool t414,.slice Ao18 t415.length co18,.int .i64 t418,.int .i64 0,.int .i64 0]) ?_ 4 _ rfl;(with_reducible repeat (first | refine blk_drewN ?_ _ | refine blk_drew ?_ | refine blk_alloc ?_ _));refine blk_put (cs:=#[.float .f64 t413,.bool t414,.slice Ao18 t415.length co18,.int .i64 0,.int .i64 0,.int .i64 0]) ?_ 3 _ rfl;(with_reducible repeat (first | refine blk_drewN ?_ _ | refine blk_drew ?_ | refine blk_alloc ?_ _));refine blk_put (cs:=#[.float .f64 t413,.bool t414,.slice none 0 0,.int .i64 0,.int .i64 0,.int .i64 0]) ?_ 2 _ rfl;(with_reducible repeat (first | refine blk_drewN ?_ _ | refine blk_drew ?_ | refine blk_alloc ?_ _));refine blk_put (cs:=#[.float .f64 t413,.bool false,.slice none 0 0,.int .i64 0,.int .i64 0,.int .i64 0]) ?_ 1 _ rfl;(with_reducible repeat (first | refine blk_drewN ?_ _ | refine blk_drew ?_ | refine blk_alloc ?_ _));refine blk_put (cs:=#[.float .f64 0,.bool false,.slice none 0 0,.int .i64 0,.int .i64 0,.int .i64 0]) ?_ 0 _ rfl;(with_reducible repeat (first | refine blk_drewN ?_ _ | refine blk_drew ?_ | refine blk_alloc ?_ _));exact BK422.out⟩,⟨by repeat (first | (with_reducible first | exact HB.out | apply below_alloc | apply pw_below_drewN | apply below_drew1 | refine below_set ?_ GE408.out | refine below_set ?_ GE422.out) | exact HB.out)⟩⟩
        · rw [if_neg c21] at H
          have c21b0 : (t421 == 0) = false:=beq_eq_false_iff_ne.mpr c21
          have c21b1 : (t421 != 0) = true:=bne_iff_ne.mpr c21
          have H':=Aside0.mk H
          clear H
          go_wp2
          go_meet
          case rel => exact ⟨_,(false),(by first | rfl | (simp;done) | (simp [*];done)),H',⟨by first | omega | exact Nat.le_refl _⟩,⟨by (with_reducible repeat (first | apply Kd.R_alloc | apply Kd.R_drewN | apply Kd.R_drew));exact Kd.R_mono (Kd.R_far (p:=⟨gb422,5,none⟩) (Kd.R_far (p:=⟨gb422,4,none⟩) (Kd.R_far (p:=⟨gb422,3,none⟩) (Kd.R_far (p:=⟨gb422,2,none⟩) (Kd.R_far (p:=⟨gb422,1,none⟩) (Kd.R_far (p:=⟨gb422,0,none⟩) (Kd.R_types HO403.out BK422.out (by decide)) (fun _ hk => hk.2) (.float .f64 t413)) (fun _ hk => hk.2) (.bool t414)) (fun _ hk => hk.2) (.slice Ao18 t415.length co18)) (fun _ hk => hk.2) (.int .i64 t418)) (fun _ hk => hk.2) (.int .i64 t419)) (fun _ hk => hk.2) (.int .i64 t420)) (fun _ hk => hk.1.2)⟩,⟨by (with_reducible repeat (first | apply Kd.R_alloc | apply Kd.R_drewN | apply Kd.R_drew));exact Kd.R_mono (Kd.R_far (p:=⟨gb422,5,none⟩) (Kd.R_far (p:=⟨gb422,4,none⟩) (Kd.R_far (p:=⟨gb422,3,none⟩) (Kd.R_far (p:=⟨gb422,2,none⟩) (Kd.R_far (p:=⟨gb422,1,none⟩) (Kd.R_far (p:=⟨gb422,0,none⟩) (Kd.R_types HO417.out BK422.out (by decide)) (fun _ hk => hk.2) (.float .f64 t413)) (fun _ hk => hk.2) (.bool t414)) (fun _ hk => hk.2) (.slice Ao18 t415.length co18)) (fun _ hk => hk.2) (.int .i64 t418)) (fun _ hk => hk.2) (.int .i64 t419)) (fun _ hk => hk.2) (.int .i64 t420)) (fun _ hk => hk.1.2)⟩,⟨by (with_reducible repeat (first | refine blk_drewN ?_ _ | refine blk_drew ?_ | refine blk_alloc ?_ _));refine blk_far ?_ NB408_422.out _;(with_reducible repeat (first | refine blk_drewN ?_ _ | refine blk_drew ?_ | refine blk_alloc ?_ _));refine blk_far ?_ NB408_422.out _;(with_reducible repeat (first | refine blk_drewN ?_ _ | refine blk_drew ?_ | refine blk_alloc ?_ _));refine blk_far ?_ NB408_422.out _;(with_reducible repeat (first | refine blk_drewN ?_ _ | refine blk_drew ?_ | refine blk_alloc ?_ _));refine blk_far ?_ NB408_422.out _;(with_reducible repeat (first | refine blk_drewN ?_ _ | refine blk_drew ?_ | refine blk_alloc ?_ _));refine blk_far ?_ NB408_422.out _;(with_reducible repeat (first | refine blk_drewN ?_ _ | refine blk_drew ?_ | refine blk_alloc ?_ _));refine blk_far ?_ NB408_422.out _;(with_reducible repeat (first | refine blk_drewN ?_ _ | refine blk_drew ?_ | refine blk_alloc ?_ _));exact BK408.out⟩,⟨by (with_reducible repeat (first | refine blk_drewN ?_ _ | refine blk_drew ?_ | refine blk_alloc ?_ _));refine blk_put (cs:=#[.float .f64 t413,.bool t414,.slice Ao18 t415.length co18,.int .i64 t418,.int .i64 t419,.int .i64 0]) ?_ 5 _ rfl;(with_reducible repeat (first | refine blk_drewN ?_ _ | refine blk_drew ?_ | refine blk_alloc ?_ _));refine blk_put (cs:=#[.float .f64 t413,.bool t414,.slice Ao18 t415.length co18,.int .i64 t418,.int .i64 0,.int .i64 0]) ?_ 4 _ rfl;(with_reducible repeat (first | refine blk_drewN ?_ _ | refine blk_drew ?_ | refine blk_alloc ?_ _));refine blk_put (cs:=#[.float .f64 t413,.bool t414,.slice Ao18 t415.length co18,.int .i64 0,.int .i64 0,.int .i64 0]) ?_ 3 _ rfl;(with_reducible repeat (first | refine blk_drewN ?_ _ | refine blk_drew ?_ | refine blk_alloc ?_ _));refine blk_put (cs:=#[.float .f64 t413,.bool t414,.slice none 0 0,.int .i64 0,.int .i64 0,.int .i64 0]) ?_ 2 _ rfl;(with_reducible repeat (first | refine blk_drewN ?_ _ | refine blk_drew ?_ | refine blk_alloc ?_ _));refine blk_put (cs:=#[.float .f64 t413,.bool false,.slice none 0 0,.int .i64 0,.int .i64 0,.int .i64 0]) ?_ 1 _ rfl;(with_reducible repeat (first | refine blk_drewN ?_ _ | refine blk_drew ?_ | refine blk_alloc ?_ _));refine blk_put (cs:=#[.float .f64 0,.bool false,.slice none 0 0,.int .i64 0,.int .i64 0,.int .i64 0]) ?_ 0 _ rfl;(with_reducible repeat (first | refine blk_drewN ?_ _ | refine blk_drew ?_ | refine blk_alloc ?_ _));exact BK422.out⟩,⟨by repeat (first | (with_reducible first | exact HB.out | apply below_alloc | apply pw_below_drewN | apply below_drew1 | refine below_set ?_ GE408.out | refine below_set ?_ GE422.out) | exact HB.out)⟩⟩
      · rw [if_neg c20] at H
        have c20b0 : (t412 == 0) = false:=beq_eq_false_iff_ne.mpr c20
        have c20b1 : (t412 != 0) = true:=bne_iff_ne.mpr c20
        have H':=Aside0.mk H
        clear H
        go_wp2
        go_meet
        case rel => exact ⟨_,(false),(by first | rfl | (simp;done) | (simp [*];done)),H',⟨by first | omega | exact Nat.le_refl _⟩,⟨by (with_reducible repeat (first | apply Kd.R_alloc | apply Kd.R_drewN | apply Kd.R_drew));exact Kd.R_mono (Kd.R_far (p:=⟨gb422,5,none⟩) (Kd.R_far (p:=⟨gb422,4,none⟩) (Kd.R_far (p:=⟨gb422,3,none⟩) (Kd.R_far (p:=⟨gb422,2,none⟩) (Kd.R_far (p:=⟨gb422,1,none⟩) (Kd.R_far (p:=⟨gb422,0,none⟩) (Kd.R_types HO403.out BK422.out (by decide)) (fun _ hk => hk.2) (.float .f64 t413)) (fun _ hk => hk.2) (.bool t414)) (fun _ hk => hk.2) (.slice Ao18 t415.length co18)) (fun _ hk => hk.2) (.int .i64 t418)) (fun _ hk => hk.2) (.int .i64 t419)) (fun _ hk => hk.2) (.int .i64 t420)) (fun _ hk => hk.1.2)⟩,⟨by (with_reducible repeat (first | apply Kd.R_alloc | apply Kd.R_drewN | apply Kd.R_drew));exact Kd.R_mono (Kd.R_far (p:=⟨gb422,5,none⟩) (Kd.R_far (p:=⟨gb422,4,none⟩) (Kd.R_far (p:=⟨gb422,3,none⟩) (Kd.R_far (p:=⟨gb422,2,none⟩) (Kd.R_far (p:=⟨gb422,1,none⟩) (Kd.R_far (p:=⟨gb422,0,none⟩) (Kd.R_types HO417.out BK422.out (by decide)) (fun _ hk => hk.2) (.float .f64 t413)) (fun _ hk => hk.2) (.bool t414)) (fun _ hk => hk.2) (.slice Ao18 t415.length co18)) (fun _ hk => hk.2) (.int .i64 t418)) (fun _ hk => hk.2) (.int .i64 t419)) (fun _ hk => hk.2) (.int .i64 t420)) (fun _ hk => hk.1.2)⟩,⟨by (with_reducible repeat (first | refine blk_drewN ?_ _ | refine blk_drew ?_ | refine blk_alloc ?_ _));refine blk_far ?_ NB408_422.out _;(with_reducible repeat (first | refine blk_drewN ?_ _ | refine blk_drew ?_ | refine blk_alloc ?_ _));refine blk_far ?_ NB408_422.out _;(with_reducible repeat (first | refine blk_drewN ?_ _ | refine blk_drew ?_ | refine blk_alloc ?_ _));refine blk_far ?_ NB408_422.out _;(with_reducible repeat (first | refine blk_drewN ?_ _ | refine blk_drew ?_ | refine blk_alloc ?_ _));refine blk_far ?_ NB408_422.out _;(with_reducible repeat (first | refine blk_drewN ?_ _ | refine blk_drew ?_ | refine blk_alloc ?_ _));refine blk_far ?_ NB408_422.out _;(with_reducible repeat (first | refine blk_drewN ?_ _ | refine blk_drew ?_ | refine blk_alloc ?_ _));refine blk_far ?_ NB408_422.out _;(with_reducible repeat (first | refine blk_drewN ?_ _ | refine blk_drew ?_ | refine blk_alloc ?_ _));exact BK408.out⟩,⟨by (with_reducible repeat (first | refine blk_drewN ?_ _ | refine blk_drew ?_ | refine blk_alloc ?_ _));refine blk_put (cs:=#[.float .f64 t413,.bool t414,.slice Ao18 t415.length co18,.int .i64 t418,.int .i64 t419,.int .i64 0]) ?_ 5 _ rfl;(with_reducible repeat (first | refine blk_drewN ?_ _ | refine blk_drew ?_ | refine blk_alloc ?_ _));refine blk_put (cs:=#[.float .f64 t413,.bool t414,.slice Ao18 t415.length co18,.int .i64 t418,.int .i64 0,.int .i64 0]) ?_ 4 _ rfl;(with_reducible repeat (first | refine blk_drewN ?_ _ | refine blk_drew ?_ | refine blk_alloc ?_ _));refine blk_put (cs:=#[.float .f64 t413,.bool t414,.slice Ao18 t415.length co18,.int .i64 0,.int .i64 0,.int .i64 0]) ?_ 3 _ rfl;(with_reducible repeat (first | refine blk_drewN ?_ _ | refine blk_drew ?_ | refine blk_alloc ?_ _));refine blk_put (cs:=#[.float .f64 t413,.bool t414,.slice none 0 0,.int .i64 0,.int .i64 0,.int .i64 0]) ?_ 2 _ rfl;(with_reducible repeat (first | refine blk_drewN ?_ _ | refine blk_drew ?_ | refine blk_alloc ?_ _));refine blk_put (cs:=#[.float .f64 t413,.bool false,.slice none 0 0,.int .i64 0,.int .i64 0,.int .i64 0]) ?_ 1 _ rfl;(with_reducible repeat (first | refine blk_drewN ?_ _ | refine blk_drew ?_ | refine blk_alloc ?_ _));refine blk_put (cs:=#[.float .f64 0,.bool false,.slice none 0 0,.int .i64 0,.int .i64 0,.int .i64 0]) ?_ 0 _ rfl;(with_reducible repeat (first | refine blk_drewN ?_ _ | refine blk_drew ?_ | refine blk_alloc ?_ _));exact BK422.out⟩,⟨by repeat (first | (with_reducible first | exact HB.out | apply below_alloc | apply pw_below_drewN | apply below_drew1 | refine below_set ?_ GE408.out | refine below_set ?_ GE422.out) | exact HB.out)⟩⟩
    · rw [if_neg c19] at H
      have c19b0 : (t407 == 0) = false:=beq_eq_false_iff_ne.mpr c19
      have c19b1 : (t407 != 0) = true:=bne_iff_ne.mpr c19
      (first | rw [c19b0] | (simp only [i64_w,i32_w];rw [c19b0]) | skip)
      have H':=Aside0.mk H
      clear H
      go_wp2
      go_meet
      case rel => exact ⟨_,(false),(by first | rfl | (simp;done) | (simp [*];done)),H',⟨by first | omega | exact Nat.le_refl _⟩,⟨by (with_reducible repeat (first | apply Kd.R_alloc | apply Kd.R_drewN | apply Kd.R_drew));exact Kd.R_mono (Kd.R_far (p:=⟨gb422,5,none⟩) (Kd.R_far (p:=⟨gb422,4,none⟩) (Kd.R_far (p:=⟨gb422,3,none⟩) (Kd.R_far (p:=⟨gb422,2,none⟩) (Kd.R_far (p:=⟨gb422,1,none⟩) (Kd.R_far (p:=⟨gb422,0,none⟩) (Kd.R_types HO403.out BK422.out (by decide)) (fun _ hk => hk.2) (.float .f64 t413)) (fun _ hk => hk.2) (.bool t414)) (fun _ hk => hk.2) (.slice Ao18 t415.length co18)) (fun _ hk => hk.2) (.int .i64 t418)) (fun _ hk => hk.2) (.int .i64 t419)) (fun _ hk => hk.2) (.int .i64 t420)) (fun _ hk => hk.1.2)⟩,⟨by (with_reducible repeat (first | apply Kd.R_alloc | apply Kd.R_drewN | apply Kd.R_drew));exact Kd.R_mono (Kd.R_far (p:=⟨gb422,5,none⟩) (Kd.R_far (p:=⟨gb422,4,none⟩) (Kd.R_far (p:=⟨gb422,3,none⟩) (Kd.R_far (p:=⟨gb422,2,none⟩) (Kd.R_far (p:=⟨gb422,1,none⟩) (Kd.R_far (p:=⟨gb422,0,none⟩) (Kd.R_types HO417.out BK422.out (by decide)) (fun _ hk => hk.2) (.float .f64 t413)) (fun _ hk => hk.2) (.bool t414)) (fun _ hk => hk.2) (.slice Ao18 t415.length co18)) (fun _ hk => hk.2) (.int .i64 t418)) (fun _ hk => hk.2) (.int .i64 t419)) (fun _ hk => hk.2) (.int .i64 t420)) (fun _ hk => hk.1.2)⟩,⟨by (with_reducible repeat (first | refine blk_drewN ?_ _ | refine blk_drew ?_ | refine blk_alloc ?_ _));refine blk_far ?_ NB408_422.out _;(with_reducible repeat (first | refine blk_drewN ?_ _ | refine blk_drew ?_ | refine blk_alloc ?_ _));refine blk_far ?_ NB408_422.out _;(with_reducible repeat (first | refine blk_drewN ?_ _ | refine blk_drew ?_ | refine blk_alloc ?_ _));refine blk_far ?_ NB408_422.out _;(with_reducible repeat (first | refine blk_drewN ?_ _ | refine blk_drew ?_ | refine blk_alloc ?_ _));refine blk_far ?_ NB408_422.out _;(with_reducible repeat (first | refine blk_drewN ?_ _ | refine blk_drew ?_ | refine blk_alloc ?_ _));refine blk_far ?_ NB408_422.out _;(with_reducible repeat (first | refine blk_drewN ?_ _ | refine blk_drew ?_ | refine blk_alloc ?_ _));refine blk_far ?_ NB408_422.out _;(with_reducible repeat (first | refine blk_drewN ?_ _ | refine blk_drew ?_ | refine blk_alloc ?_ _));exact BK408.out⟩,⟨by (with_reducible repeat (first | refine blk_drewN ?_ _ | refine blk_drew ?_ | refine blk_alloc ?_ _));refine blk_put (cs:=#[.float .f64 t413,.bool t414,.slice Ao18 t415.length co18,.int .i64 t418,.int .i64 t419,.int .i64 0]) ?_ 5 _ rfl;(with_reducible repeat (first | refine blk_drewN ?_ _ | refine blk_drew ?_ | refine blk_alloc ?_ _));refine blk_put (cs:=#[.float .f64 t413,.bool t414,.slice Ao18 t415.length co18,.int .i64 t418,.int .i64 0,.int .i64 0]) ?_ 4 _ rfl;(with_reducible repeat (first | refine blk_drewN ?_ _ | refine blk_drew ?_ | refine blk_alloc ?_ _));refine blk_put (cs:=#[.float .f64 t413,.bool t414,.slice Ao18 t415.length co18,.int .i64 0,.int .i64 0,.int .i64 0]) ?_ 3 _ rfl;(with_reducible repeat (first | refine blk_drewN ?_ _ | refine blk_drew ?_ | refine blk_alloc ?_ _));refine blk_put (cs:=#[.float .f64 t413,.bool t414,.slice none 0 0,.int .i64 0,.int .i64 0,.int .i64 0]) ?_ 2 _ rfl;(with_reducible repeat (first | refine blk_drewN ?_ _ | refine blk_drew ?_ | refine blk_alloc ?_ _));refine blk_put (cs:=#[.float .f64 t413,.bool false,.slice none 0 0,.int .i64 0,.int .i64 0,.int .i64 0]) ?_ 1 _ rfl;(with_reducible repeat (first | refine blk_drewN ?_ _ | refine blk_drew ?_ | refine blk_alloc ?_ _));refine blk_put (cs:=#[.float .f64 0,.bool false,.slice none 0 0,.int .i64 0,.int .i64 0,.int .i64 0]) ?_ 0 _ rfl;(with_reducible repeat (first | refine blk_drewN ?_ _ | refine blk_drew ?_ | refine blk_alloc ?_ _));exact BK422.out⟩,⟨by repeat (first | (with_reducible first | exact HB.out | apply below_alloc | apply pw_below_drewN | apply below_drew1 | refine below_set ?_ GE408.out | refine below_set ?_ GE422.out) | exact HB.out)⟩⟩
  case rest =>
    clear HC4
    try clear c1
    try clear c2
    try clear p2
    try clear c3
    try clear c16
    try clear c19
    try clear c19b0
    try clear c19b1
    try clear c20
    try clear c20b0
    try clear c20b1
    try clear c21
    try clear c21b0
    try clear c21b1
    try clear c22
    try clear c22b0
    try clear c22b1
    try clear c24
    try clear hcz10_0
    try clear hcz10_1
    try clear hcz10_2
    try clear hcz10_3
    try clear hcz10_4
    try clear hcz10_5
    try clear hcz17_0
    try clear hcz17_1
    try clear hcz17_2
    try clear hcz17_3
    try clear hcz17_4
    try clear hcz17_5
    try clear hcz25_0
    try clear hcz25_1
    try clear hcz25_2
    try clear hcz25_3
    try clear hcz25_4
    try clear hcz25_5
    try clear hcz26_0
    try clear hcz26_1
    try clear hcz26_2
    try clear hcz26_3
    try clear hcz26_4
    try clear hcz26_5
    try clear hfz10_0
    try clear hfz10_1
    try clear hfz10_2
    try clear hfz10_3
    try clear hfz10_4
    try clear hfz10_5
    try clear hfz17_0
    try clear hfz17_1
    try clear hfz17_2
    try clear hfz17_3
    try clear hfz17_4
    try clear hfz17_5
    try clear hfz25_0
    try clear hfz25_1
    try clear hfz25_2
    try clear hfz25_3
    try clear hfz25_4
    try clear hfz25_5
    try clear hfz26_0
    try clear hfz26_1
    try clear hfz26_2
    try clear hfz26_3
    try clear hfz26_4
    try clear hfz26_5
    obtain ⟨kq,x0_3,rfl,HA,HJ3,HO_409002,HO_423002,BK408,BK422,HB⟩:=hcut
    cases kq with
    | zero => exact absurd HA.out (by simp [humuslaw04_awake.j0])
    | succ kj3 =>
      have H:=HA.out
      clear HA
      simp only [humuslaw04_awake.j0] at H
      obtain rfl:=Option.some.inj H
      go_wp2
      go_ret
      exact ⟨by first | rfl | (simp [errW_none,errW_some] <;> rfl) | (simp [*,errW_none,errW_some] <;> rfl),by repeat (first | (with_reducible first | exact HB.out | apply below_alloc | apply pw_below_drewN | apply below_drew1 | refine below_set ?_ GE408.out | refine below_set ?_ GE422.out) | exact HB.out)⟩
end Go.Proofs.Ytdcllbhkjcdnoaa.P
namespace Go.Proofs.Ytdcllbhkjcdnoaa.P
open Go.RowKit Go.Proofs.YtdcllbhkjcdnoaaW.PrintWords Go.Proofs.YtdcllbhkjcdnoaaW.PrintLast Go.Proofs.YtdcllbhkjcdnoaaW.PrintMore
attribute [local go_sem] max2_int min2_int max_two min_two max_three min_three max_four min_four   -- for this text's walks alone
attribute [local go_sem] run_store_float
set_option linter.unusedVariables false
set_option linter.unusedSimpArgs false
mutual
def humusref04_May.j0 : Nat → Bool → Nat → Bool → List Nat → Int → Int → Int → Option (Bool)
  | 0,_,_,_,_,_,_,_ => none
  | k + 1,x26,x202000,x202001,x202002,x202003,x202004,x202005 => if x26 = true then (some false) else (humusref04_May.l0 k 0 x202000 x202001 x202002 x202003 x202004 x202005)
def humusref04_May.l0 : Nat → Int → Nat → Bool → List Nat → Int → Int → Int → Option (Bool)
  | 0,_,_,_,_,_,_,_ => none
  | k + 1,x3,x202000,x202001,x202002,x202003,x202004,x202005 => if x3 < (x202002.length : Int) then (if 0 ≤ x3 then ((humusref01_Value.f (rdF x202002 x3)).bind fun t205 => (if (rdF x202002 x3 : Int) = t205 then (humusref04_May.l0 k (wrap64 (x3 + 1)) x202000 x202001 x202002 x202003 x202004 x202005) else (some false))) else (none)) else (if x202003 ≥ 0 then (if x202003 < 2147483648 then (if x202004 ≥ 0 then (if x202004 < 65536 then (if x202005 ≥ 0 then (if x202005 < 2147483648 then (if x202004 > 0 then (some true) else (some (x202005 == 0))) else (some false)) else (some false)) else (some false)) else (some false)) else (some false)) else (some false))
end
def humusref04_May.f (k : Nat) (a0_0 : Nat) (a0_1 : Bool) (l0_2 : List Nat) (a0_3 : Int) (a0_4 : Int) (a0_5 : Int) : Option (Bool):=(humusref01_Key.f a0_0).bind fun t202 => (if (a0_0 : Int) = t202 then (if (l0_2.length : Int) > 4 then (humusref04_May.j0 k true a0_0 a0_1 l0_2 a0_3 a0_4 a0_5) else (if a0_1 = true then (humusref04_May.j0 k (decide ((l0_2.length : Int) > 0)) a0_0 a0_1 l0_2 a0_3 a0_4 a0_5) else (humusref04_May.j0 k false a0_0 a0_1 l0_2 a0_3 a0_4 a0_5))) else (humusref04_May.j0 k true a0_0 a0_1 l0_2 a0_3 a0_4 a0_5))
def humusref04_May.T1 : Bool × List (List Nat × List Nat):=(true,[([],[]),([0],[0]),([1],[1]),([],[]),([3],[3]),([4,2],[4]),([2,5],[2,5]),([6,5],[6]),([7],[7]),([8,7],[7,8]),([9,7],[7,9]),([10,7],[7,10]),([7,11],[7,11]),([12,7],[12]),([13],[13]),([14,13],[13,14]),([15,13,13],[13,15]),([16],[16]),([17,16],[16,17]),([18,16],[16,18]),([19,16],[16,19]),([16,20,13],[13,16,20]),([13,21],[13,21])])
def humusref04_May.B1 : List Nat:=[0,1,3,0,8,31,63,127,255,511,1023,2047,4095,8191,16383,32767,65535,131071,262143,524287,1048575,2097151,4194303]
theorem humusref04_May.tab1 : rtab .any (opsOf Try.f34 1) = humusref04_May.T1:=by kernel_rfl
theorem humusref04_May.bits1 : waitsOk humusref04_May.T1.2 humusref04_May.B1 = true:=by kernel_rfl
def humusref04_May.T6 : Bool × List (List Nat × List Nat):=(true,[([],[]),([0],[0]),([],[]),([1,2],[1,2]),([3],[3]),([4],[4]),([],[]),([6],[6]),([],[]),([7,8],[7,8]),([9],[9]),([10,5],[10]),([5,11],[5,11])])
def humusref04_May.B6 : List Nat:=[0,1,0,7,15,31,0,64,0,448,960,2047,4095]
theorem humusref04_May.tab6 : rtab .any (opsOf Try.f34 6) = humusref04_May.T6:=by kernel_rfl
theorem humusref04_May.bits6 : waitsOk humusref04_May.T6.2 humusref04_May.B6 = true:=by kernel_rfl
set_option maxHeartbeats 8000000 in
set_option maxRecDepth 100000 in
theorem humusref04_May.calls (k : Nat) (a0_0 : Nat) (a0_1 : Bool) (A0_2 : Option Addr) (c0_2 : Nat) (l0_2 : List Nat) (a0_3 : Int) (a0_4 : Int) (a0_5 : Int) (r : Bool) (w : World) (hr0_2 : Kd.C Kd.f64 w A0_2 l0_2.length l0_2) (hc0_2 : l0_2.length ≤ c0_2) (h : humusref04_May.f k a0_0 a0_1 l0_2 a0_3 a0_4 a0_5 = some r) :
    Calls Try.prog 34 #[.agg #[.float .f64 a0_0,.bool a0_1,.slice A0_2 l0_2.length c0_2,.int .i64 a0_3,.int .i64 a0_4,.int .i64 a0_5]] w fun e w' => e = .returned (.bool r) ∧ Below w.heap.size w w':=by
  have hu30:=Try.underlying30
  have HR0_2:=Aside0.mk hr0_2
  have HC0_2:=Aside0.mk hc0_2
  clear hr0_2 hc0_2
  have HB:=Aside0.mk (Below.refl w.heap.size w)
  have H : ((humusref01_Key.f a0_0).bind fun t202 => (if (a0_0 : Int) = t202 then (if (l0_2.length : Int) > 4 then (humusref04_May.j0 k true a0_0 a0_1 l0_2 a0_3 a0_4 a0_5) else (if a0_1 = true then (humusref04_May.j0 k (decide ((l0_2.length : Int) > 0)) a0_0 a0_1 l0_2 a0_3 a0_4 a0_5) else (humusref04_May.j0 k false a0_0 a0_1 l0_2 a0_3 a0_4 a0_5))) else (humusref04_May.j0 k true a0_0 a0_1 l0_2 a0_3 a0_4 a0_5))) = some r:=h
  clear h
  have HC2:=Aside0.mk H
  clear H
  go_enter Try.func34,Try.ntmps34
  go_upto_region 1 with (first | ((with_reducible refine gate_dst (N:=1) rfl ?_);(try (refine gate_guard (by rfl) ?_;dsimp only));refine box_event ?hg (N:=1) ?hd (cs:=#[.float .f64 a0_0,.bool a0_1,.slice A0_2 l0_2.length c0_2,.int .i64 a0_3,.int .i64 a0_4,.int .i64 a0_5]) (t:=30) ?hr ?_;(case hd => rfl);(case hg => rfl);(case hr => first | (go_simp;done) | (go_simp;rfl));intro gb201 hg w3 hbox hb;have n0_:=Aside0.mk (below_step (by repeat (first | (with_reducible first | exact HB.out | apply below_alloc | apply pw_below_drewN | apply below_drew1) | exact HB.out)) hb);have n1_:=Aside0.mk (hbox);have n2_:=Aside0.mk ((by rw [hg];exact (below_size (by repeat (first | (with_reducible first | exact HB.out | apply below_alloc | apply pw_below_drewN | apply below_drew1) | exact HB.out))) : w.heap.size ≤ gb201));have n3_:=Aside0.mk ((by rw [hg];exact (below_size (by repeat (first | (with_reducible first | exact HB.out | apply below_alloc | apply pw_below_drewN | apply below_drew1) | exact HB.out))) : w.heap.size ≤ gb201));clear HB;have HB:=n0_;have BK201:=n1_;have GW201:=n2_;have GE201:=n3_;clear n0_ n1_ n2_ n3_;clear hb hbox hg))
  (try simp only [Act.put,List.setIfInBounds_toArray,List.set_cons_zero,List.set_cons_succ])
  go_cut [26] (fun v26 wc => ∃ (kq : Nat) (x26_1 : Bool),v26 = .bool x26_1 ∧ Aside0 (humusref04_May.j0 kq x26_1 a0_0 a0_1 l0_2 a0_3 a0_4 a0_5 = some r) ∧ Aside0 (kq ≤ k) ∧ Aside0 (wc.heap[gb201]? = some (.cells #[.float .f64 a0_0,.bool a0_1,(.slice A0_2 l0_2.length c0_2),.int .i64 a0_3,.int .i64 a0_4,.int .i64 a0_5] 30 (0,0))) ∧ Aside0 (Below w.heap.size w wc))
  case first =>
    have H:=HC2.out
    clear HC2
    replace H:=Option.bind_eq_some_iff.mp H
    obtain ⟨t202,A40,H⟩:=H
    replace H : (if (a0_0 : Int) = t202 then (if (l0_2.length : Int) > 4 then (humusref04_May.j0 k true a0_0 a0_1 l0_2 a0_3 a0_4 a0_5) else (if a0_1 = true then (humusref04_May.j0 k (decide ((l0_2.length : Int) > 0)) a0_0 a0_1 l0_2 a0_3 a0_4 a0_5) else (humusref04_May.j0 k false a0_0 a0_1 l0_2 a0_3 a0_4 a0_5))) else (humusref04_May.j0 k true a0_0 a0_1 l0_2 a0_3 a0_4 a0_5)) = some r:=H
    have A4:=Aside0.mk A40
    clear A40
    by_cases c5 : (a0_0 : Int) = t202
    · rw [if_pos c5] at H
      have c5b0 : ((a0_0 : Int) == t202) = true:=beq_iff_eq.mpr c5
      have c5b1 : ((a0_0 : Int) != t202) = false:=bne_eq_false_iff_eq.mpr c5
      clear c5
      (first | rw [c5b0] | (simp only [i64_w,i32_w];rw [c5b0]) | skip)
      by_cases c6 : (l0_2.length : Int) > 4
      · rw [if_pos c6] at H
        have c6b0 : decide (4 < (l0_2.length : Int)) = true:=decide_eq_true c6
        have c6b1 : decide (4 < l0_2.length) = true:=decide_eq_true (by omega)
        clear c6
        have H':=Aside0.mk H
        clear H
        try go_wp2
        have n0_:=Aside0.mk (blk_drew BK201.out)
        have n1_:=Aside0.mk (below_drew1 HB.out)
        clear BK201
        clear HB
        have BK201:=n0_
        have HB:=n1_
        clear n0_ n1_
        refine start_ (n:=23) (S:=fun w' => w'.cell? ⟨gb201,0,none⟩ = some (.float .f64 a0_0) ∧ w'.cell? ⟨gb201,1,none⟩ = some (.bool a0_1) ∧ w'.cell? ⟨gb201,2,none⟩ = some (.slice A0_2 l0_2.length c0_2) ∧ w'.cell? ⟨gb201,3,none⟩ = some (.int .i64 a0_3) ∧ w'.cell? ⟨gb201,4,none⟩ = some (.int .i64 a0_4) ∧ w'.cell? ⟨gb201,5,none⟩ = some (.int .i64 a0_5)) (ds:=[]) #[false,false,false,false,false,false,false,false,false,false,false,false,false,false,false,false,false,false,false,false,false,false,false] (by kernel_rfl) rfl rfl ⟨(blk_cell BK201.out 0).trans rfl,(blk_cell BK201.out 1).trans rfl,(blk_cell BK201.out 2).trans rfl,(blk_cell BK201.out 3).trans rfl,(blk_cell BK201.out 4).trans rfl,(blk_cell BK201.out 5).trans rfl⟩ (fun hHeld => ?_);refine with_tabW humusref04_May.tab1 humusref04_May.bits1 (fun HT_ HW_ => ?_)
        generalize w3.drew = w7 at BK201 HB hHeld ⊢
        refine pure_ (i:=0) (N:=some 4) (v:=?_) (a':=?_) #[true,false,false,false,false,false,false,false,false,false,false,false,false,false,false,false,false,false,false,false,false,false,false] rfl rfl (any_of HT_.out (by kernel_rfl)) (fun _ _ _ h => h) (Or.inl ⟨by rfl,?_⟩) ?_ ?_
        rotate_left
        · intro w'
          go_simp
          with_reducible rfl
        rotate_left
        · simp only [Act.put,List.setIfInBounds_toArray,List.set_cons_zero,List.set_cons_succ,i64_w,i32_w]
          rfl
        refine pure_ (i:=3) (N:=some 7) (v:=?_) (a':=?_) #[true,false,false,true,false,false,false,false,false,false,false,false,false,false,false,false,false,false,false,false,false,false,false] rfl rfl (any_of HT_.out (by kernel_rfl)) (fun _ _ _ h => h) (Or.inl ⟨by rfl,?_⟩) ?_ ?_
        rotate_left
        · intro w'
          go_simp
          with_reducible rfl
        rotate_left
        · simp only [Act.put,List.setIfInBounds_toArray,List.set_cons_zero,List.set_cons_succ,i64_w,i32_w]
          rfl
        refine take_ (i:=1) (N:=some 5) (v:=?_) (a':=?_) #[true,true,false,true,false,false,false,false,false,false,false,false,false,false,false,false,false,false,false,false,false,false,false] rfl rfl (take_ofW HT_.out HW_.out (by kernel_rfl)) (fun _ _ _ h => h) (Or.inl ⟨by rfl,?_⟩) hHeld ?_ ?_
        rotate_left
        · rintro w' ⟨s0,s1,s2,s3,s4,s5⟩
          go_simp
          with_reducible rfl
        rotate_left
        · simp only [Act.put,List.setIfInBounds_toArray,List.set_cons_zero,List.set_cons_succ,i64_w,i32_w]
          rfl
        refine take_ (i:=4) (N:=some 8) (v:=?_) (a':=?_) #[true,true,false,true,true,false,false,false,false,false,false,false,false,false,false,false,false,false,false,false,false,false,false] rfl rfl (take_ofW HT_.out HW_.out (by kernel_rfl)) (fun _ _ _ h => h) (Or.inl ⟨by rfl,?_⟩) hHeld ?_ ?_
        rotate_left
        · rintro w' ⟨s0,s1,s2,s3,s4,s5⟩
          go_simp
          with_reducible rfl
        rotate_left
        · simp only [Act.put,List.setIfInBounds_toArray,List.set_cons_zero,List.set_cons_succ,i64_w,i32_w]
          rfl
        refine one_ (i:=2) (N:=some 6) #[true,true,true,true,true,false,false,false,false,false,false,false,false,false,false,false,false,false,false,false,false,false,false] rfl rfl (one_of HT_.out (by kernel_rfl)) (by decide) (fun K hK => ?_)
        skip
        refine value_ (w1:=?_) (v:=?_) (by rfl) rfl ?_ ?_
        rotate_left 2
        · go_simp
          constructor
          · rfl
          · rfl
        skip
        refine hK.out _ _ ⟨(blk_cell BK201.out 0).trans rfl,(blk_cell BK201.out 1).trans rfl,(blk_cell BK201.out 2).trans rfl,(blk_cell BK201.out 3).trans rfl,(blk_cell BK201.out 4).trans rfl,(blk_cell BK201.out 5).trans rfl⟩ (fun hHeld => ?_)
        clear hK K
        refine norm_ (a':=?_) ?_ ?_
        rotate_left
        · show Act.put _ (some 6) _ = _
          simp only [Act.put,List.setIfInBounds_toArray,List.set_cons_zero,List.set_cons_succ,i64_w,i32_w]
          rfl
        refine one_ (i:=5) (N:=some 9) #[true,true,true,true,true,true,false,false,false,false,false,false,false,false,false,false,false,false,false,false,false,false,false] rfl rfl (one_of HT_.out (by kernel_rfl)) (by decide) (fun K hK => ?_)
        refine goes_ Try.func71 (by kernel_rfl) rfl #[.float .f64 a0_0] (by rfl) rfl rfl (by (try simp only [List.map_toArray,List.map_cons,List.map_nil]);first | done | rfl | (simp only [List.length_drop,List.length_take];rfl)) ?_
        with_reducible refine (humusref01_Key.calls a0_0 t202 _ A4.out).mono ?_
        rintro e w' ⟨rfl,⟨nd,rfl⟩⟩
        refine ⟨_,rfl,?_⟩
        refine hK.out _ _ ⟨(blk_cell BK201.out 0).trans rfl,(blk_cell BK201.out 1).trans rfl,(blk_cell BK201.out 2).trans rfl,(blk_cell BK201.out 3).trans rfl,(blk_cell BK201.out 4).trans rfl,(blk_cell BK201.out 5).trans rfl⟩ (fun hHeld => ?_)
        clear hK K
        refine norm_ (a':=?_) ?_ ?_
        rotate_left
        · show Act.put _ (some 9) _ = _
          simp only [Act.put,List.setIfInBounds_toArray,List.set_cons_zero,List.set_cons_succ,i64_w,i32_w]
          rfl
        refine pure_ (i:=6) (N:=some 10) (v:=?_) (a':=?_) #[true,true,true,true,true,true,true,false,false,false,false,false,false,false,false,false,false,false,false,false,false,false,false] rfl rfl (any_of HT_.out (by kernel_rfl)) (fun _ _ _ h => h) (Or.inl ⟨by rfl,?_⟩) ?_ ?_
        rotate_left
        · intro w'
          go_simp
          with_reducible rfl
        rotate_left
        · simp only [Act.put,List.setIfInBounds_toArray,List.set_cons_zero,List.set_cons_succ,i64_w,i32_w]
          rfl
        refine pure_ (i:=7) (N:=some 11) (v:=?_) (a':=?_) #[true,true,true,true,true,true,true,true,false,false,false,false,false,false,false,false,false,false,false,false,false,false,false] rfl rfl (any_of HT_.out (by kernel_rfl)) (fun _ _ _ h => h) (Or.inl ⟨by rfl,?_⟩) ?_ ?_
        rotate_left
        · intro w'
          go_simp
          with_reducible rfl
        rotate_left
        · simp only [Act.put,List.setIfInBounds_toArray,List.set_cons_zero,List.set_cons_succ,i64_w,i32_w]
          rfl
        refine pure_ (i:=8) (N:=some 12) (v:=?_) (a':=?_) #[true,true,true,true,true,true,true,true,true,false,false,false,false,false,false,false,false,false,false,false,false,false,false] rfl rfl (any_of HT_.out (by kernel_rfl)) (fun _ _ _ h => h) (Or.inl ⟨by rfl,?_⟩) ?_ ?_
        rotate_left
        · intro w'
          go_simp
          with_reducible rfl
        rotate_left
        · simp only [Act.put,List.setIfInBounds_toArray,List.set_cons_zero,List.set_cons_succ,i64_w,i32_w]
          rfl
        refine take_ (i:=9) (N:=some 13) (v:=?_) (a':=?_) #[true,true,true,true,true,true,true,true,true,true,false,false,false,false,false,false,false,false,false,false,false,false,false] rfl rfl (take_ofW HT_.out HW_.out (by kernel_rfl)) (fun _ _ _ h => h) (Or.inl ⟨by rfl,?_⟩) hHeld ?_ ?_
        rotate_left
        · rintro w' ⟨s0,s1,s2,s3,s4,s5⟩
          go_simp
          with_reducible rfl
        rotate_left
        · simp only [Act.put,List.setIfInBounds_toArray,List.set_cons_zero,List.set_cons_succ,i64_w,i32_w]
          rfl
        refine pure_ (i:=10) (N:=some 14) (v:=?_) (a':=?_) #[true,true,true,true,true,true,true,true,true,true,true,false,false,false,false,false,false,false,false,false,false,false,false] rfl rfl (any_of HT_.out (by kernel_rfl)) (fun _ _ _ h => h) (Or.inl ⟨by rfl,?_⟩) ?_ ?_
        rotate_left
        · intro w'
          go_simp
          with_reducible rfl
        rotate_left
        · simp only [Act.put,List.setIfInBounds_toArray,List.set_cons_zero,List.set_cons_succ,i64_w,i32_w]
          rfl
        refine pure_ (i:=11) (N:=some 15) (v:=?_) (a':=?_) #[true,true,true,true,true,true,true,true,true,true,true,true,false,false,false,false,false,false,false,false,false,false,false] rfl rfl (any_of HT_.out (by kernel_rfl)) (fun _ _ _ h => h) (Or.inl ⟨by rfl,?_⟩) ?_ ?_
        rotate_left
        · intro w'
          go_simp
          with_reducible rfl
        rotate_left
        · simp only [Act.put,List.setIfInBounds_toArray,List.set_cons_zero,List.set_cons_succ,i64_w,i32_w]
          rfl
        refine pure_ (i:=12) (N:=some 16) (v:=?_) (a':=?_) #[true,true,true,true,true,true,true,true,true,true,true,true,true,false,false,false,false,false,false,false,false,false,false] rfl rfl (any_of HT_.out (by kernel_rfl)) (fun _ _ _ h => h) (Or.inl ⟨by rfl,?_⟩) ?_ ?_
        rotate_left
        · intro w'
          go_simp
          with_reducible rfl
        rotate_left
        · simp only [Act.put,List.setIfInBounds_toArray,List.set_cons_zero,List.set_cons_succ,i64_w,i32_w]
          rfl
        refine pure_ (i:=13) (N:=some 17) (v:=?_) (a':=?_) #[true,true,true,true,true,true,true,true,true,true,true,true,true,true,false,false,false,false,false,false,false,false,false] rfl rfl (any_of HT_.out (by kernel_rfl)) (fun _ _ _ h => h) (Or.inl ⟨by rfl,?_⟩) ?_ ?_
        rotate_left
        · intro w'
          go_simp
          with_reducible rfl
        rotate_left
        · simp only [Act.put,List.setIfInBounds_toArray,List.set_cons_zero,List.set_cons_succ,i64_w,i32_w]
          rfl
        refine pure_ (i:=14) (N:=some 18) (v:=undef) (a':=?_) #[true,true,true,true,true,true,true,true,true,true,true,true,true,true,true,false,false,false,false,false,false,false,false] rfl rfl (any_of HT_.out (by kernel_rfl)) (fun _ _ _ h => h) (Or.inr ⟨by rfl,rfl⟩) ?_ ?_
        rotate_left
        · simp only [Act.put,List.setIfInBounds_toArray,List.set_cons_zero,List.set_cons_succ,i64_w,i32_w]
          rfl
        refine pure_ (i:=15) (N:=some 19) (v:=undef) (a':=?_) #[true,true,true,true,true,true,true,true,true,true,true,true,true,true,true,true,false,false,false,false,false,false,false] rfl rfl (any_of HT_.out (by kernel_rfl)) (fun _ _ _ h => h) (Or.inr ⟨by rfl,rfl⟩) ?_ ?_
        rotate_left
        · simp only [Act.put,List.setIfInBounds_toArray,List.set_cons_zero,List.set_cons_succ,i64_w,i32_w]
          rfl
        refine pure_ (i:=16) (N:=some 20) (v:=undef) (a':=?_) #[true,true,true,true,true,true,true,true,true,true,true,true,true,true,true,true,true,false,false,false,false,false,false] rfl rfl (any_of HT_.out (by kernel_rfl)) (fun _ _ _ h => h) (Or.inr ⟨by rfl,rfl⟩) ?_ ?_
        rotate_left
        · simp only [Act.put,List.setIfInBounds_toArray,List.set_cons_zero,List.set_cons_succ,i64_w,i32_w]
          rfl
        refine pure_ (i:=17) (N:=some 21) (v:=undef) (a':=?_) #[true,true,true,true,true,true,true,true,true,true,true,true,true,true,true,true,true,true,false,false,false,false,false] rfl rfl (any_of HT_.out (by kernel_rfl)) (fun _ _ _ h => h) (Or.inr ⟨by rfl,rfl⟩) ?_ ?_
        rotate_left
        · simp only [Act.put,List.setIfInBounds_toArray,List.set_cons_zero,List.set_cons_succ,i64_w,i32_w]
          rfl
        refine pure_ (i:=18) (N:=some 22) (v:=undef) (a':=?_) #[true,true,true,true,true,true,true,true,true,true,true,true,true,true,true,true,true,true,true,false,false,false,false] rfl rfl (any_of HT_.out (by kernel_rfl)) (fun _ _ _ h => h) (Or.inr ⟨by rfl,rfl⟩) ?_ ?_
        rotate_left
        · simp only [Act.put,List.setIfInBounds_toArray,List.set_cons_zero,List.set_cons_succ,i64_w,i32_w]
          rfl
        refine pure_ (i:=19) (N:=some 23) (v:=undef) (a':=?_) #[true,true,true,true,true,true,true,true,true,true,true,true,true,true,true,true,true,true,true,true,false,false,false] rfl rfl (any_of HT_.out (by kernel_rfl)) (fun _ _ _ h => h) (Or.inr ⟨by rfl,rfl⟩) ?_ ?_
        rotate_left
        · simp only [Act.put,List.setIfInBounds_toArray,List.set_cons_zero,List.set_cons_succ,i64_w,i32_w]
          rfl
        refine pure_ (i:=20) (N:=some 24) (v:=undef) (a':=?_) #[true,true,true,true,true,true,true,true,true,true,true,true,true,true,true,true,true,true,true,true,true,false,false] rfl rfl (any_of HT_.out (by kernel_rfl)) (fun _ _ _ h => h) (Or.inr ⟨by rfl,rfl⟩) ?_ ?_
        rotate_left
        · simp only [Act.put,List.setIfInBounds_toArray,List.set_cons_zero,List.set_cons_succ,i64_w,i32_w]
          rfl
        refine pure_ (i:=21) (N:=some 25) (v:=undef) (a':=?_) #[true,true,true,true,true,true,true,true,true,true,true,true,true,true,true,true,true,true,true,true,true,true,false] rfl rfl (any_of HT_.out (by kernel_rfl)) (fun _ _ _ h => h) (Or.inr ⟨by rfl,rfl⟩) ?_ ?_
        rotate_left
        · simp only [Act.put,List.setIfInBounds_toArray,List.set_cons_zero,List.set_cons_succ,i64_w,i32_w]
          rfl
        refine pure_ (i:=22) (N:=some 26) (v:=?_) (a':=?_) #[true,true,true,true,true,true,true,true,true,true,true,true,true,true,true,true,true,true,true,true,true,true,true] rfl rfl (any_of HT_.out (by kernel_rfl)) (fun _ _ _ h => h) (Or.inl ⟨by rfl,?_⟩) ?_ ?_
        rotate_left
        · intro w'
          go_simp
          with_reducible rfl
        rotate_left
        · simp only [Act.put,List.setIfInBounds_toArray,List.set_cons_zero,List.set_cons_succ,i64_w,i32_w]
          rfl
        refine done_ (done_of HT_.out (by kernel_rfl)) ?_
        try go_wp2
        go_meet
        case rel => exact ⟨_,(true),(by first | rfl | (simp;done) | (simp [*];done)),H',⟨by first | omega | exact Nat.le_refl _⟩,⟨by (with_reducible repeat (first | refine blk_drewN ?_ _ | refine blk_drew ?_ | refine blk_alloc ?_ _));exact BK201.out⟩,⟨by repeat (first | (with_reducible first | exact HB.out | apply below_alloc | apply pw_below_drewN | apply below_drew1 | refine below_set ?_ GE201.out) | exact HB.out)⟩⟩
      · rw [if_neg c6] at H
        have c6b0 : decide (4 < (l0_2.length : Int)) = false:=decide_eq_false c6
        have c6b1 : decide (4 < l0_2.length) = false:=decide_eq_false (by omega)
        clear c6
        by_cases c8 : a0_1 = true
        · subst c8
          have H1 : (humusref04_May.j0 k (decide ((l0_2.length : Int) > 0)) a0_0 true l0_2 a0_3 a0_4 a0_5) = some r:=by rw [if_pos rfl] at H;exact H
          clear H
          have H:=H1
          clear H1
          have H':=Aside0.mk H
          clear H
          try go_wp2
          have n0_:=Aside0.mk (blk_drew BK201.out)
          have n1_:=Aside0.mk (below_drew1 HB.out)
          clear BK201
          clear HB
          have BK201:=n0_
          have HB:=n1_
          clear n0_ n1_
          refine start_ (n:=23) (S:=fun w' => w'.cell? ⟨gb201,0,none⟩ = some (.float .f64 a0_0) ∧ w'.cell? ⟨gb201,1,none⟩ = some (.bool true) ∧ w'.cell? ⟨gb201,2,none⟩ = some (.slice A0_2 l0_2.length c0_2) ∧ w'.cell? ⟨gb201,3,none⟩ = some (.int .i64 a0_3) ∧ w'.cell? ⟨gb201,4,none⟩ = some (.int .i64 a0_4) ∧ w'.cell? ⟨gb201,5,none⟩ = some (.int .i64 a0_5)) (ds:=[]) #[false,false,false,false,false,false,false,false,false,false,false,false,false,false,false,false,false,false,false,false,false,false,false] (by kernel_rfl) rfl rfl ⟨(blk_cell BK201.out 0).trans rfl,(blk_cell BK201.out 1).trans rfl,(blk_cell BK201.out 2).trans rfl,(blk_cell BK201.out 3).trans rfl,(blk_cell BK201.out 4).trans rfl,(blk_cell BK201.out 5).trans rfl⟩ (fun hHeld => ?_);refine with_tabW humusref04_May.tab1 humusref04_May.bits1 (fun HT_ HW_ => ?_)
          generalize w3.drew = w9 at BK201 HB hHeld ⊢
          refine pure_ (i:=0) (N:=some 4) (v:=?_) (a':=?_) #[true,false,false,false,false,false,false,false,false,false,false,false,false,false,false,false,false,false,false,false,false,false,false] rfl rfl (any_of HT_.out (by kernel_rfl)) (fun _ _ _ h => h) (Or.inl ⟨by rfl,?_⟩) ?_ ?_
          rotate_left
          · intro w'
            go_simp
            with_reducible rfl
          rotate_left
          · simp only [Act.put,List.setIfInBounds_toArray,List.set_cons_zero,List.set_cons_succ,i64_w,i32_w]
            rfl
          refine pure_ (i:=3) (N:=some 7) (v:=?_) (a':=?_) #[true,false,false,true,false,false,false,false,false,false,false,false,false,false,false,false,false,false,false,false,false,false,false] rfl rfl (any_of HT_.out (by kernel_rfl)) (fun _ _ _ h => h) (Or.inl ⟨by rfl,?_⟩) ?_ ?_
          rotate_left
          · intro w'
            go_simp
            with_reducible rfl
          rotate_left
          · simp only [Act.put,List.setIfInBounds_toArray,List.set_cons_zero,List.set_cons_succ,i64_w,i32_w]
            rfl
          refine take_ (i:=1) (N:=some 5) (v:=?_) (a':=?_) #[true,true,false,true,false,false,false,false,false,false,false,false,false,false,false,false,false,false,false,false,false,false,false] rfl rfl (take_ofW HT_.out HW_.out (by kernel_rfl)) (fun _ _ _ h => h) (Or.inl ⟨by rfl,?_⟩) hHeld ?_ ?_
          rotate_left
          · rintro w' ⟨s0,s1,s2,s3,s4,s5⟩
            go_simp
            with_reducible rfl
          rotate_left
          · simp only [Act.put,List.setIfInBounds_toArray,List.set_cons_zero,List.set_cons_succ,i64_w,i32_w]
            rfl
          refine take_ (i:=4) (N:=some 8) (v:=?_) (a':=?_) #[true,true,false,true,true,false,false,false,false,false,false,false,false,false,false,false,false,false,false,false,false,false,false] rfl rfl (take_ofW HT_.out HW_.out (by kernel_rfl)) (fun _ _ _ h => h) (Or.inl ⟨by rfl,?_⟩) hHeld ?_ ?_
          rotate_left
          · rintro w' ⟨s0,s1,s2,s3,s4,s5⟩
            go_simp
            with_reducible rfl
          rotate_left
          · simp only [Act.put,List.setIfInBounds_toArray,List.set_cons_zero,List.set_cons_succ,i64_w,i32_w]
            rfl
          refine one_ (i:=2) (N:=some 6) #[true,true,true,true,true,false,false,false,false,false,false,false,false,false,false,false,false,false,false,false,false,false,false] rfl rfl (one_of HT_.out (by kernel_rfl)) (by decide) (fun K hK => ?_)
          skip
          refine value_ (w1:=?_) (v:=?_) (by rfl) rfl ?_ ?_
          rotate_left 2
          · go_simp
            constructor
            · rfl
            · rfl
          skip
          refine hK.out _ _ ⟨(blk_cell BK201.out 0).trans rfl,(blk_cell BK201.out 1).trans rfl,(blk_cell BK201.out 2).trans rfl,(blk_cell BK201.out 3).trans rfl,(blk_cell BK201.out 4).trans rfl,(blk_cell BK201.out 5).trans rfl⟩ (fun hHeld => ?_)
          clear hK K
          refine norm_ (a':=?_) ?_ ?_
          rotate_left
          · show Act.put _ (some 6) _ = _
            simp only [Act.put,List.setIfInBounds_toArray,List.set_cons_zero,List.set_cons_succ,i64_w,i32_w]
            rfl
          refine one_ (i:=5) (N:=some 9) #[true,true,true,true,true,true,false,false,false,false,false,false,false,false,false,false,false,false,false,false,false,false,false] rfl rfl (one_of HT_.out (by kernel_rfl)) (by decide) (fun K hK => ?_)
          refine goes_ Try.func71 (by kernel_rfl) rfl #[.float .f64 a0_0] (by rfl) rfl rfl (by (try simp only [List.map_toArray,List.map_cons,List.map_nil]);first | done | rfl | (simp only [List.length_drop,List.length_take];rfl)) ?_
          with_reducible refine (humusref01_Key.calls a0_0 t202 _ A4.out).mono ?_
          rintro e w' ⟨rfl,⟨nd,rfl⟩⟩
          refine ⟨_,rfl,?_⟩
          refine hK.out _ _ ⟨(blk_cell BK201.out 0).trans rfl,(blk_cell BK201.out 1).trans rfl,(blk_cell BK201.out 2).trans rfl,(blk_cell BK201.out 3).trans rfl,(blk_cell BK201.out 4).trans rfl,(blk_cell BK201.out 5).trans rfl⟩ (fun hHeld => ?_)
          clear hK K
          refine norm_ (a':=?_) ?_ ?_
          rotate_left
          · show Act.put _ (some 9) _ = _
            simp only [Act.put,List.setIfInBounds_toArray,List.set_cons_zero,List.set_cons_succ,i64_w,i32_w]
            rfl
          refine pure_ (i:=6) (N:=some 10) (v:=?_) (a':=?_) #[true,true,true,true,true,true,true,false,false,false,false,false,false,false,false,false,false,false,false,false,false,false,false] rfl rfl (any_of HT_.out (by kernel_rfl)) (fun _ _ _ h => h) (Or.inl ⟨by rfl,?_⟩) ?_ ?_
          rotate_left
          · intro w'
            go_simp
            with_reducible rfl
          rotate_left
          · simp only [Act.put,List.setIfInBounds_toArray,List.set_cons_zero,List.set_cons_succ,i64_w,i32_w]
            rfl
          refine pure_ (i:=7) (N:=some 11) (v:=?_) (a':=?_) #[true,true,true,true,true,true,true,true,false,false,false,false,false,false,false,false,false,false,false,false,false,false,false] rfl rfl (any_of HT_.out (by kernel_rfl)) (fun _ _ _ h => h) (Or.inl ⟨by rfl,?_⟩) ?_ ?_
          rotate_left
          · intro w'
            go_simp
            with_reducible rfl
          rotate_left
          · simp only [Act.put,List.setIfInBounds_toArray,List.set_cons_zero,List.set_cons_succ,i64_w,i32_w]
            rfl
          refine pure_ (i:=8) (N:=some 12) (v:=?_) (a':=?_) #[true,true,true,true,true,true,true,true,true,false,false,false,false,false,false,false,false,false,false,false,false,false,false] rfl rfl (any_of HT_.out (by kernel_rfl)) (fun _ _ _ h => h) (Or.inl ⟨by rfl,?_⟩) ?_ ?_
          rotate_left
          · intro w'
            go_simp
            with_reducible rfl
          rotate_left
          · simp only [Act.put,List.setIfInBounds_toArray,List.set_cons_zero,List.set_cons_succ,i64_w,i32_w]
            rfl
          refine take_ (i:=9) (N:=some 13) (v:=?_) (a':=?_) #[true,true,true,true,true,true,true,true,true,true,false,false,false,false,false,false,false,false,false,false,false,false,false] rfl rfl (take_ofW HT_.out HW_.out (by kernel_rfl)) (fun _ _ _ h => h) (Or.inl ⟨by rfl,?_⟩) hHeld ?_ ?_
          rotate_left
          · rintro w' ⟨s0,s1,s2,s3,s4,s5⟩
            go_simp
            with_reducible rfl
          rotate_left
          · simp only [Act.put,List.setIfInBounds_toArray,List.set_cons_zero,List.set_cons_succ,i64_w,i32_w]
            rfl
          refine pure_ (i:=10) (N:=some 14) (v:=?_) (a':=?_) #[true,true,true,true,true,true,true,true,true,true,true,false,false,false,false,false,false,false,false,false,false,false,false] rfl rfl (any_of HT_.out (by kernel_rfl)) (fun _ _ _ h => h) (Or.inl ⟨by rfl,?_⟩) ?_ ?_
          rotate_left
          · intro w'
            go_simp
            with_reducible rfl
          rotate_left
          · simp only [Act.put,List.setIfInBounds_toArray,List.set_cons_zero,List.set_cons_succ,i64_w,i32_w]
            rfl
          refine pure_ (i:=11) (N:=some 15) (v:=?_) (a':=?_) #[true,true,true,true,true,true,true,true,true,true,true,true,false,false,false,false,false,false,false,false,false,false,false] rfl rfl (any_of HT_.out (by kernel_rfl)) (fun _ _ _ h => h) (Or.inl ⟨by rfl,?_⟩) ?_ ?_
          rotate_left
          · intro w'
            go_simp
            with_reducible rfl
          rotate_left
          · simp only [Act.put,List.setIfInBounds_toArray,List.set_cons_zero,List.set_cons_succ,i64_w,i32_w]
            rfl
          refine pure_ (i:=12) (N:=some 16) (v:=?_) (a':=?_) #[true,true,true,true,true,true,true,true,true,true,true,true,true,false,false,false,false,false,false,false,false,false,false] rfl rfl (any_of HT_.out (by kernel_rfl)) (fun _ _ _ h => h) (Or.inl ⟨by rfl,?_⟩) ?_ ?_
          rotate_left
          · intro w'
            go_simp
            with_reducible rfl
          rotate_left
          · simp only [Act.put,List.setIfInBounds_toArray,List.set_cons_zero,List.set_cons_succ,i64_w,i32_w]
            rfl
          refine pure_ (i:=13) (N:=some 17) (v:=?_) (a':=?_) #[true,true,true,true,true,true,true,true,true,true,true,true,true,true,false,false,false,false,false,false,false,false,false] rfl rfl (any_of HT_.out (by kernel_rfl)) (fun _ _ _ h => h) (Or.inl ⟨by rfl,?_⟩) ?_ ?_
          rotate_left
          · intro w'
            go_simp
            with_reducible rfl
          rotate_left
          · simp only [Act.put,List.setIfInBounds_toArray,List.set_cons_zero,List.set_cons_succ,i64_w,i32_w]
            rfl
          refine pure_ (i:=14) (N:=some 18) (v:=?_) (a':=?_) #[true,true,true,true,true,true,true,true,true,true,true,true,true,true,true,false,false,false,false,false,false,false,false] rfl rfl (any_of HT_.out (by kernel_rfl)) (fun _ _ _ h => h) (Or.inl ⟨by rfl,?_⟩) ?_ ?_
          rotate_left
          · intro w'
            go_simp
            with_reducible rfl
          rotate_left
          · simp only [Act.put,List.setIfInBounds_toArray,List.set_cons_zero,List.set_cons_succ,i64_w,i32_w]
            rfl
          refine take_ (i:=15) (N:=some 19) (v:=?_) (a':=?_) #[true,true,true,true,true,true,true,true,true,true,true,true,true,true,true,true,false,false,false,false,false,false,false] rfl rfl (take_ofW HT_.out HW_.out (by kernel_rfl)) (fun _ _ _ h => h) (Or.inl ⟨by rfl,?_⟩) hHeld ?_ ?_
          rotate_left
          · rintro w' ⟨s0,s1,s2,s3,s4,s5⟩
            go_simp
            with_reducible rfl
          rotate_left
          · simp only [Act.put,List.setIfInBounds_toArray,List.set_cons_zero,List.set_cons_succ,i64_w,i32_w]
            rfl
          refine pure_ (i:=16) (N:=some 20) (v:=?_) (a':=?_) #[true,true,true,true,true,true,true,true,true,true,true,true,true,true,true,true,true,false,false,false,false,false,false] rfl rfl (any_of HT_.out (by kernel_rfl)) (fun _ _ _ h => h) (Or.inl ⟨by rfl,?_⟩) ?_ ?_
          rotate_left
          · intro w'
            go_simp
            with_reducible rfl
          rotate_left
          · simp only [Act.put,List.setIfInBounds_toArray,List.set_cons_zero,List.set_cons_succ,i64_w,i32_w]
            rfl
          refine pure_ (i:=17) (N:=some 21) (v:=?_) (a':=?_) #[true,true,true,true,true,true,true,true,true,true,true,true,true,true,true,true,true,true,false,false,false,false,false] rfl rfl (any_of HT_.out (by kernel_rfl)) (fun _ _ _ h => h) (Or.inl ⟨by rfl,?_⟩) ?_ ?_
          rotate_left
          · intro w'
            go_simp
            with_reducible rfl
          rotate_left
          · simp only [Act.put,List.setIfInBounds_toArray,List.set_cons_zero,List.set_cons_succ,i64_w,i32_w]
            rfl
          refine take_ (i:=18) (N:=some 22) (v:=?_) (a':=?_) #[true,true,true,true,true,true,true,true,true,true,true,true,true,true,true,true,true,true,true,false,false,false,false] rfl rfl (take_ofW HT_.out HW_.out (by kernel_rfl)) (fun _ _ _ h => h) (Or.inl ⟨by rfl,?_⟩) hHeld ?_ ?_
          rotate_left
          · rintro w' ⟨s0,s1,s2,s3,s4,s5⟩
            go_simp
            with_reducible rfl
          rotate_left
          · simp only [Act.put,List.setIfInBounds_toArray,List.set_cons_zero,List.set_cons_succ,i64_w,i32_w]
            rfl
          refine pure_ (i:=19) (N:=some 23) (v:=?_) (a':=?_) #[true,true,true,true,true,true,true,true,true,true,true,true,true,true,true,true,true,true,true,true,false,false,false] rfl rfl (any_of HT_.out (by kernel_rfl)) (fun _ _ _ h => h) (Or.inl ⟨by rfl,?_⟩) ?_ ?_
          rotate_left
          · intro w'
            go_simp
            with_reducible rfl
          rotate_left
          · simp only [Act.put,List.setIfInBounds_toArray,List.set_cons_zero,List.set_cons_succ,i64_w,i32_w]
            rfl
          refine pure_ (i:=20) (N:=some 24) (v:=?_) (a':=?_) #[true,true,true,true,true,true,true,true,true,true,true,true,true,true,true,true,true,true,true,true,true,false,false] rfl rfl (any_of HT_.out (by kernel_rfl)) (fun _ _ _ h => h) (Or.inl ⟨by rfl,?_⟩) ?_ ?_
          rotate_left
          · intro w'
            go_simp
            with_reducible rfl
          rotate_left
          · simp only [Act.put,List.setIfInBounds_toArray,List.set_cons_zero,List.set_cons_succ,i64_w,i32_w]
            rfl
          refine pure_ (i:=21) (N:=some 25) (v:=?_) (a':=?_) #[true,true,true,true,true,true,true,true,true,true,true,true,true,true,true,true,true,true,true,true,true,true,false] rfl rfl (any_of HT_.out (by kernel_rfl)) (fun _ _ _ h => h) (Or.inl ⟨by rfl,?_⟩) ?_ ?_
          rotate_left
          · intro w'
            go_simp
            with_reducible rfl
          rotate_left
          · simp only [Act.put,List.setIfInBounds_toArray,List.set_cons_zero,List.set_cons_succ,i64_w,i32_w]
            rfl
          refine pure_ (i:=22) (N:=some 26) (v:=?_) (a':=?_) #[true,true,true,true,true,true,true,true,true,true,true,true,true,true,true,true,true,true,true,true,true,true,true] rfl rfl (any_of HT_.out (by kernel_rfl)) (fun _ _ _ h => h) (Or.inl ⟨by rfl,?_⟩) ?_ ?_
          rotate_left
          · intro w'
            go_simp
            with_reducible rfl
          rotate_left
          · simp only [Act.put,List.setIfInBounds_toArray,List.set_cons_zero,List.set_cons_succ,i64_w,i32_w]
            rfl
          refine done_ (done_of HT_.out (by kernel_rfl)) ?_
          try go_wp2
          go_meet
          case rel => exact ⟨_,(decide ((l0_2.length : Int) > 0)),(by first | rfl | (simp;done) | (simp [*];done)),H',⟨by first | omega | exact Nat.le_refl _⟩,⟨by (with_reducible repeat (first | refine blk_drewN ?_ _ | refine blk_drew ?_ | refine blk_alloc ?_ _));exact BK201.out⟩,⟨by repeat (first | (with_reducible first | exact HB.out | apply below_alloc | apply pw_below_drewN | apply below_drew1 | refine below_set ?_ GE201.out) | exact HB.out)⟩⟩
        · replace c8:=Bool.eq_false_iff.mpr c8
          subst c8
          have H1 : (humusref04_May.j0 k false a0_0 false l0_2 a0_3 a0_4 a0_5) = some r:=by rw [if_neg (show ¬ (false = true) by decide)] at H;exact H
          clear H
          have H:=H1
          clear H1
          have H':=Aside0.mk H
          clear H
          try go_wp2
          have n0_:=Aside0.mk (blk_drew BK201.out)
          have n1_:=Aside0.mk (below_drew1 HB.out)
          clear BK201
          clear HB
          have BK201:=n0_
          have HB:=n1_
          clear n0_ n1_
          refine start_ (n:=23) (S:=fun w' => w'.cell? ⟨gb201,0,none⟩ = some (.float .f64 a0_0) ∧ w'.cell? ⟨gb201,1,none⟩ = some (.bool false) ∧ w'.cell? ⟨gb201,2,none⟩ = some (.slice A0_2 l0_2.length c0_2) ∧ w'.cell? ⟨gb201,3,none⟩ = some (.int .i64 a0_3) ∧ w'.cell? ⟨gb201,4,none⟩ = some (.int .i64 a0_4) ∧ w'.cell? ⟨gb201,5,none⟩ = some (.int .i64 a0_5)) (ds:=[]) #[false,false,false,false,false,false,false,false,false,false,false,false,false,false,false,false,false,false,false,false,false,false,false] (by kernel_rfl) rfl rfl ⟨(blk_cell BK201.out 0).trans rfl,(blk_cell BK201.out 1).trans rfl,(blk_cell BK201.out 2).trans rfl,(blk_cell BK201.out 3).trans rfl,(blk_cell BK201.out 4).trans rfl,(blk_cell BK201.out 5).trans rfl⟩ (fun hHeld => ?_);refine with_tabW humusref04_May.tab1 humusref04_May.bits1 (fun HT_ HW_ => ?_)
          generalize w3.drew = w10 at BK201 HB hHeld ⊢
          refine pure_ (i:=0) (N:=some 4) (v:=?_) (a':=?_) #[true,false,false,false,false,false,false,false,false,false,false,false,false,false,false,false,false,false,false,false,false,false,false] rfl rfl (any_of HT_.out (by kernel_rfl)) (fun _ _ _ h => h) (Or.inl ⟨by rfl,?_⟩) ?_ ?_
          rotate_left
          · intro w'
            go_simp
            with_reducible rfl
          rotate_left
          · simp only [Act.put,List.setIfInBounds_toArray,List.set_cons_zero,List.set_cons_succ,i64_w,i32_w]
            rfl
          refine pure_ (i:=3) (N:=some 7) (v:=?_) (a':=?_) #[true,false,false,true,false,false,false,false,false,false,false,false,false,false,false,false,false,false,false,false,false,false,false] rfl rfl (any_of HT_.out (by kernel_rfl)) (fun _ _ _ h => h) (Or.inl ⟨by rfl,?_⟩) ?_ ?_
          rotate_left
          · intro w'
            go_simp
            with_reducible rfl
          rotate_left
          · simp only [Act.put,List.setIfInBounds_toArray,List.set_cons_zero,List.set_cons_succ,i64_w,i32_w]
            rfl
          refine take_ (i:=1) (N:=some 5) (v:=?_) (a':=?_) #[true,true,false,true,false,false,false,false,false,false,false,false,false,false,false,false,false,false,false,false,false,false,false] rfl rfl (take_ofW HT_.out HW_.out (by kernel_rfl)) (fun _ _ _ h => h) (Or.inl ⟨by rfl,?_⟩) hHeld ?_ ?_
          rotate_left
          · rintro w' ⟨s0,s1,s2,s3,s4,s5⟩
            go_simp
            with_reducible rfl
          rotate_left
          · simp only [Act.put,List.setIfInBounds_toArray,List.set_cons_zero,List.set_cons_succ,i64_w,i32_w]
            rfl
          refine take_ (i:=4) (N:=some 8) (v:=?_) (a':=?_) #[true,true,false,true,true,false,false,false,false,false,false,false,false,false,false,false,false,false,false,false,false,false,false] rfl rfl (take_ofW HT_.out HW_.out (by kernel_rfl)) (fun _ _ _ h => h) (Or.inl ⟨by rfl,?_⟩) hHeld ?_ ?_
          rotate_left
          · rintro w' ⟨s0,s1,s2,s3,s4,s5⟩
            go_simp
            with_reducible rfl
          rotate_left
          · simp only [Act.put,List.setIfInBounds_toArray,List.set_cons_zero,List.set_cons_succ,i64_w,i32_w]
            rfl
          refine one_ (i:=2) (N:=some 6) #[true,true,true,true,true,false,false,false,false,false,false,false,false,false,false,false,false,false,false,false,false,false,false] rfl rfl (one_of HT_.out (by kernel_rfl)) (by decide) (fun K hK => ?_)
          skip
          refine value_ (w1:=?_) (v:=?_) (by rfl) rfl ?_ ?_
          rotate_left 2
          · go_simp
            constructor
            · rfl
            · rfl
          skip
          refine hK.out _ _ ⟨(blk_cell BK201.out 0).trans rfl,(blk_cell BK201.out 1).trans rfl,(blk_cell BK201.out 2).trans rfl,(blk_cell BK201.out 3).trans rfl,(blk_cell BK201.out 4).trans rfl,(blk_cell BK201.out 5).trans rfl⟩ (fun hHeld => ?_)
          clear hK K
          refine norm_ (a':=?_) ?_ ?_
          rotate_left
          · show Act.put _ (some 6) _ = _
            simp only [Act.put,List.setIfInBounds_toArray,List.set_cons_zero,List.set_cons_succ,i64_w,i32_w]
            rfl
          refine one_ (i:=5) (N:=some 9) #[true,true,true,true,true,true,false,false,false,false,false,false,false,false,false,false,false,false,false,false,false,false,false] rfl rfl (one_of HT_.out (by kernel_rfl)) (by decide) (fun K hK => ?_)
          refine goes_ Try.func71 (by kernel_rfl) rfl #[.float .f64 a0_0] (by rfl) rfl rfl (by (try simp only [List.map_toArray,List.map_cons,List.map_nil]);first | done | rfl | (simp only [List.length_drop,List.length_take];rfl)) ?_
          with_reducible refine (humusref01_Key.calls a0_0 t202 _ A4.out).mono ?_
          rintro e w' ⟨rfl,⟨nd,rfl⟩⟩
          refine ⟨_,rfl,?_⟩
          refine hK.out _ _ ⟨(blk_cell BK201.out 0).trans rfl,(blk_cell BK201.out 1).trans rfl,(blk_cell BK201.out 2).trans rfl,(blk_cell BK201.out 3).trans rfl,(blk_cell BK201.out 4).trans rfl,(blk_cell BK201.out 5).trans rfl⟩ (fun hHeld => ?_)
          clear hK K
          refine norm_ (a':=?_) ?_ ?_
          rotate_left
          · show Act.put _ (some 9) _ = _
            simp only [Act.put,List.setIfInBounds_toArray,List.set_cons_zero,List.set_cons_succ,i64_w,i32_w]
            rfl
          refine pure_ (i:=6) (N:=some 10) (v:=?_) (a':=?_) #[true,true,true,true,true,true,true,false,false,false,false,false,false,false,false,false,false,false,false,false,false,false,false] rfl rfl (any_of HT_.out (by kernel_rfl)) (fun _ _ _ h => h) (Or.inl ⟨by rfl,?_⟩) ?_ ?_
          rotate_left
          · intro w'
            go_simp
            with_reducible rfl
          rotate_left
          · simp only [Act.put,List.setIfInBounds_toArray,List.set_cons_zero,List.set_cons_succ,i64_w,i32_w]
            rfl
          refine pure_ (i:=7) (N:=some 11) (v:=?_) (a':=?_) #[true,true,true,true,true,true,true,true,false,false,false,false,false,false,false,false,false,false,false,false,false,false,false] rfl rfl (any_of HT_.out (by kernel_rfl)) (fun _ _ _ h => h) (Or.inl ⟨by rfl,?_⟩) ?_ ?_
          rotate_left
          · intro w'
            go_simp
            with_reducible rfl
          rotate_left
          · simp only [Act.put,List.setIfInBounds_toArray,List.set_cons_zero,List.set_cons_succ,i64_w,i32_w]
            rfl
          refine pure_ (i:=8) (N:=some 12) (v:=?_) (a':=?_) #[true,true,true,true,true,true,true,true,true,false,false,false,false,false,false,false,false,false,false,false,false,false,false] rfl rfl (any_of HT_.out (by kernel_rfl)) (fun _ _ _ h => h) (Or.inl ⟨by rfl,?_⟩) ?_ ?_
          rotate_left
          · intro w'
            go_simp
            with_reducible rfl
          rotate_left
          · simp only [Act.put,List.setIfInBounds_toArray,List.set_cons_zero,List.set_cons_succ,i64_w,i32_w]
            rfl
          refine take_ (i:=9) (N:=some 13) (v:=?_) (a':=?_) #[true,true,true,true,true,true,true,true,true,true,false,false,false,false,false,false,false,false,false,false,false,false,false] rfl rfl (take_ofW HT_.out HW_.out (by kernel_rfl)) (fun _ _ _ h => h) (Or.inl ⟨by rfl,?_⟩) hHeld ?_ ?_
          rotate_left
          · rintro w' ⟨s0,s1,s2,s3,s4,s5⟩
            go_simp
            with_reducible rfl
          rotate_left
          · simp only [Act.put,List.setIfInBounds_toArray,List.set_cons_zero,List.set_cons_succ,i64_w,i32_w]
            rfl
          refine pure_ (i:=10) (N:=some 14) (v:=?_) (a':=?_) #[true,true,true,true,true,true,true,true,true,true,true,false,false,false,false,false,false,false,false,false,false,false,false] rfl rfl (any_of HT_.out (by kernel_rfl)) (fun _ _ _ h => h) (Or.inl ⟨by rfl,?_⟩) ?_ ?_
          rotate_left
          · intro w'
            go_simp
            with_reducible rfl
          rotate_left
          · simp only [Act.put,List.setIfInBounds_toArray,List.set_cons_zero,List.set_cons_succ,i64_w,i32_w]
            rfl
          refine pure_ (i:=11) (N:=some 15) (v:=?_) (a':=?_) #[true,true,true,true,true,true,true,true,true,true,true,true,false,false,false,false,false,false,false,false,false,false,false] rfl rfl (any_of HT_.out (by kernel_rfl)) (fun _ _ _ h => h) (Or.inl ⟨by rfl,?_⟩) ?_ ?_
          rotate_left
          · intro w'
            go_simp
            with_reducible rfl
          rotate_left
          · simp only [Act.put,List.setIfInBounds_toArray,List.set_cons_zero,List.set_cons_succ,i64_w,i32_w]
            rfl
          refine pure_ (i:=12) (N:=some 16) (v:=?_) (a':=?_) #[true,true,true,true,true,true,true,true,true,true,true,true,true,false,false,false,false,false,false,false,false,false,false] rfl rfl (any_of HT_.out (by kernel_rfl)) (fun _ _ _ h => h) (Or.inl ⟨by rfl,?_⟩) ?_ ?_
          rotate_left
          · intro w'
            go_simp
            with_reducible rfl
          rotate_left
          · simp only [Act.put,List.setIfInBounds_toArray,List.set_cons_zero,List.set_cons_succ,i64_w,i32_w]
            rfl
          refine pure_ (i:=13) (N:=some 17) (v:=?_) (a':=?_) #[true,true,true,true,true,true,true,true,true,true,true,true,true,true,false,false,false,false,false,false,false,false,false] rfl rfl (any_of HT_.out (by kernel_rfl)) (fun _ _ _ h => h) (Or.inl ⟨by rfl,?_⟩) ?_ ?_
          rotate_left
          · intro w'
            go_simp
            with_reducible rfl
          rotate_left
          · simp only [Act.put,List.setIfInBounds_toArray,List.set_cons_zero,List.set_cons_succ,i64_w,i32_w]
            rfl
          refine pure_ (i:=14) (N:=some 18) (v:=?_) (a':=?_) #[true,true,true,true,true,true,true,true,true,true,true,true,true,true,true,false,false,false,false,false,false,false,false] rfl rfl (any_of HT_.out (by kernel_rfl)) (fun _ _ _ h => h) (Or.inl ⟨by rfl,?_⟩) ?_ ?_
          rotate_left
          · intro w'
            go_simp
            with_reducible rfl
          rotate_left
          · simp only [Act.put,List.setIfInBounds_toArray,List.set_cons_zero,List.set_cons_succ,i64_w,i32_w]
            rfl
          refine take_ (i:=15) (N:=some 19) (v:=?_) (a':=?_) #[true,true,true,true,true,true,true,true,true,true,true,true,true,true,true,true,false,false,false,false,false,false,false] rfl rfl (take_ofW HT_.out HW_.out (by kernel_rfl)) (fun _ _ _ h => h) (Or.inl ⟨by rfl,?_⟩) hHeld ?_ ?_
          rotate_left
          · rintro w' ⟨s0,s1,s2,s3,s4,s5⟩
            go_simp
            with_reducible rfl
          rotate_left
          · simp only [Act.put,List.setIfInBounds_toArray,List.set_cons_zero,List.set_cons_succ,i64_w,i32_w]
            rfl
          refine pure_ (i:=16) (N:=some 20) (v:=?_) (a':=?_) #[true,true,true,true,true,true,true,true,true,true,true,true,true,true,true,true,true,false,false,false,false,false,false] rfl rfl (any_of HT_.out (by kernel_rfl)) (fun _ _ _ h => h) (Or.inl ⟨by rfl,?_⟩) ?_ ?_
          rotate_left
          · intro w'
            go_simp
            with_reducible rfl
          rotate_left
          · simp only [Act.put,List.setIfInBounds_toArray,List.set_cons_zero,List.set_cons_succ,i64_w,i32_w]
            rfl
          refine pure_ (i:=17) (N:=some 21) (v:=undef) (a':=?_) #[true,true,true,true,true,true,true,true,true,true,true,true,true,true,true,true,true,true,false,false,false,false,false] rfl rfl (any_of HT_.out (by kernel_rfl)) (fun _ _ _ h => h) (Or.inr ⟨by rfl,rfl⟩) ?_ ?_
          rotate_left
          · simp only [Act.put,List.setIfInBounds_toArray,List.set_cons_zero,List.set_cons_succ,i64_w,i32_w]
            rfl
          refine pure_ (i:=18) (N:=some 22) (v:=undef) (a':=?_) #[true,true,true,true,true,true,true,true,true,true,true,true,true,true,true,true,true,true,true,false,false,false,false] rfl rfl (any_of HT_.out (by kernel_rfl)) (fun _ _ _ h => h) (Or.inr ⟨by rfl,rfl⟩) ?_ ?_
          rotate_left
          · simp only [Act.put,List.setIfInBounds_toArray,List.set_cons_zero,List.set_cons_succ,i64_w,i32_w]
            rfl
          refine pure_ (i:=19) (N:=some 23) (v:=undef) (a':=?_) #[true,true,true,true,true,true,true,true,true,true,true,true,true,true,true,true,true,true,true,true,false,false,false] rfl rfl (any_of HT_.out (by kernel_rfl)) (fun _ _ _ h => h) (Or.inr ⟨by rfl,rfl⟩) ?_ ?_
          rotate_left
          · simp only [Act.put,List.setIfInBounds_toArray,List.set_cons_zero,List.set_cons_succ,i64_w,i32_w]
            rfl
          refine pure_ (i:=20) (N:=some 24) (v:=undef) (a':=?_) #[true,true,true,true,true,true,true,true,true,true,true,true,true,true,true,true,true,true,true,true,true,false,false] rfl rfl (any_of HT_.out (by kernel_rfl)) (fun _ _ _ h => h) (Or.inr ⟨by rfl,rfl⟩) ?_ ?_
          rotate_left
          · simp only [Act.put,List.setIfInBounds_toArray,List.set_cons_zero,List.set_cons_succ,i64_w,i32_w]
            rfl
          refine pure_ (i:=21) (N:=some 25) (v:=?_) (a':=?_) #[true,true,true,true,true,true,true,true,true,true,true,true,true,true,true,true,true,true,true,true,true,true,false] rfl rfl (any_of HT_.out (by kernel_rfl)) (fun _ _ _ h => h) (Or.inl ⟨by rfl,?_⟩) ?_ ?_
          rotate_left
          · intro w'
            go_simp
            with_reducible rfl
          rotate_left
          · simp only [Act.put,List.setIfInBounds_toArray,List.set_cons_zero,List.set_cons_succ,i64_w,i32_w]
            rfl
          refine pure_ (i:=22) (N:=some 26) (v:=?_) (a':=?_) #[true,true,true,true,true,true,true,true,true,true,true,true,true,true,true,true,true,true,true,true,true,true,true] rfl rfl (any_of HT_.out (by kernel_rfl)) (fun _ _ _ h => h) (Or.inl ⟨by rfl,?_⟩) ?_ ?_
          rotate_left
          · intro w'
            go_simp
            with_reducible rfl
          rotate_left
          · simp only [Act.put,List.setIfInBounds_toArray,List.set_cons_zero,List.set_cons_succ,i64_w,i32_w]
            rfl
          refine done_ (done_of HT_.out (by kernel_rfl)) ?_
          try go_wp2
          go_meet
          case rel => exact ⟨_,(false),(by first | rfl | (simp;done) | (simp [*];done)),H',⟨by first | omega | exact Nat.le_refl _⟩,⟨by (with_reducible repeat (first | refine blk_drewN ?_ _ | refine blk_drew ?_ | refine blk_alloc ?_ _));exact BK201.out⟩,⟨by repeat (first | (with_reducible first | exact HB.out | apply below_alloc | apply pw_below_drewN | apply below_drew1 | refine below_set ?_ GE201.out) | exact HB.out)⟩⟩
    · rw [if_neg c5] at H
      have c5b0 : ((a0_0 : Int) == t202) = false:=beq_eq_false_iff_ne.mpr c5
      have c5b1 : ((a0_0 : Int) != t202) = true:=bne_iff_ne.mpr c5
      (first | rw [c5b0] | (simp only [i64_w,i32_w];rw [c5b0]) | skip)
      have H':=Aside0.mk H
      clear H
      try go_wp2
      have n0_:=Aside0.mk (blk_drew BK201.out)
      have n1_:=Aside0.mk (below_drew1 HB.out)
      clear BK201
      clear HB
      have BK201:=n0_
      have HB:=n1_
      clear n0_ n1_
      refine start_ (n:=23) (S:=fun w' => w'.cell? ⟨gb201,0,none⟩ = some (.float .f64 a0_0) ∧ w'.cell? ⟨gb201,1,none⟩ = some (.bool a0_1) ∧ w'.cell? ⟨gb201,2,none⟩ = some (.slice A0_2 l0_2.length c0_2) ∧ w'.cell? ⟨gb201,3,none⟩ = some (.int .i64 a0_3) ∧ w'.cell? ⟨gb201,4,none⟩ = some (.int .i64 a0_4) ∧ w'.cell? ⟨gb201,5,none⟩ = some (.int .i64 a0_5)) (ds:=[5]) #[false,false,false,false,false,false,false,false,false,false,false,false,false,false,false,false,false,false,false,false,false,false,false] (by kernel_rfl) rfl rfl ⟨(blk_cell BK201.out 0).trans rfl,(blk_cell BK201.out 1).trans rfl,(blk_cell BK201.out 2).trans rfl,(blk_cell BK201.out 3).trans rfl,(blk_cell BK201.out 4).trans rfl,(blk_cell BK201.out 5).trans rfl⟩ (fun hHeld => ?_);refine with_tabW humusref04_May.tab1 humusref04_May.bits1 (fun HT_ HW_ => ?_)
      generalize w3.drew = w11 at BK201 HB hHeld ⊢
      refine pure_ (i:=0) (N:=some 4) (v:=?_) (a':=?_) #[true,false,false,false,false,false,false,false,false,false,false,false,false,false,false,false,false,false,false,false,false,false,false] rfl rfl (any_of HT_.out (by kernel_rfl)) (fun _ _ _ h => h) (Or.inl ⟨by rfl,?_⟩) ?_ ?_
      rotate_left
      · intro w'
        go_simp
        with_reducible rfl
      rotate_left
      · simp only [Act.put,List.setIfInBounds_toArray,List.set_cons_zero,List.set_cons_succ,i64_w,i32_w]
        rfl
      refine pure_ (i:=3) (N:=some 7) (v:=?_) (a':=?_) #[true,false,false,true,false,false,false,false,false,false,false,false,false,false,false,false,false,false,false,false,false,false,false] rfl rfl (any_of HT_.out (by kernel_rfl)) (fun _ _ _ h => h) (Or.inl ⟨by rfl,?_⟩) ?_ ?_
      rotate_left
      · intro w'
        go_simp
        with_reducible rfl
      rotate_left
      · simp only [Act.put,List.setIfInBounds_toArray,List.set_cons_zero,List.set_cons_succ,i64_w,i32_w]
        rfl
      refine take_ (i:=1) (N:=some 5) (v:=?_) (a':=?_) #[true,true,false,true,false,false,false,false,false,false,false,false,false,false,false,false,false,false,false,false,false,false,false] rfl rfl (take_ofW HT_.out HW_.out (by kernel_rfl)) (fun _ _ _ h => h) (Or.inl ⟨by rfl,?_⟩) hHeld ?_ ?_
      rotate_left
      · rintro w' ⟨s0,s1,s2,s3,s4,s5⟩
        go_simp
        with_reducible rfl
      rotate_left
      · simp only [Act.put,List.setIfInBounds_toArray,List.set_cons_zero,List.set_cons_succ,i64_w,i32_w]
        rfl
      refine take_ (i:=4) (N:=some 8) (v:=?_) (a':=?_) #[true,true,false,true,true,false,false,false,false,false,false,false,false,false,false,false,false,false,false,false,false,false,false] rfl rfl (take_ofW HT_.out HW_.out (by kernel_rfl)) (fun _ _ _ h => h) (Or.inl ⟨by rfl,?_⟩) hHeld ?_ ?_
      rotate_left
      · rintro w' ⟨s0,s1,s2,s3,s4,s5⟩
        go_simp
        with_reducible rfl
      rotate_left
      · simp only [Act.put,List.setIfInBounds_toArray,List.set_cons_zero,List.set_cons_succ,i64_w,i32_w]
        rfl
      refine one_ (i:=2) (N:=some 6) #[true,true,true,true,true,false,false,false,false,false,false,false,false,false,false,false,false,false,false,false,false,false,false] rfl rfl (one_of HT_.out (by kernel_rfl)) (by decide) (fun K hK => ?_)
      skip
      refine value_ (w1:=?_) (v:=?_) (by rfl) rfl ?_ ?_
      rotate_left 2
      · go_simp
        constructor
        · rfl
        · rfl
      skip
      refine hK.out _ _ ⟨(blk_cell BK201.out 0).trans rfl,(blk_cell BK201.out 1).trans rfl,(blk_cell BK201.out 2).trans rfl,(blk_cell BK201.out 3).trans rfl,(blk_cell BK201.out 4).trans rfl,(blk_cell BK201.out 5).trans rfl⟩ (fun hHeld => ?_)
      clear hK K
      refine norm_ (a':=?_) ?_ ?_
      rotate_left
      · show Act.put _ (some 6) _ = _
        simp only [Act.put,List.setIfInBounds_toArray,List.set_cons_zero,List.set_cons_succ,i64_w,i32_w]
        rfl
      refine last_ (i:=5) (N:=some 9) #[true,true,true,true,true,true,false,false,false,false,false,false,false,false,false,false,false,false,false,false,false,false,false] rfl rfl (one_of HT_.out (by kernel_rfl)) (by decide) (fun K hK => ?_)
      refine goes_ Try.func71 (by kernel_rfl) rfl #[.float .f64 a0_0] (by rfl) rfl rfl (by (try simp only [List.map_toArray,List.map_cons,List.map_nil]);first | done | rfl | (simp only [List.length_drop,List.length_take];rfl)) ?_
      with_reducible refine (humusref01_Key.calls a0_0 t202 _ A4.out).mono ?_
      rintro e w' ⟨rfl,⟨nd,rfl⟩⟩
      refine ⟨_,rfl,?_⟩
      refine hK.out _ _ ?_
      clear hK K
      refine norm_ (a':=?_) ?_ ?_
      rotate_left
      · show Act.put _ (some 9) _ = _
        simp only [Act.put,List.setIfInBounds_toArray,List.set_cons_zero,List.set_cons_succ,i64_w,i32_w]
        rfl
      refine pure_ (i:=6) (N:=some 10) (v:=?_) (a':=?_) #[true,true,true,true,true,true,true,false,false,false,false,false,false,false,false,false,false,false,false,false,false,false,false] rfl rfl (any_of HT_.out (by kernel_rfl)) (fun _ _ _ h => h) (Or.inl ⟨by rfl,?_⟩) ?_ ?_
      rotate_left
      · intro w'
        go_simp
        with_reducible rfl
      rotate_left
      · simp only [Act.put,List.setIfInBounds_toArray,List.set_cons_zero,List.set_cons_succ,i64_w,i32_w]
        rfl
      refine pure_ (i:=7) (N:=some 11) (v:=?_) (a':=?_) #[true,true,true,true,true,true,true,true,false,false,false,false,false,false,false,false,false,false,false,false,false,false,false] rfl rfl (any_of HT_.out (by kernel_rfl)) (fun _ _ _ h => h) (Or.inl ⟨by rfl,?_⟩) ?_ ?_
      rotate_left
      · intro w'
        go_simp
        with_reducible rfl
      rotate_left
      · simp only [Act.put,List.setIfInBounds_toArray,List.set_cons_zero,List.set_cons_succ,i64_w,i32_w]
        rfl
      refine pure_ (i:=8) (N:=some 12) (v:=undef) (a':=?_) #[true,true,true,true,true,true,true,true,true,false,false,false,false,false,false,false,false,false,false,false,false,false,false] rfl rfl (any_of HT_.out (by kernel_rfl)) (fun _ _ _ h => h) (Or.inr ⟨by rfl,rfl⟩) ?_ ?_
      rotate_left
      · simp only [Act.put,List.setIfInBounds_toArray,List.set_cons_zero,List.set_cons_succ,i64_w,i32_w]
        rfl
      refine pure_ (i:=9) (N:=some 13) (v:=undef) (a':=?_) #[true,true,true,true,true,true,true,true,true,true,false,false,false,false,false,false,false,false,false,false,false,false,false] rfl rfl (any_of HT_.out (by kernel_rfl)) (fun _ _ _ h => h) (Or.inr ⟨by rfl,rfl⟩) ?_ ?_
      rotate_left
      · simp only [Act.put,List.setIfInBounds_toArray,List.set_cons_zero,List.set_cons_succ,i64_w,i32_w]
        rfl
      refine pure_ (i:=10) (N:=some 14) (v:=undef) (a':=?_) #[true,true,true,true,true,true,true,true,true,true,true,false,false,false,false,false,false,false,false,false,false,false,false] rfl rfl (any_of HT_.out (by kernel_rfl)) (fun _ _ _ h => h) (Or.inr ⟨by rfl,rfl⟩) ?_ ?_
      rotate_left
      · simp only [Act.put,List.setIfInBounds_toArray,List.set_cons_zero,List.set_cons_succ,i64_w,i32_w]
        rfl
      refine pure_ (i:=11) (N:=some 15) (v:=undef) (a':=?_) #[true,true,true,true,true,true,true,true,true,true,true,true,false,false,false,false,false,false,false,false,false,false,false] rfl rfl (any_of HT_.out (by kernel_rfl)) (fun _ _ _ h => h) (Or.inr ⟨by rfl,rfl⟩) ?_ ?_
      rotate_left
      · simp only [Act.put,List.setIfInBounds_toArray,List.set_cons_zero,List.set_cons_succ,i64_w,i32_w]
        rfl
      refine pure_ (i:=12) (N:=some 16) (v:=?_) (a':=?_) #[true,true,true,true,true,true,true,true,true,true,true,true,true,false,false,false,false,false,false,false,false,false,false] rfl rfl (any_of HT_.out (by kernel_rfl)) (fun _ _ _ h => h) (Or.inl ⟨by rfl,?_⟩) ?_ ?_
      rotate_left
      · intro w'
        go_simp
        with_reducible rfl
      rotate_left
      · simp only [Act.put,List.setIfInBounds_toArray,List.set_cons_zero,List.set_cons_succ,i64_w,i32_w]
        rfl
      refine pure_ (i:=13) (N:=some 17) (v:=?_) (a':=?_) #[true,true,true,true,true,true,true,true,true,true,true,true,true,true,false,false,false,false,false,false,false,false,false] rfl rfl (any_of HT_.out (by kernel_rfl)) (fun _ _ _ h => h) (Or.inl ⟨by rfl,?_⟩) ?_ ?_
      rotate_left
      · intro w'
        go_simp
        with_reducible rfl
      rotate_left
      · simp only [Act.put,List.setIfInBounds_toArray,List.set_cons_zero,List.set_cons_succ,i64_w,i32_w]
        rfl
      refine pure_ (i:=14) (N:=some 18) (v:=undef) (a':=?_) #[true,true,true,true,true,true,true,true,true,true,true,true,true,true,true,false,false,false,false,false,false,false,false] rfl rfl (any_of HT_.out (by kernel_rfl)) (fun _ _ _ h => h) (Or.inr ⟨by rfl,rfl⟩) ?_ ?_
      rotate_left
      · simp only [Act.put,List.setIfInBounds_toArray,List.set_cons_zero,List.set_cons_succ,i64_w,i32_w]
        rfl
      refine pure_ (i:=15) (N:=some 19) (v:=undef) (a':=?_) #[true,true,true,true,true,true,true,true,true,true,true,true,true,true,true,true,false,false,false,false,false,false,false] rfl rfl (any_of HT_.out (by kernel_rfl)) (fun _ _ _ h => h) (Or.inr ⟨by rfl,rfl⟩) ?_ ?_
      rotate_left
      · simp only [Act.put,List.setIfInBounds_toArray,List.set_cons_zero,List.set_cons_succ,i64_w,i32_w]
        rfl
      refine pure_ (i:=16) (N:=some 20) (v:=undef) (a':=?_) #[true,true,true,true,true,true,true,true,true,true,true,true,true,true,true,true,true,false,false,false,false,false,false] rfl rfl (any_of HT_.out (by kernel_rfl)) (fun _ _ _ h => h) (Or.inr ⟨by rfl,rfl⟩) ?_ ?_
      rotate_left
      · simp only [Act.put,List.setIfInBounds_toArray,List.set_cons_zero,List.set_cons_succ,i64_w,i32_w]
        rfl
      refine pure_ (i:=17) (N:=some 21) (v:=undef) (a':=?_) #[true,true,true,true,true,true,true,true,true,true,true,true,true,true,true,true,true,true,false,false,false,false,false] rfl rfl (any_of HT_.out (by kernel_rfl)) (fun _ _ _ h => h) (Or.inr ⟨by rfl,rfl⟩) ?_ ?_
      rotate_left
      · simp only [Act.put,List.setIfInBounds_toArray,List.set_cons_zero,List.set_cons_succ,i64_w,i32_w]
        rfl
      refine pure_ (i:=18) (N:=some 22) (v:=undef) (a':=?_) #[true,true,true,true,true,true,true,true,true,true,true,true,true,true,true,true,true,true,true,false,false,false,false] rfl rfl (any_of HT_.out (by kernel_rfl)) (fun _ _ _ h => h) (Or.inr ⟨by rfl,rfl⟩) ?_ ?_
      rotate_left
      · simp only [Act.put,List.setIfInBounds_toArray,List.set_cons_zero,List.set_cons_succ,i64_w,i32_w]
        rfl
      refine pure_ (i:=19) (N:=some 23) (v:=undef) (a':=?_) #[true,true,true,true,true,true,true,true,true,true,true,true,true,true,true,true,true,true,true,true,false,false,false] rfl rfl (any_of HT_.out (by kernel_rfl)) (fun _ _ _ h => h) (Or.inr ⟨by rfl,rfl⟩) ?_ ?_
      rotate_left
      · simp only [Act.put,List.setIfInBounds_toArray,List.set_cons_zero,List.set_cons_succ,i64_w,i32_w]
        rfl
      refine pure_ (i:=20) (N:=some 24) (v:=undef) (a':=?_) #[true,true,true,true,true,true,true,true,true,true,true,true,true,true,true,true,true,true,true,true,true,false,false] rfl rfl (any_of HT_.out (by kernel_rfl)) (fun _ _ _ h => h) (Or.inr ⟨by rfl,rfl⟩) ?_ ?_
      rotate_left
      · simp only [Act.put,List.setIfInBounds_toArray,List.set_cons_zero,List.set_cons_succ,i64_w,i32_w]
        rfl
      refine pure_ (i:=21) (N:=some 25) (v:=undef) (a':=?_) #[true,true,true,true,true,true,true,true,true,true,true,true,true,true,true,true,true,true,true,true,true,true,false] rfl rfl (any_of HT_.out (by kernel_rfl)) (fun _ _ _ h => h) (Or.inr ⟨by rfl,rfl⟩) ?_ ?_
      rotate_left
      · simp only [Act.put,List.setIfInBounds_toArray,List.set_cons_zero,List.set_cons_succ,i64_w,i32_w]
        rfl
      refine pure_ (i:=22) (N:=some 26) (v:=?_) (a':=?_) #[true,true,true,true,true,true,true,true,true,true,true,true,true,true,true,true,true,true,true,true,true,true,true] rfl rfl (any_of HT_.out (by kernel_rfl)) (fun _ _ _ h => h) (Or.inl ⟨by rfl,?_⟩) ?_ ?_
      rotate_left
      · intro w'
        go_simp
        with_reducible rfl
      rotate_left
      · simp only [Act.put,List.setIfInBounds_toArray,List.set_cons_zero,List.set_cons_succ,i64_w,i32_w]
        rfl
      refine done_ (done_of HT_.out (by kernel_rfl)) ?_
      try go_wp2
      go_meet
      case rel => exact ⟨_,(true),(by first | rfl | (simp;done) | (simp [*];done)),H',⟨by first | omega | exact Nat.le_refl _⟩,⟨by (with_reducible repeat (first | refine blk_drewN ?_ _ | refine blk_drew ?_ | refine blk_alloc ?_ _));exact BK201.out⟩,⟨by repeat (first | (with_reducible first | exact HB.out | apply below_alloc | apply pw_below_drewN | apply below_drew1 | refine below_set ?_ GE201.out) | exact HB.out)⟩⟩
  case rest =>
    clear HC2
    try clear p2
    try clear c5
    try clear c5b0
    try clear c5b1
    try clear c6
    try clear c6b0
    try clear c6b1
    try clear c7
    try clear c8
    obtain ⟨kq,x26_1,rfl,HA,HJ1,BK201,HB⟩:=hcut
    cases kq with
    | zero => exact absurd HA.out (by simp [humusref04_May.j0])
    | succ kj1 =>
      have H:=HA.out
      clear HA
      simp only [humusref04_May.j0] at H
      by_cases c12 : x26_1 = true
      · subst c12
        have H1 : (some false) = some r:=by rw [if_pos rfl] at H;exact H
        clear H
        have H:=H1
        clear H1
        obtain rfl:=Option.some.inj H
        go_wp2
        go_ret
        exact ⟨by first | rfl | (simp [errW_none,errW_some] <;> rfl) | (simp [*,errW_none,errW_some] <;> rfl),by repeat (first | (with_reducible first | exact HB.out | apply below_alloc | apply pw_below_drewN | apply below_drew1 | refine below_set ?_ GE201.out) | exact HB.out)⟩
      · replace c12:=Bool.eq_false_iff.mpr c12
        subst c12
        have H1 : (humusref04_May.l0 kj1 0 a0_0 a0_1 l0_2 a0_3 a0_4 a0_5) = some r:=by rw [if_neg (show ¬ (false = true) by decide)] at H;exact H
        clear H
        have H:=H1
        clear H1
        have H':=Aside0.mk H
        clear H
        go_wp2
        go_loopg [3] kj1 (fun kq v3 w' => ∃ (x3_2 : Int),v3 = .int .i64 x3_2 ∧ Aside0 (humusref04_May.l0 kq x3_2 a0_0 a0_1 l0_2 a0_3 a0_4 a0_5 = some r) ∧ Aside0 (kq ≤ kj1) ∧ Aside0 (w'.heap[gb201]? = some (.cells #[.float .f64 a0_0,.bool a0_1,(.slice A0_2 l0_2.length c0_2),.int .i64 a0_3,.int .i64 a0_4,.int .i64 a0_5] 30 (0,0))) ∧ Aside0 (Below w.heap.size w w'))
        case atStart => exact ⟨(0),(by first | rfl | (simp;done) | (simp [*];done)),H',⟨Nat.le_refl _⟩,⟨by (with_reducible repeat (first | refine blk_drewN ?_ _ | refine blk_drew ?_ | refine blk_alloc ?_ _));exact BK201.out⟩,⟨by repeat (first | (with_reducible first | exact HB.out | apply below_alloc | apply pw_below_drewN | apply below_drew1 | refine below_set ?_ GE201.out) | exact HB.out)⟩⟩
        case round =>
          clear H'
          try clear c1
          try clear p2
          try clear c5
          try clear c5b0
          try clear c5b1
          try clear c6
          try clear c6b0
          try clear c6b1
          try clear c7
          try clear c8
          try clear c12
          try clear p2
          obtain ⟨x3_2,rfl,HA,HK2,BK201,HB⟩:=hrel
          cases gk with
          | zero => exact absurd HA.out (by simp [humusref04_May.l0])
          | succ k2 =>
            have H:=HA.out
            clear HA
            simp only [humusref04_May.l0] at H
            by_cases c13 : x3_2 < (l0_2.length : Int)
            · rw [if_pos c13] at H
              have c13b0 : decide (x3_2 < (l0_2.length : Int)) = true:=decide_eq_true c13
              clear c13
              by_cases c14 : 0 ≤ x3_2
              · rw [if_pos c14] at H
                have c14b0 : decide (0 ≤ x3_2) = true:=decide_eq_true c14
                clear c14
                replace H:=Option.bind_eq_some_iff.mp H
                obtain ⟨t205,A150,H⟩:=H
                replace H : (if (rdF l0_2 x3_2 : Int) = t205 then (humusref04_May.l0 k2 (wrap64 (x3_2 + 1)) a0_0 a0_1 l0_2 a0_3 a0_4 a0_5) else (some false)) = some r:=H
                have A15:=Aside0.mk A150
                clear A150
                by_cases c16 : (rdF l0_2 x3_2 : Int) = t205
                · rw [if_pos c16] at H
                  have c16b0 : ((rdF l0_2 x3_2 : Int) == t205) = true:=beq_iff_eq.mpr c16
                  have c16b1 : ((rdF l0_2 x3_2 : Int) != t205) = false:=bne_eq_false_iff_eq.mpr c16
                  clear c16
                  have H':=Aside0.mk H
                  clear H
                  have hcz17_0 : wr.cell? ⟨gb201,0,none⟩ = some (.float .f64 a0_0):=(blk_cell BK201.out 0).trans rfl
                  have hcz17_1 : wr.cell? ⟨gb201,1,none⟩ = some (.bool a0_1):=(blk_cell BK201.out 1).trans rfl
                  have hcz17_2 : wr.cell? ⟨gb201,2,none⟩ = some (.slice A0_2 l0_2.length c0_2):=(blk_cell BK201.out 2).trans rfl
                  have hcz17_3 : wr.cell? ⟨gb201,3,none⟩ = some (.int .i64 a0_3):=(blk_cell BK201.out 3).trans rfl
                  have hcz17_4 : wr.cell? ⟨gb201,4,none⟩ = some (.int .i64 a0_4):=(blk_cell BK201.out 4).trans rfl
                  have hcz17_5 : wr.cell? ⟨gb201,5,none⟩ = some (.int .i64 a0_5):=(blk_cell BK201.out 5).trans rfl
                  have hfz17_0:=blk_frozen BK201.out 0
                  have hfz17_1:=blk_frozen BK201.out 1
                  have hfz17_2:=blk_frozen BK201.out 2
                  have hfz17_3:=blk_frozen BK201.out 3
                  have hfz17_4:=blk_frozen BK201.out 4
                  have hfz17_5:=blk_frozen BK201.out 5
                  try go_wp2
                  have n0_:=Aside0.mk (blk_drew BK201.out)
                  have n1_:=Aside0.mk (below_drew1 HB.out)
                  clear BK201
                  clear HB
                  have BK201:=n0_
                  have HB:=n1_
                  clear n0_ n1_
                  have p203 : 0 ≤ (x3_2 : Int):=of_decide_eq_true (by first | (with_reducible assumption) | assumption)
                  have q203 : x3_2 < (l0_2.length : Int):=of_decide_eq_true (by first | (with_reducible assumption) | assumption)
                  obtain ⟨ad203,e203,hx203_0⟩:=Kd.at_f64 HR0_2.out x3_2 p203 q203
                  have hw203_0:=hx203_0
                  cases e203
                  replace hx203_0:=(HB.out.cell (World.block_lt_of_cell? w _ hx203_0)).trans hx203_0
                  replace p203:=eq_true p203
                  replace q203:=eq_true q203
                  have p204 : 0 ≤ (x3_2 : Int):=of_decide_eq_true (by first | (with_reducible assumption) | assumption)
                  have q204 : x3_2 < (l0_2.length : Int):=of_decide_eq_true (by first | (with_reducible assumption) | assumption)
                  obtain ⟨ad204,e204,hx204_0⟩:=Kd.at_f64 HR0_2.out x3_2 p204 q204
                  have hw204_0:=hx204_0
                  obtain rfl : ad203 = ad204:=(by injection e204)
                  replace hx204_0:=(HB.out.cell (World.block_lt_of_cell? w _ hx204_0)).trans hx204_0
                  replace p204:=eq_true p204
                  replace q204:=eq_true q204
                  refine start_ (n:=13) (S:=fun w' => w'.cell? ⟨gb201,0,none⟩ = some (.float .f64 a0_0) ∧ w'.cell? ⟨gb201,1,none⟩ = some (.bool a0_1) ∧ w'.cell? ⟨gb201,2,none⟩ = some (.slice (some ad203) l0_2.length c0_2) ∧ w'.cell? ⟨gb201,3,none⟩ = some (.int .i64 a0_3) ∧ w'.cell? ⟨gb201,4,none⟩ = some (.int .i64 a0_4) ∧ w'.cell? ⟨gb201,5,none⟩ = some (.int .i64 a0_5) ∧ w'.cell? (ad203.add (x3_2).toNat) = some (.float .f64 (rdF l0_2 x3_2)) ∧ w'.cell? (ad203.add (x3_2).toNat) = some (.float .f64 (rdF l0_2 x3_2))) (ds:=[11]) #[false,false,false,false,false,false,false,false,false,false,false,false,false] (by kernel_rfl) rfl rfl ⟨(blk_cell BK201.out 0).trans rfl,(blk_cell BK201.out 1).trans rfl,(blk_cell BK201.out 2).trans rfl,(blk_cell BK201.out 3).trans rfl,(blk_cell BK201.out 4).trans rfl,(blk_cell BK201.out 5).trans rfl,((HB.out.cell (World.block_lt_of_cell? w _ hw203_0)).trans hw203_0),((HB.out.cell (World.block_lt_of_cell? w _ hw204_0)).trans hw204_0)⟩ (fun hHeld => ?_);refine with_tabW humusref04_May.tab6 humusref04_May.bits6 (fun HT_ HW_ => ?_)
                  generalize wr.drew = w18 at BK201 HB hx203_0 hx204_0 hHeld ⊢
                  refine pure_ (i:=0) (N:=some 34) (v:=?_) (a':=?_) #[true,false,false,false,false,false,false,false,false,false,false,false,false] rfl rfl (any_of HT_.out (by kernel_rfl)) (fun _ _ _ h => h) (Or.inl ⟨by rfl,?_⟩) ?_ ?_
                  rotate_left
                  · intro w'
                    go_simp
                    with_reducible rfl
                  rotate_left
                  · simp only [Act.put,List.setIfInBounds_toArray,List.set_cons_zero,List.set_cons_succ,i64_w,i32_w]
                    rfl
                  refine pure_ (i:=2) (N:=some 36) (v:=?_) (a':=?_) #[true,false,true,false,false,false,false,false,false,false,false,false,false] rfl rfl (any_of HT_.out (by kernel_rfl)) (fun _ _ _ h => h) (Or.inl ⟨by rfl,?_⟩) ?_ ?_
                  rotate_left
                  · intro w'
                    go_simp
                    with_reducible rfl
                  rotate_left
                  · simp only [Act.put,List.setIfInBounds_toArray,List.set_cons_zero,List.set_cons_succ,i64_w,i32_w]
                    rfl
                  refine pure_ (i:=6) (N:=some 40) (v:=?_) (a':=?_) #[true,false,true,false,false,false,true,false,false,false,false,false,false] rfl rfl (any_of HT_.out (by kernel_rfl)) (fun _ _ _ h => h) (Or.inl ⟨by rfl,?_⟩) ?_ ?_
                  rotate_left
                  · intro w'
                    go_simp
                    with_reducible rfl
                  rotate_left
                  · simp only [Act.put,List.setIfInBounds_toArray,List.set_cons_zero,List.set_cons_succ,i64_w,i32_w]
                    rfl
                  refine pure_ (i:=8) (N:=some 42) (v:=?_) (a':=?_) #[true,false,true,false,false,false,true,false,true,false,false,false,false] rfl rfl (any_of HT_.out (by kernel_rfl)) (fun _ _ _ h => h) (Or.inl ⟨by rfl,?_⟩) ?_ ?_
                  rotate_left
                  · intro w'
                    go_simp
                    with_reducible rfl
                  rotate_left
                  · simp only [Act.put,List.setIfInBounds_toArray,List.set_cons_zero,List.set_cons_succ,i64_w,i32_w]
                    rfl
                  refine take_ (i:=1) (N:=some 35) (v:=?_) (a':=?_) #[true,true,true,false,false,false,true,false,true,false,false,false,false] rfl rfl (take_ofW HT_.out HW_.out (by kernel_rfl)) (fun _ _ _ h => h) (Or.inl ⟨by rfl,?_⟩) hHeld ?_ ?_
                  rotate_left
                  · rintro w' ⟨s0,s1,s2,s3,s4,s5,s6,s7⟩
                    go_simp
                    with_reducible rfl
                  rotate_left
                  · simp only [Act.put,List.setIfInBounds_toArray,List.set_cons_zero,List.set_cons_succ,i64_w,i32_w]
                    rfl
                  refine pure_ (i:=3) (N:=some 37) (v:=?_) (a':=?_) #[true,true,true,true,false,false,true,false,true,false,false,false,false] rfl rfl (any_of HT_.out (by kernel_rfl)) (fun _ _ _ h => h) (Or.inl ⟨by rfl,?_⟩) ?_ ?_
                  rotate_left
                  · intro w'
                    go_simp
                    with_reducible rfl
                  rotate_left
                  · simp only [Act.put,List.setIfInBounds_toArray,List.set_cons_zero,List.set_cons_succ,i64_w,i32_w]
                    rfl
                  refine take_ (i:=4) (N:=some 38) (v:=?_) (a':=?_) #[true,true,true,true,true,false,true,false,true,false,false,false,false] rfl rfl (take_ofW HT_.out HW_.out (by kernel_rfl)) (fun _ _ _ h => h) (Or.inl ⟨by rfl,?_⟩) hHeld ?_ ?_
                  rotate_left
                  · rintro w' ⟨s0,s1,s2,s3,s4,s5,s6,s7⟩
                    go_simp
                    with_reducible rfl
                  rotate_left
                  · simp only [Act.put,List.setIfInBounds_toArray,List.set_cons_zero,List.set_cons_succ,i64_w,i32_w]
                    rfl
                  refine take_ (i:=7) (N:=some 41) (v:=?_) (a':=?_) #[true,true,true,true,true,false,true,true,true,false,false,false,false] rfl rfl (take_ofW HT_.out HW_.out (by kernel_rfl)) (fun _ _ _ h => h) (Or.inl ⟨by rfl,?_⟩) hHeld ?_ ?_
                  rotate_left
                  · rintro w' ⟨s0,s1,s2,s3,s4,s5,s6,s7⟩
                    go_simp
                    with_reducible rfl
                  rotate_left
                  · simp only [Act.put,List.setIfInBounds_toArray,List.set_cons_zero,List.set_cons_succ,i64_w,i32_w]
                    rfl
                  refine pure_ (i:=9) (N:=some 43) (v:=?_) (a':=?_) #[true,true,true,true,true,false,true,true,true,true,false,false,false] rfl rfl (any_of HT_.out (by kernel_rfl)) (fun _ _ _ h => h) (Or.inl ⟨by rfl,?_⟩) ?_ ?_
                  rotate_left
                  · intro w'
                    go_simp
                    with_reducible rfl
                  rotate_left
                  · simp only [Act.put,List.setIfInBounds_toArray,List.set_cons_zero,List.set_cons_succ,i64_w,i32_w]
                    rfl
                  refine take_ (i:=10) (N:=some 44) (v:=?_) (a':=?_) #[true,true,true,true,true,false,true,true,true,true,true,false,false] rfl rfl (take_ofW HT_.out HW_.out (by kernel_rfl)) (fun _ _ _ h => h) (Or.inl ⟨by rfl,?_⟩) hHeld ?_ ?_
                  rotate_left
                  · rintro w' ⟨s0,s1,s2,s3,s4,s5,s6,s7⟩
                    go_simp
                    with_reducible rfl
                  rotate_left
                  · simp only [Act.put,List.setIfInBounds_toArray,List.set_cons_zero,List.set_cons_succ,i64_w,i32_w]
                    rfl
                  refine one_ (i:=5) (N:=some 39) #[true,true,true,true,true,true,true,true,true,true,true,false,false] rfl rfl (one_of HT_.out (by kernel_rfl)) (by decide) (fun K hK => ?_)
                  skip
                  refine value_ (w1:=?_) (v:=?_) (by rfl) rfl ?_ ?_
                  rotate_left 2
                  · go_simp
                    constructor
                    · rfl
                    · rfl
                  skip
                  refine hK.out _ _ ⟨(blk_cell BK201.out 0).trans rfl,(blk_cell BK201.out 1).trans rfl,(blk_cell BK201.out 2).trans rfl,(blk_cell BK201.out 3).trans rfl,(blk_cell BK201.out 4).trans rfl,(blk_cell BK201.out 5).trans rfl,((HB.out.cell (World.block_lt_of_cell? w _ hw203_0)).trans hw203_0),((HB.out.cell (World.block_lt_of_cell? w _ hw204_0)).trans hw204_0)⟩ (fun hHeld => ?_)
                  clear hK K
                  refine norm_ (a':=?_) ?_ ?_
                  rotate_left
                  · show Act.put _ (some 39) _ = _
                    simp only [Act.put,List.setIfInBounds_toArray,List.set_cons_zero,List.set_cons_succ,i64_w,i32_w]
                    rfl
                  refine last_ (i:=11) (N:=some 45) #[true,true,true,true,true,true,true,true,true,true,true,true,false] rfl rfl (one_of HT_.out (by kernel_rfl)) (by decide) (fun K hK => ?_)
                  refine goes_ Try.func72 (by kernel_rfl) rfl #[.float .f64 (rdF l0_2 x3_2)] (by rfl) rfl rfl (by (try simp only [List.map_toArray,List.map_cons,List.map_nil]);first | done | rfl | (simp only [List.length_drop,List.length_take];rfl)) ?_
                  with_reducible refine (humusref01_Value.calls (rdF l0_2 x3_2) t205 _ A15.out).mono ?_
                  rintro e w' ⟨rfl,⟨nd,rfl⟩⟩
                  refine ⟨_,rfl,?_⟩
                  refine hK.out _ _ ?_
                  clear hK K
                  refine norm_ (a':=?_) ?_ ?_
                  rotate_left
                  · show Act.put _ (some 45) _ = _
                    simp only [Act.put,List.setIfInBounds_toArray,List.set_cons_zero,List.set_cons_succ,i64_w,i32_w]
                    rfl
                  refine pure_ (i:=12) (N:=some 46) (v:=?_) (a':=?_) #[true,true,true,true,true,true,true,true,true,true,true,true,true] rfl rfl (any_of HT_.out (by kernel_rfl)) (fun _ _ _ h => h) (Or.inl ⟨by rfl,?_⟩) ?_ ?_
                  rotate_left
                  · intro w'
                    go_simp
                    with_reducible rfl
                  rotate_left
                  · simp only [Act.put,List.setIfInBounds_toArray,List.set_cons_zero,List.set_cons_succ,i64_w,i32_w]
                    rfl
                  refine done_ (done_of HT_.out (by kernel_rfl)) ?_
                  try go_wp2
                  go_roundg k2
                  case measure => have:=HJ1.out;have:=HK2.out;omega
                  case rel => exact ⟨(wrap64 (x3_2 + 1)),(by first | rfl | (simp;done) | (simp [*];done)),H',⟨by have:=HJ1.out;have:=HK2.out;omega⟩,⟨by (with_reducible repeat (first | refine blk_drewN ?_ _ | refine blk_drew ?_ | refine blk_alloc ?_ _));exact BK201.out⟩,⟨by repeat (first | (with_reducible first | exact HB.out | apply below_alloc | apply pw_below_drewN | apply below_drew1 | refine below_set ?_ GE201.out) | exact HB.out)⟩⟩
                · rw [if_neg c16] at H
                  have c16b0 : ((rdF l0_2 x3_2 : Int) == t205) = false:=beq_eq_false_iff_ne.mpr c16
                  have c16b1 : ((rdF l0_2 x3_2 : Int) != t205) = true:=bne_iff_ne.mpr c16
                  obtain rfl:=Option.some.inj H
                  have hcz19_0 : wr.cell? ⟨gb201,0,none⟩ = some (.float .f64 a0_0):=(blk_cell BK201.out 0).trans rfl
                  have hcz19_1 : wr.cell? ⟨gb201,1,none⟩ = some (.bool a0_1):=(blk_cell BK201.out 1).trans rfl
                  have hcz19_2 : wr.cell? ⟨gb201,2,none⟩ = some (.slice A0_2 l0_2.length c0_2):=(blk_cell BK201.out 2).trans rfl
                  have hcz19_3 : wr.cell? ⟨gb201,3,none⟩ = some (.int .i64 a0_3):=(blk_cell BK201.out 3).trans rfl
                  have hcz19_4 : wr.cell? ⟨gb201,4,none⟩ = some (.int .i64 a0_4):=(blk_cell BK201.out 4).trans rfl
                  have hcz19_5 : wr.cell? ⟨gb201,5,none⟩ = some (.int .i64 a0_5):=(blk_cell BK201.out 5).trans rfl
                  have hfz19_0:=blk_frozen BK201.out 0
                  have hfz19_1:=blk_frozen BK201.out 1
                  have hfz19_2:=blk_frozen BK201.out 2
                  have hfz19_3:=blk_frozen BK201.out 3
                  have hfz19_4:=blk_frozen BK201.out 4
                  have hfz19_5:=blk_frozen BK201.out 5
                  try go_wp2
                  have n0_:=Aside0.mk (blk_drew BK201.out)
                  have n1_:=Aside0.mk (below_drew1 HB.out)
                  clear BK201
                  clear HB
                  have BK201:=n0_
                  have HB:=n1_
                  clear n0_ n1_
                  have p203 : 0 ≤ (x3_2 : Int):=of_decide_eq_true (by first | (with_reducible assumption) | assumption)
                  have q203 : x3_2 < (l0_2.length : Int):=of_decide_eq_true (by first | (with_reducible assumption) | assumption)
                  obtain ⟨ad203,e203,hx203_0⟩:=Kd.at_f64 HR0_2.out x3_2 p203 q203
                  have hw203_0:=hx203_0
                  cases e203
                  replace hx203_0:=(HB.out.cell (World.block_lt_of_cell? w _ hx203_0)).trans hx203_0
                  replace p203:=eq_true p203
                  replace q203:=eq_true q203
                  have p204 : 0 ≤ (x3_2 : Int):=of_decide_eq_true (by first | (with_reducible assumption) | assumption)
                  have q204 : x3_2 < (l0_2.length : Int):=of_decide_eq_true (by first | (with_reducible assumption) | assumption)
                  obtain ⟨ad204,e204,hx204_0⟩:=Kd.at_f64 HR0_2.out x3_2 p204 q204
                  have hw204_0:=hx204_0
                  obtain rfl : ad203 = ad204:=(by injection e204)
                  replace hx204_0:=(HB.out.cell (World.block_lt_of_cell? w _ hx204_0)).trans hx204_0
                  replace p204:=eq_true p204
                  replace q204:=eq_true q204
                  refine start_ (n:=13) (S:=fun w' => w'.cell? ⟨gb201,0,none⟩ = some (.float .f64 a0_0) ∧ w'.cell? ⟨gb201,1,none⟩ = some (.bool a0_1) ∧ w'.cell? ⟨gb201,2,none⟩ = some (.slice (some ad203) l0_2.length c0_2) ∧ w'.cell? ⟨gb201,3,none⟩ = some (.int .i64 a0_3) ∧ w'.cell? ⟨gb201,4,none⟩ = some (.int .i64 a0_4) ∧ w'.cell? ⟨gb201,5,none⟩ = some (.int .i64 a0_5) ∧ w'.cell? (ad203.add (x3_2).toNat) = some (.float .f64 (rdF l0_2 x3_2)) ∧ w'.cell? (ad203.add (x3_2).toNat) = some (.float .f64 (rdF l0_2 x3_2))) (ds:=[11]) #[false,false,false,false,false,false,false,false,false,false,false,false,false] (by kernel_rfl) rfl rfl ⟨(blk_cell BK201.out 0).trans rfl,(blk_cell BK201.out 1).trans rfl,(blk_cell BK201.out 2).trans rfl,(blk_cell BK201.out 3).trans rfl,(blk_cell BK201.out 4).trans rfl,(blk_cell BK201.out 5).trans rfl,((HB.out.cell (World.block_lt_of_cell? w _ hw203_0)).trans hw203_0),((HB.out.cell (World.block_lt_of_cell? w _ hw204_0)).trans hw204_0)⟩ (fun hHeld => ?_);refine with_tabW humusref04_May.tab6 humusref04_May.bits6 (fun HT_ HW_ => ?_)
                  generalize wr.drew = w20 at BK201 HB hx203_0 hx204_0 hHeld ⊢
                  refine pure_ (i:=0) (N:=some 34) (v:=?_) (a':=?_) #[true,false,false,false,false,false,false,false,false,false,false,false,false] rfl rfl (any_of HT_.out (by kernel_rfl)) (fun _ _ _ h => h) (Or.inl ⟨by rfl,?_⟩) ?_ ?_
                  rotate_left
                  · intro w'
                    go_simp
                    with_reducible rfl
                  rotate_left
                  · simp only [Act.put,List.setIfInBounds_toArray,List.set_cons_zero,List.set_cons_succ,i64_w,i32_w]
                    rfl
                  refine pure_ (i:=2) (N:=some 36) (v:=?_) (a':=?_) #[true,false,true,false,false,false,false,false,false,false,false,false,false] rfl rfl (any_of HT_.out (by kernel_rfl)) (fun _ _ _ h => h) (Or.inl ⟨by rfl,?_⟩) ?_ ?_
                  rotate_left
                  · intro w'
                    go_simp
                    with_reducible rfl
                  rotate_left
                  · simp only [Act.put,List.setIfInBounds_toArray,List.set_cons_zero,List.set_cons_succ,i64_w,i32_w]
                    rfl
                  refine pure_ (i:=6) (N:=some 40) (v:=?_) (a':=?_) #[true,false,true,false,false,false,true,false,false,false,false,false,false] rfl rfl (any_of HT_.out (by kernel_rfl)) (fun _ _ _ h => h) (Or.inl ⟨by rfl,?_⟩) ?_ ?_
                  rotate_left
                  · intro w'
                    go_simp
                    with_reducible rfl
                  rotate_left
                  · simp only [Act.put,List.setIfInBounds_toArray,List.set_cons_zero,List.set_cons_succ,i64_w,i32_w]
                    rfl
                  refine pure_ (i:=8) (N:=some 42) (v:=?_) (a':=?_) #[true,false,true,false,false,false,true,false,true,false,false,false,false] rfl rfl (any_of HT_.out (by kernel_rfl)) (fun _ _ _ h => h) (Or.inl ⟨by rfl,?_⟩) ?_ ?_
                  rotate_left
                  · intro w'
                    go_simp
                    with_reducible rfl
                  rotate_left
                  · simp only [Act.put,List.setIfInBounds_toArray,List.set_cons_zero,List.set_cons_succ,i64_w,i32_w]
                    rfl
                  refine take_ (i:=1) (N:=some 35) (v:=?_) (a':=?_) #[true,true,true,false,false,false,true,false,true,false,false,false,false] rfl rfl (take_ofW HT_.out HW_.out (by kernel_rfl)) (fun _ _ _ h => h) (Or.inl ⟨by rfl,?_⟩) hHeld ?_ ?_
                  rotate_left
                  · rintro w' ⟨s0,s1,s2,s3,s4,s5,s6,s7⟩
                    go_simp
                    with_reducible rfl
                  rotate_left
                  · simp only [Act.put,List.setIfInBounds_toArray,List.set_cons_zero,List.set_cons_succ,i64_w,i32_w]
                    rfl
                  refine pure_ (i:=3) (N:=some 37) (v:=?_) (a':=?_) #[true,true,true,true,false,false,true,false,true,false,false,false,false] rfl rfl (any_of HT_.out (by kernel_rfl)) (fun _ _ _ h => h) (Or.inl ⟨by rfl,?_⟩) ?_ ?_
                  rotate_left
                  · intro w'
                    go_simp
                    with_reducible rfl
                  rotate_left
                  · simp only [Act.put,List.setIfInBounds_toArray,List.set_cons_zero,List.set_cons_succ,i64_w,i32_w]
                    rfl
                  refine take_ (i:=4) (N:=some 38) (v:=?_) (a':=?_) #[true,true,true,true,true,false,true,false,true,false,false,false,false] rfl rfl (take_ofW HT_.out HW_.out (by kernel_rfl)) (fun _ _ _ h => h) (Or.inl ⟨by rfl,?_⟩) hHeld ?_ ?_
                  rotate_left
                  · rintro w' ⟨s0,s1,s2,s3,s4,s5,s6,s7⟩
                    go_simp
                    with_reducible rfl
                  rotate_left
                  · simp only [Act.put,List.setIfInBounds_toArray,List.set_cons_zero,List.set_cons_succ,i64_w,i32_w]
                    rfl
                  refine take_ (i:=7) (N:=some 41) (v:=?_) (a':=?_) #[true,true,true,true,true,false,true,true,true,false,false,false,false] rfl rfl (take_ofW HT_.out HW_.out (by kernel_rfl)) (fun _ _ _ h => h) (Or.inl ⟨by rfl,?_⟩) hHeld ?_ ?_
                  rotate_left
                  · rintro w' ⟨s0,s1,s2,s3,s4,s5,s6,s7⟩
                    go_simp
                    with_reducible rfl
                  rotate_left
                  · simp only [Act.put,List.setIfInBounds_toArray,List.set_cons_zero,List.set_cons_succ,i64_w,i32_w]
                    rfl
                  refine pure_ (i:=9) (N:=some 43) (v:=?_) (a':=?_) #[true,true,true,true,true,false,true,true,true,true,false,false,false] rfl rfl (any_of HT_.out (by kernel_rfl)) (fun _ _ _ h => h) (Or.inl ⟨by rfl,?_⟩) ?_ ?_
                  rotate_left
                  · intro w'
                    go_simp
                    with_reducible rfl
                  rotate_left
                  · simp only [Act.put,List.setIfInBounds_toArray,List.set_cons_zero,List.set_cons_succ,i64_w,i32_w]
                    rfl
                  refine take_ (i:=10) (N:=some 44) (v:=?_) (a':=?_) #[true,true,true,true,true,false,true,true,true,true,true,false,false] rfl rfl (take_ofW HT_.out HW_.out (by kernel_rfl)) (fun _ _ _ h => h) (Or.inl ⟨by rfl,?_⟩) hHeld ?_ ?_
                  rotate_left
                  · rintro w' ⟨s0,s1,s2,s3,s4,s5,s6,s7⟩
                    go_simp
                    with_reducible rfl
                  rotate_left
                  · simp only [Act.put,List.setIfInBounds_toArray,List.set_cons_zero,List.set_cons_succ,i64_w,i32_w]
                    rfl
                  refine one_ (i:=5) (N:=some 39) #[true,true,true,true,true,true,true,true,true,true,true,false,false] rfl rfl (one_of HT_.out (by kernel_rfl)) (by decide) (fun K hK => ?_)
                  skip
                  refine value_ (w1:=?_) (v:=?_) (by rfl) rfl ?_ ?_
                  rotate_left 2
                  · go_simp
                    constructor
                    · rfl
                    · rfl
                  skip
                  refine hK.out _ _ ⟨(blk_cell BK201.out 0).trans rfl,(blk_cell BK201.out 1).trans rfl,(blk_cell BK201.out 2).trans rfl,(blk_cell BK201.out 3).trans rfl,(blk_cell BK201.out 4).trans rfl,(blk_cell BK201.out 5).trans rfl,((HB.out.cell (World.block_lt_of_cell? w _ hw203_0)).trans hw203_0),((HB.out.cell (World.block_lt_of_cell? w _ hw204_0)).trans hw204_0)⟩ (fun hHeld => ?_)
                  clear hK K
                  refine norm_ (a':=?_) ?_ ?_
                  rotate_left
                  · show Act.put _ (some 39) _ = _
                    simp only [Act.put,List.setIfInBounds_toArray,List.set_cons_zero,List.set_cons_succ,i64_w,i32_w]
                    rfl
                  refine last_ (i:=11) (N:=some 45) #[true,true,true,true,true,true,true,true,true,true,true,true,false] rfl rfl (one_of HT_.out (by kernel_rfl)) (by decide) (fun K hK => ?_)
                  refine goes_ Try.func72 (by kernel_rfl) rfl #[.float .f64 (rdF l0_2 x3_2)] (by rfl) rfl rfl (by (try simp only [List.map_toArray,List.map_cons,List.map_nil]);first | done | rfl | (simp only [List.length_drop,List.length_take];rfl)) ?_
                  with_reducible refine (humusref01_Value.calls (rdF l0_2 x3_2) t205 _ A15.out).mono ?_
                  rintro e w' ⟨rfl,⟨nd,rfl⟩⟩
                  refine ⟨_,rfl,?_⟩
                  refine hK.out _ _ ?_
                  clear hK K
                  refine norm_ (a':=?_) ?_ ?_
                  rotate_left
                  · show Act.put _ (some 45) _ = _
                    simp only [Act.put,List.setIfInBounds_toArray,List.set_cons_zero,List.set_cons_succ,i64_w,i32_w]
                    rfl
                  refine pure_ (i:=12) (N:=some 46) (v:=?_) (a':=?_) #[true,true,true,true,true,true,true,true,true,true,true,true,true] rfl rfl (any_of HT_.out (by kernel_rfl)) (fun _ _ _ h => h) (Or.inl ⟨by rfl,?_⟩) ?_ ?_
                  rotate_left
                  · intro w'
                    go_simp
                    with_reducible rfl
                  rotate_left
                  · simp only [Act.put,List.setIfInBounds_toArray,List.set_cons_zero,List.set_cons_succ,i64_w,i32_w]
                    rfl
                  refine done_ (done_of HT_.out (by kernel_rfl)) ?_
                  try go_wp2
                  go_ret
                  exact ⟨by first | rfl | (simp [errW_none,errW_some] <;> rfl) | (simp [*,errW_none,errW_some] <;> rfl),by repeat (first | (with_reducible first | exact HB.out | apply below_alloc | apply pw_below_drewN | apply below_drew1 | refine below_set ?_ GE201.out) | exact HB.out)⟩
              · rw [if_neg c14] at H
                exact absurd H (by simp)
            · rw [if_neg c13] at H
              have c13b0 : decide (x3_2 < (l0_2.length : Int)) = false:=decide_eq_false c13
              clear c13
              by_cases c21 : a0_3 ≥ 0
              · rw [if_pos c21] at H
                have c21b0 : decide (0 ≤ a0_3) = true:=decide_eq_true c21
                clear c21
                by_cases c22 : a0_3 < 2147483648
                · rw [if_pos c22] at H
                  have c22b0 : decide (a0_3 < 2147483648) = true:=decide_eq_true c22
                  clear c22
                  by_cases c23 : a0_4 ≥ 0
                  · rw [if_pos c23] at H
                    have c23b0 : decide (0 ≤ a0_4) = true:=decide_eq_true c23
                    clear c23
                    by_cases c24 : a0_4 < 65536
                    · rw [if_pos c24] at H
                      have c24b0 : decide (a0_4 < 65536) = true:=decide_eq_true c24
                      clear c24
                      by_cases c25 : a0_5 ≥ 0
                      · rw [if_pos c25] at H
                        have c25b0 : decide (0 ≤ a0_5) = true:=decide_eq_true c25
                        clear c25
                        by_cases c26 : a0_5 < 2147483648
                        · rw [if_pos c26] at H
                          have c26b0 : decide (a0_5 < 2147483648) = true:=decide_eq_true c26
                          clear c26
                          by_cases c27 : a0_4 > 0
                          · rw [if_pos c27] at H
                            have c27b0 : decide (0 < a0_4) = true:=decide_eq_true c27
                            clear c27
                            obtain rfl:=Option.some.inj H
                            have hcz28_0 : wr.cell? ⟨gb201,0,none⟩ = some (.float .f64 a0_0):=(blk_cell BK201.out 0).trans rfl
                            have hcz28_1 : wr.cell? ⟨gb201,1,none⟩ = some (.bool a0_1):=(blk_cell BK201.out 1).trans rfl
                            have hcz28_2 : wr.cell? ⟨gb201,2,none⟩ = some (.slice A0_2 l0_2.length c0_2):=(blk_cell BK201.out 2).trans rfl
                            have hcz28_3 : wr.cell? ⟨gb201,3,none⟩ = some (.int .i64 a0_3):=(blk_cell BK201.out 3).trans rfl
                            have hcz28_4 : wr.cell? ⟨gb201,4,none⟩ = some (.int .i64 a0_4):=(blk_cell BK201.out 4).trans rfl
                            have hcz28_5 : wr.cell? ⟨gb201,5,none⟩ = some (.int .i64 a0_5):=(blk_cell BK201.out 5).trans rfl
                            have hfz28_0:=blk_frozen BK201.out 0
                            have hfz28_1:=blk_frozen BK201.out 1
                            have hfz28_2:=blk_frozen BK201.out 2
                            have hfz28_3:=blk_frozen BK201.out 3
                            have hfz28_4:=blk_frozen BK201.out 4
                            have hfz28_5:=blk_frozen BK201.out 5
                            go_wp2
                            go_ret
                            exact ⟨by first | rfl | (simp [errW_none,errW_some] <;> rfl) | (simp [*,errW_none,errW_some] <;> rfl),by repeat (first | (with_reducible first | exact HB.out | apply below_alloc | apply pw_below_drewN | apply below_drew1 | refine below_set ?_ GE201.out) | exact HB.out)⟩
                          · rw [if_neg c27] at H
                            have c27b0 : decide (0 < a0_4) = false:=decide_eq_false c27
                            clear c27
                            obtain rfl:=Option.some.inj H
                            have hcz29_0 : wr.cell? ⟨gb201,0,none⟩ = some (.float .f64 a0_0):=(blk_cell BK201.out 0).trans rfl
                            have hcz29_1 : wr.cell? ⟨gb201,1,none⟩ = some (.bool a0_1):=(blk_cell BK201.out 1).trans rfl
                            have hcz29_2 : wr.cell? ⟨gb201,2,none⟩ = some (.slice A0_2 l0_2.length c0_2):=(blk_cell BK201.out 2).trans rfl
                            have hcz29_3 : wr.cell? ⟨gb201,3,none⟩ = some (.int .i64 a0_3):=(blk_cell BK201.out 3).trans rfl
                            have hcz29_4 : wr.cell? ⟨gb201,4,none⟩ = some (.int .i64 a0_4):=(blk_cell BK201.out 4).trans rfl
                            have hcz29_5 : wr.cell? ⟨gb201,5,none⟩ = some (.int .i64 a0_5):=(blk_cell BK201.out 5).trans rfl
                            have hfz29_0:=blk_frozen BK201.out 0
                            have hfz29_1:=blk_frozen BK201.out 1
                            have hfz29_2:=blk_frozen BK201.out 2
                            have hfz29_3:=blk_frozen BK201.out 3
                            have hfz29_4:=blk_frozen BK201.out 4
                            have hfz29_5:=blk_frozen BK201.out 5
                            go_wp2
                            go_ret
                            exact ⟨by first | rfl | (simp [errW_none,errW_some] <;> rfl) | (simp [*,errW_none,errW_some] <;> rfl),by repeat (first | (with_reducible first | exact HB.out | apply below_alloc | apply pw_below_drewN | apply below_drew1 | refine below_set ?_ GE201.out) | exact HB.out)⟩
                        · rw [if_neg c26] at H
                          have c26b0 : decide (a0_5 < 2147483648) = false:=decide_eq_false c26
                          clear c26
                          obtain rfl:=Option.some.inj H
                          have hcz30_0 : wr.cell? ⟨gb201,0,none⟩ = some (.float .f64 a0_0):=(blk_cell BK201.out 0).trans rfl
                          have hcz30_1 : wr.cell? ⟨gb201,1,none⟩ = some (.bool a0_1):=(blk_cell BK201.out 1).trans rfl
                          have hcz30_2 : wr.cell? ⟨gb201,2,none⟩ = some (.slice A0_2 l0_2.length c0_2):=(blk_cell BK201.out 2).trans rfl
                          have hcz30_3 : wr.cell? ⟨gb201,3,none⟩ = some (.int .i64 a0_3):=(blk_cell BK201.out 3).trans rfl
                          have hcz30_4 : wr.cell? ⟨gb201,4,none⟩ = some (.int .i64 a0_4):=(blk_cell BK201.out 4).trans rfl
                          have hcz30_5 : wr.cell? ⟨gb201,5,none⟩ = some (.int .i64 a0_5):=(blk_cell BK201.out 5).trans rfl
                          have hfz30_0:=blk_frozen BK201.out 0
                          have hfz30_1:=blk_frozen BK201.out 1
                          have hfz30_2:=blk_frozen BK201.out 2
                          have hfz30_3:=blk_frozen BK201.out 3
                          have hfz30_4:=blk_frozen BK201.out 4
                          have hfz30_5:=blk_frozen BK201.out 5
                          go_wp2
                          go_ret
                          exact ⟨by first | rfl | (simp [errW_none,errW_some] <;> rfl) | (simp [*,errW_none,errW_some] <;> rfl),by repeat (first | (with_reducible first | exact HB.out | apply below_alloc | apply pw_below_drewN | apply below_drew1 | refine below_set ?_ GE201.out) | exact HB.out)⟩
                      · rw [if_neg c25] at H
                        have c25b0 : decide (0 ≤ a0_5) = false:=decide_eq_false c25
                        clear c25
                        obtain rfl:=Option.some.inj H
                        have hcz31_0 : wr.cell? ⟨gb201,0,none⟩ = some (.float .f64 a0_0):=(blk_cell BK201.out 0).trans rfl
                        have hcz31_1 : wr.cell? ⟨gb201,1,none⟩ = some (.bool a0_1):=(blk_cell BK201.out 1).trans rfl
                        have hcz31_2 : wr.cell? ⟨gb201,2,none⟩ = some (.slice A0_2 l0_2.length c0_2):=(blk_cell BK201.out 2).trans rfl
                        have hcz31_3 : wr.cell? ⟨gb201,3,none⟩ = some (.int .i64 a0_3):=(blk_cell BK201.out 3).trans rfl
                        have hcz31_4 : wr.cell? ⟨gb201,4,none⟩ = some (.int .i64 a0_4):=(blk_cell BK201.out 4).trans rfl
                        have hcz31_5 : wr.cell? ⟨gb201,5,none⟩ = some (.int .i64 a0_5):=(blk_cell BK201.out 5).trans rfl
                        have hfz31_0:=blk_frozen BK201.out 0
                        have hfz31_1:=blk_frozen BK201.out 1
                        have hfz31_2:=blk_frozen BK201.out 2
                        have hfz31_3:=blk_frozen BK201.out 3
                        have hfz31_4:=blk_frozen BK201.out 4
                        have hfz31_5:=blk_frozen BK201.out 5
                        go_wp2
                        go_ret
                        exact ⟨by first | rfl | (simp [errW_none,errW_some] <;> rfl) | (simp [*,errW_none,errW_some] <;> rfl),by repeat (first | (with_reducible first | exact HB.out | apply below_alloc | apply pw_below_drewN | apply below_drew1 | refine below_set ?_ GE201.out) | exact HB.out)⟩
                    · rw [if_neg c24] at H
                      have c24b0 : decide (a0_4 < 65536) = false:=decide_eq_false c24
                      clear c24
                      obtain rfl:=Option.some.inj H
                      have hcz32_0 : wr.cell? ⟨gb201,0,none⟩ = some (.float .f64 a0_0):=(blk_cell BK201.out 0).trans rfl
                      have hcz32_1 : wr.cell? ⟨gb201,1,none⟩ = some (.bool a0_1):=(blk_cell BK201.out 1).trans rfl
                      have hcz32_2 : wr.cell? ⟨gb201,2,none⟩ = some (.slice A0_2 l0_2.length c0_2):=(blk_cell BK201.out 2).trans rfl
                      have hcz32_3 : wr.cell? ⟨gb201,3,none⟩ = some (.int .i64 a0_3):=(blk_cell BK201.out 3).trans rfl
                      have hcz32_4 : wr.cell? ⟨gb201,4,none⟩ = some (.int .i64 a0_4):=(blk_cell BK201.out 4).trans rfl
                      have hcz32_5 : wr.cell? ⟨gb201,5,none⟩ = some (.int .i64 a0_5):=(blk_cell BK201.out 5).trans rfl
                      have hfz32_0:=blk_frozen BK201.out 0
                      have hfz32_1:=blk_frozen BK201.out 1
                      have hfz32_2:=blk_frozen BK201.out 2
                      have hfz32_3:=blk_frozen BK201.out 3
                      have hfz32_4:=blk_frozen BK201.out 4
                      have hfz32_5:=blk_frozen BK201.out 5
                      go_wp2
                      go_ret
                      exact ⟨by first | rfl | (simp [errW_none,errW_some] <;> rfl) | (simp [*,errW_none,errW_some] <;> rfl),by repeat (first | (with_reducible first | exact HB.out | apply below_alloc | apply pw_below_drewN | apply below_drew1 | refine below_set ?_ GE201.out) | exact HB.out)⟩
                  · rw [if_neg c23] at H
                    have c23b0 : decide (0 ≤ a0_4) = false:=decide_eq_false c23
                    clear c23
                    obtain rfl:=Option.some.inj H
                    have hcz33_0 : wr.cell? ⟨gb201,0,none⟩ = some (.float .f64 a0_0):=(blk_cell BK201.out 0).trans rfl
                    have hcz33_1 : wr.cell? ⟨gb201,1,none⟩ = some (.bool a0_1):=(blk_cell BK201.out 1).trans rfl
                    have hcz33_2 : wr.cell? ⟨gb201,2,none⟩ = some (.slice A0_2 l0_2.length c0_2):=(blk_cell BK201.out 2).trans rfl
                    have hcz33_3 : wr.cell? ⟨gb201,3,none⟩ = some (.int .i64 a0_3):=(blk_cell BK201.out 3).trans rfl
                    have hcz33_4 : wr.cell? ⟨gb201,4,none⟩ = some (.int .i64 a0_4):=(blk_cell BK201.out 4).trans rfl
                    have hcz33_5 : wr.cell? ⟨gb201,5,none⟩ = some (.int .i64 a0_5):=(blk_cell BK201.out 5).trans rfl
                    have hfz33_0:=blk_frozen BK201.out 0
                    have hfz33_1:=blk_frozen BK201.out 1
                    have hfz33_2:=blk_frozen BK201.out 2
                    have hfz33_3:=blk_frozen BK201.out 3
                    have hfz33_4:=blk_frozen BK201.out 4
                    have hfz33_5:=blk_frozen BK201.out 5
                    go_wp2
                    go_ret
                    exact ⟨by first | rfl | (simp [errW_none,errW_some] <;> rfl) | (simp [*,errW_none,errW_some] <;> rfl),by repeat (first | (with_reducible first | exact HB.out | apply below_alloc | apply pw_below_drewN | apply below_drew1 | refine below_set ?_ GE201.out) | exact HB.out)⟩
                · rw [if_neg c22] at H
                  have c22b0 : decide (a0_3 < 2147483648) = false:=decide_eq_false c22
                  clear c22
                  obtain rfl:=Option.some.inj H
                  have hcz34_0 : wr.cell? ⟨gb201,0,none⟩ = some (.float .f64 a0_0):=(blk_cell BK201.out 0).trans rfl
                  have hcz34_1 : wr.cell? ⟨gb201,1,none⟩ = some (.bool a0_1):=(blk_cell BK201.out 1).trans rfl
                  have hcz34_2 : wr.cell? ⟨gb201,2,none⟩ = some (.slice A0_2 l0_2.length c0_2):=(blk_cell BK201.out 2).trans rfl
                  have hcz34_3 : wr.cell? ⟨gb201,3,none⟩ = some (.int .i64 a0_3):=(blk_cell BK201.out 3).trans rfl
                  have hcz34_4 : wr.cell? ⟨gb201,4,none⟩ = some (.int .i64 a0_4):=(blk_cell BK201.out 4).trans rfl
                  have hcz34_5 : wr.cell? ⟨gb201,5,none⟩ = some (.int .i64 a0_5):=(blk_cell BK201.out 5).trans rfl
                  have hfz34_0:=blk_frozen BK201.out 0
                  have hfz34_1:=blk_frozen BK201.out 1
                  have hfz34_2:=blk_frozen BK201.out 2
                  have hfz34_3:=blk_frozen BK201.out 3
                  have hfz34_4:=blk_frozen BK201.out 4
                  have hfz34_5:=blk_frozen BK201.out 5
                  go_wp2
                  go_ret
                  exact ⟨by first | rfl | (simp [errW_none,errW_some] <;> rfl) | (simp [*,errW_none,errW_some] <;> rfl),by repeat (first | (with_reducible first | exact HB.out | apply below_alloc | apply pw_below_drewN | apply below_drew1 | refine below_set ?_ GE201.out) | exact HB.out)⟩
              · rw [if_neg c21] at H
                have c21b0 : decide (0 ≤ a0_3) = false:=decide_eq_false c21
                clear c21
                obtain rfl:=Option.some.inj H
                have hcz35_0 : wr.cell? ⟨gb201,0,none⟩ = some (.float .f64 a0_0):=(blk_cell BK201.out 0).trans rfl
                have hcz35_1 : wr.cell? ⟨gb201,1,none⟩ = some (.bool a0_1):=(blk_cell BK201.out 1).trans rfl
                have hcz35_2 : wr.cell? ⟨gb201,2,none⟩ = some (.slice A0_2 l0_2.length c0_2):=(blk_cell BK201.out 2).trans rfl
                have hcz35_3 : wr.cell? ⟨gb201,3,none⟩ = some (.int .i64 a0_3):=(blk_cell BK201.out 3).trans rfl
                have hcz35_4 : wr.cell? ⟨gb201,4,none⟩ = some (.int .i64 a0_4):=(blk_cell BK201.out 4).trans rfl
                have hcz35_5 : wr.cell? ⟨gb201,5,none⟩ = some (.int .i64 a0_5):=(blk_cell BK201.out 5).trans rfl
                have hfz35_0:=blk_frozen BK201.out 0
                have hfz35_1:=blk_frozen BK201.out 1
                have hfz35_2:=blk_frozen BK201.out 2
                have hfz35_3:=blk_frozen BK201.out 3
                have hfz35_4:=blk_frozen BK201.out 4
                have hfz35_5:=blk_frozen BK201.out 5
                go_wp2
                go_ret
                exact ⟨by first | rfl | (simp [errW_none,errW_some] <;> rfl) | (simp [*,errW_none,errW_some] <;> rfl),by repeat (first | (with_reducible first | exact HB.out | apply below_alloc | apply pw_below_drewN | apply below_drew1 | refine below_set ?_ GE201.out) | exact HB.out)⟩
end Go.Proofs.Ytdcllbhkjcdnoaa.P
