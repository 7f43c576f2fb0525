/- Put together by wip/prune.py out of this claim's texts. -/
import Derived.Test.YtdcllbhkjcdnoaaMUndoOnce5
import Derived.Test.YtdcllbhkjcdnoaaMUndoOnce7
import Derived.Test.YtdcllbhkjcdnoaaMUndoOnce9
namespace Go.Proofs.Ytdcllbhkjcdnoaa.P
open Go.RowKit Go.Proofs.YtdcllbhkjcdnoaaW.PrintWords Go.Proofs.YtdcllbhkjcdnoaaW.PrintLast Go.Proofs.YtdcllbhkjcdnoaaW.PrintMore
attribute [local go_sem] max2_int min2_int max_two min_two max_three min_three max_four min_four   -- for this text's walks alone
attribute [local go_sem] run_store_float
set_option linter.unusedVariables false
set_option linter.unusedSimpArgs false
theorem eqA28 (d : Nat) (w : World) (x0 y0 : Int) (x1 y1 : Int) :
    (Op.equalIn (d + 2) 28 (.agg #[.int .i64 x0, .int .i64 x1]) (.agg #[.int .i64 y0, .int .i64 y1])).run Try.prog w = .ok (x0 == y0 && (x1 == y1)) w := by
  refine eqA_of Try.underlying28 (by kernel_rfl) ?_
  refine eqf_cons (by rfl) (by go_simp; rfl) (by go_simp; rfl) (by go_simp) ?_
  exact eqf_last (by rfl) (by go_simp; rfl) (by go_simp; rfl) (by go_simp)
end Go.Proofs.Ytdcllbhkjcdnoaa.P
namespace Go.Proofs.Ytdcllbhkjcdnoaa.P
open Go.RowKit Go.Proofs.YtdcllbhkjcdnoaaW.PrintWords Go.Proofs.YtdcllbhkjcdnoaaW.PrintLast Go.Proofs.YtdcllbhkjcdnoaaW.PrintMore
attribute [local go_sem] max2_int min2_int max_two min_two max_three min_three max_four min_four   -- for this text's walks alone
attribute [local go_sem] run_store_float
set_option linter.unusedVariables false
set_option linter.unusedSimpArgs false
attribute [local go_sem high] eqA28
def row_Same.f (a0_0 : Nat) (a0_1 : Bool) (l0_2 : List Nat) (a0_3 : Int) (a0_4 : Int) (a0_5 : Int) (a1_0 : Nat) (a1_1 : Bool) (l1_2 : List Nat) (a1_3 : Int) (a1_4 : Int) (a1_5 : Int) : Option (Bool):=(num_Same.f a0_0 a1_0).bind fun t172 => (if t172 = true then (if (a0_1 == a1_1) = true then (if a0_3 = a1_3 then (if (a0_4 == a1_4 && (a0_5 == a1_5)) = true then ((equalFunc_num_Same.f l0_2 l1_2).bind fun t173 => (some t173)) else (some false)) else (some false)) else (some false)) else (some false))
set_option maxHeartbeats 8000000 in
set_option maxRecDepth 100000 in
theorem row_Same.calls (a0_0 : Nat) (a0_1 : Bool) (A0_2 : Option Addr) (c0_2 : Nat) (l0_2 : List Nat) (a0_3 : Int) (a0_4 : Int) (a0_5 : Int) (a1_0 : Nat) (a1_1 : Bool) (A1_2 : Option Addr) (c1_2 : Nat) (l1_2 : List Nat) (a1_3 : Int) (a1_4 : Int) (a1_5 : Int) (r : Bool) (w : World) (hr0_2 : Kd.C Kd.f64 w A0_2 l0_2.length l0_2) (hc0_2 : l0_2.length ≤ c0_2) (hr1_2 : Kd.C Kd.f64 w A1_2 l1_2.length l1_2) (hc1_2 : l1_2.length ≤ c1_2) (h : row_Same.f a0_0 a0_1 l0_2 a0_3 a0_4 a0_5 a1_0 a1_1 l1_2 a1_3 a1_4 a1_5 = some r) :
  Calls Try.prog 43 #[.agg #[.float .f64 a0_0,.bool a0_1,.slice A0_2 l0_2.length c0_2,.int .i64 a0_3,.int .i64 a0_4,.int .i64 a0_5],.agg #[.float .f64 a1_0,.bool a1_1,.slice A1_2 l1_2.length c1_2,.int .i64 a1_3,.int .i64 a1_4,.int .i64 a1_5]] w fun e w' => e = .returned (.bool r) ∧ Below w.heap.size w w':=by
 have hu30:=Try.underlying30
 have hu28:=Try.underlying28
 have HR0_2:=Aside0.mk hr0_2
 have HC0_2:=Aside0.mk hc0_2
 clear hr0_2 hc0_2
 have HR1_2:=Aside0.mk hr1_2
 have HC1_2:=Aside0.mk hc1_2
 clear hr1_2 hc1_2
 have HB:=Aside0.mk (Below.refl w.heap.size w)
 have H : ((num_Same.f a0_0 a1_0).bind fun t172 => (if t172 = true then (if (a0_1 == a1_1) = true then (if a0_3 = a1_3 then (if (a0_4 == a1_4 && (a0_5 == a1_5)) = true then ((equalFunc_num_Same.f l0_2 l1_2).bind fun t173 => (some t173)) else (some false)) else (some false)) else (some false)) else (some false))) = some r:=h
 clear h
 replace H:=Option.bind_eq_some_iff.mp H
 obtain ⟨t172,A30,H⟩:=H
 replace H : (if t172 = true then (if (a0_1 == a1_1) = true then (if a0_3 = a1_3 then (if (a0_4 == a1_4 && (a0_5 == a1_5)) = true then ((equalFunc_num_Same.f l0_2 l1_2).bind fun t173 => (some t173)) else (some false)) else (some false)) else (some false)) else (some false)) = some r:=H
 have A3:=Aside0.mk A30
 clear A30
 by_cases c4 : t172 = true
 ·subst c4
  have H1 : (if (a0_1 == a1_1) = true then (if a0_3 = a1_3 then (if (a0_4 == a1_4 && (a0_5 == a1_5)) = true then ((equalFunc_num_Same.f l0_2 l1_2).bind fun t173 => (some t173)) else (some false)) else (some false)) else (some false)) = some r:=by rw [if_pos rfl] at H;exact H
  clear H
  have H:=H1
  clear H1
  by_cases c5 : (a0_1 == a1_1) = true
  ·rw [if_pos c5] at H
   have c5b0 : (a0_1 == a1_1) = true:=c5
   (try (have c5b1 : decide (a0_1 = a1_1) = true:=by simpa using c5))
   (try (have c5b2 : (a0_1 == a1_1) = true:=by simpa using c5))
   clear c5
   by_cases c6 : a0_3 = a1_3
   ·rw [if_pos c6] at H
    have c6b0 : (a0_3 == a1_3) = true:=beq_iff_eq.mpr c6
    have c6b1 : (a0_3 != a1_3) = false:=bne_eq_false_iff_eq.mpr c6
    clear c6
    by_cases c7 : (a0_4 == a1_4 && (a0_5 == a1_5)) = true
    ·rw [if_pos c7] at H
     have c7b0 : (a0_4 == a1_4 && (a0_5 == a1_5)) = true:=c7
     (try (have c7b1 : decide (a0_4 = a1_4 && (a0_5 == a1_5)) = true:=by simpa using c7))
     (try (have c7b2 : (a0_4 == a1_4 && (a0_5 == a1_5)) = true:=by simpa using c7))
     clear c7
     replace H:=Option.bind_eq_some_iff.mp H
     obtain ⟨t173,A80,H⟩:=H
     replace H : (some t173) = some r:=H
     have A8:=Aside0.mk A80
     clear A80
     obtain rfl:=Option.some.inj H
     go_enter Try.func43,Try.ntmps43
     go_wp2_with (first | ((with_reducible refine gate_dst (N:=2) rfl ?_);refine box_event ?hg (N:=2) ?hd (cs:=#[.float .f64 a0_0,.bool a0_1,.slice A0_2 l0_2.length c0_2,.int .i64 a0_3,.int .i64 a0_4,.int .i64 a0_5]) (t:=30) ?hr ?_;(case hd => rfl);(case hg => rfl);(case hr => first | (go_simp;done) | (go_simp;rfl));intro gb170 hg w9 hbox hb;have n0_:=Aside0.mk (below_step (by repeat (first | (with_reducible first | exact HB.out | apply below_alloc | apply pw_below_drewN | apply below_drew1) | exact HB.out)) hb);have n1_:=Aside0.mk (hbox);have n2_:=Aside0.mk ((by rw [hg];exact (below_size (by repeat (first | (with_reducible first | exact HB.out | apply below_alloc | apply pw_below_drewN | apply below_drew1) | exact HB.out))) : w.heap.size ≤ gb170));have n3_:=Aside0.mk ((by rw [hg];exact (below_size (by repeat (first | (with_reducible first | exact HB.out | apply below_alloc | apply pw_below_drewN | apply below_drew1) | exact HB.out))) : w.heap.size ≤ gb170));clear HB;have HB:=n0_;have BK170:=n1_;have GW170:=n2_;have GE170:=n3_;clear n0_ n1_ n2_ n3_;clear hb hbox hg) | ((with_reducible refine gate_dst (N:=3) rfl ?_);refine box_event ?hg (N:=3) ?hd (cs:=#[.float .f64 a1_0,.bool a1_1,.slice A1_2 l1_2.length c1_2,.int .i64 a1_3,.int .i64 a1_4,.int .i64 a1_5]) (t:=30) ?hr ?_;(case hd => rfl);(case hg => rfl);(case hr => first | (go_simp;done) | (go_simp;rfl));intro gb171 hg w10 hbox hb;have n0_:=Aside0.mk (blk_below (g:=gb170) (o:=.cells #[.float .f64 a0_0,.bool a0_1,.slice A0_2 l0_2.length c0_2,.int .i64 a0_3,.int .i64 a0_4,.int .i64 a0_5] 30 (0,0)) (by (with_reducible repeat (first | refine blk_drewN ?_ _ | refine blk_drew ?_ | refine blk_alloc ?_ _));exact BK170.out) hb);have n1_:=Aside0.mk (below_step (by repeat (first | (with_reducible first | exact HB.out | apply below_alloc | apply pw_below_drewN | apply below_drew1 | refine below_set ?_ GE170.out) | exact HB.out)) hb);have n2_:=Aside0.mk (hbox);have n3_:=Aside0.mk ((by rw [hg];exact (below_size (by repeat (first | (with_reducible first | exact HB.out | apply below_alloc | apply pw_below_drewN | apply below_drew1 | refine below_set ?_ GE170.out) | exact HB.out))) : w.heap.size ≤ gb171));have n4_:=Aside0.mk ((by rw [hg];exact (below_size (by repeat (first | (with_reducible first | exact HB.out | apply below_alloc | apply pw_below_drewN | apply below_drew1 | refine below_set ?_ GE170.out) | exact HB.out))) : w.heap.size ≤ gb171));have n5_:=Aside0.mk ((by rw [hg];exact Nat.ne_of_lt (blk_lt (g:=gb170) (o:=.cells #[.float .f64 a0_0,.bool a0_1,.slice A0_2 l0_2.length c0_2,.int .i64 a0_3,.int .i64 a0_4,.int .i64 a0_5] 30 (0,0)) (by (with_reducible repeat (first | refine blk_drewN ?_ _ | refine blk_drew ?_ | refine blk_alloc ?_ _));exact BK170.out)) : gb170 ≠ gb171));have n6_:=Aside0.mk ((by rw [hg];exact Nat.ne_of_gt (blk_lt (g:=gb170) (o:=.cells #[.float .f64 a0_0,.bool a0_1,.slice A0_2 l0_2.length c0_2,.int .i64 a0_3,.int .i64 a0_4,.int .i64 a0_5] 30 (0,0)) (by (with_reducible repeat (first | refine blk_drewN ?_ _ | refine blk_drew ?_ | refine blk_alloc ?_ _));exact BK170.out)) : gb171 ≠ gb170));clear BK170;clear HB;have BK170:=n0_;have HB:=n1_;have BK171:=n2_;have GW171:=n3_;have GE171:=n4_;have NB170_171:=n5_;have NB171_170:=n6_;clear n0_ n1_ n2_ n3_ n4_ n5_ n6_;clear hb hbox hg;have hnb11:=NB170_171.out;have hnc11:=NB171_170.out;obtain ⟨hcz12_0,hcz12_1,hcz12_2,hcz12_3,hcz12_4,hcz12_5⟩:=blkc_6 BK170.out;obtain ⟨hfz12_0,hfz12_1,hfz12_2,hfz12_3,hfz12_4,hfz12_5⟩:=blkz_6 BK170.out;obtain ⟨hcz13_0,hcz13_1,hcz13_2,hcz13_3,hcz13_4,hcz13_5⟩:=blkc_6 BK171.out;obtain ⟨hfz13_0,hfz13_1,hfz13_2,hfz13_3,hfz13_4⟩:=blkz_5 BK171.out;have hfz13_5:=blk_frozen BK171.out 5) | ((with_reducible refine gate_callee (f:=67) rfl ?_);refine goesL_ (some 9) rfl rfl Try.func67 (by kernel_rfl) rfl #[.float .f64 a0_0,.float .f64 a1_0] rfl (by (try simp only [List.map_toArray,List.map_cons,List.map_nil]);first | done | rfl | (simp only [List.length_drop,List.length_take];rfl)) ?_;(with_reducible refine (num_Same.calls a0_0 a1_0 true _ A3.out).mono ?_);rintro e w' ⟨rfl,⟨nd,rfl⟩⟩;refine ⟨_,rfl,?_⟩) | (go_at_call 81;(with_reducible refine (equalFunc_num_Same.calls _ _ l0_2 _ _ l1_2 t173 _ ?side1 ?side2 ?side3 ?side4 A8.out).mono ?_);(case side1 => repeat (first | exact (Kd.C_below HR0_2.out (by repeat (first | (with_reducible first | exact HB.out | apply below_alloc | apply pw_below_drewN | apply below_drew1 | refine below_set ?_ GE170.out | refine below_set ?_ GE171.out) | exact HB.out))) | (with_reducible refine Kd.C_alloc ?_ _) | (with_reducible refine Kd.C_drewN ?_ _) | (with_reducible refine Kd.C_drew ?_)));(case side2 => exact HC0_2.out);(case side3 => repeat (first | exact (Kd.C_below HR1_2.out (by repeat (first | (with_reducible first | exact HB.out | apply below_alloc | apply pw_below_drewN | apply below_drew1 | refine below_set ?_ GE170.out | refine below_set ?_ GE171.out) | exact HB.out))) | (with_reducible refine Kd.C_alloc ?_ _) | (with_reducible refine Kd.C_drewN ?_ _) | (with_reducible refine Kd.C_drew ?_)));(case side4 => exact HC1_2.out);rintro e w14 ⟨rfl,hb⟩;have n0_:=Aside0.mk (blk_below (g:=gb170) (o:=.cells #[.float .f64 a0_0,.bool a0_1,.slice A0_2 l0_2.length c0_2,.int .i64 a0_3,.int .i64 a0_4,.int .i64 a0_5] 30 (0,0)) (by (with_reducible repeat (first | refine blk_drewN ?_ _ | refine blk_drew ?_ | refine blk_alloc ?_ _));exact BK170.out) hb);have n1_:=Aside0.mk (blk_below (g:=gb171) (o:=.cells #[.float .f64 a1_0,.bool a1_1,.slice A1_2 l1_2.length c1_2,.int .i64 a1_3,.int .i64 a1_4,.int .i64 a1_5] 30 (0,0)) (by (with_reducible repeat (first | refine blk_drewN ?_ _ | refine blk_drew ?_ | refine blk_alloc ?_ _));exact BK171.out) hb);have n2_:=Aside0.mk (below_step (by repeat (first | (with_reducible first | exact HB.out | apply below_alloc | apply pw_below_drewN | apply below_drew1 | refine below_set ?_ GE170.out | refine below_set ?_ GE171.out) | exact HB.out)) hb);clear BK170;clear BK171;clear HB;have BK170:=n0_;have BK171:=n1_;have HB:=n2_;clear n0_ n1_ n2_;(try clear hb);(try clear hb2);(try clear hk);(try clear hi)))
     go_ret
     exact ⟨by first | rfl | (simp [errW_none,errW_some] <;> rfl) | (simp [*,errW_none,errW_some] <;> rfl),by repeat (first | (with_reducible first | exact HB.out | apply below_alloc | apply pw_below_drewN | apply below_drew1 | refine below_set ?_ GE170.out | refine below_set ?_ GE171.out) | exact HB.out)⟩
    ·rw [if_neg c7] at H
     have c7b0 : (a0_4 == a1_4 && (a0_5 == a1_5)) = false:=by simpa using c7
     (try (have c7b1 : decide (a0_4 = a1_4 && (a0_5 == a1_5)) = false:=by simpa using c7))
     (try (have c7b2 : (a0_4 == a1_4 && (a0_5 == a1_5)) = false:=by simpa using c7))
     (try (have c7b3 : ¬ (a0_4 = a1_4 && (a0_5 == a1_5)):=by simpa using c7))
     clear c7
     obtain rfl:=Option.some.inj H
     go_enter Try.func43,Try.ntmps43
     go_wp2_with (first | ((with_reducible refine gate_dst (N:=2) rfl ?_);refine box_event ?hg (N:=2) ?hd (cs:=#[.float .f64 a0_0,.bool a0_1,.slice A0_2 l0_2.length c0_2,.int .i64 a0_3,.int .i64 a0_4,.int .i64 a0_5]) (t:=30) ?hr ?_;(case hd => rfl);(case hg => rfl);(case hr => first | (go_simp;done) | (go_simp;rfl));intro gb170 hg w15 hbox hb;have n0_:=Aside0.mk (below_step (by repeat (first | (with_reducible first | exact HB.out | apply below_alloc | apply pw_below_drewN | apply below_drew1) | exact HB.out)) hb);have n1_:=Aside0.mk (hbox);have n2_:=Aside0.mk ((by rw [hg];exact (below_size (by repeat (first | (with_reducible first | exact HB.out | apply below_alloc | apply pw_below_drewN | apply below_drew1) | exact HB.out))) : w.heap.size ≤ gb170));have n3_:=Aside0.mk ((by rw [hg];exact (below_size (by repeat (first | (with_reducible first | exact HB.out | apply below_alloc | apply pw_below_drewN | apply below_drew1) | exact HB.out))) : w.heap.size ≤ gb170));clear HB;have HB:=n0_;have BK170:=n1_;have GW170:=n2_;have GE170:=n3_;clear n0_ n1_ n2_ n3_;clear hb hbox hg) | ((with_reducible refine gate_dst (N:=3) rfl ?_);refine box_event ?hg (N:=3) ?hd (cs:=#[.float .f64 a1_0,.bool a1_1,.slice A1_2 l1_2.length c1_2,.int .i64 a1_3,.int .i64 a1_4,.int .i64 a1_5]) (t:=30) ?hr ?_;(case hd => rfl);(case hg => rfl);(case hr => first | (go_simp;done) | (go_simp;rfl));intro gb171 hg w16 hbox hb;have n0_:=Aside0.mk (blk_below (g:=gb170) (o:=.cells #[.float .f64 a0_0,.bool a0_1,.slice A0_2 l0_2.length c0_2,.int .i64 a0_3,.int .i64 a0_4,.int .i64 a0_5] 30 (0,0)) (by (with_reducible repeat (first | refine blk_drewN ?_ _ | refine blk_drew ?_ | refine blk_alloc ?_ _));exact BK170.out) hb);have n1_:=Aside0.mk (below_step (by repeat (first | (with_reducible first | exact HB.out | apply below_alloc | apply pw_below_drewN | apply below_drew1 | refine below_set ?_ GE170.out) | exact HB.out)) hb);have n2_:=Aside0.mk (hbox);have n3_:=Aside0.mk ((by rw [hg];exact (below_size (by repeat (first | (with_reducible first | exact HB.out | apply below_alloc | apply pw_below_drewN | apply below_drew1 | refine below_set ?_ GE170.out) | exact HB.out))) : w.heap.size ≤ gb171));have n4_:=Aside0.mk ((by rw [hg];exact (below_size (by repeat (first | (with_reducible first | exact HB.out | apply below_alloc | apply pw_below_drewN | apply below_drew1 | refine below_set ?_ GE170.out) | exact HB.out))) : w.heap.size ≤ gb171));have n5_:=Aside0.mk ((by rw [hg];exact Nat.ne_of_lt (blk_lt (g:=gb170) (o:=.cells #[.float .f64 a0_0,.bool a0_1,.slice A0_2 l0_2.length c0_2,.int .i64 a0_3,.int .i64 a0_4,.int .i64 a0_5] 30 (0,0)) (by (with_reducible repeat (first | refine blk_drewN ?_ _ | refine blk_drew ?_ | refine blk_alloc ?_ _));exact BK170.out)) : gb170 ≠ gb171));have n6_:=Aside0.mk ((by rw [hg];exact Nat.ne_of_gt (blk_lt (g:=gb170) (o:=.cells #[.float .f64 a0_0,.bool a0_1,.slice A0_2 l0_2.length c0_2,.int .i64 a0_3,.int .i64 a0_4,.int .i64 a0_5] 30 (0,0)) (by (with_reducible repeat (first | refine blk_drewN ?_ _ | refine blk_drew ?_ | refine blk_alloc ?_ _));exact BK170.out)) : gb171 ≠ gb170));clear BK170;clear HB;have BK170:=n0_;have HB:=n1_;have BK171:=n2_;have GW171:=n3_;have GE171:=n4_;have NB170_171:=n5_;have NB171_170:=n6_;clear n0_ n1_ n2_ n3_ n4_ n5_ n6_;clear hb hbox hg;have hnb17:=NB170_171.out;have hnc17:=NB171_170.out;obtain ⟨hcz18_0,hcz18_1,hcz18_2,hcz18_3,hcz18_4,hcz18_5⟩:=blkc_6 BK170.out;obtain ⟨hfz18_0,hfz18_1,hfz18_2,hfz18_3,hfz18_4,hfz18_5⟩:=blkz_6 BK170.out;obtain ⟨hcz19_0,hcz19_1,hcz19_2,hcz19_3,hcz19_4,hcz19_5⟩:=blkc_6 BK171.out;obtain ⟨hfz19_0,hfz19_1,hfz19_2,hfz19_3,hfz19_4⟩:=blkz_5 BK171.out;have hfz19_5:=blk_frozen BK171.out 5) | ((with_reducible refine gate_callee (f:=67) rfl ?_);refine goesL_ (some 9) rfl rfl Try.func67 (by kernel_rfl) rfl #[.float .f64 a0_0,.float .f64 a1_0] rfl (by (try simp only [List.map_toArray,List.map_cons,List.map_nil]);first | done | rfl | (simp only [List.length_drop,List.length_take];rfl)) ?_;(with_reducible refine (num_Same.calls a0_0 a1_0 true _ A3.out).mono ?_);rintro e w' ⟨rfl,⟨nd,rfl⟩⟩;refine ⟨_,rfl,?_⟩))
     go_ret
     exact ⟨by first | rfl | (simp [errW_none,errW_some] <;> rfl) | (simp [*,errW_none,errW_some] <;> rfl),by repeat (first | (with_reducible first | exact HB.out | apply below_alloc | apply pw_below_drewN | apply below_drew1 | refine below_set ?_ GE170.out | refine below_set ?_ GE171.out) | exact HB.out)⟩
   ·rw [if_neg c6] at H
    have c6b0 : (a0_3 == a1_3) = false:=beq_eq_false_iff_ne.mpr c6
    have c6b1 : (a0_3 != a1_3) = true:=bne_iff_ne.mpr c6
    obtain rfl:=Option.some.inj H
    go_enter Try.func43,Try.ntmps43
    go_wp2_with (first | ((with_reducible refine gate_dst (N:=2) rfl ?_);refine box_event ?hg (N:=2) ?hd (cs:=#[.float .f64 a0_0,.bool a0_1,.slice A0_2 l0_2.length c0_2,.int .i64 a0_3,.int .i64 a0_4,.int .i64 a0_5]) (t:=30) ?hr ?_;(case hd => rfl);(case hg => rfl);(case hr => first | (go_simp;done) | (go_simp;rfl));intro gb170 hg w20 hbox hb;have n0_:=Aside0.mk (below_step (by repeat (first | (with_reducible first | exact HB.out | apply below_alloc | apply pw_below_drewN | apply below_drew1) | exact HB.out)) hb);have n1_:=Aside0.mk (hbox);have n2_:=Aside0.mk ((by rw [hg];exact (below_size (by repeat (first | (with_reducible first | exact HB.out | apply below_alloc | apply pw_below_drewN | apply below_drew1) | exact HB.out))) : w.heap.size ≤ gb170));have n3_:=Aside0.mk ((by rw [hg];exact (below_size (by repeat (first | (with_reducible first | exact HB.out | apply below_alloc | apply pw_below_drewN | apply below_drew1) | exact HB.out))) : w.heap.size ≤ gb170));clear HB;have HB:=n0_;have BK170:=n1_;have GW170:=n2_;have GE170:=n3_;clear n0_ n1_ n2_ n3_;clear hb hbox hg) | ((with_reducible refine gate_dst (N:=3) rfl ?_);refine box_event ?hg (N:=3) ?hd (cs:=#[.float .f64 a1_0,.bool a1_1,.slice A1_2 l1_2.length c1_2,.int .i64 a1_3,.int .i64 a1_4,.int .i64 a1_5]) (t:=30) ?hr ?_;(case hd => rfl);(case hg => rfl);(case hr => first | (go_simp;done) | (go_simp;rfl));intro gb171 hg w21 hbox hb;have n0_:=Aside0.mk (blk_below (g:=gb170) (o:=.cells #[.float .f64 a0_0,.bool a0_1,.slice A0_2 l0_2.length c0_2,.int .i64 a0_3,.int .i64 a0_4,.int .i64 a0_5] 30 (0,0)) (by (with_reducible repeat (first | refine blk_drewN ?_ _ | refine blk_drew ?_ | refine blk_alloc ?_ _));exact BK170.out) hb);have n1_:=Aside0.mk (below_step (by repeat (first | (with_reducible first | exact HB.out | apply below_alloc | apply pw_below_drewN | apply below_drew1 | refine below_set ?_ GE170.out) | exact HB.out)) hb);have n2_:=Aside0.mk (hbox);have n3_:=Aside0.mk ((by rw [hg];exact (below_size (by repeat (first | (with_reducible first | exact HB.out | apply below_alloc | apply pw_below_drewN | apply below_drew1 | refine below_set ?_ GE170.out) | exact HB.out))) : w.heap.size ≤ gb171));have n4_:=Aside0.mk ((by rw [hg];exact (below_size (by repeat (first | (with_reducible first | exact HB.out | apply below_alloc | apply pw_below_drewN | apply below_drew1 | refine below_set ?_ GE170.out) | exact HB.out))) : w.heap.size ≤ gb171));have n5_:=Aside0.mk ((by rw [hg];exact Nat.ne_of_lt (blk_lt (g:=gb170) (o:=.cells #[.float .f64 a0_0,.bool a0_1,.slice A0_2 l0_2.length c0_2,.int .i64 a0_3,.int .i64 a0_4,.int .i64 a0_5] 30 (0,0)) (by (with_reducible repeat (first | refine blk_drewN ?_ _ | refine blk_drew ?_ | refine blk_alloc ?_ _));exact BK170.out)) : gb170 ≠ gb171));have n6_:=Aside0.mk ((by rw [hg];exact Nat.ne_of_gt (blk_lt (g:=gb170) (o:=.cells #[.float .f64 a0_0,.bool a0_1,.slice A0_2 l0_2.length c0_2,.int .i64 a0_3,.int .i64 a0_4,.int .i64 a0_5] 30 (0,0)) (by (with_reducible repeat (first | refine blk_drewN ?_ _ | refine blk_drew ?_ | refine blk_alloc ?_ _));exact BK170.out)) : gb171 ≠ gb170));clear BK170;clear HB;have BK170:=n0_;have HB:=n1_;have BK171:=n2_;have GW171:=n3_;have GE171:=n4_;have NB170_171:=n5_;have NB171_170:=n6_;clear n0_ n1_ n2_ n3_ n4_ n5_ n6_;clear hb hbox hg;have hnb22:=NB170_171.out;have hnc22:=NB171_170.out;obtain ⟨hcz23_0,hcz23_1,hcz23_2,hcz23_3,hcz23_4,hcz23_5⟩:=blkc_6 BK170.out;obtain ⟨hfz23_0,hfz23_1,hfz23_2,hfz23_3,hfz23_4,hfz23_5⟩:=blkz_6 BK170.out;obtain ⟨hcz24_0,hcz24_1,hcz24_2,hcz24_3,hcz24_4,hcz24_5⟩:=blkc_6 BK171.out;obtain ⟨hfz24_0,hfz24_1,hfz24_2,hfz24_3,hfz24_4⟩:=blkz_5 BK171.out;have hfz24_5:=blk_frozen BK171.out 5) | ((with_reducible refine gate_callee (f:=67) rfl ?_);refine goesL_ (some 9) rfl rfl Try.func67 (by kernel_rfl) rfl #[.float .f64 a0_0,.float .f64 a1_0] rfl (by (try simp only [List.map_toArray,List.map_cons,List.map_nil]);first | done | rfl | (simp only [List.length_drop,List.length_take];rfl)) ?_;(with_reducible refine (num_Same.calls a0_0 a1_0 true _ A3.out).mono ?_);rintro e w' ⟨rfl,⟨nd,rfl⟩⟩;refine ⟨_,rfl,?_⟩))
    go_ret
    exact ⟨by first | rfl | (simp [errW_none,errW_some] <;> rfl) | (simp [*,errW_none,errW_some] <;> rfl),by repeat (first | (with_reducible first | exact HB.out | apply below_alloc | apply pw_below_drewN | apply below_drew1 | refine below_set ?_ GE170.out | refine below_set ?_ GE171.out) | exact HB.out)⟩
  ·rw [if_neg c5] at H
   have c5b0 : (a0_1 == a1_1) = false:=by simpa using c5
   (try (have c5b1 : decide (a0_1 = a1_1) = false:=by simpa using c5))
   (try (have c5b2 : (a0_1 == a1_1) = false:=by simpa using c5))
   (try (have c5b3 : ¬ (a0_1 = a1_1):=by simpa using c5))
   clear c5
   obtain rfl:=Option.some.inj H
   go_enter Try.func43,Try.ntmps43
   go_wp2_with (first | ((with_reducible refine gate_dst (N:=2) rfl ?_);refine box_event ?hg (N:=2) ?hd (cs:=#[.float .f64 a0_0,.bool a0_1,.slice A0_2 l0_2.length c0_2,.int .i64 a0_3,.int .i64 a0_4,.int .i64 a0_5]) (t:=30) ?hr ?_;(case hd => rfl);(case hg => rfl);(case hr => first | (go_simp;done) | (go_simp;rfl));intro gb170 hg w25 hbox hb;have n0_:=Aside0.mk (below_step (by repeat (first | (with_reducible first | exact HB.out | apply below_alloc | apply pw_below_drewN | apply below_drew1) | exact HB.out)) hb);have n1_:=Aside0.mk (hbox);have n2_:=Aside0.mk ((by rw [hg];exact (below_size (by repeat (first | (with_reducible first | exact HB.out | apply below_alloc | apply pw_below_drewN | apply below_drew1) | exact HB.out))) : w.heap.size ≤ gb170));have n3_:=Aside0.mk ((by rw [hg];exact (below_size (by repeat (first | (with_reducible first | exact HB.out | apply below_alloc | apply pw_below_drewN | apply below_drew1) | exact HB.out))) : w.heap.size ≤ gb170));clear HB;have HB:=n0_;have BK170:=n1_;have GW170:=n2_;have GE170:=n3_;clear n0_ n1_ n2_ n3_;clear hb hbox hg) | ((with_reducible refine gate_dst (N:=3) rfl ?_);refine box_event ?hg (N:=3) ?hd (cs:=#[.float .f64 a1_0,.bool a1_1,.slice A1_2 l1_2.length c1_2,.int .i64 a1_3,.int .i64 a1_4,.int .i64 a1_5]) (t:=30) ?hr ?_;(case hd => rfl);(case hg => rfl);(case hr => first | (go_simp;done) | (go_simp;rfl));intro gb171 hg w26 hbox hb;have n0_:=Aside0.mk (blk_below (g:=gb170) (o:=.cells #[.float .f64 a0_0,.bool a0_1,.slice A0_2 l0_2.length c0_2,.int .i64 a0_3,.int .i64 a0_4,.int .i64 a0_5] 30 (0,0)) (by (with_reducible repeat (first | refine blk_drewN ?_ _ | refine blk_drew ?_ | refine blk_alloc ?_ _));exact BK170.out) hb);have n1_:=Aside0.mk (below_step (by repeat (first | (with_reducible first | exact HB.out | apply below_alloc | apply pw_below_drewN | apply below_drew1 | refine below_set ?_ GE170.out) | exact HB.out)) hb);have n2_:=Aside0.mk (hbox);have n3_:=Aside0.mk ((by rw [hg];exact (below_size (by repeat (first | (with_reducible first | exact HB.out | apply below_alloc | apply pw_below_drewN | apply below_drew1 | refine below_set ?_ GE170.out) | exact HB.out))) : w.heap.size ≤ gb171));have n4_:=Aside0.mk ((by rw [hg];exact (below_size (by repeat (first | (with_reducible first | exact HB.out | apply below_alloc | apply pw_below_drewN | apply below_drew1 | refine below_set ?_ GE170.out) | exact HB.out))) : w.heap.size ≤ gb171));have n5_:=Aside0.mk ((by rw [hg];exact Nat.ne_of_lt (blk_lt (g:=gb170) (o:=.cells #[.float .f64 a0_0,.bool a0_1,.slice A0_2 l0_2.length c0_2,.int .i64 a0_3,.int .i64 a0_4,.int .i64 a0_5] 30 (0,0)) (by (with_reducible repeat (first | refine blk_drewN ?_ _ | refine blk_drew ?_ | refine blk_alloc ?_ _));exact BK170.out)) : gb170 ≠ gb171));have n6_:=Aside0.mk ((by rw [hg];exact Nat.ne_of_gt (blk_lt (g:=gb170) (o:=.cells #[.float .f64 a0_0,.bool a0_1,.slice A0_2 l0_2.length c0_2,.int .i64 a0_3,.int .i64 a0_4,.int .i64 a0_5] 30 (0,0)) (by (with_reducible repeat (first | refine blk_drewN ?_ _ | refine blk_drew ?_ | refine blk_alloc ?_ _));exact BK170.out)) : gb171 ≠ gb170));clear BK170;clear HB;have BK170:=n0_;have HB:=n1_;have BK171:=n2_;have GW171:=n3_;have GE171:=n4_;have NB170_171:=n5_;have NB171_170:=n6_;clear n0_ n1_ n2_ n3_ n4_ n5_ n6_;clear hb hbox hg;have hnb27:=NB170_171.out;have hnc27:=NB171_170.out;obtain ⟨hcz28_0,hcz28_1,hcz28_2,hcz28_3,hcz28_4,hcz28_5⟩:=blkc_6 BK170.out;obtain ⟨hfz28_0,hfz28_1,hfz28_2,hfz28_3,hfz28_4,hfz28_5⟩:=blkz_6 BK170.out;obtain ⟨hcz29_0,hcz29_1,hcz29_2,hcz29_3,hcz29_4,hcz29_5⟩:=blkc_6 BK171.out;obtain ⟨hfz29_0,hfz29_1,hfz29_2,hfz29_3,hfz29_4⟩:=blkz_5 BK171.out;have hfz29_5:=blk_frozen BK171.out 5) | ((with_reducible refine gate_callee (f:=67) rfl ?_);refine goesL_ (some 9) rfl rfl Try.func67 (by kernel_rfl) rfl #[.float .f64 a0_0,.float .f64 a1_0] rfl (by (try simp only [List.map_toArray,List.map_cons,List.map_nil]);first | done | rfl | (simp only [List.length_drop,List.length_take];rfl)) ?_;(with_reducible refine (num_Same.calls a0_0 a1_0 true _ A3.out).mono ?_);rintro e w' ⟨rfl,⟨nd,rfl⟩⟩;refine ⟨_,rfl,?_⟩))
   go_ret
   exact ⟨by first | rfl | (simp [errW_none,errW_some] <;> rfl) | (simp [*,errW_none,errW_some] <;> rfl),by repeat (first | (with_reducible first | exact HB.out | apply below_alloc | apply pw_below_drewN | apply below_drew1 | refine below_set ?_ GE170.out | refine below_set ?_ GE171.out) | exact HB.out)⟩
 ·replace c4:=Bool.eq_false_iff.mpr c4
  subst c4
  have H1 : (some false) = some r:=by rw [if_neg (show ¬ (false = true) by decide)] at H;exact H
  clear H
  have H:=H1
  clear H1
  obtain rfl:=Option.some.inj H
  go_enter Try.func43,Try.ntmps43
  go_wp2_with (first | ((with_reducible refine gate_dst (N:=2) rfl ?_);refine box_event ?hg (N:=2) ?hd (cs:=#[.float .f64 a0_0,.bool a0_1,.slice A0_2 l0_2.length c0_2,.int .i64 a0_3,.int .i64 a0_4,.int .i64 a0_5]) (t:=30) ?hr ?_;(case hd => rfl);(case hg => rfl);(case hr => first | (go_simp;done) | (go_simp;rfl));intro gb170 hg w30 hbox hb;have n0_:=Aside0.mk (below_step (by repeat (first | (with_reducible first | exact HB.out | apply below_alloc | apply pw_below_drewN | apply below_drew1) | exact HB.out)) hb);have n1_:=Aside0.mk (hbox);have n2_:=Aside0.mk ((by rw [hg];exact (below_size (by repeat (first | (with_reducible first | exact HB.out | apply below_alloc | apply pw_below_drewN | apply below_drew1) | exact HB.out))) : w.heap.size ≤ gb170));have n3_:=Aside0.mk ((by rw [hg];exact (below_size (by repeat (first | (with_reducible first | exact HB.out | apply below_alloc | apply pw_below_drewN | apply below_drew1) | exact HB.out))) : w.heap.size ≤ gb170));clear HB;have HB:=n0_;have BK170:=n1_;have GW170:=n2_;have GE170:=n3_;clear n0_ n1_ n2_ n3_;clear hb hbox hg) | ((with_reducible refine gate_dst (N:=3) rfl ?_);refine box_event ?hg (N:=3) ?hd (cs:=#[.float .f64 a1_0,.bool a1_1,.slice A1_2 l1_2.length c1_2,.int .i64 a1_3,.int .i64 a1_4,.int .i64 a1_5]) (t:=30) ?hr ?_;(case hd => rfl);(case hg => rfl);(case hr => first | (go_simp;done) | (go_simp;rfl));intro gb171 hg w31 hbox hb;have n0_:=Aside0.mk (blk_below (g:=gb170) (o:=.cells #[.float .f64 a0_0,.bool a0_1,.slice A0_2 l0_2.length c0_2,.int .i64 a0_3,.int .i64 a0_4,.int .i64 a0_5] 30 (0,0)) (by (with_reducible repeat (first | refine blk_drewN ?_ _ | refine blk_drew ?_ | refine blk_alloc ?_ _));exact BK170.out) hb);have n1_:=Aside0.mk (below_step (by repeat (first | (with_reducible first | exact HB.out | apply below_alloc | apply pw_below_drewN | apply below_drew1 | refine below_set ?_ GE170.out) | exact HB.out)) hb);have n2_:=Aside0.mk (hbox);have n3_:=Aside0.mk ((by rw [hg];exact (below_size (by repeat (first | (with_reducible first | exact HB.out | apply below_alloc | apply pw_below_drewN | apply below_drew1 | refine below_set ?_ GE170.out) | exact HB.out))) : w.heap.size ≤ gb171));have n4_:=Aside0.mk ((by rw [hg];exact (below_size (by repeat (first | (with_reducible first | exact HB.out | apply below_alloc | apply pw_below_drewN | apply below_drew1 | refine below_set ?_ GE170.out) | exact HB.out))) : w.heap.size ≤ gb171));have n5_:=Aside0.mk ((by rw [hg];exact Nat.ne_of_lt (blk_lt (g:=gb170) (o:=.cells #[.float .f64 a0_0,.bool a0_1,.slice A0_2 l0_2.length c0_2,.int .i64 a0_3,.int .i64 a0_4,.int .i64 a0_5] 30 (0,0)) (by (with_reducible repeat (first | refine blk_drewN ?_ _ | refine blk_drew ?_ | refine blk_alloc ?_ _));exact BK170.out)) : gb170 ≠ gb171));have n6_:=Aside0.mk ((by rw [hg];exact Nat.ne_of_gt (blk_lt (g:=gb170) (o:=.cells #[.float .f64 a0_0,.bool a0_1,.slice A0_2 l0_2.length c0_2,.int .i64 a0_3,.int .i64 a0_4,.int .i64 a0_5] 30 (0,0)) (by (with_reducible repeat (first | refine blk_drewN ?_ _ | refine blk_drew ?_ | refine blk_alloc ?_ _));exact BK170.out)) : gb171 ≠ gb170));clear BK170;clear HB;have BK170:=n0_;have HB:=n1_;have BK171:=n2_;have GW171:=n3_;have GE171:=n4_;have NB170_171:=n5_;have NB171_170:=n6_;clear n0_ n1_ n2_ n3_ n4_ n5_ n6_;clear hb hbox hg;have hnb32:=NB170_171.out;have hnc32:=NB171_170.out;obtain ⟨hcz33_0,hcz33_1,hcz33_2,hcz33_3,hcz33_4,hcz33_5⟩:=blkc_6 BK170.out;obtain ⟨hfz33_0,hfz33_1,hfz33_2,hfz33_3,hfz33_4,hfz33_5⟩:=blkz_6 BK170.out;obtain ⟨hcz34_0,hcz34_1,hcz34_2,hcz34_3,hcz34_4,hcz34_5⟩:=blkc_6 BK171.out;obtain ⟨hfz34_0,hfz34_1,hfz34_2,hfz34_3,hfz34_4⟩:=blkz_5 BK171.out;have hfz34_5:=blk_frozen BK171.out 5) | ((with_reducible refine gate_callee (f:=67) rfl ?_);refine goesL_ (some 9) rfl rfl Try.func67 (by kernel_rfl) rfl #[.float .f64 a0_0,.float .f64 a1_0] rfl (by (try simp only [List.map_toArray,List.map_cons,List.map_nil]);first | done | rfl | (simp only [List.length_drop,List.length_take];rfl)) ?_;(with_reducible refine (num_Same.calls a0_0 a1_0 false _ A3.out).mono ?_);rintro e w' ⟨rfl,⟨nd,rfl⟩⟩;refine ⟨_,rfl,?_⟩))
  go_ret
  exact ⟨by first | rfl | (simp [errW_none,errW_some] <;> rfl) | (simp [*,errW_none,errW_some] <;> rfl),by repeat (first | (with_reducible first | exact HB.out | apply below_alloc | apply pw_below_drewN | apply below_drew1 | refine below_set ?_ GE170.out | refine below_set ?_ GE171.out) | exact HB.out)⟩
end Go.Proofs.Ytdcllbhkjcdnoaa.P
set_option linter.unusedVariables false
set_option linter.unusedSimpArgs false
namespace Go.Proofs.Ytdcllbhkjcdnoaa.P
open Go.RowKit Go.Proofs.Ytdcllbhkjcdnoaa Go.Proofs.Ytdcllbhkjcdnoaa.Mem Go.Proofs.YtdcllbhkjcdnoaaW.PrintWords Go.Proofs.YtdcllbhkjcdnoaaW.PrintLast Go.Proofs.YtdcllbhkjcdnoaaW.PrintMore
def valsB (co : List Nat) : Bool := co.all (fun x => decide (x = Flt.val x))
theorem any_bad (co : List Nat) : co.any badC = !valsB co := by
  unfold valsB
  induction co with
  | nil => rfl
  | cons x co ih =>
    rw [List.any_cons, List.all_cons, ih, Bool.not_and]
    congr 1
    unfold badC
    congr 1
    by_cases h : x = Flt.val x
    · rw [decide_eq_true h, beq_iff_eq]; exact congrArg _ h
    · rw [decide_eq_false h, beq_eq_false_iff_ne]; omega
def mayRow (ke : Nat) (de : Bool) (co : List Nat) (wr ce no : Int) : Bool :=
  decide (ke = Flt.key ke) && decide (co.length ≤ 4) && !(de && decide (0 < co.length)) && valsB co && (decide (0 ≤ wr) && decide (wr ≤ 2147483647)) && (decide (0 ≤ ce) && decide (ce < 65536)) && (decide (0 ≤ no) && decide (no ≤ 2147483647)) && (decide (0 < ce) || decide (no = 0))
theorem mayRow_iff {ke : Nat} {de : Bool} {co : List Nat} {wr ce no : Int} : mayRow ke de co wr ce no = true ↔ ke = Flt.key ke ∧ co.length ≤ 4 ∧ (de = true → co.length = 0) ∧ valsB co = true ∧ (0 ≤ wr ∧ wr ≤ 2147483647) ∧ (0 ≤ ce ∧ ce < 65536) ∧ (0 ≤ no ∧ no ≤ 2147483647) ∧ (0 < ce ∨ no = 0) := by
  unfold mayRow
  cases de <;> simp [and_assoc] <;> omega
theorem same_nat (x y : Nat) : ((x : Int) == (y : Int)) = decide (x = y) := by
  by_cases h : x = y
  · rw [decide_eq_true h, beq_iff_eq]; exact congrArg _ h
  · rw [decide_eq_false h, beq_eq_false_iff_ne]; omega
theorem row_Check_ev {k : Nat} (hk : 2 ≤ k) {ke : Nat} {de : Bool} {co : List Nat} {wr ce no : Int} (hl : co.length ≤ 1000000) : row_Check.f k ke de co wr ce no = some (if mayRow ke de co wr ce no = true then 0 else 1) := by
  obtain ⟨k, rfl⟩ : ∃ m, k = m + 2 := ⟨k - 2, by omega⟩
  unfold row_Check.f containsFunc_row_Check_1.f num_Key.f num_Same.f
  rw [if_pos hl]
  simp only [Option.bind_some, any_bad, same_nat]
  by_cases hm : mayRow ke de co wr ce no = true
  · rw [if_pos hm]
    obtain ⟨h1, h2, h3, h4, h5, h6, h7, h8⟩ := mayRow_iff.1 hm
    rw [if_neg (by rw [h4]; decide), if_pos (by simpa using h1), if_neg (by omega)]
    have hj : row_Check.j0 (k + 2) false ke de co wr ce no = some 0 := by
      simp only [row_Check.j0, row_Check.j1]
      rw [if_neg (by decide), if_neg (by omega), if_neg (by omega), if_neg (by omega), if_neg (by simp; omega), if_neg (by omega), if_neg (by omega)]
      split
      · rw [if_neg (by omega)]
      · rfl
    cases de with
    | true =>
      rw [if_pos rfl]
      rw [show decide ((co.length : Int) > 0) = false from decide_eq_false (by have := h3 rfl; omega)]
      exact hj
    | false => rw [if_neg (by decide)]; exact hj
  · rw [if_neg hm]
    have hT : ∀ co wr, row_Check.j0 (k + 2) true ke de co wr ce no = some 1 := fun co wr => by simp only [row_Check.j0, if_true]
    by_cases h4 : valsB co = true
    · rw [if_neg (by rw [h4]; decide)]
      by_cases h1 : ke = Flt.key ke
      · rw [if_pos (by simpa using h1)]
        by_cases h2 : co.length ≤ 4
        · rw [if_neg (by omega)]
          have hF : ∀ b : Bool, (b = false → ¬((0 ≤ wr ∧ wr ≤ 2147483647) ∧ (0 ≤ ce ∧ ce < 65536) ∧ (0 ≤ no ∧ no ≤ 2147483647) ∧ (0 < ce ∨ no = 0))) → row_Check.j0 (k + 2) b ke de co wr ce no = some 1 := by
            intro b hb
            cases b with
            | true => exact hT _ _
            | false =>
              have hb := hb rfl
              simp only [row_Check.j0, row_Check.j1]
              rw [if_neg (by decide)]
              by_cases a1 : wr < 0
              · rw [if_pos a1]; rfl
              rw [if_neg a1]
              by_cases a2 : wr > 2147483647
              · rw [if_pos a2]; rfl
              rw [if_neg a2]
              by_cases a3 : ce < 0
              · rw [if_pos a3]; rfl
              rw [if_neg a3]
              by_cases a4 : ce ≥ 65536
              · rw [if_pos (by simpa using a4)]
              rw [if_neg (by simpa using a4)]
              by_cases a5 : no < 0
              · rw [if_pos a5]
              rw [if_neg a5]
              by_cases a6 : no > 2147483647
              · rw [if_pos a6]
              rw [if_neg a6]
              by_cases a7 : ce = 0
              · rw [if_pos a7, if_pos (by omega)]
              · exfalso; omega
          cases de with
          | true =>
            rw [if_pos rfl]
            refine hF _ (fun hb => ?_)
            have h0 : co.length = 0 := by have := of_decide_eq_false hb; omega
            intro h
            exact hm (mayRow_iff.2 ⟨h1, h2, fun _ => h0, h4, h.1, h.2.1, h.2.2.1, h.2.2.2⟩)
          | false =>
            rw [if_neg (by decide)]
            refine hF _ (fun _ h => hm (mayRow_iff.2 ⟨h1, h2, fun e => by (cases e), h4, h.1, h.2.1, h.2.2.1, h.2.2.2⟩))
        · rw [if_pos (by omega)]; exact hT _ _
      · rw [if_neg (by simpa using h1)]; exact hT _ _
    · rw [if_pos (by simpa using h4)]; exact hT _ _
def sameRow (ke : Nat) (de : Bool) (co : List Nat) (wr ce no : Int) (ke' : Nat) (de' : Bool) (co' : List Nat) (wr' ce' no' : Int) : Bool :=
  decide (ke = ke' ∧ de = de' ∧ co = co' ∧ wr = wr' ∧ ce = ce' ∧ no = no')
theorem same_chain {ke : Nat} {de : Bool} {co : List Nat} {wr ce no : Int} {ke' : Nat} {de' : Bool} {co' : List Nat} {wr' ce' no' : Int} :
    (if decide (ke = ke') = true then (if (de == de') = true then (if wr = wr' then (if (ce == ce' && (no == no')) = true then some (decide (co = co')) else some false) else some false) else some false) else some false) = some (sameRow ke de co wr ce no ke' de' co' wr' ce' no') := by
  unfold sameRow
  by_cases a1 : ke = ke'
  · rw [if_pos (by simpa using a1)]
    by_cases a2 : de = de'
    · rw [if_pos (by simpa using a2)]
      by_cases a3 : wr = wr'
      · rw [if_pos a3]
        by_cases a4 : ce = ce' ∧ no = no'
        · rw [if_pos (by simpa using a4)]; congr 1; rw [decide_eq_decide]; constructor
          · intro h; exact ⟨a1, a2, h, a3, a4⟩
          · intro h; exact h.2.2.1
        · rw [if_neg (by simpa using a4)]; congr 1; symm; rw [decide_eq_false_iff_not]; exact fun h => a4 h.2.2.2.2
      · rw [if_neg a3]; congr 1; symm; rw [decide_eq_false_iff_not]; exact fun h => a3 h.2.2.2.1
    · rw [if_neg (by simpa using a2)]; congr 1; symm; rw [decide_eq_false_iff_not]; exact fun h => a2 h.2.1
  · rw [if_neg (by simpa using a1)]; congr 1; symm; rw [decide_eq_false_iff_not]; exact fun h => a1 h.1
theorem row_Same_ev {ke : Nat} {de : Bool} {co : List Nat} {wr ce no : Int} {ke' : Nat} {de' : Bool} {co' : List Nat} {wr' ce' no' : Int} (hl : co.length ≤ 1000000) : row_Same.f ke de co wr ce no ke' de' co' wr' ce' no' = some (sameRow ke de co wr ce no ke' de' co' wr' ce' no') := by
  unfold row_Same.f num_Same.f equalFunc_num_Same.f
  simp only [Option.bind_some, same_nat, if_pos hl]
  exact same_chain
end Go.Proofs.Ytdcllbhkjcdnoaa.P
