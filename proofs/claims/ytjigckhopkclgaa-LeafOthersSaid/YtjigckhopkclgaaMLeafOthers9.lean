/- Put together by wip/prune.py out of this claim's texts. -/
import Derived.Test.YtjigckhopkclgaaMLeafOthers4
import Derived.Test.YtjigckhopkclgaaMLeafOthers8
namespace Go.Proofs.Ytjigckhopkclgaa.P
open Go.RowKit Go.Proofs.YtjigckhopkclgaaW.PrintWords Go.Proofs.YtjigckhopkclgaaW.PrintLast Go.Proofs.YtjigckhopkclgaaW.PrintMore
attribute [local go_sem] max2_int min2_int max_two min_two max_three min_three max_four min_four   -- for this text's walks alone
attribute [local go_sem] run_store_float
set_option linter.unusedVariables false
set_option linter.unusedSimpArgs false
def leaf_Decode.f (l0 : List Int) : Option (List Int × (List (List Int)) × Int):=if 4 ≤ 35184372088832 then (if (l0.length : Int) = 512 then ((leaf_nought.f l0).bind fun t139 => (if t139 = true then (some ((List.replicate 4 0),([] : List (List Int)),0)) else (none))) else (some (([] : List Int),([] : List (List Int)),1))) else (none)
set_option maxHeartbeats 8000000 in
set_option maxRecDepth 100000 in
theorem leaf_Decode.calls (A0 : Option Addr) (c0 : Nat) (l0 : List Int) (r1 : List Int) (r2 : List (List Int)) (r3 : Int) (w : World) (hr0 : Kd.C (Kd.int .u8) w A0 l0.length l0) (hc0 : l0.length ≤ c0) (h : leaf_Decode.f l0 = some (r1,r2,r3)) :
  Calls Try.prog 9 #[.slice A0 l0.length c0] w fun e w' => ∃ v0_ v1_ : Value,e = .returned (.tuple #[.agg #[v0_,v1_],.int .i64 r3]) ∧ Kd.R (Kd.int .i64) 3 w' w.heap.size (fun _ => True) v0_ r1 ∧ Kd.S (Kd.slice 5 (Kd.int .u8)) 22 w' w.heap.size (fun _ => True) v1_ r2 ∧ Below w.heap.size w w':=by
 have hu27:=Try.underlying27
 have hu56:=Try.underlying56
 have HR0:=Aside0.mk hr0
 have HC0:=Aside0.mk hc0
 clear hr0 hc0
 have HB:=Aside0.mk (Below.refl w.heap.size w)
 have H : (if 4 ≤ 35184372088832 then (if (l0.length : Int) = 512 then ((leaf_nought.f l0).bind fun t139 => (if t139 = true then (some ((List.replicate 4 0),([] : List (List Int)),0)) else (none))) else (some (([] : List Int),([] : List (List Int)),1))) else (none)) = some (r1,r2,r3):=h
 clear h
 by_cases c2 : 4 ≤ 35184372088832
 ·rw [if_pos c2] at H
  have c2b0:=eq_true c2
  have c2b1 : decide (4 ≤ 35184372088832) = true:=decide_eq_true c2
  clear c2
  obtain ⟨y135,hy135⟩ : ∃ y_ : List Int,y_ = (List.replicate 4 0):=⟨_,rfl⟩
  replace H : (if (l0.length : Int) = 512 then ((leaf_nought.f l0).bind fun t139 => (if t139 = true then (some (y135,([] : List (List Int)),0)) else (none))) else (some (([] : List Int),([] : List (List Int)),1))) = some (r1,r2,r3):=by first | (rw [hy135];with_reducible exact H) | (have H2_:=(Option.bind_some _ _).symm.trans H;rw [hy135];with_reducible exact H2_) | (have H2_:=(Option.bind_some _ _).symm.trans H;with_reducible exact H2_) | with_reducible exact H | (rw [hy135];exact H) | exact H
  have Ny135:=Aside0.mk hy135
  clear hy135
  by_cases c3 : (l0.length : Int) = 512
  ·rw [if_pos c3] at H
   have c3b0 : ((l0.length : Int) == 512) = true:=beq_iff_eq.mpr c3
   have c3b1 : ((l0.length : Int) != 512) = false:=bne_eq_false_iff_eq.mpr c3
   clear c3
   replace H:=Option.bind_eq_some_iff.mp H
   obtain ⟨t139,A40,H⟩:=H
   replace H : (if t139 = true then (some (y135,([] : List (List Int)),0)) else (none)) = some (r1,r2,r3):=H
   have A4:=Aside0.mk A40
   clear A40
   by_cases c5 : t139 = true
   ·subst c5
    have H1 : (some (y135,([] : List (List Int)),0)) = some (r1,r2,r3):=by rw [if_pos rfl] at H;exact H
    clear H
    have H:=H1
    clear H1
    simp only [Option.some.injEq,Prod.mk.injEq] at H
    obtain ⟨rfl,rfl,rfl⟩:=H
    go_enter Try.func9,Try.ntmps9
    go_wp2_with (first | ((with_reducible refine gate_dst (N:=2) rfl ?_);refine box_event ?hg (N:=2) ?hd (cs:=#[.slice none 0 0,.slice none 0 0]) (t:=27) ?hr ?_;(case hd => rfl);(case hg => rfl);(case hr => first | (go_simp;done) | (go_simp;rfl));intro gb134 hg w6 hbox hb;have n0_:=Aside0.mk (below_step (by repeat (first | (with_reducible first | exact HB.out | apply below_alloc | apply pw_below_drewN | apply below_drew1) | exact HB.out)) hb);have n1_:=Aside0.mk (hbox);have n2_:=Aside0.mk ((by rw [hg];exact (below_size (by repeat (first | (with_reducible first | exact HB.out | apply below_alloc | apply pw_below_drewN | apply below_drew1) | exact HB.out))) : w.heap.size ≤ gb134));have n3_:=Aside0.mk ((by rw [hg];exact (below_size (by repeat (first | (with_reducible first | exact HB.out | apply below_alloc | apply pw_below_drewN | apply below_drew1) | exact HB.out))) : w.heap.size ≤ gb134));clear HB;have HB:=n0_;have BK134:=n1_;have GW134:=n2_;have GE134:=n3_;clear n0_ n1_ n2_ n3_;clear hb hbox hg) | ((with_reducible refine gate_dst (N:=15) rfl ?_);refine Kd.R_make (Kd.int .i64) _ 3 rfl (N:=15) rfl 24 _ _ rfl 4 rfl rfl Try.underlying24 (.int .i64 0) 8 info3 rfl (by decide) (by omega) 0 (ok:=fun _ => True) (okp:=fun _ => True) rfl (fun _ hk => hk) trivial (by omega) (by omega) (Below.refl _ _) (Nat.le_refl _) ?_;intro v136 w7 ho8 hb hg_ hnew_;clear hg_ hnew_;(first | rw [← Ny135.out] at ho8 | (simp only [Int.reduceToNat] at ho8;rw [← Ny135.out] at ho8));have n0_:=Aside0.mk (Kd.R_lower ho8 (below_size (by repeat (first | (with_reducible first | exact HB.out | apply below_alloc | apply pw_below_drewN | apply below_drew1 | refine below_set ?_ GE134.out) | exact HB.out))));have n1_:=Aside0.mk (blk_below (g:=gb134) (o:=.cells #[.slice none 0 0,.slice none 0 0] 27 (0,0)) (by (with_reducible repeat (first | refine blk_drewN ?_ _ | refine blk_drew ?_ | refine blk_alloc ?_ _));exact BK134.out) hb);have n2_:=Aside0.mk (below_step (by repeat (first | (with_reducible first | exact HB.out | apply below_alloc | apply pw_below_drewN | apply below_drew1 | refine below_set ?_ GE134.out) | exact HB.out)) hb);clear BK134;clear HB;have HO137:=n0_;have BK134:=n1_;have HB:=n2_;clear n0_ n1_ n2_;clear hb ho8;obtain ⟨Ao9,co9,eo9⟩:=Kd.R_slice HO137.out;subst eo9) | ((with_reducible refine gate_dst (N:=4) rfl ?_);refine box_event ?hg (N:=4) ?hd (cs:=#[.slice none 0 0,.slice none 0 0]) (t:=27) ?hr ?_;(case hd => rfl);(case hg => rfl);(case hr => first | (go_simp;done) | (go_simp;rfl));intro gb138 hg w10 hbox hb;have n0_:=Aside0.mk (Kd.R_below (by (with_reducible repeat (first | apply Kd.R_alloc | apply Kd.R_drewN | apply Kd.R_drew));exact HO137.out) hb);have n1_:=Aside0.mk (blk_below (g:=gb134) (o:=.cells #[.slice none 0 0,.slice none 0 0] 27 (0,0)) (by (with_reducible repeat (first | refine blk_drewN ?_ _ | refine blk_drew ?_ | refine blk_alloc ?_ _));exact BK134.out) hb);have n2_:=Aside0.mk (below_step (by repeat (first | (with_reducible first | exact HB.out | apply below_alloc | apply pw_below_drewN | apply below_drew1 | refine below_set ?_ GE134.out) | exact HB.out)) hb);have n3_:=Aside0.mk (hbox);have n4_:=Aside0.mk ((by rw [hg];exact (below_size (by repeat (first | (with_reducible first | exact HB.out | apply below_alloc | apply pw_below_drewN | apply below_drew1 | refine below_set ?_ GE134.out) | exact HB.out))) : w.heap.size ≤ gb138));have n5_:=Aside0.mk ((by rw [hg];exact (below_size (by repeat (first | (with_reducible first | exact HB.out | apply below_alloc | apply pw_below_drewN | apply below_drew1 | refine below_set ?_ GE134.out) | exact HB.out))) : w.heap.size ≤ gb138));have n6_:=Aside0.mk ((by rw [hg];exact Nat.ne_of_lt (blk_lt (g:=gb134) (o:=.cells #[.slice none 0 0,.slice none 0 0] 27 (0,0)) (by (with_reducible repeat (first | refine blk_drewN ?_ _ | refine blk_drew ?_ | refine blk_alloc ?_ _));exact BK134.out)) : gb134 ≠ gb138));have n7_:=Aside0.mk ((by rw [hg];exact Nat.ne_of_gt (blk_lt (g:=gb134) (o:=.cells #[.slice none 0 0,.slice none 0 0] 27 (0,0)) (by (with_reducible repeat (first | refine blk_drewN ?_ _ | refine blk_drew ?_ | refine blk_alloc ?_ _));exact BK134.out)) : gb138 ≠ gb134));clear HO137;clear BK134;clear HB;have HO137:=n0_;have BK134:=n1_;have HB:=n2_;have BK138:=n3_;have GW138:=n4_;have GE138:=n5_;have NB134_138:=n6_;have NB138_134:=n7_;clear n0_ n1_ n2_ n3_ n4_ n5_ n6_ n7_;clear hb hbox hg;have hnb11:=NB138_134.out;have hnc11:=NB134_138.out;have hcz12_0 : w10.cell? ⟨gb138,0,none⟩ = some (.slice none 0 0):=(blk_cell BK138.out 0).trans rfl;have hcz12_1 : w10.cell? ⟨gb138,1,none⟩ = some (.slice none 0 0):=(blk_cell BK138.out 1).trans rfl;have hfz12_0:=blk_frozen BK138.out 0;have hfz12_1:=blk_frozen BK138.out 1) | ((with_reducible refine gate_callee (f:=25) rfl ?_);refine goesL_ (some 24) rfl rfl Try.func25 (by kernel_rfl) rfl #[.slice A0 l0.length c0] rfl (by (try simp only [List.map_toArray,List.map_cons,List.map_nil]);first | done | rfl | (simp only [List.length_drop,List.length_take];rfl)) ?_;(with_reducible refine (leaf_nought.calls _ _ l0 true _ ?side1 ?side2 A4.out).mono ?_);(case side1 => exact Kd.C_below HR0.out (by repeat (first | (with_reducible first | exact HB.out | apply below_alloc | apply pw_below_drewN | apply below_drew1 | refine below_set ?_ GE134.out | refine below_set ?_ GE138.out) | exact HB.out)));(case side2 => exact HC0.out);rintro e w13 ⟨rfl,hb⟩;refine ⟨_,rfl,?_⟩;have n0_:=Aside0.mk (Kd.R_below (by (with_reducible repeat (first | apply Kd.R_alloc | apply Kd.R_drewN | apply Kd.R_drew));exact (Kd.R_mono (Kd.R_far (p:=⟨gb138,1,none⟩) (Kd.R_far (p:=⟨gb138,0,none⟩) (Kd.R_types HO137.out BK138.out (by decide)) (fun _ hk => hk.2) (.slice Ao9 y135.length co9)) (fun _ hk => hk.2) (.slice none 0 0)) (fun _ h_ => h_.1))) hb);have n1_:=Aside0.mk (blk_below (g:=gb134) (o:=.cells #[.slice none 0 0,.slice none 0 0] 27 (0,0)) (by (with_reducible repeat (first | refine blk_drewN ?_ _ | refine blk_drew ?_ | refine blk_alloc ?_ _));refine blk_far ?_ NB134_138.out _;(with_reducible repeat (first | refine blk_drewN ?_ _ | refine blk_drew ?_ | refine blk_alloc ?_ _));refine blk_far ?_ NB134_138.out _;(with_reducible repeat (first | refine blk_drewN ?_ _ | refine blk_drew ?_ | refine blk_alloc ?_ _));exact BK134.out) hb);have n2_:=Aside0.mk (blk_below (g:=gb138) (o:=.cells #[.slice Ao9 y135.length co9,.slice none 0 0] 27 (0,0)) (by (with_reducible repeat (first | refine blk_drewN ?_ _ | refine blk_drew ?_ | refine blk_alloc ?_ _));refine blk_put (cs:=#[.slice Ao9 y135.length co9,.slice none 0 0]) ?_ 1 _ rfl;(with_reducible repeat (first | refine blk_drewN ?_ _ | refine blk_drew ?_ | refine blk_alloc ?_ _));refine blk_put (cs:=#[.slice none 0 0,.slice none 0 0]) ?_ 0 _ rfl;(with_reducible repeat (first | refine blk_drewN ?_ _ | refine blk_drew ?_ | refine blk_alloc ?_ _));exact BK138.out) hb);have n3_:=Aside0.mk (below_step (by repeat (first | (with_reducible first | exact HB.out | apply below_alloc | apply pw_below_drewN | apply below_drew1 | refine below_set ?_ GE134.out | refine below_set ?_ GE138.out) | exact HB.out)) hb);clear HO137;clear BK134;clear BK138;clear HB;have HO137:=n0_;have BK134:=n1_;have BK138:=n2_;have HB:=n3_;clear n0_ n1_ n2_ n3_;(try clear hb);(try clear hb2);(try clear hk);(try clear hi);have hcz14_0 : w13.cell? ⟨gb138,0,none⟩ = some (.slice Ao9 y135.length co9):=(blk_cell BK138.out 0).trans rfl;have hcz14_1 : w13.cell? ⟨gb138,1,none⟩ = some (.slice none 0 0):=(blk_cell BK138.out 1).trans rfl;have hfz14_0:=blk_frozen BK138.out 0;have hfz14_1:=blk_frozen BK138.out 1;have hcz15_0 : w13.cell? ⟨gb134,0,none⟩ = some (.slice none 0 0):=(blk_cell BK134.out 0).trans rfl;have hcz15_1 : w13.cell? ⟨gb134,1,none⟩ = some (.slice none 0 0):=(blk_cell BK134.out 1).trans rfl;have hfz15_0:=blk_frozen BK134.out 0;have hfz15_1:=blk_frozen BK134.out 1))
    refine bodyPost_ret (results_ct rfl _ _ gb134 27 #[.slice Ao9 y135.length co9,.slice none 0 0] (0,0) _ rfl (by (with_reducible repeat (first | refine blk_drewN ?_ _ | refine blk_drew ?_ | refine blk_alloc ?_ _));refine blk_put (cs:=#[.slice Ao9 y135.length co9,.slice none 0 0]) ?_ 1 _ rfl;(with_reducible repeat (first | refine blk_drewN ?_ _ | refine blk_drew ?_ | refine blk_alloc ?_ _));refine blk_put (cs:=#[.slice none 0 0,.slice none 0 0]) ?_ 0 _ rfl;(with_reducible repeat (first | refine blk_drewN ?_ _ | refine blk_drew ?_ | refine blk_alloc ?_ _));exact BK134.out) Try.underlying27 rfl (by kernel_rfl)) rfl ?_
    exact ⟨_,_,by first | rfl | (simp [errW_none,errW_some] <;> rfl) | (simp [*,errW_none,errW_some] <;> rfl),by (with_reducible repeat (first | apply Kd.R_alloc | apply Kd.R_drewN | apply Kd.R_drew));exact Kd.R_mono (Kd.R_far (p:=⟨gb134,1,none⟩) (Kd.R_far (p:=⟨gb134,0,none⟩) (Kd.R_types HO137.out BK134.out (by decide)) (fun _ hk => hk.2) (.slice Ao9 y135.length co9)) (fun _ hk => hk.2) (.slice none 0 0)) (fun _ hk => trivial),by first | exact Kd.S_nil _ _ _ _ _ | exact Kd.N_nil _ _ _ _ _ | exact Kd.V_nil _ _ _ _ _ | exact Kd.Q_nil _ _ _ _ _ | exact Kd.R_nil _ _ _ _ _,by repeat (first | (with_reducible first | exact HB.out | apply below_alloc | apply pw_below_drewN | apply below_drew1 | refine below_set ?_ GE134.out | refine below_set ?_ GE138.out) | exact HB.out)⟩
   ·replace c5:=Bool.eq_false_iff.mpr c5
    subst c5
    have H1 : (none) = some (r1,r2,r3):=by rw [if_neg (show ¬ (false = true) by decide)] at H;exact H
    clear H
    have H:=H1
    clear H1
    exact absurd H (by simp)
  ·rw [if_neg c3] at H
   have c3b0 : ((l0.length : Int) == 512) = false:=beq_eq_false_iff_ne.mpr c3
   have c3b1 : ((l0.length : Int) != 512) = true:=bne_iff_ne.mpr c3
   simp only [Option.some.injEq,Prod.mk.injEq] at H
   obtain ⟨rfl,rfl,rfl⟩:=H
   go_enter Try.func9,Try.ntmps9
   go_wp2_with (first | ((with_reducible refine gate_dst (N:=2) rfl ?_);refine box_event ?hg (N:=2) ?hd (cs:=#[.slice none 0 0,.slice none 0 0]) (t:=27) ?hr ?_;(case hd => rfl);(case hg => rfl);(case hr => first | (go_simp;done) | (go_simp;rfl));intro gb134 hg w16 hbox hb;have n0_:=Aside0.mk (below_step (by repeat (first | (with_reducible first | exact HB.out | apply below_alloc | apply pw_below_drewN | apply below_drew1) | exact HB.out)) hb);have n1_:=Aside0.mk (hbox);have n2_:=Aside0.mk ((by rw [hg];exact (below_size (by repeat (first | (with_reducible first | exact HB.out | apply below_alloc | apply pw_below_drewN | apply below_drew1) | exact HB.out))) : w.heap.size ≤ gb134));have n3_:=Aside0.mk ((by rw [hg];exact (below_size (by repeat (first | (with_reducible first | exact HB.out | apply below_alloc | apply pw_below_drewN | apply below_drew1) | exact HB.out))) : w.heap.size ≤ gb134));clear HB;have HB:=n0_;have BK134:=n1_;have GW134:=n2_;have GE134:=n3_;clear n0_ n1_ n2_ n3_;clear hb hbox hg) | ((with_reducible refine gate_dst (N:=15) rfl ?_);refine Kd.R_make (Kd.int .i64) _ 3 rfl (N:=15) rfl 24 _ _ rfl 4 rfl rfl Try.underlying24 (.int .i64 0) 8 info3 rfl (by decide) (by omega) 0 (ok:=fun _ => True) (okp:=fun _ => True) rfl (fun _ hk => hk) trivial (by omega) (by omega) (Below.refl _ _) (Nat.le_refl _) ?_;intro v136 w17 ho18 hb hg_ hnew_;clear hg_ hnew_;(first | rw [← Ny135.out] at ho18 | (simp only [Int.reduceToNat] at ho18;rw [← Ny135.out] at ho18));have n0_:=Aside0.mk (Kd.R_lower ho18 (below_size (by repeat (first | (with_reducible first | exact HB.out | apply below_alloc | apply pw_below_drewN | apply below_drew1 | refine below_set ?_ GE134.out) | exact HB.out))));have n1_:=Aside0.mk (blk_below (g:=gb134) (o:=.cells #[.slice none 0 0,.slice none 0 0] 27 (0,0)) (by (with_reducible repeat (first | refine blk_drewN ?_ _ | refine blk_drew ?_ | refine blk_alloc ?_ _));exact BK134.out) hb);have n2_:=Aside0.mk (below_step (by repeat (first | (with_reducible first | exact HB.out | apply below_alloc | apply pw_below_drewN | apply below_drew1 | refine below_set ?_ GE134.out) | exact HB.out)) hb);clear BK134;clear HB;have HO137:=n0_;have BK134:=n1_;have HB:=n2_;clear n0_ n1_ n2_;clear hb ho18;obtain ⟨Ao19,co19,eo19⟩:=Kd.R_slice HO137.out;subst eo19) | ((with_reducible refine gate_dst (N:=4) rfl ?_);refine box_event ?hg (N:=4) ?hd (cs:=#[.slice none 0 0,.slice none 0 0]) (t:=27) ?hr ?_;(case hd => rfl);(case hg => rfl);(case hr => first | (go_simp;done) | (go_simp;rfl));intro gb138 hg w20 hbox hb;have n0_:=Aside0.mk (Kd.R_below (by (with_reducible repeat (first | apply Kd.R_alloc | apply Kd.R_drewN | apply Kd.R_drew));exact HO137.out) hb);have n1_:=Aside0.mk (blk_below (g:=gb134) (o:=.cells #[.slice none 0 0,.slice none 0 0] 27 (0,0)) (by (with_reducible repeat (first | refine blk_drewN ?_ _ | refine blk_drew ?_ | refine blk_alloc ?_ _));exact BK134.out) hb);have n2_:=Aside0.mk (below_step (by repeat (first | (with_reducible first | exact HB.out | apply below_alloc | apply pw_below_drewN | apply below_drew1 | refine below_set ?_ GE134.out) | exact HB.out)) hb);have n3_:=Aside0.mk (hbox);have n4_:=Aside0.mk ((by rw [hg];exact (below_size (by repeat (first | (with_reducible first | exact HB.out | apply below_alloc | apply pw_below_drewN | apply below_drew1 | refine below_set ?_ GE134.out) | exact HB.out))) : w.heap.size ≤ gb138));have n5_:=Aside0.mk ((by rw [hg];exact (below_size (by repeat (first | (with_reducible first | exact HB.out | apply below_alloc | apply pw_below_drewN | apply below_drew1 | refine below_set ?_ GE134.out) | exact HB.out))) : w.heap.size ≤ gb138));have n6_:=Aside0.mk ((by rw [hg];exact Nat.ne_of_lt (blk_lt (g:=gb134) (o:=.cells #[.slice none 0 0,.slice none 0 0] 27 (0,0)) (by (with_reducible repeat (first | refine blk_drewN ?_ _ | refine blk_drew ?_ | refine blk_alloc ?_ _));exact BK134.out)) : gb134 ≠ gb138));have n7_:=Aside0.mk ((by rw [hg];exact Nat.ne_of_gt (blk_lt (g:=gb134) (o:=.cells #[.slice none 0 0,.slice none 0 0] 27 (0,0)) (by (with_reducible repeat (first | refine blk_drewN ?_ _ | refine blk_drew ?_ | refine blk_alloc ?_ _));exact BK134.out)) : gb138 ≠ gb134));clear HO137;clear BK134;clear HB;have HO137:=n0_;have BK134:=n1_;have HB:=n2_;have BK138:=n3_;have GW138:=n4_;have GE138:=n5_;have NB134_138:=n6_;have NB138_134:=n7_;clear n0_ n1_ n2_ n3_ n4_ n5_ n6_ n7_;clear hb hbox hg;have hnb21:=NB138_134.out;have hnc21:=NB134_138.out;have hcz22_0 : w20.cell? ⟨gb138,0,none⟩ = some (.slice none 0 0):=(blk_cell BK138.out 0).trans rfl;have hcz22_1 : w20.cell? ⟨gb138,1,none⟩ = some (.slice none 0 0):=(blk_cell BK138.out 1).trans rfl;have hfz22_0:=blk_frozen BK138.out 0;have hfz22_1:=blk_frozen BK138.out 1;have hcz23_0 : w20.cell? ⟨gb134,0,none⟩ = some (.slice none 0 0):=(blk_cell BK134.out 0).trans rfl;have hcz23_1 : w20.cell? ⟨gb134,1,none⟩ = some (.slice none 0 0):=(blk_cell BK134.out 1).trans rfl;have hfz23_0:=blk_frozen BK134.out 0;have hfz23_1:=blk_frozen BK134.out 1))
   refine bodyPost_ret (results_ct rfl _ _ gb134 27 #[.slice none 0 0,.slice none 0 0] (0,0) _ rfl (by (with_reducible repeat (first | refine blk_drewN ?_ _ | refine blk_drew ?_ | refine blk_alloc ?_ _));refine blk_put (cs:=#[.slice none 0 0,.slice none 0 0]) ?_ 1 _ rfl;(with_reducible repeat (first | refine blk_drewN ?_ _ | refine blk_drew ?_ | refine blk_alloc ?_ _));refine blk_put (cs:=#[.slice none 0 0,.slice none 0 0]) ?_ 0 _ rfl;(with_reducible repeat (first | refine blk_drewN ?_ _ | refine blk_drew ?_ | refine blk_alloc ?_ _));refine blk_far ?_ NB134_138.out _;(with_reducible repeat (first | refine blk_drewN ?_ _ | refine blk_drew ?_ | refine blk_alloc ?_ _));refine blk_far ?_ NB134_138.out _;(with_reducible repeat (first | refine blk_drewN ?_ _ | refine blk_drew ?_ | refine blk_alloc ?_ _));exact BK134.out) Try.underlying27 rfl (by kernel_rfl)) rfl ?_
   exact ⟨_,_,by first | rfl | (simp [errW_none,errW_some] <;> rfl) | (simp [*,errW_none,errW_some] <;> rfl),by first | exact Kd.R_nil _ _ _ _ _ | exact Kd.N_nil _ _ _ _ _ | exact Kd.V_nil _ _ _ _ _ | exact Kd.Q_nil _ _ _ _ _ | exact Kd.S_nil _ _ _ _ _,by first | exact Kd.S_nil _ _ _ _ _ | exact Kd.N_nil _ _ _ _ _ | exact Kd.V_nil _ _ _ _ _ | exact Kd.Q_nil _ _ _ _ _ | exact Kd.R_nil _ _ _ _ _,by repeat (first | (with_reducible first | exact HB.out | apply below_alloc | apply pw_below_drewN | apply below_drew1 | refine below_set ?_ GE134.out | refine below_set ?_ GE138.out) | exact HB.out)⟩
 ·rw [if_neg c2] at H
  exact absurd H (by simp)
def leaf_stands.f (l0_0 : List Int) (l0_1 : List (List Int)) (a1 : Int) : Option (Bool):=if a1 ≥ 0 then (if a1 < (l0_1.length : Int) then (if 0 ≤ a1 then (some (decide (((rd_L2 l0_1 a1).length : Int) > 0))) else (none)) else (some false)) else (some false)
set_option maxHeartbeats 8000000 in
set_option maxRecDepth 100000 in
theorem leaf_stands.calls (A0_0 : Option Addr) (c0_0 : Nat) (l0_0 : List Int) (A0_1 : Option Addr) (c0_1 : Nat) (l0_1 : List (List Int)) (a1 : Int) (r : Bool) (w : World) (hr0_0 : Kd.C (Kd.int .i64) w A0_0 l0_0.length l0_0) (hc0_0 : l0_0.length ≤ c0_0) (hr0_1 : Kd.C (Kd.slice 5 (Kd.int .u8)) w A0_1 l0_1.length l0_1) (hc0_1 : l0_1.length ≤ c0_1) (h : leaf_stands.f l0_0 l0_1 a1 = some r) :
  Calls Try.prog 32 #[.agg #[.slice A0_0 l0_0.length c0_0,.slice A0_1 l0_1.length c0_1],.int .i64 a1] w fun e w' => e = .returned (.bool r) ∧ Below w.heap.size w w':=by
 have hu27:=Try.underlying27
 have HR0_0:=Aside0.mk hr0_0
 have HC0_0:=Aside0.mk hc0_0
 clear hr0_0 hc0_0
 have HR0_1:=Aside0.mk hr0_1
 have HC0_1:=Aside0.mk hc0_1
 clear hr0_1 hc0_1
 have HB:=Aside0.mk (Below.refl w.heap.size w)
 have H : (if a1 ≥ 0 then (if a1 < (l0_1.length : Int) then (if 0 ≤ a1 then (some (decide (((rd_L2 l0_1 a1).length : Int) > 0))) else (none)) else (some false)) else (some false)) = some r:=h
 clear h
 by_cases c3 : a1 ≥ 0
 ·rw [if_pos c3] at H
  have c3b0 : decide (0 ≤ a1) = true:=decide_eq_true c3
  clear c3
  by_cases c4 : a1 < (l0_1.length : Int)
  ·rw [if_pos c4] at H
   have c4b0 : decide (a1 < (l0_1.length : Int)) = true:=decide_eq_true c4
   clear c4
   by_cases c5 : 0 ≤ a1
   ·rw [if_pos c5] at H
    have c5b0 : decide (0 ≤ a1) = true:=decide_eq_true c5
    clear c5
    obtain rfl:=Option.some.inj H
    go_enter Try.func32,Try.ntmps32
    go_wp2_with (first | ((with_reducible refine gate_dst (N:=2) rfl ?_);(try (refine gate_guard (by rfl) ?_;dsimp only));refine box_event ?hg (N:=2) ?hd (cs:=#[.slice A0_0 l0_0.length c0_0,.slice A0_1 l0_1.length c0_1]) (t:=27) ?hr ?_;(case hd => rfl);(case hg => rfl);(case hr => first | (go_simp;done) | (go_simp;rfl));intro gb140 hg w6 hbox hb;have n0_:=Aside0.mk (below_step (by repeat (first | (with_reducible first | exact HB.out | apply below_alloc | apply pw_below_drewN | apply below_drew1) | exact HB.out)) hb);have n1_:=Aside0.mk (hbox);have n2_:=Aside0.mk ((by rw [hg];exact (below_size (by repeat (first | (with_reducible first | exact HB.out | apply below_alloc | apply pw_below_drewN | apply below_drew1) | exact HB.out))) : w.heap.size ≤ gb140));have n3_:=Aside0.mk ((by rw [hg];exact (below_size (by repeat (first | (with_reducible first | exact HB.out | apply below_alloc | apply pw_below_drewN | apply below_drew1) | exact HB.out))) : w.heap.size ≤ gb140));clear HB;have HB:=n0_;have BK140:=n1_;have GW140:=n2_;have GE140:=n3_;clear n0_ n1_ n2_ n3_;clear hb hbox hg;have hcz7_0 : w6.cell? ⟨gb140,0,none⟩ = some (.slice A0_0 l0_0.length c0_0):=(blk_cell BK140.out 0).trans rfl;have hcz7_1 : w6.cell? ⟨gb140,1,none⟩ = some (.slice A0_1 l0_1.length c0_1):=(blk_cell BK140.out 1).trans rfl;have hfz7_0:=blk_frozen BK140.out 0;have hfz7_1:=blk_frozen BK140.out 1;have p141 : 0 ≤ (a1 : Int):=of_decide_eq_true (by first | (with_reducible assumption) | assumption);have q141 : a1 < (l0_1.length : Int):=of_decide_eq_true (by first | (with_reducible assumption) | assumption);obtain ⟨ad141,A141_0,c141_0,e141,hx141_0,hl141_0,hi141_0⟩:=at_L2 HR0_1.out a1 p141 q141;cases e141;replace hx141_0:=(HB.out.cell (World.block_lt_of_cell? w _ hx141_0)).trans hx141_0;have HR141_0:=Aside0.mk hi141_0;have HC141_0:=Aside0.mk hl141_0;clear hi141_0 hl141_0;replace p141:=eq_true p141;replace q141:=eq_true q141))
    go_ret
    exact ⟨by first | rfl | (simp [errW_none,errW_some] <;> rfl) | (simp [*,errW_none,errW_some] <;> rfl),by repeat (first | (with_reducible first | exact HB.out | apply below_alloc | apply pw_below_drewN | apply below_drew1 | refine below_set ?_ GE140.out) | exact HB.out)⟩
   ·rw [if_neg c5] at H
    exact absurd H (by simp)
  ·rw [if_neg c4] at H
   have c4b0 : decide (a1 < (l0_1.length : Int)) = false:=decide_eq_false c4
   clear c4
   obtain rfl:=Option.some.inj H
   go_enter Try.func32,Try.ntmps32
   go_wp2_with (first | ((with_reducible refine gate_dst (N:=2) rfl ?_);(try (refine gate_guard (by rfl) ?_;dsimp only));refine box_event ?hg (N:=2) ?hd (cs:=#[.slice A0_0 l0_0.length c0_0,.slice A0_1 l0_1.length c0_1]) (t:=27) ?hr ?_;(case hd => rfl);(case hg => rfl);(case hr => first | (go_simp;done) | (go_simp;rfl));intro gb140 hg w8 hbox hb;have n0_:=Aside0.mk (below_step (by repeat (first | (with_reducible first | exact HB.out | apply below_alloc | apply pw_below_drewN | apply below_drew1) | exact HB.out)) hb);have n1_:=Aside0.mk (hbox);have n2_:=Aside0.mk ((by rw [hg];exact (below_size (by repeat (first | (with_reducible first | exact HB.out | apply below_alloc | apply pw_below_drewN | apply below_drew1) | exact HB.out))) : w.heap.size ≤ gb140));have n3_:=Aside0.mk ((by rw [hg];exact (below_size (by repeat (first | (with_reducible first | exact HB.out | apply below_alloc | apply pw_below_drewN | apply below_drew1) | exact HB.out))) : w.heap.size ≤ gb140));clear HB;have HB:=n0_;have BK140:=n1_;have GW140:=n2_;have GE140:=n3_;clear n0_ n1_ n2_ n3_;clear hb hbox hg;have hcz9_0 : w8.cell? ⟨gb140,0,none⟩ = some (.slice A0_0 l0_0.length c0_0):=(blk_cell BK140.out 0).trans rfl;have hcz9_1 : w8.cell? ⟨gb140,1,none⟩ = some (.slice A0_1 l0_1.length c0_1):=(blk_cell BK140.out 1).trans rfl;have hfz9_0:=blk_frozen BK140.out 0;have hfz9_1:=blk_frozen BK140.out 1))
   go_ret
   exact ⟨by first | rfl | (simp [errW_none,errW_some] <;> rfl) | (simp [*,errW_none,errW_some] <;> rfl),by repeat (first | (with_reducible first | exact HB.out | apply below_alloc | apply pw_below_drewN | apply below_drew1 | refine below_set ?_ GE140.out) | exact HB.out)⟩
 ·rw [if_neg c3] at H
  have c3b0 : decide (0 ≤ a1) = false:=decide_eq_false c3
  clear c3
  obtain rfl:=Option.some.inj H
  go_enter Try.func32,Try.ntmps32
  go_wp2_with (first | ((with_reducible refine gate_dst (N:=2) rfl ?_);(try (refine gate_guard (by rfl) ?_;dsimp only));refine box_event ?hg (N:=2) ?hd (cs:=#[.slice A0_0 l0_0.length c0_0,.slice A0_1 l0_1.length c0_1]) (t:=27) ?hr ?_;(case hd => rfl);(case hg => rfl);(case hr => first | (go_simp;done) | (go_simp;rfl));intro gb140 hg w10 hbox hb;have n0_:=Aside0.mk (below_step (by repeat (first | (with_reducible first | exact HB.out | apply below_alloc | apply pw_below_drewN | apply below_drew1) | exact HB.out)) hb);have n1_:=Aside0.mk (hbox);have n2_:=Aside0.mk ((by rw [hg];exact (below_size (by repeat (first | (with_reducible first | exact HB.out | apply below_alloc | apply pw_below_drewN | apply below_drew1) | exact HB.out))) : w.heap.size ≤ gb140));have n3_:=Aside0.mk ((by rw [hg];exact (below_size (by repeat (first | (with_reducible first | exact HB.out | apply below_alloc | apply pw_below_drewN | apply below_drew1) | exact HB.out))) : w.heap.size ≤ gb140));clear HB;have HB:=n0_;have BK140:=n1_;have GW140:=n2_;have GE140:=n3_;clear n0_ n1_ n2_ n3_;clear hb hbox hg))
  go_ret
  exact ⟨by first | rfl | (simp [errW_none,errW_some] <;> rfl) | (simp [*,errW_none,errW_some] <;> rfl),by repeat (first | (with_reducible first | exact HB.out | apply below_alloc | apply pw_below_drewN | apply below_drew1 | refine below_set ?_ GE140.out) | exact HB.out)⟩
end Go.Proofs.Ytjigckhopkclgaa.P
namespace Go.Proofs.Ytjigckhopkclgaa.P
open Go.RowKit Go.Proofs.YtjigckhopkclgaaW.PrintWords Go.Proofs.YtjigckhopkclgaaW.PrintLast Go.Proofs.YtjigckhopkclgaaW.PrintMore
attribute [local go_sem] max2_int min2_int max_two min_two max_three min_three max_four min_four   -- for this text's walks alone
attribute [local go_sem] run_store_float
set_option linter.unusedVariables false
set_option linter.unusedSimpArgs false
mutual
def leaf_Drop.j0 : Nat → Int → Int → Bool → List Int → List (List Int) → Option (List Int × (List (List Int)) × Int)
 | 0,_,_,_,_,_ => none
 | k + 1,x1,x6,x12,x174000,x174001 => if x12 = true then (some (([] : List Int),([] : List (List Int)),x6)) else ((leaf_own.f k x174000 x174001).bind fun bt176 => ((leaf_stands.f x174000 x174001 x1).bind fun t183 => (if t183 = true then (if 0 ≤ x1 then (if x1 < (bt176.2.length : Int) then (leaf_Drop.l0 k (bt176.2.length : Int) bt176.1 (bt176.2.set (x1 : Int).toNat ([] : List Int))) else (none)) else (none)) else (some (bt176.1,bt176.2,3)))))
def leaf_Drop.l0 : Nat → Int → List Int → List (List Int) → Option (List Int × (List (List Int)) × Int)
 | 0,_,_,_ => none
 | k + 1,x8,x183000,x183001 => if x8 > 0 then (if 0 ≤ (wrap64 (x8 - 1)) then (if (wrap64 (x8 - 1)) < (x183001.length : Int) then (leaf_Drop.j2 k x8 (((rd_L2 x183001 (wrap64 (x8 - 1))).length : Int) == 0) x183000 x183001) else (none)) else (none)) else (leaf_Drop.j2 k x8 false x183000 x183001)
def leaf_Drop.j2 : Nat → Int → Bool → List Int → List (List Int) → Option (List Int × (List (List Int)) × Int)
 | 0,_,_,_,_ => none
 | k + 1,x8,x40,x183000,x183001 => if x40 = true then (if 0 ≤ (wrap64 (x8 - 1)) then (if (wrap64 (x8 - 1)) ≤ (x183001.length : Int) then (leaf_Drop.l0 k (wrap64 (x8 - 1)) x183000 (x183001.take ((wrap64 (x8 - 1)) : Int).toNat)) else (none)) else (none)) else (some (x183000,x183001,0))
end
def leaf_Drop.f (k : Nat) (l0_0 : List Int) (l0_1 : List (List Int)) (a1 : Int) : Option (List Int × (List (List Int)) × Int):=(leaf_Check.f k l0_0 l0_1).bind fun t175 => (leaf_Drop.j0 k a1 t175 (t175 != 0) l0_0 l0_1)
theorem leaf_Drop.mono_l : ∀ k,(∀ y0 y1 y2 y3 y4,LeO (leaf_Drop.j0 k y0 y1 y2 y3 y4) (leaf_Drop.j0 (k + 1) y0 y1 y2 y3 y4)) ∧ (∀ y0 y1 y2,LeO (leaf_Drop.l0 k y0 y1 y2) (leaf_Drop.l0 (k + 1) y0 y1 y2)) ∧ (∀ y0 y1 y2 y3,LeO (leaf_Drop.j2 k y0 y1 y2 y3) (leaf_Drop.j2 (k + 1) y0 y1 y2 y3))
 | 0 => ⟨fun _ _ _ _ _ r h => by simp [leaf_Drop.j0] at h,fun _ _ _ r h => by simp [leaf_Drop.l0] at h,fun _ _ _ _ r h => by simp [leaf_Drop.j2] at h⟩
 | k + 1 => by
  obtain ⟨ih0,ih1,ih2⟩:=leaf_Drop.mono_l k
  refine ⟨?_,?_,?_⟩
  ·intro y0 y1 y2 y3 y4
   unfold leaf_Drop.j0
   repeat' first
   | (with_reducible exact ih0 _ _ _ _ _)
   | (with_reducible exact ih1 _ _ _)
   | (with_reducible exact ih2 _ _ _ _)
   | (with_reducible exact leaf_Check.mono _ _ _)
   | (with_reducible exact leaf_own.mono _ _ _)
   | (with_reducible exact LeO.refl _)
   | (with_reducible exact LeO.none _)
   | (with_reducible refine LeO.ite ?_ ?_)
   | (with_reducible refine LeO.bind ?_ (fun _ => ?_))
   | exact ih0 _ _ _ _ _
   | exact ih1 _ _ _
   | exact ih2 _ _ _ _
   | exact leaf_Check.mono _ _ _
   | exact leaf_own.mono _ _ _
   | exact LeO.none _
   | refine LeO.ite ?_ ?_
   | refine LeO.bind ?_ (fun _ => ?_)
  ·intro y0 y1 y2
   unfold leaf_Drop.l0
   repeat' first
   | (with_reducible exact ih0 _ _ _ _ _)
   | (with_reducible exact ih1 _ _ _)
   | (with_reducible exact ih2 _ _ _ _)
   | (with_reducible exact leaf_Check.mono _ _ _)
   | (with_reducible exact leaf_own.mono _ _ _)
   | (with_reducible exact LeO.refl _)
   | (with_reducible exact LeO.none _)
   | (with_reducible refine LeO.ite ?_ ?_)
   | (with_reducible refine LeO.bind ?_ (fun _ => ?_))
   | exact ih0 _ _ _ _ _
   | exact ih1 _ _ _
   | exact ih2 _ _ _ _
   | exact leaf_Check.mono _ _ _
   | exact leaf_own.mono _ _ _
   | exact LeO.none _
   | refine LeO.ite ?_ ?_
   | refine LeO.bind ?_ (fun _ => ?_)
  ·intro y0 y1 y2 y3
   unfold leaf_Drop.j2
   repeat' first
   | (with_reducible exact ih0 _ _ _ _ _)
   | (with_reducible exact ih1 _ _ _)
   | (with_reducible exact ih2 _ _ _ _)
   | (with_reducible exact leaf_Check.mono _ _ _)
   | (with_reducible exact leaf_own.mono _ _ _)
   | (with_reducible exact LeO.refl _)
   | (with_reducible exact LeO.none _)
   | (with_reducible refine LeO.ite ?_ ?_)
   | (with_reducible refine LeO.bind ?_ (fun _ => ?_))
   | exact ih0 _ _ _ _ _
   | exact ih1 _ _ _
   | exact ih2 _ _ _ _
   | exact leaf_Check.mono _ _ _
   | exact leaf_own.mono _ _ _
   | exact LeO.none _
   | refine LeO.ite ?_ ?_
   | refine LeO.bind ?_ (fun _ => ?_)
theorem leaf_Drop.mono : ∀ a0 a1 a2 k,LeO (leaf_Drop.f k a0 a1 a2) (leaf_Drop.f (k + 1) a0 a1 a2):=by
 intro a0 a1 a2 k
 obtain ⟨ih0,ih1,ih2⟩:=leaf_Drop.mono_l k
 unfold leaf_Drop.f
 repeat' first
   | (with_reducible exact ih0 _ _ _ _ _)
   | (with_reducible exact ih1 _ _ _)
   | (with_reducible exact ih2 _ _ _ _)
   | (with_reducible exact leaf_Check.mono _ _ _)
   | (with_reducible exact leaf_own.mono _ _ _)
   | (with_reducible exact LeO.refl _)
   | (with_reducible exact LeO.none _)
   | (with_reducible refine LeO.ite ?_ ?_)
   | (with_reducible refine LeO.bind ?_ (fun _ => ?_))
   | exact ih0 _ _ _ _ _
   | exact ih1 _ _ _
   | exact ih2 _ _ _ _
   | exact leaf_Check.mono _ _ _
   | exact leaf_own.mono _ _ _
   | exact LeO.none _
   | refine LeO.ite ?_ ?_
   | refine LeO.bind ?_ (fun _ => ?_)
set_option maxHeartbeats 8000000 in
set_option maxRecDepth 100000 in
theorem leaf_Drop.calls (k : Nat) (A0_0 : Option Addr) (c0_0 : Nat) (l0_0 : List Int) (P0_1_ : Nat → Prop) (A0_1 : Option Addr) (c0_1 : Nat) (l0_1 : List (List Int)) (a1 : Int) (r1 : List Int) (r2 : List (List Int)) (r3 : Int) (w : World) (hr0_0 : Kd.C (Kd.int .i64) w A0_0 l0_0.length l0_0) (hc0_0 : l0_0.length ≤ c0_0) (hs0_1 : Kd.V (Kd.slice 5 (Kd.int .u8)) 22 w w.heap.size (fun k_ => P0_1_ k_) (.slice A0_1 l0_1.length c0_1) l0_1) (h : leaf_Drop.f k l0_0 l0_1 a1 = some (r1,r2,r3)) :
  Calls Try.prog 15 #[.agg #[.slice A0_0 l0_0.length c0_0,.slice A0_1 l0_1.length c0_1],.int .i64 a1] w fun e w' => ∃ v0_ v1_ : Value,e = .returned (.tuple #[.agg #[v0_,v1_],.int .i64 r3]) ∧ Kd.R (Kd.int .i64) 3 w' w.heap.size (fun k_ => (w.heap.size ≤ k_)) v0_ r1 ∧ Kd.V (Kd.slice 5 (Kd.int .u8)) 22 w' w.heap.size (fun k_ => (P0_1_ k_ ∨ w.heap.size ≤ k_) ∧ some k_ ≠ (v0_ : Value).ownBlock) v1_ r2 ∧ Below w.heap.size w w':=by
 have hu27:=Try.underlying27
 have HR0_0:=Aside0.mk hr0_0
 have HC0_0:=Aside0.mk hc0_0
 clear hr0_0 hc0_0
 have HO0_1:=Aside0.mk (show Kd.V (Kd.slice 5 (Kd.int .u8)) 22 w w.heap.size (fun k_ => (P0_1_ k_ ∨ w.heap.size ≤ k_)) (.slice A0_1 l0_1.length c0_1) l0_1 from Kd.V_mono hs0_1 (fun k_ hk => .inl hk))
 have HB:=Aside0.mk (Below.refl w.heap.size w)
 have H : ((leaf_Check.f k l0_0 l0_1).bind fun t175 => (leaf_Drop.j0 k a1 t175 (t175 != 0) l0_0 l0_1)) = some (r1,r2,r3):=h
 clear h
 replace H:=Option.bind_eq_some_iff.mp H
 obtain ⟨t175,A30,H⟩:=H
 replace H : (leaf_Drop.j0 k a1 t175 (t175 != 0) l0_0 l0_1) = some (r1,r2,r3):=H
 have A3:=Aside0.mk A30
 clear A30
 have HC4:=Aside0.mk H
 clear H
 go_enter Try.func15,Try.ntmps15
 go_upto_region 2 with (first | ((with_reducible refine gate_dst (N:=2) rfl ?_);(try (refine gate_guard (by rfl) ?_;dsimp only));refine box_event ?hg (N:=2) ?hd (cs:=#[.slice A0_0 l0_0.length c0_0,.slice A0_1 l0_1.length c0_1]) (t:=27) ?hr ?_;(case hd => rfl);(case hg => rfl);(case hr => first | (go_simp;done) | (go_simp;rfl));intro gb173 hg w5 hbox hb;have n0_:=Aside0.mk (Kd.V_below (Kd.V_elderB (by (with_reducible repeat (first | apply Kd.V_alloc | apply Kd.V_drewN | apply Kd.V_drew));exact HO0_1.out) gb173 (Nat.le_of_eq hg.symm)) hb);have n1_:=Aside0.mk (below_step (by repeat (first | (with_reducible first | exact HB.out | apply below_alloc | apply pw_below_drewN | apply below_drew1) | exact HB.out)) hb);have n2_:=Aside0.mk (hbox);have n3_:=Aside0.mk ((by rw [hg];exact (below_size (by repeat (first | (with_reducible first | exact HB.out | apply below_alloc | apply pw_below_drewN | apply below_drew1) | exact HB.out))) : w.heap.size ≤ gb173));have n4_:=Aside0.mk ((by rw [hg];exact (below_size (by repeat (first | (with_reducible first | exact HB.out | apply below_alloc | apply pw_below_drewN | apply below_drew1) | exact HB.out))) : w.heap.size ≤ gb173));clear HO0_1;clear HB;have HO0_1:=n0_;have HB:=n1_;have BK173:=n2_;have GW173:=n3_;have GE173:=n4_;clear n0_ n1_ n2_ n3_ n4_;clear hb hbox hg) | ((with_reducible refine gate_dst (N:=4) rfl ?_);(try (refine gate_guard (by rfl) ?_;dsimp only));refine box_event ?hg (N:=4) ?hd (cs:=#[.slice none 0 0,.slice none 0 0]) (t:=27) ?hr ?_;(case hd => rfl);(case hg => rfl);(case hr => first | (go_simp;done) | (go_simp;rfl));intro gb174 hg w6 hbox hb;have n0_:=Aside0.mk (Kd.V_below (Kd.V_elderB (by (with_reducible repeat (first | apply Kd.V_alloc | apply Kd.V_drewN | apply Kd.V_drew));exact HO0_1.out) gb174 (Nat.le_of_eq hg.symm)) hb);have n1_:=Aside0.mk (blk_below (g:=gb173) (o:=.cells #[.slice A0_0 l0_0.length c0_0,.slice A0_1 l0_1.length c0_1] 27 (0,0)) (by (with_reducible repeat (first | refine blk_drewN ?_ _ | refine blk_drew ?_ | refine blk_alloc ?_ _));exact BK173.out) hb);have n2_:=Aside0.mk (below_step (by repeat (first | (with_reducible first | exact HB.out | apply below_alloc | apply pw_below_drewN | apply below_drew1 | refine below_set ?_ GE173.out) | exact HB.out)) hb);have n3_:=Aside0.mk (hbox);have n4_:=Aside0.mk ((by rw [hg];exact (below_size (by repeat (first | (with_reducible first | exact HB.out | apply below_alloc | apply pw_below_drewN | apply below_drew1 | refine below_set ?_ GE173.out) | exact HB.out))) : w.heap.size ≤ gb174));have n5_:=Aside0.mk ((by rw [hg];exact (below_size (by repeat (first | (with_reducible first | exact HB.out | apply below_alloc | apply pw_below_drewN | apply below_drew1 | refine below_set ?_ GE173.out) | exact HB.out))) : w.heap.size ≤ gb174));have n6_:=Aside0.mk ((by rw [hg];exact Nat.ne_of_lt (blk_lt (g:=gb173) (o:=.cells #[.slice A0_0 l0_0.length c0_0,.slice A0_1 l0_1.length c0_1] 27 (0,0)) (by (with_reducible repeat (first | refine blk_drewN ?_ _ | refine blk_drew ?_ | refine blk_alloc ?_ _));exact BK173.out)) : gb173 ≠ gb174));have n7_:=Aside0.mk ((by rw [hg];exact Nat.ne_of_gt (blk_lt (g:=gb173) (o:=.cells #[.slice A0_0 l0_0.length c0_0,.slice A0_1 l0_1.length c0_1] 27 (0,0)) (by (with_reducible repeat (first | refine blk_drewN ?_ _ | refine blk_drew ?_ | refine blk_alloc ?_ _));exact BK173.out)) : gb174 ≠ gb173));clear HO0_1;clear BK173;clear HB;have HO0_1:=n0_;have BK173:=n1_;have HB:=n2_;have BK174:=n3_;have GW174:=n4_;have GE174:=n5_;have NB173_174:=n6_;have NB174_173:=n7_;clear n0_ n1_ n2_ n3_ n4_ n5_ n6_ n7_;clear hb hbox hg;have hnb7:=NB173_174.out;have hnc7:=NB174_173.out;have hcz8_0 : w6.cell? ⟨gb173,0,none⟩ = some (.slice A0_0 l0_0.length c0_0):=(blk_cell BK173.out 0).trans rfl;have hcz8_1 : w6.cell? ⟨gb173,1,none⟩ = some (.slice A0_1 l0_1.length c0_1):=(blk_cell BK173.out 1).trans rfl;have hfz8_0:=blk_frozen BK173.out 0;have hfz8_1:=blk_frozen BK173.out 1) | ((with_reducible refine gate_callee (f:=21) rfl ?_);refine goesL_ (some 10) rfl rfl Try.func21 (by kernel_rfl) rfl #[.agg #[.slice A0_0 l0_0.length c0_0,.slice A0_1 l0_1.length c0_1]] rfl (by (try simp only [List.map_toArray,List.map_cons,List.map_nil]);first | done | rfl | (simp only [List.length_drop,List.length_take];rfl)) ?_;(with_reducible refine (leaf_Check.calls k _ _ l0_0 _ _ l0_1 t175 _ ?side1 ?side2 ?side3 ?side4 A3.out).mono ?_);(case side1 => repeat (first | exact (Kd.C_below HR0_0.out HB.out) | (with_reducible refine Kd.C_alloc ?_ _) | (with_reducible refine Kd.C_drewN ?_ _) | (with_reducible refine Kd.C_drew ?_)));(case side2 => exact HC0_0.out);(case side3 => repeat (first | exact (Kd.V_reads' HO0_1.out).2.2 | (with_reducible refine Kd.C_alloc ?_ _) | (with_reducible refine Kd.C_drewN ?_ _) | (with_reducible refine Kd.C_drew ?_)));(case side4 => exact (Kd.V_reads' HO0_1.out).2.1);rintro e w9 ⟨rfl,hb⟩;refine ⟨_,rfl,?_⟩;have n0_:=Aside0.mk (Kd.V_below (by (with_reducible repeat (first | apply Kd.V_alloc | apply Kd.V_drewN | apply Kd.V_drew));exact HO0_1.out) hb);have n1_:=Aside0.mk (blk_below (g:=gb173) (o:=.cells #[.slice A0_0 l0_0.length c0_0,.slice A0_1 l0_1.length c0_1] 27 (0,0)) (by (with_reducible repeat (first | refine blk_drewN ?_ _ | refine blk_drew ?_ | refine blk_alloc ?_ _));exact BK173.out) hb);have n2_:=Aside0.mk (blk_below (g:=gb174) (o:=.cells #[.slice none 0 0,.slice none 0 0] 27 (0,0)) (by (with_reducible repeat (first | refine blk_drewN ?_ _ | refine blk_drew ?_ | refine blk_alloc ?_ _));exact BK174.out) hb);have n3_:=Aside0.mk (below_step (by repeat (first | (with_reducible first | exact HB.out | apply below_alloc | apply pw_below_drewN | apply below_drew1 | refine below_set ?_ GE173.out | refine below_set ?_ GE174.out) | exact HB.out)) hb);clear HO0_1;clear BK173;clear BK174;clear HB;have HO0_1:=n0_;have BK173:=n1_;have BK174:=n2_;have HB:=n3_;clear n0_ n1_ n2_ n3_;(try clear hb);(try clear hb2);(try clear hk);(try clear hi)))
 (try simp only [Act.put,List.setIfInBounds_toArray,List.set_cons_zero,List.set_cons_succ])
 go_cut [12] (fun v12 wc => ∃ (kq : Nat) (x12_3 : Bool),v12 = .bool x12_3 ∧ Aside0 (leaf_Drop.j0 kq a1 t175 x12_3 l0_0 l0_1 = some (r1,r2,r3)) ∧ Aside0 (kq ≤ k) ∧ Aside0 (Kd.V (Kd.slice 5 (Kd.int .u8)) 22 wc w.heap.size (fun k_ => (P0_1_ k_ ∨ w.heap.size ≤ k_) ∧ k_ ≠ gb173 ∧ k_ ≠ gb174) (.slice A0_1 l0_1.length c0_1) l0_1) ∧ Aside0 (wc.heap[gb173]? = some (.cells #[(.slice A0_0 l0_0.length c0_0),(.slice A0_1 l0_1.length c0_1)] 27 (0,0))) ∧ Aside0 (wc.heap[gb174]? = some (.cells #[(.slice none 0 0),(.slice none 0 0)] 27 (0,0))) ∧ Aside0 (Below w.heap.size w wc))
 case first =>
  have H:=HC4.out
  clear HC4
  have H':=Aside0.mk H
  clear H
  go_wp2
  go_meet
  case rel => exact ⟨_,((t175 != 0)),(by first | rfl | (simp;done) | (simp [*];done)),H',⟨by first | omega | exact Nat.le_refl _⟩,⟨by (with_reducible repeat (first | apply Kd.V_alloc | apply Kd.V_drewN | apply Kd.V_drew));exact Kd.V_mono HO0_1.out (fun _ hk => ⟨hk.1.1,⟨hk.1.2,hk.2⟩⟩)⟩,⟨by (with_reducible repeat (first | refine blk_drewN ?_ _ | refine blk_drew ?_ | refine blk_alloc ?_ _));exact BK173.out⟩,⟨by (with_reducible repeat (first | refine blk_drewN ?_ _ | refine blk_drew ?_ | refine blk_alloc ?_ _));exact BK174.out⟩,⟨by repeat (first | (with_reducible first | exact HB.out | apply below_alloc | apply pw_below_drewN | apply below_drew1 | refine below_set ?_ GE173.out | refine below_set ?_ GE174.out) | exact HB.out)⟩⟩
 case rest =>
  clear HC4
  try clear c1
  try clear c2
  try clear p2
  try clear c7
  try clear hcz8_0
  try clear hcz8_1
  try clear hfz8_0
  try clear hfz8_1
  obtain ⟨kq,x12_3,rfl,HA,HJ3,HO_174001,BK173,BK174,HB⟩:=hcut
  cases kq with
  | zero => exact absurd HA.out (by simp [leaf_Drop.j0])
  | succ kj3 =>
   have H:=HA.out
   clear HA
   simp only [leaf_Drop.j0] at H
   by_cases c10 : x12_3 = true
   ·subst c10
    have H1 : (some (([] : List Int),([] : List (List Int)),t175)) = some (r1,r2,r3):=by rw [if_pos rfl] at H;exact H
    clear H
    have H:=H1
    clear H1
    simp only [Option.some.injEq,Prod.mk.injEq] at H
    obtain ⟨rfl,rfl,rfl⟩:=H
    have hnb11:=NB174_173.out
    have hnc11:=NB173_174.out
    have hcz12_0 : wc.cell? ⟨gb174,0,none⟩ = some (.slice none 0 0):=(blk_cell BK174.out 0).trans rfl
    have hcz12_1 : wc.cell? ⟨gb174,1,none⟩ = some (.slice none 0 0):=(blk_cell BK174.out 1).trans rfl
    have hfz12_0:=blk_frozen BK174.out 0
    have hfz12_1:=blk_frozen BK174.out 1
    go_wp2
    refine bodyPost_ret (results_ct rfl _ _ gb174 27 #[.slice none 0 0,.slice none 0 0] (0,0) _ rfl (by (with_reducible repeat (first | refine blk_drewN ?_ _ | refine blk_drew ?_ | refine blk_alloc ?_ _));refine blk_put (cs:=#[.slice none 0 0,.slice none 0 0]) ?_ 1 _ rfl;(with_reducible repeat (first | refine blk_drewN ?_ _ | refine blk_drew ?_ | refine blk_alloc ?_ _));refine blk_put (cs:=#[.slice none 0 0,.slice none 0 0]) ?_ 0 _ rfl;(with_reducible repeat (first | refine blk_drewN ?_ _ | refine blk_drew ?_ | refine blk_alloc ?_ _));exact BK174.out) Try.underlying27 rfl (by kernel_rfl)) rfl ?_
    exact ⟨_,_,by first | rfl | (simp [errW_none,errW_some] <;> rfl) | (simp [*,errW_none,errW_some] <;> rfl),by first | exact Kd.R_nil _ _ _ _ _ | exact Kd.N_nil _ _ _ _ _ | exact Kd.V_nil _ _ _ _ _ | exact Kd.Q_nil _ _ _ _ _ | exact Kd.S_nil _ _ _ _ _,(by first | exact Kd.V_nil _ _ _ _ _ | exact Kd.N_nil _ _ _ _ _ | exact Kd.V_nil _ _ _ _ _ | exact Kd.Q_nil _ _ _ _ _ | exact Kd.R_nil _ _ _ _ _),by repeat (first | (with_reducible first | exact HB.out | apply below_alloc | apply pw_below_drewN | apply below_drew1 | refine below_set ?_ GE173.out | refine below_set ?_ GE174.out) | exact HB.out)⟩
   ·replace c10:=Bool.eq_false_iff.mpr c10
    subst c10
    have H1 : ((leaf_own.f kj3 l0_0 l0_1).bind fun bt176 => ((leaf_stands.f l0_0 l0_1 a1).bind fun t183 => (if t183 = true then (if 0 ≤ a1 then (if a1 < (bt176.2.length : Int) then (leaf_Drop.l0 kj3 (bt176.2.length : Int) bt176.1 (bt176.2.set (a1 : Int).toNat ([] : List Int))) else (none)) else (none)) else (some (bt176.1,bt176.2,3))))) = some (r1,r2,r3):=by rw [if_neg (show ¬ (false = true) by decide)] at H;exact H
    clear H
    have H:=H1
    clear H1
    replace H:=Option.bind_eq_some_iff.mp H
    obtain ⟨⟨t176,t179⟩,A130,H⟩:=H
    replace H : ((leaf_stands.f l0_0 l0_1 a1).bind fun t183 => (if t183 = true then (if 0 ≤ a1 then (if a1 < (t179.length : Int) then (leaf_Drop.l0 kj3 (t179.length : Int) t176 (t179.set (a1 : Int).toNat ([] : List Int))) else (none)) else (none)) else (some (t176,t179,3)))) = some (r1,r2,r3):=H
    have A13:=Aside0.mk A130
    clear A130
    replace H:=Option.bind_eq_some_iff.mp H
    obtain ⟨t183,A140,H⟩:=H
    replace H : (if t183 = true then (if 0 ≤ a1 then (if a1 < (t179.length : Int) then (leaf_Drop.l0 kj3 (t179.length : Int) t176 (t179.set (a1 : Int).toNat ([] : List Int))) else (none)) else (none)) else (some (t176,t179,3))) = some (r1,r2,r3):=H
    have A14:=Aside0.mk A140
    clear A140
    by_cases c15 : t183 = true
    ·subst c15
     have H1 : (if 0 ≤ a1 then (if a1 < (t179.length : Int) then (leaf_Drop.l0 kj3 (t179.length : Int) t176 (t179.set (a1 : Int).toNat ([] : List Int))) else (none)) else (none)) = some (r1,r2,r3):=by rw [if_pos rfl] at H;exact H
     clear H
     have H:=H1
     clear H1
     by_cases c16 : 0 ≤ a1
     ·rw [if_pos c16] at H
      have c16b0 : decide (0 ≤ a1) = true:=decide_eq_true c16
      clear c16
      by_cases c17 : a1 < (t179.length : Int)
      ·rw [if_pos c17] at H
       have c17b0 : decide (a1 < (t179.length : Int)) = true:=decide_eq_true c17
       clear c17
       obtain ⟨y184,hy184⟩ : ∃ y_ : List (List Int),y_ = (t179.set (a1 : Int).toNat ([] : List Int)):=⟨_,rfl⟩
       replace H : (leaf_Drop.l0 kj3 (t179.length : Int) t176 y184) = some (r1,r2,r3):=by first | (rw [hy184];with_reducible exact H) | (have H2_:=(Option.bind_some _ _).symm.trans H;rw [hy184];with_reducible exact H2_) | (have H2_:=(Option.bind_some _ _).symm.trans H;with_reducible exact H2_) | with_reducible exact H | (rw [hy184];exact H) | exact H
       have Ny184:=Aside0.mk hy184
       clear hy184
       have H':=Aside0.mk H
       clear H
       have hnb19:=NB173_174.out
       have hnc19:=NB174_173.out
       have hcz20_0 : wc.cell? ⟨gb173,0,none⟩ = some (.slice A0_0 l0_0.length c0_0):=(blk_cell BK173.out 0).trans rfl
       have hcz20_1 : wc.cell? ⟨gb173,1,none⟩ = some (.slice A0_1 l0_1.length c0_1):=(blk_cell BK173.out 1).trans rfl
       have hfz20_0:=blk_frozen BK173.out 0
       have hfz20_1:=blk_frozen BK173.out 1
       go_wp2_with (first | ((with_reducible refine gate_callee (f:=33) rfl ?_);refine goesL_ (some 16) rfl rfl Try.func33 (by kernel_rfl) rfl #[.agg #[.slice A0_0 l0_0.length c0_0,.slice A0_1 l0_1.length c0_1]] rfl (by (try simp only [List.map_toArray,List.map_cons,List.map_nil]);first | done | rfl | (simp only [List.length_drop,List.length_take];rfl)) ?_;(with_reducible refine (leaf_own.calls kj3 _ _ l0_0 (fun k_ => ((P0_1_ k_ ∨ w.heap.size ≤ k_) ∧ (k_ ≠ gb173 ∧ k_ ≠ gb174))) _ _ l0_1 t176 t179 _ ?side1 ?side2 ?side3 A13.out).mono ?_);(case side1 => repeat (first | exact (Kd.C_below HR0_0.out HB.out) | (with_reducible refine Kd.C_alloc ?_ _) | (with_reducible refine Kd.C_drewN ?_ _) | (with_reducible refine Kd.C_drew ?_)));(case side2 => exact HC0_0.out);(case side3 => exact HO_174001.out);rintro e w21 ⟨v177,v180,rfl,ho0,ho1,hb⟩;refine ⟨_,rfl,?_⟩;have n0_:=Aside0.mk (Kd.V_mono (Kd.V_told (Kd.V_told (Kd.V_old (by (with_reducible repeat (first | apply Kd.V_alloc | apply Kd.V_drewN | apply Kd.V_drew));exact HO_174001.out) hb) (Kd.R_base ho0)) (Kd.N_base ho1)) (fun _ h_ => h_.1));have n1_:=Aside0.mk (Kd.R_lower (Kd.R_newM (M:=fun k_ => (w.heap.size ≤ k_)) (Kd.R_mono (ok':=fun k_ => True) ho0 (fun _ hk_ => trivial)) (below_size (by repeat (first | (with_reducible first | exact HB.out | apply below_alloc | apply pw_below_drewN | apply below_drew1 | refine below_set ?_ GE173.out | refine below_set ?_ GE174.out) | exact HB.out))) (fun k_ h_ => h_)) (below_size (by repeat (first | (with_reducible first | exact HB.out | apply below_alloc | apply pw_below_drewN | apply below_drew1 | refine below_set ?_ GE173.out | refine below_set ?_ GE174.out) | exact HB.out))));have n2_:=Aside0.mk (Kd.N_lower (Kd.N_mono (ok':=fun k_ => (P0_1_ k_ ∨ w.heap.size ≤ k_) ∧ some k_ ≠ (v177 : Value).ownBlock ∧ k_ ≠ gb173 ∧ k_ ≠ gb174) ho1 (fun k_ hk_ => ⟨Or.elim hk_.1 (fun hs_ => hs_.1) (fun hn_ => (.inr (Nat.le_trans (below_size (by repeat (first | (with_reducible first | exact HB.out | apply below_alloc | apply pw_below_drewN | apply below_drew1 | refine below_set ?_ GE173.out | refine below_set ?_ GE174.out) | exact HB.out))) hn_))),hk_.2,Or.elim hk_.1 (fun hs_ => hs_.2.1) (fun hn_ => (Kd.freshB (g:=gb173) (o:=.cells #[.slice A0_0 l0_0.length c0_0,.slice A0_1 l0_1.length c0_1] 27 (0,0)) (by (with_reducible repeat (first | refine blk_drewN ?_ _ | refine blk_drew ?_ | refine blk_alloc ?_ _));exact BK173.out) k_ hn_)),Or.elim hk_.1 (fun hs_ => hs_.2.2) (fun hn_ => (Kd.freshB (g:=gb174) (o:=.cells #[.slice none 0 0,.slice none 0 0] 27 (0,0)) (by (with_reducible repeat (first | refine blk_drewN ?_ _ | refine blk_drew ?_ | refine blk_alloc ?_ _));exact BK174.out) k_ hn_))⟩)) (below_size (by repeat (first | (with_reducible first | exact HB.out | apply below_alloc | apply pw_below_drewN | apply below_drew1 | refine below_set ?_ GE173.out | refine below_set ?_ GE174.out) | exact HB.out))));have n3_:=Aside0.mk (blk_below (g:=gb173) (o:=.cells #[.slice A0_0 l0_0.length c0_0,.slice A0_1 l0_1.length c0_1] 27 (0,0)) (by (with_reducible repeat (first | refine blk_drewN ?_ _ | refine blk_drew ?_ | refine blk_alloc ?_ _));exact BK173.out) hb);have n4_:=Aside0.mk (blk_below (g:=gb174) (o:=.cells #[.slice none 0 0,.slice none 0 0] 27 (0,0)) (by (with_reducible repeat (first | refine blk_drewN ?_ _ | refine blk_drew ?_ | refine blk_alloc ?_ _));exact BK174.out) hb);have n5_:=Aside0.mk (below_step (by repeat (first | (with_reducible first | exact HB.out | apply below_alloc | apply pw_below_drewN | apply below_drew1 | refine below_set ?_ GE173.out | refine below_set ?_ GE174.out) | exact HB.out)) hb);clear HO_174001;clear BK173;clear BK174;clear HB;have HO_174001:=n0_;have HO178:=n1_;have HO181:=n2_;have BK173:=n3_;have BK174:=n4_;have HB:=n5_;clear n0_ n1_ n2_ n3_ n4_ n5_;(try clear hb);(try clear hb2);(try clear hk);(try clear hi);(try clear ho0);(try clear ho1)) | ((with_reducible refine gate_dst (N:=7) rfl ?_);(try (refine gate_guard (by rfl) ?_;dsimp only));refine box_event ?hg (N:=7) ?hd (cs:=#[.slice none 0 0,.slice none 0 0]) (t:=27) ?hr ?_;(case hd => rfl);(case hg => rfl);(case hr => first | (go_simp;done) | (go_simp;rfl));intro gb182 hg w22 hbox hb;have n0_:=Aside0.mk (Kd.V_below (Kd.V_elderB (by (with_reducible repeat (first | apply Kd.V_alloc | apply Kd.V_drewN | apply Kd.V_drew));exact HO_174001.out) gb182 (Nat.le_of_eq hg.symm)) hb);have n1_:=Aside0.mk (Kd.R_below (by (with_reducible repeat (first | apply Kd.R_alloc | apply Kd.R_drewN | apply Kd.R_drew));exact HO178.out) hb);have n2_:=Aside0.mk (Kd.N_below (Kd.N_elderB (by (with_reducible repeat (first | apply Kd.N_alloc | apply Kd.N_drewN | apply Kd.N_drew));exact HO181.out) gb182 (Nat.le_of_eq hg.symm)) hb);have n3_:=Aside0.mk (blk_below (g:=gb173) (o:=.cells #[.slice A0_0 l0_0.length c0_0,.slice A0_1 l0_1.length c0_1] 27 (0,0)) (by (with_reducible repeat (first | refine blk_drewN ?_ _ | refine blk_drew ?_ | refine blk_alloc ?_ _));exact BK173.out) hb);have n4_:=Aside0.mk (blk_below (g:=gb174) (o:=.cells #[.slice none 0 0,.slice none 0 0] 27 (0,0)) (by (with_reducible repeat (first | refine blk_drewN ?_ _ | refine blk_drew ?_ | refine blk_alloc ?_ _));exact BK174.out) hb);have n5_:=Aside0.mk (below_step (by repeat (first | (with_reducible first | exact HB.out | apply below_alloc | apply pw_below_drewN | apply below_drew1 | refine below_set ?_ GE173.out | refine below_set ?_ GE174.out) | exact HB.out)) hb);have n6_:=Aside0.mk (hbox);have n7_:=Aside0.mk ((by rw [hg];exact (below_size (by repeat (first | (with_reducible first | exact HB.out | apply below_alloc | apply pw_below_drewN | apply below_drew1 | refine below_set ?_ GE173.out | refine below_set ?_ GE174.out) | exact HB.out))) : w.heap.size ≤ gb182));have n8_:=Aside0.mk ((by rw [hg];exact (below_size (by repeat (first | (with_reducible first | exact HB.out | apply below_alloc | apply pw_below_drewN | apply below_drew1 | refine below_set ?_ GE173.out | refine below_set ?_ GE174.out) | exact HB.out))) : w.heap.size ≤ gb182));have n9_:=Aside0.mk ((by rw [hg];exact Nat.ne_of_lt (blk_lt (g:=gb173) (o:=.cells #[.slice A0_0 l0_0.length c0_0,.slice A0_1 l0_1.length c0_1] 27 (0,0)) (by (with_reducible repeat (first | refine blk_drewN ?_ _ | refine blk_drew ?_ | refine blk_alloc ?_ _));exact BK173.out)) : gb173 ≠ gb182));have n10_:=Aside0.mk ((by rw [hg];exact Nat.ne_of_gt (blk_lt (g:=gb173) (o:=.cells #[.slice A0_0 l0_0.length c0_0,.slice A0_1 l0_1.length c0_1] 27 (0,0)) (by (with_reducible repeat (first | refine blk_drewN ?_ _ | refine blk_drew ?_ | refine blk_alloc ?_ _));exact BK173.out)) : gb182 ≠ gb173));have n11_:=Aside0.mk ((by rw [hg];exact Nat.ne_of_lt (blk_lt (g:=gb174) (o:=.cells #[.slice none 0 0,.slice none 0 0] 27 (0,0)) (by (with_reducible repeat (first | refine blk_drewN ?_ _ | refine blk_drew ?_ | refine blk_alloc ?_ _));exact BK174.out)) : gb174 ≠ gb182));have n12_:=Aside0.mk ((by rw [hg];exact Nat.ne_of_gt (blk_lt (g:=gb174) (o:=.cells #[.slice none 0 0,.slice none 0 0] 27 (0,0)) (by (with_reducible repeat (first | refine blk_drewN ?_ _ | refine blk_drew ?_ | refine blk_alloc ?_ _));exact BK174.out)) : gb182 ≠ gb174));clear HO_174001;clear HO178;clear HO181;clear BK173;clear BK174;clear HB;have HO_174001:=n0_;have HO178:=n1_;have HO181:=n2_;have BK173:=n3_;have BK174:=n4_;have HB:=n5_;have BK182:=n6_;have GW182:=n7_;have GE182:=n8_;have NB173_182:=n9_;have NB182_173:=n10_;have NB174_182:=n11_;have NB182_174:=n12_;clear n0_ n1_ n2_ n3_ n4_ n5_ n6_ n7_ n8_ n9_ n10_ n11_ n12_;clear hb hbox hg;obtain ⟨Ao23,co23,eo23⟩:=Kd.R_slice HO178.out;subst eo23;have hnb24:=NB182_173.out;have hnc24:=NB173_182.out;have hnb25:=NB182_174.out;have hnc25:=NB174_182.out;have hcz26_0 : w22.cell? ⟨gb182,0,none⟩ = some (.slice none 0 0):=(blk_cell BK182.out 0).trans rfl;have hcz26_1 : w22.cell? ⟨gb182,1,none⟩ = some (.slice none 0 0):=(blk_cell BK182.out 1).trans rfl;have hfz26_0:=blk_frozen BK182.out 0;have hfz26_1:=blk_frozen BK182.out 1;obtain ⟨Ao27,co27,eo27⟩:=Kd.N_slice HO181.out;subst eo27;have hcz28_0 : w22.cell? ⟨gb173,0,none⟩ = some (.slice A0_0 l0_0.length c0_0):=(blk_cell BK173.out 0).trans rfl;have hcz28_1 : w22.cell? ⟨gb173,1,none⟩ = some (.slice A0_1 l0_1.length c0_1):=(blk_cell BK173.out 1).trans rfl;have hfz28_0:=blk_frozen BK173.out 0;have hfz28_1:=blk_frozen BK173.out 1) | ((with_reducible refine gate_callee (f:=32) rfl ?_);refine goesL_ (some 19) rfl rfl Try.func32 (by kernel_rfl) rfl #[.agg #[.slice A0_0 l0_0.length c0_0,.slice A0_1 l0_1.length c0_1],.int .i64 a1] rfl (by (try simp only [List.map_toArray,List.map_cons,List.map_nil]);first | done | rfl | (simp only [List.length_drop,List.length_take];rfl)) ?_;(with_reducible refine (leaf_stands.calls _ _ l0_0 _ _ l0_1 a1 true _ ?side1 ?side2 ?side3 ?side4 A14.out).mono ?_);(case side1 => exact Kd.C_below HR0_0.out (by repeat (first | (with_reducible first | exact HB.out | apply below_alloc | apply pw_below_drewN | apply below_drew1 | refine below_set ?_ GE173.out | refine below_set ?_ GE174.out | refine below_set ?_ GE182.out) | exact HB.out)));(case side2 => exact HC0_0.out);(case side3 => refine (Kd.V_reads' (e:=22) (base:=w.heap.size) (ok:=fun k_ => ((((((P0_1_ k_ ∨ w.heap.size ≤ k_)) ∧ (k_ ≠ gb173 ∧ k_ ≠ gb174)) ∧ some k_ ≠ (.slice Ao23 t176.length co23 : Value).ownBlock) ∧ some k_ ≠ (.slice Ao27 t179.length co27 : Value).ownBlock) ∧ k_ ≠ gb182)) (n:=l0_1.length) (c:=c0_1) ?_).2.2;exact (by (with_reducible repeat (first | apply Kd.V_alloc | apply Kd.V_drewN | apply Kd.V_drew));exact (Kd.V_mono (Kd.V_far (p:=⟨gb182,1,none⟩) (Kd.V_far (p:=⟨gb182,0,none⟩) (Kd.V_mono HO_174001.out (fun k_ hk => (⟨hk,hk.2⟩ : _ ∧ k_ ≠ gb182))) (fun _ hk => hk.2) (.slice Ao23 t176.length co23)) (fun _ hk => hk.2) (.slice Ao27 t179.length co27)) (fun _ h_ => h_.1))));(case side4 => exact (Kd.V_reads' HO_174001.out).2.1);rintro e w29 ⟨rfl,hb⟩;refine ⟨_,rfl,?_⟩;have n0_:=Aside0.mk (Kd.V_below (by (with_reducible repeat (first | apply Kd.V_alloc | apply Kd.V_drewN | apply Kd.V_drew));exact (Kd.V_mono (Kd.V_far (p:=⟨gb182,1,none⟩) (Kd.V_far (p:=⟨gb182,0,none⟩) (Kd.V_mono HO_174001.out (fun k_ hk => (⟨hk,hk.2⟩ : _ ∧ k_ ≠ gb182))) (fun _ hk => hk.2) (.slice Ao23 t176.length co23)) (fun _ hk => hk.2) (.slice Ao27 t179.length co27)) (fun _ h_ => h_.1))) hb);have n1_:=Aside0.mk (Kd.R_below (by (with_reducible repeat (first | apply Kd.R_alloc | apply Kd.R_drewN | apply Kd.R_drew));exact (Kd.R_mono (Kd.R_far (p:=⟨gb182,1,none⟩) (Kd.R_far (p:=⟨gb182,0,none⟩) (Kd.R_types HO178.out BK182.out (by decide)) (fun _ hk => hk.2) (.slice Ao23 t176.length co23)) (fun _ hk => hk.2) (.slice Ao27 t179.length co27)) (fun _ h_ => h_.1))) hb);have n2_:=Aside0.mk (Kd.N_below (by (with_reducible repeat (first | apply Kd.N_alloc | apply Kd.N_drewN | apply Kd.N_drew));exact (Kd.N_mono (Kd.N_far (p:=⟨gb182,1,none⟩) (Kd.N_far (p:=⟨gb182,0,none⟩) (Kd.N_mono HO181.out (fun k_ hk => (⟨hk,hk.2⟩ : _ ∧ k_ ≠ gb182))) (fun _ hk => hk.2) (.slice Ao23 t176.length co23)) (fun _ hk => hk.2) (.slice Ao27 t179.length co27)) (fun _ h_ => h_.1))) hb);have n3_:=Aside0.mk (blk_below (g:=gb173) (o:=.cells #[.slice A0_0 l0_0.length c0_0,.slice A0_1 l0_1.length c0_1] 27 (0,0)) (by (with_reducible repeat (first | refine blk_drewN ?_ _ | refine blk_drew ?_ | refine blk_alloc ?_ _));refine blk_far ?_ NB173_182.out _;(with_reducible repeat (first | refine blk_drewN ?_ _ | refine blk_drew ?_ | refine blk_alloc ?_ _));refine blk_far ?_ NB173_182.out _;(with_reducible repeat (first | refine blk_drewN ?_ _ | refine blk_drew ?_ | refine blk_alloc ?_ _));exact BK173.out) hb);have n4_:=Aside0.mk (blk_below (g:=gb174) (o:=.cells #[.slice none 0 0,.slice none 0 0] 27 (0,0)) (by (with_reducible repeat (first | refine blk_drewN ?_ _ | refine blk_drew ?_ | refine blk_alloc ?_ _));refine blk_far ?_ NB174_182.out _;(with_reducible repeat (first | refine blk_drewN ?_ _ | refine blk_drew ?_ | refine blk_alloc ?_ _));refine blk_far ?_ NB174_182.out _;(with_reducible repeat (first | refine blk_drewN ?_ _ | refine blk_drew ?_ | refine blk_alloc ?_ _));exact BK174.out) hb);have n5_:=Aside0.mk (blk_below (g:=gb182) (o:=.cells #[.slice Ao23 t176.length co23,.slice Ao27 t179.length co27] 27 (0,0)) (by (with_reducible repeat (first | refine blk_drewN ?_ _ | refine blk_drew ?_ | refine blk_alloc ?_ _));refine blk_put (cs:=#[.slice Ao23 t176.length co23,.slice none 0 0]) ?_ 1 _ rfl;(with_reducible repeat (first | refine blk_drewN ?_ _ | refine blk_drew ?_ | refine blk_alloc ?_ _));refine blk_put (cs:=#[.slice none 0 0,.slice none 0 0]) ?_ 0 _ rfl;(with_reducible repeat (first | refine blk_drewN ?_ _ | refine blk_drew ?_ | refine blk_alloc ?_ _));exact BK182.out) hb);have n6_:=Aside0.mk (below_step (by repeat (first | (with_reducible first | exact HB.out | apply below_alloc | apply pw_below_drewN | apply below_drew1 | refine below_set ?_ GE173.out | refine below_set ?_ GE174.out | refine below_set ?_ GE182.out) | exact HB.out)) hb);clear HO_174001;clear HO178;clear HO181;clear BK173;clear BK174;clear BK182;clear HB;have HO_174001:=n0_;have HO178:=n1_;have HO181:=n2_;have BK173:=n3_;have BK174:=n4_;have BK182:=n5_;have HB:=n6_;clear n0_ n1_ n2_ n3_ n4_ n5_ n6_;(try clear hb);(try clear hb2);(try clear hk);(try clear hi);have hcz30_0 : w29.cell? ⟨gb182,0,none⟩ = some (.slice Ao23 t176.length co23):=(blk_cell BK182.out 0).trans rfl;have hcz30_1 : w29.cell? ⟨gb182,1,none⟩ = some (.slice Ao27 t179.length co27):=(blk_cell BK182.out 1).trans rfl;have hfz30_0:=blk_frozen BK182.out 0;have hfz30_1:=blk_frozen BK182.out 1;have p18 : 0 ≤ (a1 : Int):=of_decide_eq_true (by first | (with_reducible assumption) | assumption);have q18 : (a1 : Int) < ((t179.length : Int) : Int):=of_decide_eq_true (by first | (with_reducible assumption) | assumption);obtain ⟨go18,co18,eo18,gb18,gl18,cl18,HG18⟩:=Kd.N_form HO181.out (by omega);(first | cases eo18 | (injection eo18 with ea_ en_ ec_;(first | subst ea_ | (injection ea_ with ea_;subst ea_));subst ec_;clear en_));have GB18:=Aside0.mk gb18;have GG18:=Aside0.mk HG18;clear gb18 gl18 HG18;obtain ⟨ce18,hcl18,hM18,hcc18,hfr18⟩:=Kd.N_elem HO181.out [] (a1 : Int) p18 q18;obtain ⟨ua18_0,uc18_0,rfl,ul18_0,ge18_0⟩:=Kd.FK_slice_open hM18;have hx18_0:=hcc18 0 _ rfl;have hf18_0:=hfr18 0;(try simp only [show ((Kd.slice 5 (Kd.int .u8))).sz = 1 from rfl,Nat.mul_one,Nat.add_zero] at hx18_0);(try simp only [show ((Kd.slice 5 (Kd.int .u8))).sz = 1 from rfl,Nat.mul_one,Nat.add_zero] at hf18_0);clear hcl18 hcc18 hfr18 hM18;replace p18:=eq_true p18;replace q18:=eq_true q18;have n_:=Aside0.mk (Kd.N_mono (ok':=(fun k_ => (P0_1_ k_ ∨ w.heap.size ≤ k_) ∧ some k_ ≠ (.slice Ao23 t176.length co23 : Value).ownBlock ∧ k_ ≠ gb173 ∧ k_ ≠ gb174 ∧ k_ ≠ gb182)) HO181.out (fun k_ hk => ⟨hk.1.1,⟨hk.1.2.1,⟨hk.1.2.2.1,⟨hk.1.2.2.2,hk.2⟩⟩⟩⟩));clear HO181;have HO181:=n_;clear n_;have HX31:=Aside0.mk (show Kd.N (Kd.slice 5 (Kd.int .u8)) 22 w29 w.heap.size (fun k_ => (P0_1_ k_ ∨ w.heap.size ≤ k_) ∧ some k_ ≠ (.slice Ao23 t176.length co23 : Value).ownBlock ∧ k_ ≠ gb173 ∧ k_ ≠ gb174 ∧ k_ ≠ gb182) (.slice (some ⟨go18,0,none⟩) t179.length co27) t179 from (by (with_reducible repeat (first | apply Kd.N_alloc | apply Kd.N_drewN | apply Kd.N_drew));exact HO181.out));obtain ⟨ce31,hcl31,hM31,hcc31,hfr31⟩:=Kd.N_elem HX31.out [] (a1 : Int) (of_decide_eq_true (by first | (with_reducible assumption) | assumption)) (by have h_ : (a1 : Int) < ((t179.length : Int) : Int):=of_decide_eq_true (by first | (with_reducible assumption) | assumption);first | exact h_ | (have e_:=(Kd.N_reads' HO181.out).1;omega) | simpa using h_);obtain ⟨ua31_0,uc31_0,rfl,ul31_0,ge31_0⟩:=Kd.FK_slice_open hM31;have HP31:=Kd.N_seg HX31.out (a1 : Int) (of_decide_eq_true (by first | (with_reducible assumption) | assumption)) (by have h_ : (a1 : Int) < ((t179.length : Int) : Int):=of_decide_eq_true (by first | (with_reducible assumption) | assumption);first | exact h_ | (have e_:=(Kd.N_reads' HO181.out).1;omega) | simpa using h_) (seg:=[.slice none 0 0]) (j:=0) hcl31 hcc31 (show 1 ≤ 1 from by decide) (x':=([] : List Int)) (Kd.FK_slice_mk (Nat.le_refl _) (Kd.F_nil _ _ _)) (fun _ hk => hk);have hx31_0:=hcc31 0 _ rfl;(try simp only [show ((Kd.slice 5 (Kd.int .u8))).sz = 1 from rfl,Nat.mul_one,Nat.add_zero] at hx31_0);have hf31_0:=hfr31 0;(try simp only [show ((Kd.slice 5 (Kd.int .u8))).sz = 1 from rfl,Nat.mul_one,Nat.add_zero] at hf31_0);clear hcl31 hcc31 hfr31 hM31;(try simp only [show ((Kd.slice 5 (Kd.int .u8))).sz = 1 from rfl,Nat.mul_one,Nat.add_zero] at HP31);(try simp only [show ((Kd.slice 5 (Kd.int .u8))).sz = 1 from rfl,Nat.mul_one,Nat.add_zero] at HP31)) | ((with_reducible refine gate_store (t:=22) (p:=25) rfl ?_);refine store_event (t:=22) (p:=25) (v:=?vo_w32) (w1:=(w29.setCell ⟨go18,(a1 : Int).toNat,none⟩ (.slice none 0 0))) ?hg ?ho ?hn ?hr ?_;(case ho => rfl);(case hg => rfl);(case hn => rfl);(case hr => first | (go_simp;done) | (go_simp;rfl));intro w32 hw;have hg : w29.grownBy w32 (some go18):=(by rw [hw];exact HP31.2);have hp_ : Kd.N (Kd.slice 5 (Kd.int .u8)) 22 w32 w.heap.size (fun k_ => (P0_1_ k_ ∨ w.heap.size ≤ k_) ∧ some k_ ≠ (.slice Ao23 t176.length co23 : Value).ownBlock ∧ k_ ≠ gb173 ∧ k_ ≠ gb174 ∧ k_ ≠ gb182) (.slice (some ⟨go18,0,none⟩) t179.length co27) y184:=(by rw [hw,Ny184.out];exact HP31.1);clear HP31;have n0_:=Aside0.mk (Kd.V_afterv (v:=(.slice (some ⟨go18,0,none⟩) t179.length co27)) (v1:=(.slice (some ⟨go18,0,none⟩) t179.length co27)) (ok:=(fun k_ => (P0_1_ k_ ∨ w.heap.size ≤ k_) ∧ some k_ ≠ (.slice Ao23 t176.length co23 : Value).ownBlock ∧ k_ ≠ gb173 ∧ k_ ≠ gb174 ∧ k_ ≠ gb182)) (by (with_reducible repeat (first | apply Kd.V_alloc | apply Kd.V_drewN | apply Kd.V_drew));exact Kd.V_mono HO_174001.out (fun _ hk => ⟨⟨hk.1.1.1.1,⟨hk.1.1.2,⟨hk.1.1.1.2.1,⟨hk.1.1.1.2.2,hk.2⟩⟩⟩⟩,hk.1.2⟩)) hg (.inl rfl));have n1_:=Aside0.mk (blk_grown (g:=gb173) (o:=.cells #[.slice A0_0 l0_0.length c0_0,.slice A0_1 l0_1.length c0_1] 27 (0,0)) (by (with_reducible repeat (first | refine blk_drewN ?_ _ | refine blk_drew ?_ | refine blk_alloc ?_ _));exact BK173.out) hg (Kd.N_ne HO181.out BK173.out (by decide)));have n2_:=Aside0.mk (blk_grown (g:=gb174) (o:=.cells #[.slice none 0 0,.slice none 0 0] 27 (0,0)) (by (with_reducible repeat (first | refine blk_drewN ?_ _ | refine blk_drew ?_ | refine blk_alloc ?_ _));exact BK174.out) hg (Kd.N_ne HO181.out BK174.out (by decide)));have n3_:=Aside0.mk (Kd.R_over' (v:=(.slice (some ⟨go18,0,none⟩) t179.length co27)) (by (with_reducible repeat (first | apply Kd.R_alloc | apply Kd.R_drewN | apply Kd.R_drew));exact HO178.out) (Kd.N_typed HO181.out) (by decide) hg);have n4_:=Aside0.mk (hp_);have n5_:=Aside0.mk (blk_grown (g:=gb182) (o:=.cells #[.slice Ao23 t176.length co23,.slice (some ⟨go18,0,none⟩) t179.length co27] 27 (0,0)) (by (with_reducible repeat (first | refine blk_drewN ?_ _ | refine blk_drew ?_ | refine blk_alloc ?_ _));exact BK182.out) hg (Kd.N_ne HO181.out BK182.out (by decide)));have n6_:=Aside0.mk ((by rw [hw];exact below_set (HB.out) GB18.out : Below w.heap.size w w32));clear HO_174001;clear BK173;clear BK174;clear HO178;clear HO181;clear BK182;clear HB;have HO_174001:=n0_;have BK173:=n1_;have BK174:=n2_;have HO178:=n3_;have HO181:=n4_;have BK182:=n5_;have HB:=n6_;clear n0_ n1_ n2_ n3_ n4_ n5_ n6_;clear hg hw hp_;have hcz33_0 : w32.cell? ⟨gb182,0,none⟩ = some (.slice Ao23 t176.length co23):=(blk_cell BK182.out 0).trans rfl;have hcz33_1 : w32.cell? ⟨gb182,1,none⟩ = some (.slice (some ⟨go18,0,none⟩) t179.length co27):=(blk_cell BK182.out 1).trans rfl;have hfz33_0:=blk_frozen BK182.out 0;have hfz33_1:=blk_frozen BK182.out 1))
       go_loopg [8] kj3 (fun kq v8 w' => ∃ (x8_2 : Int) (x183001_2 : List (List Int)) (u183001 : Value),v8 = .int .i64 x8_2 ∧ Aside0 (leaf_Drop.l0 kq x8_2 t176 x183001_2 = some (r1,r2,r3)) ∧ Aside0 (kq ≤ kj3) ∧ Aside0 (Kd.V (Kd.slice 5 (Kd.int .u8)) 22 w' w.heap.size (fun k_ => (P0_1_ k_ ∨ w.heap.size ≤ k_) ∧ some k_ ≠ ((.slice Ao23 t176.length co23) : Value).ownBlock ∧ k_ ≠ gb173 ∧ k_ ≠ gb174 ∧ k_ ≠ gb182) (.slice A0_1 l0_1.length c0_1) l0_1) ∧ Aside0 (Kd.R (Kd.int .i64) 3 w' w.heap.size (fun k_ => (w.heap.size ≤ k_)) (.slice Ao23 t176.length co23) t176) ∧ Aside0 (Kd.V (Kd.slice 5 (Kd.int .u8)) 22 w' w.heap.size (fun k_ => (P0_1_ k_ ∨ w.heap.size ≤ k_) ∧ some k_ ≠ ((.slice Ao23 t176.length co23) : Value).ownBlock ∧ k_ ≠ gb173 ∧ k_ ≠ gb174 ∧ k_ ≠ gb182) u183001 x183001_2) ∧ Aside0 (w'.heap[gb173]? = some (.cells #[(.slice A0_0 l0_0.length c0_0),(.slice A0_1 l0_1.length c0_1)] 27 (0,0))) ∧ Aside0 (w'.heap[gb174]? = some (.cells #[(.slice none 0 0),(.slice none 0 0)] 27 (0,0))) ∧ Aside0 (w'.heap[gb182]? = some (.cells #[(.slice Ao23 t176.length co23),u183001] 27 (0,0))) ∧ Aside0 (Below w.heap.size w w'))
       case atStart => exact ⟨((t179.length : Int)),(y184),(.slice (some ⟨go18,0,none⟩) t179.length co27),(by first | rfl | (simp;done) | (simp [*];done)),H',⟨Nat.le_refl _⟩,⟨by (with_reducible repeat (first | apply Kd.V_alloc | apply Kd.V_drewN | apply Kd.V_drew));exact Kd.V_mono HO_174001.out (fun _ hk => ⟨hk.1.1,⟨hk.1.2.1,⟨hk.1.2.2.1,⟨hk.1.2.2.2.1,hk.1.2.2.2.2⟩⟩⟩⟩)⟩,⟨by (with_reducible repeat (first | apply Kd.R_alloc | apply Kd.R_drewN | apply Kd.R_drew));exact Kd.R_mono HO178.out (fun _ hk => hk.1)⟩,⟨Kd.N_V (by (with_reducible repeat (first | apply Kd.N_alloc | apply Kd.N_drewN | apply Kd.N_drew));exact HO181.out)⟩,⟨by (with_reducible repeat (first | refine blk_drewN ?_ _ | refine blk_drew ?_ | refine blk_alloc ?_ _));exact BK173.out⟩,⟨by (with_reducible repeat (first | refine blk_drewN ?_ _ | refine blk_drew ?_ | refine blk_alloc ?_ _));exact BK174.out⟩,⟨by (with_reducible repeat (first | refine blk_drewN ?_ _ | refine blk_drew ?_ | refine blk_alloc ?_ _));exact BK182.out⟩,⟨by repeat (first | (with_reducible first | exact HB.out | apply below_alloc | apply pw_below_drewN | apply below_drew1 | refine below_set ?_ GE173.out | refine below_set ?_ GE174.out | refine below_set ?_ GE182.out) | exact HB.out)⟩⟩
       case round =>
        clear H'
        try clear c1
        try clear p1
        try clear q1
        try clear hx1
        try clear c2
        try clear p2
        try clear c3
        try clear hx3
        try clear hf3
        try clear c7
        try clear c10
        try clear c11
        try clear c15
        try clear c16
        try clear c16b0
        try clear c17
        try clear c17b0
        try clear c18
        try clear p18
        try clear q18
        try clear hx18
        try clear hf18
        try clear c19
        try clear c21
        try clear c24
        try clear c25
        try clear c31
        try clear hx31
        try clear hf31
        try clear c32
        try clear c33
        try clear hcz12_0
        try clear hcz12_1
        try clear hcz20_0
        try clear hcz20_1
        try clear hcz26_0
        try clear hcz26_1
        try clear hcz28_0
        try clear hcz28_1
        try clear hcz30_0
        try clear hcz30_1
        try clear hcz33_0
        try clear hcz33_1
        try clear hcz8_0
        try clear hcz8_1
        try clear hfz12_0
        try clear hfz12_1
        try clear hfz20_0
        try clear hfz20_1
        try clear hfz26_0
        try clear hfz26_1
        try clear hfz28_0
        try clear hfz28_1
        try clear hfz30_0
        try clear hfz30_1
        try clear hfz33_0
        try clear hfz33_1
        try clear hfz8_0
        try clear hfz8_1
        try clear hx18_0
        try clear hx31_0
        try clear p18
        try clear p2
        try clear q18
        obtain ⟨x8_2,x183001_2,u183001,rfl,HA,HK2,HO_174001,HO_183000,HO_183001,BK173,BK174,BK182,HB⟩:=hrel
        cases gk with
        | zero => exact absurd HA.out (by simp [leaf_Drop.l0])
        | succ k2 =>
         have H:=HA.out
         clear HA
         simp only [leaf_Drop.l0] at H
         have HC34:=Aside0.mk H
         clear H
         go_upto_region 9 with (fail)
         go_cut [40] (fun v40 wc => ∃ (kq : Nat) (x40_33 : Bool),v40 = .bool x40_33 ∧ Aside0 (leaf_Drop.j2 kq x8_2 x40_33 t176 x183001_2 = some (r1,r2,r3)) ∧ Aside0 (kq ≤ k2) ∧ Aside0 (Kd.V (Kd.slice 5 (Kd.int .u8)) 22 wc w.heap.size (fun k_ => (P0_1_ k_ ∨ w.heap.size ≤ k_) ∧ some k_ ≠ ((.slice Ao23 t176.length co23) : Value).ownBlock ∧ k_ ≠ gb173 ∧ k_ ≠ gb174 ∧ k_ ≠ gb182) (.slice A0_1 l0_1.length c0_1) l0_1) ∧ Aside0 (Kd.R (Kd.int .i64) 3 wc w.heap.size (fun k_ => (w.heap.size ≤ k_)) (.slice Ao23 t176.length co23) t176) ∧ Aside0 (Kd.V (Kd.slice 5 (Kd.int .u8)) 22 wc w.heap.size (fun k_ => (P0_1_ k_ ∨ w.heap.size ≤ k_) ∧ some k_ ≠ ((.slice Ao23 t176.length co23) : Value).ownBlock ∧ k_ ≠ gb173 ∧ k_ ≠ gb174 ∧ k_ ≠ gb182) u183001 x183001_2) ∧ Aside0 (wc.heap[gb173]? = some (.cells #[(.slice A0_0 l0_0.length c0_0),(.slice A0_1 l0_1.length c0_1)] 27 (0,0))) ∧ Aside0 (wc.heap[gb174]? = some (.cells #[(.slice none 0 0),(.slice none 0 0)] 27 (0,0))) ∧ Aside0 (wc.heap[gb182]? = some (.cells #[(.slice Ao23 t176.length co23),u183001] 27 (0,0))) ∧ Aside0 (Below w.heap.size w wc))
         case first =>
          have H:=HC34.out
          clear HC34
          by_cases c35 : x8_2 > 0
          ·rw [if_pos c35] at H
           have c35b0 : decide (0 < x8_2) = true:=decide_eq_true c35
           clear c35
           (first | rw [c35b0] | (simp only [i64_w,i32_w];rw [c35b0]) | skip)
           obtain ⟨ji36,hji36⟩ : ∃ j_ : Int,(wrap64 (x8_2 - 1)) = j_:=⟨_,rfl⟩
           replace H : (if 0 ≤ (ji36) then (if (ji36) < (x183001_2.length : Int) then (leaf_Drop.j2 k2 x8_2 (((rd_L2 x183001_2 (ji36)).length : Int) == 0) t176 x183001_2) else (none)) else (none)) = some (r1,r2,r3):=by first | (rw [hji36] at H;exact H) | (simp only [hji36] at H ⊢;exact H)
           have hji36w : (IntKind.i64.wrap (x8_2 - 1)) = ji36:=(i64_w _).trans hji36
           by_cases c37 : 0 ≤ (ji36)
           ·rw [if_pos c37] at H
            have c37b0 : decide (0 ≤ (ji36)) = true:=decide_eq_true c37
            clear c37
            by_cases c38 : (ji36) < (x183001_2.length : Int)
            ·rw [if_pos c38] at H
             have c38b0 : decide ((ji36) < (x183001_2.length : Int)) = true:=decide_eq_true c38
             clear c38
             have H':=Aside0.mk H
             clear H
             have hnb39:=NB182_173.out
             have hnc39:=NB173_182.out
             have hnb40:=NB182_174.out
             have hnc40:=NB174_182.out
             have hcz41_0 : wr.cell? ⟨gb182,0,none⟩ = some (.slice Ao23 t176.length co23):=(blk_cell BK182.out 0).trans rfl
             have hcz41_1 : wr.cell? ⟨gb182,1,none⟩ = some (u183001):=(blk_cell BK182.out 1).trans rfl
             have hfz41_0:=blk_frozen BK182.out 0
             have hfz41_1:=blk_frozen BK182.out 1
             obtain ⟨Ao42,co42,eo42⟩:=Kd.V_slice HO_183001.out
             subst eo42
             have p185 : 0 ≤ ((ji36) : Int):=of_decide_eq_true (by first | (with_reducible assumption) | assumption)
             have q185 : (ji36) < (x183001_2.length : Int):=of_decide_eq_true (by first | (with_reducible assumption) | assumption)
             obtain ⟨ad185,A185_0,c185_0,e185,hx185_0,hl185_0,hi185_0⟩:=at_L2 (Kd.V_reads' HO_183001.out).2.2 (ji36) p185 q185
             cases e185
             obtain ⟨ce185,hce185,hMe185,hcc185⟩:=Kd.V_get HO_183001.out [] (ji36) p185 (by first | exact q185 | exact of_decide_eq_true (by first | (with_reducible assumption) | assumption) | (have e_:=(Kd.V_reads' HO_183001.out).1;omega))
             obtain ⟨ua185_0,uc185_0,rfl,ul185_0,ge185_0⟩:=Kd.FK_slice_open hMe185
             have hv185_0:=hcc185 0 _ rfl
             rw [Nat.add_zero,show ((Kd.slice 5 (Kd.int .u8))).sz = 1 from rfl,Nat.mul_one] at hv185_0
             replace hv185_0:=Option.some.inj (hv185_0.symm.trans hx185_0)
             injection hv185_0 with hva_ hvn_ hvc_
             rw [hva_] at ge185_0
             rw [hvc_] at ul185_0
             have HL185_0:=Aside0.mk (show Kd.V (Kd.int .u8) 5 _ w.heap.size _ _ (rd_L2 x183001_2 (ji36)) from Kd.V_mk ul185_0 ge185_0)
             clear hva_ hvn_ hvc_ ge185_0 ul185_0
             clear hcc185 hce185
             have HR185_0:=Aside0.mk hi185_0
             have HC185_0:=Aside0.mk hl185_0
             clear hi185_0 hl185_0
             replace p185:=eq_true p185
             replace q185:=eq_true q185
             go_wp2
             go_meet
             case rel => exact ⟨_,((((rd_L2 x183001_2 (ji36)).length : Int) == 0)),(by first | rfl | (simp;done) | (simp only [← hji36] <;> (first | rfl | simp)) | (simp [*];done)),H',⟨by have:=HJ3.out;have:=HK2.out;first | omega | exact Nat.le_refl _⟩,⟨by (with_reducible repeat (first | apply Kd.V_alloc | apply Kd.V_drewN | apply Kd.V_drew));exact HO_174001.out⟩,⟨by (with_reducible repeat (first | apply Kd.R_alloc | apply Kd.R_drewN | apply Kd.R_drew));exact HO_183000.out⟩,⟨by (with_reducible repeat (first | apply Kd.V_alloc | apply Kd.V_drewN | apply Kd.V_drew));exact HO_183001.out⟩,⟨by (with_reducible repeat (first | refine blk_drewN ?_ _ | refine blk_drew ?_ | refine blk_alloc ?_ _));exact BK173.out⟩,⟨by (with_reducible repeat (first | refine blk_drewN ?_ _ | refine blk_drew ?_ | refine blk_alloc ?_ _));exact BK174.out⟩,⟨by (with_reducible repeat (first | refine blk_drewN ?_ _ | refine blk_drew ?_ | refine blk_alloc ?_ _));exact BK182.out⟩,⟨by repeat (first | (with_reducible first | exact HB.out | apply below_alloc | apply pw_below_drewN | apply below_drew1 | refine below_set ?_ GE173.out | refine below_set ?_ GE174.out | refine below_set ?_ GE182.out) | exact HB.out)⟩⟩
            ·rw [if_neg c38] at H
             exact absurd H (by simp)
           ·rw [if_neg c37] at H
            exact absurd H (by simp)
          ·rw [if_neg c35] at H
           have c35b0 : decide (0 < x8_2) = false:=decide_eq_false c35
           clear c35
           (first | rw [c35b0] | (simp only [i64_w,i32_w];rw [c35b0]) | skip)
           have H':=Aside0.mk H
           clear H
           go_wp2
           go_meet
           case rel => exact ⟨_,(false),(by first | rfl | (simp;done) | (simp [*];done)),H',⟨by have:=HJ3.out;have:=HK2.out;first | omega | exact Nat.le_refl _⟩,⟨by (with_reducible repeat (first | apply Kd.V_alloc | apply Kd.V_drewN | apply Kd.V_drew));exact HO_174001.out⟩,⟨by (with_reducible repeat (first | apply Kd.R_alloc | apply Kd.R_drewN | apply Kd.R_drew));exact HO_183000.out⟩,⟨by (with_reducible repeat (first | apply Kd.V_alloc | apply Kd.V_drewN | apply Kd.V_drew));exact HO_183001.out⟩,⟨by (with_reducible repeat (first | refine blk_drewN ?_ _ | refine blk_drew ?_ | refine blk_alloc ?_ _));exact BK173.out⟩,⟨by (with_reducible repeat (first | refine blk_drewN ?_ _ | refine blk_drew ?_ | refine blk_alloc ?_ _));exact BK174.out⟩,⟨by (with_reducible repeat (first | refine blk_drewN ?_ _ | refine blk_drew ?_ | refine blk_alloc ?_ _));exact BK182.out⟩,⟨by repeat (first | (with_reducible first | exact HB.out | apply below_alloc | apply pw_below_drewN | apply below_drew1 | refine below_set ?_ GE173.out | refine below_set ?_ GE174.out | refine below_set ?_ GE182.out) | exact HB.out)⟩⟩
         case rest =>
          clear HC34
          try clear c1
          try clear p1
          try clear q1
          try clear hx1
          try clear c2
          try clear p2
          try clear c3
          try clear hx3
          try clear hf3
          try clear c4
          try clear p6
          try clear c7
          try clear c10
          try clear c11
          try clear c15
          try clear c16
          try clear c16b0
          try clear c17
          try clear c17b0
          try clear c18
          try clear p18
          try clear q18
          try clear hx18
          try clear hf18
          try clear c19
          try clear c21
          try clear c24
          try clear c25
          try clear c31
          try clear hx31
          try clear hf31
          try clear c32
          try clear c33
          try clear c35
          try clear c35b0
          try clear c37
          try clear c37b0
          try clear c38
          try clear c38b0
          try clear c39
          try clear c40
          try clear hcz12_0
          try clear hcz12_1
          try clear hcz20_0
          try clear hcz20_1
          try clear hcz26_0
          try clear hcz26_1
          try clear hcz28_0
          try clear hcz28_1
          try clear hcz30_0
          try clear hcz30_1
          try clear hcz33_0
          try clear hcz33_1
          try clear hcz41_0
          try clear hcz41_1
          try clear hcz8_0
          try clear hcz8_1
          try clear hfz12_0
          try clear hfz12_1
          try clear hfz20_0
          try clear hfz20_1
          try clear hfz26_0
          try clear hfz26_1
          try clear hfz28_0
          try clear hfz28_1
          try clear hfz30_0
          try clear hfz30_1
          try clear hfz33_0
          try clear hfz33_1
          try clear hfz41_0
          try clear hfz41_1
          try clear hfz8_0
          try clear hfz8_1
          try clear hx185_0
          try clear hx18_0
          try clear hx31_0
          try clear p1
          try clear p18
          try clear p185
          try clear p2
          try clear q1
          try clear q18
          try clear q185
          obtain ⟨kq,x40_33,rfl,HA,HJ33,HO_174001,HO_183000,HO_183001,BK173,BK174,BK182,HB⟩:=hcut
          cases kq with
          | zero => exact absurd HA.out (by simp [leaf_Drop.j2])
          | succ kj33 =>
           have H:=HA.out
           clear HA
           simp only [leaf_Drop.j2] at H
           by_cases c43 : x40_33 = true
           ·subst c43
            have H1 : (if 0 ≤ (wrap64 (x8_2 - 1)) then (if (wrap64 (x8_2 - 1)) ≤ (x183001_2.length : Int) then (leaf_Drop.l0 kj33 (wrap64 (x8_2 - 1)) t176 (x183001_2.take ((wrap64 (x8_2 - 1)) : Int).toNat)) else (none)) else (none)) = some (r1,r2,r3):=by rw [if_pos rfl] at H;exact H
            clear H
            have H:=H1
            clear H1
            obtain ⟨ji44,hji44⟩ : ∃ j_ : Int,(wrap64 (x8_2 - 1)) = j_:=⟨_,rfl⟩
            replace H : (if 0 ≤ (ji44) then (if (ji44) ≤ (x183001_2.length : Int) then (leaf_Drop.l0 kj33 ji44 t176 (x183001_2.take ((ji44) : Int).toNat)) else (none)) else (none)) = some (r1,r2,r3):=by first | (rw [hji44] at H;exact H) | (simp only [hji44] at H ⊢;exact H)
            have hji44w : (IntKind.i64.wrap (x8_2 - 1)) = ji44:=(i64_w _).trans hji44
            by_cases c45 : 0 ≤ (ji44)
            ·rw [if_pos c45] at H
             have c45b0:=eq_true c45
             have c45b1 : decide (0 ≤ (ji44)) = true:=decide_eq_true c45
             clear c45
             by_cases c46 : (ji44) ≤ (x183001_2.length : Int)
             ·rw [if_pos c46] at H
              have c46b0:=eq_true c46
              have c46b1 : decide ((ji44) ≤ (x183001_2.length : Int)) = true:=decide_eq_true c46
              clear c46
              obtain ⟨y186,hy186⟩ : ∃ y_ : List (List Int),y_ = (x183001_2.take ((ji44) : Int).toNat):=⟨_,rfl⟩
              replace H : (leaf_Drop.l0 kj33 ji44 t176 y186) = some (r1,r2,r3):=by first | (rw [hy186];with_reducible exact H) | (have H2_:=(Option.bind_some _ _).symm.trans H;rw [hy186];with_reducible exact H2_) | (have H2_:=(Option.bind_some _ _).symm.trans H;with_reducible exact H2_) | with_reducible exact H | (rw [hy186];exact H) | exact H
              have Ny186:=Aside0.mk hy186
              clear hy186
              have H':=Aside0.mk H
              clear H
              have hnb47:=NB182_173.out
              have hnc47:=NB173_182.out
              have hnb48:=NB182_174.out
              have hnc48:=NB174_182.out
              have hcz49_0 : wc.cell? ⟨gb182,0,none⟩ = some (.slice Ao23 t176.length co23):=(blk_cell BK182.out 0).trans rfl
              have hcz49_1 : wc.cell? ⟨gb182,1,none⟩ = some (u183001):=(blk_cell BK182.out 1).trans rfl
              have hfz49_0:=blk_frozen BK182.out 0
              have hfz49_1:=blk_frozen BK182.out 1
              obtain ⟨Ao51,co51,eo51⟩:=Kd.V_slice HO_183001.out
              subst eo51
              have q50 : ((ji44) : Int) ≤ ((x183001_2.length : Int) : Int):=of_decide_eq_true (by first | (with_reducible assumption) | assumption)
              obtain ⟨i050,hi050,_,hsz50,_⟩:=info_parts info22
              have hroom50 : x183001_2.length ≤ co51:=(Kd.V_reads' HO_183001.out).2.1
              have hC50 : Kd.F (Kd.slice 5 (Kd.int .u8)) _ _ Ao51 x183001_2.length x183001_2:=(Kd.V_at (base:=w.heap.size) HO_183001.out).2.2
              have hcut50:=cut_to3 (P:=Try.prog) 25 22 .i64 Try.underlying25 hi050 Ao51 x183001_2.length co51 (ji44) (of_decide_eq_true (by first | (with_reducible assumption) | assumption)) q50 hroom50
              have hr50:=Kd.F_take (m:=((ji44) : Int).toNat) hC50 (by omega)
              have hy50 : y186.length = ((ji44) : Int).toNat:=(by rw [Ny186.out,List.length_take];omega)
              rw [← Ny186.out] at hr50
              rw [← hy50] at hcut50
              have HO190:=Aside0.mk (show Kd.V (Kd.slice 5 (Kd.int .u8)) 22 _ w.heap.size _ (.slice Ao51 y186.length y186.length) y186 from Kd.V_mk (by omega) hr50)
              have HC190:=Aside0.mk (show y186.length ≤ y186.length from by omega)
              clear hr50 hC50 hroom50 hi050 hsz50
              have KY50:=Aside0.mk hy50
              clear hy50
              replace q50:=eq_true q50
              go_wp2
              go_roundg kj33
              case measure => have:=HJ3.out;have:=HK2.out;have:=HJ33.out;omega
              case rel => exact ⟨(ji44),(y186),(.slice Ao51 y186.length y186.length),(by first | rfl | (simp;done) | (simp only [← hji44] <;> (first | rfl | simp)) | (simp [*];done)),H',⟨by have:=HJ3.out;have:=HK2.out;have:=HJ33.out;omega⟩,⟨by (with_reducible repeat (first | apply Kd.V_alloc | apply Kd.V_drewN | apply Kd.V_drew));exact Kd.V_mono (Kd.V_far (p:=⟨gb182,1,none⟩) (Kd.V_mono HO_174001.out (fun k_ hk => (⟨hk,hk.2.2.2.2⟩ : _ ∧ k_ ≠ gb182))) (fun _ hk => hk.2) (.slice Ao51 y186.length y186.length)) (fun _ hk => ⟨hk.1.1,⟨hk.1.2.1,⟨hk.1.2.2.1,⟨hk.1.2.2.2.1,hk.1.2.2.2.2⟩⟩⟩⟩)⟩,⟨by (with_reducible repeat (first | apply Kd.R_alloc | apply Kd.R_drewN | apply Kd.R_drew));exact Kd.R_mono (Kd.R_far (p:=⟨gb182,1,none⟩) (Kd.R_types HO_183000.out BK182.out (by decide)) (fun _ hk => hk.2) (.slice Ao51 y186.length y186.length)) (fun _ hk => hk.1)⟩,⟨by (with_reducible repeat (first | apply Kd.V_alloc | apply Kd.V_drewN | apply Kd.V_drew));exact Kd.V_mono (Kd.V_far (p:=⟨gb182,1,none⟩) (Kd.V_mono HO190.out (fun k_ hk => (⟨hk,hk.2.2.2.2⟩ : _ ∧ k_ ≠ gb182))) (fun _ hk => hk.2) (.slice Ao51 y186.length y186.length)) (fun _ hk => ⟨hk.1.1,⟨hk.1.2.1,⟨hk.1.2.2.1,⟨hk.1.2.2.2.1,hk.1.2.2.2.2⟩⟩⟩⟩)⟩,⟨by (with_reducible repeat (first | refine blk_drewN ?_ _ | refine blk_drew ?_ | refine blk_alloc ?_ _));refine blk_far ?_ NB173_182.out _;(with_reducible repeat (first | refine blk_drewN ?_ _ | refine blk_drew ?_ | refine blk_alloc ?_ _));exact BK173.out⟩,⟨by (with_reducible repeat (first | refine blk_drewN ?_ _ | refine blk_drew ?_ | refine blk_alloc ?_ _));refine blk_far ?_ NB174_182.out _;(with_reducible repeat (first | refine blk_drewN ?_ _ | refine blk_drew ?_ | refine blk_alloc ?_ _));exact BK174.out⟩,⟨by (with_reducible repeat (first | refine blk_drewN ?_ _ | refine blk_drew ?_ | refine blk_alloc ?_ _));refine blk_put (cs:=#[.slice Ao23 t176.length co23,.slice Ao51 x183001_2.length co51]) ?_ 1 _ rfl;(with_reducible repeat (first | refine blk_drewN ?_ _ | refine blk_drew ?_ | refine blk_alloc ?_ _));exact BK182.out⟩,⟨by repeat (first | (with_reducible first | exact HB.out | apply below_alloc | apply pw_below_drewN | apply below_drew1 | refine below_set ?_ GE173.out | refine below_set ?_ GE174.out | refine below_set ?_ GE182.out) | exact HB.out)⟩⟩
             ·rw [if_neg c46] at H
              exact absurd H (by simp)
            ·rw [if_neg c45] at H
             exact absurd H (by simp)
           ·replace c43:=Bool.eq_false_iff.mpr c43
            subst c43
            have H1 : (some (t176,x183001_2,0)) = some (r1,r2,r3):=by rw [if_neg (show ¬ (false = true) by decide)] at H;exact H
            clear H
            have H:=H1
            clear H1
            simp only [Option.some.injEq,Prod.mk.injEq] at H
            obtain ⟨rfl,rfl,rfl⟩:=H
            have hnb52:=NB182_173.out
            have hnc52:=NB173_182.out
            have hnb53:=NB182_174.out
            have hnc53:=NB174_182.out
            have hcz54_0 : wc.cell? ⟨gb182,0,none⟩ = some (.slice Ao23 t176.length co23):=(blk_cell BK182.out 0).trans rfl
            have hcz54_1 : wc.cell? ⟨gb182,1,none⟩ = some (u183001):=(blk_cell BK182.out 1).trans rfl
            have hfz54_0:=blk_frozen BK182.out 0
            have hfz54_1:=blk_frozen BK182.out 1
            have hnb55:=NB174_173.out
            have hnc55:=NB173_174.out
            have hcz56_0 : wc.cell? ⟨gb174,0,none⟩ = some (.slice none 0 0):=(blk_cell BK174.out 0).trans rfl
            have hcz56_1 : wc.cell? ⟨gb174,1,none⟩ = some (.slice none 0 0):=(blk_cell BK174.out 1).trans rfl
            have hfz56_0:=blk_frozen BK174.out 0
            have hfz56_1:=blk_frozen BK174.out 1
            obtain ⟨Ao57,co57,eo57⟩:=Kd.V_slice HO_183001.out
            subst eo57
            go_wp2
            refine bodyPost_ret (results_ct rfl _ _ gb174 27 #[.slice Ao23 t176.length co23,.slice Ao57 x183001_2.length co57] (0,0) _ rfl (by (with_reducible repeat (first | refine blk_drewN ?_ _ | refine blk_drew ?_ | refine blk_alloc ?_ _));refine blk_put (cs:=#[.slice Ao23 t176.length co23,.slice none 0 0]) ?_ 1 _ rfl;(with_reducible repeat (first | refine blk_drewN ?_ _ | refine blk_drew ?_ | refine blk_alloc ?_ _));refine blk_put (cs:=#[.slice none 0 0,.slice none 0 0]) ?_ 0 _ rfl;(with_reducible repeat (first | refine blk_drewN ?_ _ | refine blk_drew ?_ | refine blk_alloc ?_ _));exact BK174.out) Try.underlying27 rfl (by kernel_rfl)) rfl ?_
            exact ⟨_,_,by first | rfl | (simp [errW_none,errW_some] <;> rfl) | (simp [*,errW_none,errW_some] <;> rfl),by (with_reducible repeat (first | apply Kd.R_alloc | apply Kd.R_drewN | apply Kd.R_drew));exact Kd.R_mono (Kd.R_far (p:=⟨gb174,1,none⟩) (Kd.R_far (p:=⟨gb174,0,none⟩) (Kd.R_types HO_183000.out BK174.out (by decide)) (fun _ hk => hk.2) (.slice Ao23 t176.length co23)) (fun _ hk => hk.2) (.slice Ao57 x183001_2.length co57)) (fun _ hk => hk.1),by (with_reducible repeat (first | apply Kd.V_alloc | apply Kd.V_drewN | apply Kd.V_drew));exact Kd.V_mono (Kd.V_far (p:=⟨gb174,1,none⟩) (Kd.V_far (p:=⟨gb174,0,none⟩) (Kd.V_mono HO_183001.out (fun k_ hk => (⟨hk,hk.2.2.2.1⟩ : _ ∧ k_ ≠ gb174))) (fun _ hk => hk.2) (.slice Ao23 t176.length co23)) (fun _ hk => hk.2) (.slice Ao57 x183001_2.length co57)) (fun _ hk => ⟨hk.1.1,hk.1.2.1⟩),by repeat (first | (with_reducible first | exact HB.out | apply below_alloc | apply pw_below_drewN | apply below_drew1 | refine below_set ?_ GE173.out | refine below_set ?_ GE174.out | refine below_set ?_ GE182.out) | exact HB.out)⟩
      ·rw [if_neg c17] at H
       exact absurd H (by simp)
     ·rw [if_neg c16] at H
      exact absurd H (by simp)
    ·replace c15:=Bool.eq_false_iff.mpr c15
     subst c15
     have H1 : (some (t176,t179,3)) = some (r1,r2,r3):=by rw [if_neg (show ¬ (false = true) by decide)] at H;exact H
     clear H
     have H:=H1
     clear H1
     simp only [Option.some.injEq,Prod.mk.injEq] at H
     obtain ⟨rfl,rfl,rfl⟩:=H
     have hnb58:=NB173_174.out
     have hnc58:=NB174_173.out
     have hcz59_0 : wc.cell? ⟨gb173,0,none⟩ = some (.slice A0_0 l0_0.length c0_0):=(blk_cell BK173.out 0).trans rfl
     have hcz59_1 : wc.cell? ⟨gb173,1,none⟩ = some (.slice A0_1 l0_1.length c0_1):=(blk_cell BK173.out 1).trans rfl
     have hfz59_0:=blk_frozen BK173.out 0
     have hfz59_1:=blk_frozen BK173.out 1
     go_wp2_with (first | ((with_reducible refine gate_callee (f:=33) rfl ?_);refine goesL_ (some 16) rfl rfl Try.func33 (by kernel_rfl) rfl #[.agg #[.slice A0_0 l0_0.length c0_0,.slice A0_1 l0_1.length c0_1]] rfl (by (try simp only [List.map_toArray,List.map_cons,List.map_nil]);first | done | rfl | (simp only [List.length_drop,List.length_take];rfl)) ?_;(with_reducible refine (leaf_own.calls kj3 _ _ l0_0 (fun k_ => ((P0_1_ k_ ∨ w.heap.size ≤ k_) ∧ (k_ ≠ gb173 ∧ k_ ≠ gb174))) _ _ l0_1 t176 t179 _ ?side1 ?side2 ?side3 A13.out).mono ?_);(case side1 => repeat (first | exact (Kd.C_below HR0_0.out HB.out) | (with_reducible refine Kd.C_alloc ?_ _) | (with_reducible refine Kd.C_drewN ?_ _) | (with_reducible refine Kd.C_drew ?_)));(case side2 => exact HC0_0.out);(case side3 => exact HO_174001.out);rintro e w60 ⟨v177,v180,rfl,ho0,ho1,hb⟩;refine ⟨_,rfl,?_⟩;have n0_:=Aside0.mk (Kd.V_mono (Kd.V_told (Kd.V_told (Kd.V_old (by (with_reducible repeat (first | apply Kd.V_alloc | apply Kd.V_drewN | apply Kd.V_drew));exact HO_174001.out) hb) (Kd.R_base ho0)) (Kd.N_base ho1)) (fun _ h_ => h_.1));have n1_:=Aside0.mk (Kd.R_lower (Kd.R_newM (M:=fun k_ => (w.heap.size ≤ k_)) (Kd.R_mono (ok':=fun k_ => True) ho0 (fun _ hk_ => trivial)) (below_size (by repeat (first | (with_reducible first | exact HB.out | apply below_alloc | apply pw_below_drewN | apply below_drew1 | refine below_set ?_ GE173.out | refine below_set ?_ GE174.out) | exact HB.out))) (fun k_ h_ => h_)) (below_size (by repeat (first | (with_reducible first | exact HB.out | apply below_alloc | apply pw_below_drewN | apply below_drew1 | refine below_set ?_ GE173.out | refine below_set ?_ GE174.out) | exact HB.out))));have n2_:=Aside0.mk (Kd.N_lower (Kd.N_mono (ok':=fun k_ => (P0_1_ k_ ∨ w.heap.size ≤ k_) ∧ some k_ ≠ (v177 : Value).ownBlock ∧ k_ ≠ gb173 ∧ k_ ≠ gb174) ho1 (fun k_ hk_ => ⟨Or.elim hk_.1 (fun hs_ => hs_.1) (fun hn_ => (.inr (Nat.le_trans (below_size (by repeat (first | (with_reducible first | exact HB.out | apply below_alloc | apply pw_below_drewN | apply below_drew1 | refine below_set ?_ GE173.out | refine below_set ?_ GE174.out) | exact HB.out))) hn_))),hk_.2,Or.elim hk_.1 (fun hs_ => hs_.2.1) (fun hn_ => (Kd.freshB (g:=gb173) (o:=.cells #[.slice A0_0 l0_0.length c0_0,.slice A0_1 l0_1.length c0_1] 27 (0,0)) (by (with_reducible repeat (first | refine blk_drewN ?_ _ | refine blk_drew ?_ | refine blk_alloc ?_ _));exact BK173.out) k_ hn_)),Or.elim hk_.1 (fun hs_ => hs_.2.2) (fun hn_ => (Kd.freshB (g:=gb174) (o:=.cells #[.slice none 0 0,.slice none 0 0] 27 (0,0)) (by (with_reducible repeat (first | refine blk_drewN ?_ _ | refine blk_drew ?_ | refine blk_alloc ?_ _));exact BK174.out) k_ hn_))⟩)) (below_size (by repeat (first | (with_reducible first | exact HB.out | apply below_alloc | apply pw_below_drewN | apply below_drew1 | refine below_set ?_ GE173.out | refine below_set ?_ GE174.out) | exact HB.out))));have n3_:=Aside0.mk (blk_below (g:=gb173) (o:=.cells #[.slice A0_0 l0_0.length c0_0,.slice A0_1 l0_1.length c0_1] 27 (0,0)) (by (with_reducible repeat (first | refine blk_drewN ?_ _ | refine blk_drew ?_ | refine blk_alloc ?_ _));exact BK173.out) hb);have n4_:=Aside0.mk (blk_below (g:=gb174) (o:=.cells #[.slice none 0 0,.slice none 0 0] 27 (0,0)) (by (with_reducible repeat (first | refine blk_drewN ?_ _ | refine blk_drew ?_ | refine blk_alloc ?_ _));exact BK174.out) hb);have n5_:=Aside0.mk (below_step (by repeat (first | (with_reducible first | exact HB.out | apply below_alloc | apply pw_below_drewN | apply below_drew1 | refine below_set ?_ GE173.out | refine below_set ?_ GE174.out) | exact HB.out)) hb);clear HO_174001;clear BK173;clear BK174;clear HB;have HO_174001:=n0_;have HO178:=n1_;have HO181:=n2_;have BK173:=n3_;have BK174:=n4_;have HB:=n5_;clear n0_ n1_ n2_ n3_ n4_ n5_;(try clear hb);(try clear hb2);(try clear hk);(try clear hi);(try clear ho0);(try clear ho1)) | ((with_reducible refine gate_dst (N:=7) rfl ?_);(try (refine gate_guard (by rfl) ?_;dsimp only));refine box_event ?hg (N:=7) ?hd (cs:=#[.slice none 0 0,.slice none 0 0]) (t:=27) ?hr ?_;(case hd => rfl);(case hg => rfl);(case hr => first | (go_simp;done) | (go_simp;rfl));intro gb182 hg w61 hbox hb;have n0_:=Aside0.mk (Kd.V_below (Kd.V_elderB (by (with_reducible repeat (first | apply Kd.V_alloc | apply Kd.V_drewN | apply Kd.V_drew));exact HO_174001.out) gb182 (Nat.le_of_eq hg.symm)) hb);have n1_:=Aside0.mk (Kd.R_below (by (with_reducible repeat (first | apply Kd.R_alloc | apply Kd.R_drewN | apply Kd.R_drew));exact HO178.out) hb);have n2_:=Aside0.mk (Kd.N_below (Kd.N_elderB (by (with_reducible repeat (first | apply Kd.N_alloc | apply Kd.N_drewN | apply Kd.N_drew));exact HO181.out) gb182 (Nat.le_of_eq hg.symm)) hb);have n3_:=Aside0.mk (blk_below (g:=gb173) (o:=.cells #[.slice A0_0 l0_0.length c0_0,.slice A0_1 l0_1.length c0_1] 27 (0,0)) (by (with_reducible repeat (first | refine blk_drewN ?_ _ | refine blk_drew ?_ | refine blk_alloc ?_ _));exact BK173.out) hb);have n4_:=Aside0.mk (blk_below (g:=gb174) (o:=.cells #[.slice none 0 0,.slice none 0 0] 27 (0,0)) (by (with_reducible repeat (first | refine blk_drewN ?_ _ | refine blk_drew ?_ | refine blk_alloc ?_ _));exact BK174.out) hb);have n5_:=Aside0.mk (below_step (by repeat (first | (with_reducible first | exact HB.out | apply below_alloc | apply pw_below_drewN | apply below_drew1 | refine below_set ?_ GE173.out | refine below_set ?_ GE174.out) | exact HB.out)) hb);have n6_:=Aside0.mk (hbox);have n7_:=Aside0.mk ((by rw [hg];exact (below_size (by repeat (first | (with_reducible first | exact HB.out | apply below_alloc | apply pw_below_drewN | apply below_drew1 | refine below_set ?_ GE173.out | refine below_set ?_ GE174.out) | exact HB.out))) : w.heap.size ≤ gb182));have n8_:=Aside0.mk ((by rw [hg];exact (below_size (by repeat (first | (with_reducible first | exact HB.out | apply below_alloc | apply pw_below_drewN | apply below_drew1 | refine below_set ?_ GE173.out | refine below_set ?_ GE174.out) | exact HB.out))) : w.heap.size ≤ gb182));have n9_:=Aside0.mk ((by rw [hg];exact Nat.ne_of_lt (blk_lt (g:=gb173) (o:=.cells #[.slice A0_0 l0_0.length c0_0,.slice A0_1 l0_1.length c0_1] 27 (0,0)) (by (with_reducible repeat (first | refine blk_drewN ?_ _ | refine blk_drew ?_ | refine blk_alloc ?_ _));exact BK173.out)) : gb173 ≠ gb182));have n10_:=Aside0.mk ((by rw [hg];exact Nat.ne_of_gt (blk_lt (g:=gb173) (o:=.cells #[.slice A0_0 l0_0.length c0_0,.slice A0_1 l0_1.length c0_1] 27 (0,0)) (by (with_reducible repeat (first | refine blk_drewN ?_ _ | refine blk_drew ?_ | refine blk_alloc ?_ _));exact BK173.out)) : gb182 ≠ gb173));have n11_:=Aside0.mk ((by rw [hg];exact Nat.ne_of_lt (blk_lt (g:=gb174) (o:=.cells #[.slice none 0 0,.slice none 0 0] 27 (0,0)) (by (with_reducible repeat (first | refine blk_drewN ?_ _ | refine blk_drew ?_ | refine blk_alloc ?_ _));exact BK174.out)) : gb174 ≠ gb182));have n12_:=Aside0.mk ((by rw [hg];exact Nat.ne_of_gt (blk_lt (g:=gb174) (o:=.cells #[.slice none 0 0,.slice none 0 0] 27 (0,0)) (by (with_reducible repeat (first | refine blk_drewN ?_ _ | refine blk_drew ?_ | refine blk_alloc ?_ _));exact BK174.out)) : gb182 ≠ gb174));clear HO_174001;clear HO178;clear HO181;clear BK173;clear BK174;clear HB;have HO_174001:=n0_;have HO178:=n1_;have HO181:=n2_;have BK173:=n3_;have BK174:=n4_;have HB:=n5_;have BK182:=n6_;have GW182:=n7_;have GE182:=n8_;have NB173_182:=n9_;have NB182_173:=n10_;have NB174_182:=n11_;have NB182_174:=n12_;clear n0_ n1_ n2_ n3_ n4_ n5_ n6_ n7_ n8_ n9_ n10_ n11_ n12_;clear hb hbox hg;obtain ⟨Ao62,co62,eo62⟩:=Kd.R_slice HO178.out;subst eo62;have hnb63:=NB182_173.out;have hnc63:=NB173_182.out;have hnb64:=NB182_174.out;have hnc64:=NB174_182.out;have hcz65_0 : w61.cell? ⟨gb182,0,none⟩ = some (.slice none 0 0):=(blk_cell BK182.out 0).trans rfl;have hcz65_1 : w61.cell? ⟨gb182,1,none⟩ = some (.slice none 0 0):=(blk_cell BK182.out 1).trans rfl;have hfz65_0:=blk_frozen BK182.out 0;have hfz65_1:=blk_frozen BK182.out 1;obtain ⟨Ao66,co66,eo66⟩:=Kd.N_slice HO181.out;subst eo66;have hcz67_0 : w61.cell? ⟨gb173,0,none⟩ = some (.slice A0_0 l0_0.length c0_0):=(blk_cell BK173.out 0).trans rfl;have hcz67_1 : w61.cell? ⟨gb173,1,none⟩ = some (.slice A0_1 l0_1.length c0_1):=(blk_cell BK173.out 1).trans rfl;have hfz67_0:=blk_frozen BK173.out 0;have hfz67_1:=blk_frozen BK173.out 1) | ((with_reducible refine gate_callee (f:=32) rfl ?_);refine goesL_ (some 19) rfl rfl Try.func32 (by kernel_rfl) rfl #[.agg #[.slice A0_0 l0_0.length c0_0,.slice A0_1 l0_1.length c0_1],.int .i64 a1] rfl (by (try simp only [List.map_toArray,List.map_cons,List.map_nil]);first | done | rfl | (simp only [List.length_drop,List.length_take];rfl)) ?_;(with_reducible refine (leaf_stands.calls _ _ l0_0 _ _ l0_1 a1 false _ ?side1 ?side2 ?side3 ?side4 A14.out).mono ?_);(case side1 => exact Kd.C_below HR0_0.out (by repeat (first | (with_reducible first | exact HB.out | apply below_alloc | apply pw_below_drewN | apply below_drew1 | refine below_set ?_ GE173.out | refine below_set ?_ GE174.out | refine below_set ?_ GE182.out) | exact HB.out)));(case side2 => exact HC0_0.out);(case side3 => refine (Kd.V_reads' (e:=22) (base:=w.heap.size) (ok:=fun k_ => ((((((P0_1_ k_ ∨ w.heap.size ≤ k_)) ∧ (k_ ≠ gb173 ∧ k_ ≠ gb174)) ∧ some k_ ≠ (.slice Ao62 t176.length co62 : Value).ownBlock) ∧ some k_ ≠ (.slice Ao66 t179.length co66 : Value).ownBlock) ∧ k_ ≠ gb182)) (n:=l0_1.length) (c:=c0_1) ?_).2.2;exact (by (with_reducible repeat (first | apply Kd.V_alloc | apply Kd.V_drewN | apply Kd.V_drew));exact (Kd.V_mono (Kd.V_far (p:=⟨gb182,1,none⟩) (Kd.V_far (p:=⟨gb182,0,none⟩) (Kd.V_mono HO_174001.out (fun k_ hk => (⟨hk,hk.2⟩ : _ ∧ k_ ≠ gb182))) (fun _ hk => hk.2) (.slice Ao62 t176.length co62)) (fun _ hk => hk.2) (.slice Ao66 t179.length co66)) (fun _ h_ => h_.1))));(case side4 => exact (Kd.V_reads' HO_174001.out).2.1);rintro e w68 ⟨rfl,hb⟩;refine ⟨_,rfl,?_⟩;have n0_:=Aside0.mk (Kd.V_below (by (with_reducible repeat (first | apply Kd.V_alloc | apply Kd.V_drewN | apply Kd.V_drew));exact (Kd.V_mono (Kd.V_far (p:=⟨gb182,1,none⟩) (Kd.V_far (p:=⟨gb182,0,none⟩) (Kd.V_mono HO_174001.out (fun k_ hk => (⟨hk,hk.2⟩ : _ ∧ k_ ≠ gb182))) (fun _ hk => hk.2) (.slice Ao62 t176.length co62)) (fun _ hk => hk.2) (.slice Ao66 t179.length co66)) (fun _ h_ => h_.1))) hb);have n1_:=Aside0.mk (Kd.R_below (by (with_reducible repeat (first | apply Kd.R_alloc | apply Kd.R_drewN | apply Kd.R_drew));exact (Kd.R_mono (Kd.R_far (p:=⟨gb182,1,none⟩) (Kd.R_far (p:=⟨gb182,0,none⟩) (Kd.R_types HO178.out BK182.out (by decide)) (fun _ hk => hk.2) (.slice Ao62 t176.length co62)) (fun _ hk => hk.2) (.slice Ao66 t179.length co66)) (fun _ h_ => h_.1))) hb);have n2_:=Aside0.mk (Kd.N_below (by (with_reducible repeat (first | apply Kd.N_alloc | apply Kd.N_drewN | apply Kd.N_drew));exact (Kd.N_mono (Kd.N_far (p:=⟨gb182,1,none⟩) (Kd.N_far (p:=⟨gb182,0,none⟩) (Kd.N_mono HO181.out (fun k_ hk => (⟨hk,hk.2⟩ : _ ∧ k_ ≠ gb182))) (fun _ hk => hk.2) (.slice Ao62 t176.length co62)) (fun _ hk => hk.2) (.slice Ao66 t179.length co66)) (fun _ h_ => h_.1))) hb);have n3_:=Aside0.mk (blk_below (g:=gb173) (o:=.cells #[.slice A0_0 l0_0.length c0_0,.slice A0_1 l0_1.length c0_1] 27 (0,0)) (by (with_reducible repeat (first | refine blk_drewN ?_ _ | refine blk_drew ?_ | refine blk_alloc ?_ _));refine blk_far ?_ NB173_182.out _;(with_reducible repeat (first | refine blk_drewN ?_ _ | refine blk_drew ?_ | refine blk_alloc ?_ _));refine blk_far ?_ NB173_182.out _;(with_reducible repeat (first | refine blk_drewN ?_ _ | refine blk_drew ?_ | refine blk_alloc ?_ _));exact BK173.out) hb);have n4_:=Aside0.mk (blk_below (g:=gb174) (o:=.cells #[.slice none 0 0,.slice none 0 0] 27 (0,0)) (by (with_reducible repeat (first | refine blk_drewN ?_ _ | refine blk_drew ?_ | refine blk_alloc ?_ _));refine blk_far ?_ NB174_182.out _;(with_reducible repeat (first | refine blk_drewN ?_ _ | refine blk_drew ?_ | refine blk_alloc ?_ _));refine blk_far ?_ NB174_182.out _;(with_reducible repeat (first | refine blk_drewN ?_ _ | refine blk_drew ?_ | refine blk_alloc ?_ _));exact BK174.out) hb);have n5_:=Aside0.mk (blk_below (g:=gb182) (o:=.cells #[.slice Ao62 t176.length co62,.slice Ao66 t179.length co66] 27 (0,0)) (by (with_reducible repeat (first | refine blk_drewN ?_ _ | refine blk_drew ?_ | refine blk_alloc ?_ _));refine blk_put (cs:=#[.slice Ao62 t176.length co62,.slice none 0 0]) ?_ 1 _ rfl;(with_reducible repeat (first | refine blk_drewN ?_ _ | refine blk_drew ?_ | refine blk_alloc ?_ _));refine blk_put (cs:=#[.slice none 0 0,.slice none 0 0]) ?_ 0 _ rfl;(with_reducible repeat (first | refine blk_drewN ?_ _ | refine blk_drew ?_ | refine blk_alloc ?_ _));exact BK182.out) hb);have n6_:=Aside0.mk (below_step (by repeat (first | (with_reducible first | exact HB.out | apply below_alloc | apply pw_below_drewN | apply below_drew1 | refine below_set ?_ GE173.out | refine below_set ?_ GE174.out | refine below_set ?_ GE182.out) | exact HB.out)) hb);clear HO_174001;clear HO178;clear HO181;clear BK173;clear BK174;clear BK182;clear HB;have HO_174001:=n0_;have HO178:=n1_;have HO181:=n2_;have BK173:=n3_;have BK174:=n4_;have BK182:=n5_;have HB:=n6_;clear n0_ n1_ n2_ n3_ n4_ n5_ n6_;(try clear hb);(try clear hb2);(try clear hk);(try clear hi);have hcz69_0 : w68.cell? ⟨gb182,0,none⟩ = some (.slice Ao62 t176.length co62):=(blk_cell BK182.out 0).trans rfl;have hcz69_1 : w68.cell? ⟨gb182,1,none⟩ = some (.slice Ao66 t179.length co66):=(blk_cell BK182.out 1).trans rfl;have hfz69_0:=blk_frozen BK182.out 0;have hfz69_1:=blk_frozen BK182.out 1;have hcz70_0 : w68.cell? ⟨gb174,0,none⟩ = some (.slice none 0 0):=(blk_cell BK174.out 0).trans rfl;have hcz70_1 : w68.cell? ⟨gb174,1,none⟩ = some (.slice none 0 0):=(blk_cell BK174.out 1).trans rfl;have hfz70_0:=blk_frozen BK174.out 0;have hfz70_1:=blk_frozen BK174.out 1))
     refine bodyPost_ret (results_ct rfl _ _ gb174 27 #[.slice Ao62 t176.length co62,.slice Ao66 t179.length co66] (0,0) _ rfl (by (with_reducible repeat (first | refine blk_drewN ?_ _ | refine blk_drew ?_ | refine blk_alloc ?_ _));refine blk_put (cs:=#[.slice Ao62 t176.length co62,.slice none 0 0]) ?_ 1 _ rfl;(with_reducible repeat (first | refine blk_drewN ?_ _ | refine blk_drew ?_ | refine blk_alloc ?_ _));refine blk_put (cs:=#[.slice none 0 0,.slice none 0 0]) ?_ 0 _ rfl;(with_reducible repeat (first | refine blk_drewN ?_ _ | refine blk_drew ?_ | refine blk_alloc ?_ _));exact BK174.out) Try.underlying27 rfl (by kernel_rfl)) rfl ?_
     exact ⟨_,_,by first | rfl | (simp [errW_none,errW_some] <;> rfl) | (simp [*,errW_none,errW_some] <;> rfl),by (with_reducible repeat (first | apply Kd.R_alloc | apply Kd.R_drewN | apply Kd.R_drew));exact Kd.R_mono (Kd.R_far (p:=⟨gb174,1,none⟩) (Kd.R_far (p:=⟨gb174,0,none⟩) (Kd.R_types HO178.out BK174.out (by decide)) (fun _ hk => hk.2) (.slice Ao62 t176.length co62)) (fun _ hk => hk.2) (.slice Ao66 t179.length co66)) (fun _ hk => hk.1.1),Kd.N_V (by (with_reducible repeat (first | apply Kd.N_alloc | apply Kd.N_drewN | apply Kd.N_drew));exact Kd.N_mono (Kd.N_far (p:=⟨gb174,1,none⟩) (Kd.N_far (p:=⟨gb174,0,none⟩) (Kd.N_mono HO181.out (fun k_ hk => (⟨hk,hk.1.2.2.2⟩ : _ ∧ k_ ≠ gb174))) (fun _ hk => hk.2) (.slice Ao62 t176.length co62)) (fun _ hk => hk.2) (.slice Ao66 t179.length co66)) (fun _ hk => ⟨hk.1.1.1,hk.1.1.2.1⟩)),by repeat (first | (with_reducible first | exact HB.out | apply below_alloc | apply pw_below_drewN | apply below_drew1 | refine below_set ?_ GE173.out | refine below_set ?_ GE174.out | refine below_set ?_ GE182.out) | exact HB.out)⟩
end Go.Proofs.Ytjigckhopkclgaa.P
namespace Go.Proofs.Ytjigckhopkclgaa.P
open Go.RowKit Go.Proofs.YtjigckhopkclgaaW.PrintWords Go.Proofs.YtjigckhopkclgaaW.PrintLast Go.Proofs.YtjigckhopkclgaaW.PrintMore
attribute [local go_sem] max2_int min2_int max_two min_two max_three min_three max_four min_four   -- for this text's walks alone
attribute [local go_sem] run_store_float
set_option linter.unusedVariables false
set_option linter.unusedSimpArgs false
def leaf_fits.f (l0 : List Int) : Option (Bool):=if (l0.length : Int) ≥ 1 then (some (decide ((l0.length : Int) ≤ 255))) else (some false)
set_option maxHeartbeats 8000000 in
set_option maxRecDepth 100000 in
theorem leaf_fits.calls (A0 : Option Addr) (c0 : Nat) (l0 : List Int) (r : Bool) (w : World) (hr0 : Kd.C (Kd.int .u8) w A0 l0.length l0) (hc0 : l0.length ≤ c0) (h : leaf_fits.f l0 = some r) :
  Calls Try.prog 34 #[.slice A0 l0.length c0] w fun e w' => e = .returned (.bool r) ∧ Drawn0 w w':=by
 have HR0:=Aside0.mk hr0
 have HC0:=Aside0.mk hc0
 clear hr0 hc0
 have H : (if (l0.length : Int) ≥ 1 then (some (decide ((l0.length : Int) ≤ 255))) else (some false)) = some r:=h
 clear h
 by_cases c2 : (l0.length : Int) ≥ 1
 ·rw [if_pos c2] at H
  have c2b0 : decide (1 ≤ (l0.length : Int)) = true:=decide_eq_true c2
  have c2b1 : decide (1 ≤ l0.length) = true:=decide_eq_true (by omega)
  clear c2
  obtain rfl:=Option.some.inj H
  go_enter Try.func34,Try.ntmps34
  go_wp2
  go_ret
  exact ⟨by first | rfl | (simp;done) | (simp [*];done),by repeat (first | exact Drawn0.refl _ | apply Drawn0.step)⟩
 ·rw [if_neg c2] at H
  have c2b0 : decide (1 ≤ (l0.length : Int)) = false:=decide_eq_false c2
  have c2b1 : decide (1 ≤ l0.length) = false:=decide_eq_false (by omega)
  clear c2
  obtain rfl:=Option.some.inj H
  go_enter Try.func34,Try.ntmps34
  go_wp2
  go_ret
  exact ⟨by first | rfl | (simp;done) | (simp [*];done),by repeat (first | exact Drawn0.refl _ | apply Drawn0.step)⟩
end Go.Proofs.Ytjigckhopkclgaa.P
namespace Go.Proofs.Ytjigckhopkclgaa.P
open Go.RowKit Go.Proofs.YtjigckhopkclgaaW.PrintWords Go.Proofs.YtjigckhopkclgaaW.PrintLast Go.Proofs.YtjigckhopkclgaaW.PrintMore
attribute [local go_sem] max2_int min2_int max_two min_two max_three min_three max_four min_four   -- for this text's walks alone
attribute [local go_sem] run_store_float
set_option linter.unusedVariables false
set_option linter.unusedSimpArgs false
def leaf_put.f (k : Nat) (l0_0 : List Int) (l0_1 : List (List Int)) (a1 : Int) (l2 : List Int) : Option (List Int × (List (List Int)) × Int):=(leaf_own.f k l0_0 l0_1).bind fun bt193 => ((slices_Clone_byte_byte_59.f l2).bind fun t200 => (if 0 ≤ a1 then (if a1 < (bt193.2.length : Int) then ((some (bt193.2.set (a1 : Int).toNat t200 : List (List Int))).bind fun y203 => ((leaf_need.f k bt193.1 y203).bind fun t204 => (if t204 > 508 then ((leaf_own.f k l0_0 l0_1).bind fun bt205 => (some (bt205.1,bt205.2,7))) else (some (bt193.1,y203,0))))) else (none)) else (none)))
theorem leaf_put.mono : ∀ a0 a1 a2 a3 k,LeO (leaf_put.f k a0 a1 a2 a3) (leaf_put.f (k + 1) a0 a1 a2 a3):=by
 intro a0 a1 a2 a3 k
 unfold leaf_put.f
 repeat' first
   | (with_reducible exact leaf_need.mono _ _ _)
   | (with_reducible exact leaf_own.mono _ _ _)
   | (with_reducible exact LeO.refl _)
   | (with_reducible exact LeO.none _)
   | (with_reducible refine LeO.ite ?_ ?_)
   | (with_reducible refine LeO.bind ?_ (fun _ => ?_))
   | exact leaf_need.mono _ _ _
   | exact leaf_own.mono _ _ _
   | exact LeO.none _
   | refine LeO.ite ?_ ?_
   | refine LeO.bind ?_ (fun _ => ?_)
set_option maxHeartbeats 8000000 in
set_option maxRecDepth 100000 in
theorem leaf_put.calls (k : Nat) (A0_0 : Option Addr) (c0_0 : Nat) (l0_0 : List Int) (P0_1_ : Nat → Prop) (A0_1 : Option Addr) (c0_1 : Nat) (l0_1 : List (List Int)) (a1 : Int) (A2 : Option Addr) (c2 : Nat) (l2 : List Int) (r1 : List Int) (r2 : List (List Int)) (r3 : Int) (w : World) (hr0_0 : Kd.C (Kd.int .i64) w A0_0 l0_0.length l0_0) (hc0_0 : l0_0.length ≤ c0_0) (hs0_1 : Kd.V (Kd.slice 5 (Kd.int .u8)) 22 w w.heap.size (fun k_ => P0_1_ k_) (.slice A0_1 l0_1.length c0_1) l0_1) (hr2 : Kd.C (Kd.int .u8) w A2 l2.length l2) (hc2 : l2.length ≤ c2) (h : leaf_put.f k l0_0 l0_1 a1 l2 = some (r1,r2,r3)) :
  Calls Try.prog 35 #[.agg #[.slice A0_0 l0_0.length c0_0,.slice A0_1 l0_1.length c0_1],.int .i64 a1,.slice A2 l2.length c2] w fun e w' => ∃ v0_ v1_ : Value,e = .returned (.tuple #[.agg #[v0_,v1_],.int .i64 r3]) ∧ Kd.R (Kd.int .i64) 3 w' w.heap.size (fun k_ => (w.heap.size ≤ k_)) v0_ r1 ∧ Kd.N (Kd.slice 5 (Kd.int .u8)) 22 w' w.heap.size (fun k_ => (P0_1_ k_ ∨ w.heap.size ≤ k_) ∧ some k_ ≠ (v0_ : Value).ownBlock) v1_ r2 ∧ Below w.heap.size w w':=by
 have hu27:=Try.underlying27
 have HR0_0:=Aside0.mk hr0_0
 have HC0_0:=Aside0.mk hc0_0
 clear hr0_0 hc0_0
 have HO0_1:=Aside0.mk (show Kd.V (Kd.slice 5 (Kd.int .u8)) 22 w w.heap.size (fun k_ => (P0_1_ k_ ∨ w.heap.size ≤ k_)) (.slice A0_1 l0_1.length c0_1) l0_1 from Kd.V_mono hs0_1 (fun k_ hk => .inl hk))
 have HR2:=Aside0.mk hr2
 have HC2:=Aside0.mk hc2
 clear hr2 hc2
 have HB:=Aside0.mk (Below.refl w.heap.size w)
 have H : ((leaf_own.f k l0_0 l0_1).bind fun bt193 => ((slices_Clone_byte_byte_59.f l2).bind fun t200 => (if 0 ≤ a1 then (if a1 < (bt193.2.length : Int) then ((some (bt193.2.set (a1 : Int).toNat t200 : List (List Int))).bind fun y203 => ((leaf_need.f k bt193.1 y203).bind fun t204 => (if t204 > 508 then ((leaf_own.f k l0_0 l0_1).bind fun bt205 => (some (bt205.1,bt205.2,7))) else (some (bt193.1,y203,0))))) else (none)) else (none)))) = some (r1,r2,r3):=h
 clear h
 replace H:=Option.bind_eq_some_iff.mp H
 obtain ⟨⟨t193,t196⟩,A40,H⟩:=H
 replace H : ((slices_Clone_byte_byte_59.f l2).bind fun t200 => (if 0 ≤ a1 then (if a1 < (t196.length : Int) then ((some (t196.set (a1 : Int).toNat t200 : List (List Int))).bind fun y203 => ((leaf_need.f k t193 y203).bind fun t204 => (if t204 > 508 then ((leaf_own.f k l0_0 l0_1).bind fun bt205 => (some (bt205.1,bt205.2,7))) else (some (t193,y203,0))))) else (none)) else (none))) = some (r1,r2,r3):=H
 have A4:=Aside0.mk A40
 clear A40
 replace H:=Option.bind_eq_some_iff.mp H
 obtain ⟨t200,A50,H⟩:=H
 replace H : (if 0 ≤ a1 then (if a1 < (t196.length : Int) then ((some (t196.set (a1 : Int).toNat t200 : List (List Int))).bind fun y203 => ((leaf_need.f k t193 y203).bind fun t204 => (if t204 > 508 then ((leaf_own.f k l0_0 l0_1).bind fun bt205 => (some (bt205.1,bt205.2,7))) else (some (t193,y203,0))))) else (none)) else (none)) = some (r1,r2,r3):=H
 have A5:=Aside0.mk A50
 clear A50
 by_cases c6 : 0 ≤ a1
 ·rw [if_pos c6] at H
  have c6b0 : decide (0 ≤ a1) = true:=decide_eq_true c6
  clear c6
  by_cases c7 : a1 < (t196.length : Int)
  ·rw [if_pos c7] at H
   have c7b0 : decide (a1 < (t196.length : Int)) = true:=decide_eq_true c7
   clear c7
   obtain ⟨y203,hy203⟩ : ∃ y_ : List (List Int),y_ = (t196.set (a1 : Int).toNat t200):=⟨_,rfl⟩
   replace H : ((leaf_need.f k t193 y203).bind fun t204 => (if t204 > 508 then ((leaf_own.f k l0_0 l0_1).bind fun bt205 => (some (bt205.1,bt205.2,7))) else (some (t193,y203,0)))) = some (r1,r2,r3):=by first | (rw [hy203];with_reducible exact H) | (have H2_:=(Option.bind_some _ _).symm.trans H;rw [hy203];with_reducible exact H2_) | (have H2_:=(Option.bind_some _ _).symm.trans H;with_reducible exact H2_) | with_reducible exact H | (rw [hy203];exact H) | exact H
   have Ny203:=Aside0.mk hy203
   clear hy203
   replace H:=Option.bind_eq_some_iff.mp H
   obtain ⟨t204,A90,H⟩:=H
   replace H : (if t204 > 508 then ((leaf_own.f k l0_0 l0_1).bind fun bt205 => (some (bt205.1,bt205.2,7))) else (some (t193,y203,0))) = some (r1,r2,r3):=H
   have A9:=Aside0.mk A90
   clear A90
   by_cases c10 : t204 > 508
   ·rw [if_pos c10] at H
    have c10b0 : decide (508 < t204) = true:=decide_eq_true c10
    clear c10
    replace H:=Option.bind_eq_some_iff.mp H
    obtain ⟨⟨t205,t208⟩,A110,H⟩:=H
    replace H : (some (t205,t208,7)) = some (r1,r2,r3):=H
    have A11:=Aside0.mk A110
    clear A110
    simp only [Option.some.injEq,Prod.mk.injEq] at H
    obtain ⟨rfl,rfl,rfl⟩:=H
    go_enter Try.func35,Try.ntmps35
    try go_wp2_with (first | ((with_reducible refine gate_dst (N:=3) rfl ?_);refine box_event ?hg (N:=3) ?hd (cs:=#[.slice A0_0 l0_0.length c0_0,.slice A0_1 l0_1.length c0_1]) (t:=27) ?hr ?_;(case hd => rfl);(case hg => rfl);(case hr => first | (go_simp;done) | (go_simp;rfl));intro gb191 hg w12 hbox hb;have n0_:=Aside0.mk (Kd.V_below (Kd.V_elderB (by (with_reducible repeat (first | apply Kd.V_alloc | apply Kd.V_drewN | apply Kd.V_drew));exact HO0_1.out) gb191 (Nat.le_of_eq hg.symm)) hb);have n1_:=Aside0.mk (below_step (by repeat (first | (with_reducible first | exact HB.out | apply below_alloc | apply pw_below_drewN | apply below_drew1) | exact HB.out)) hb);have n2_:=Aside0.mk (hbox);have n3_:=Aside0.mk ((by rw [hg];exact (below_size (by repeat (first | (with_reducible first | exact HB.out | apply below_alloc | apply pw_below_drewN | apply below_drew1) | exact HB.out))) : w.heap.size ≤ gb191));have n4_:=Aside0.mk ((by rw [hg];exact (below_size (by repeat (first | (with_reducible first | exact HB.out | apply below_alloc | apply pw_below_drewN | apply below_drew1) | exact HB.out))) : w.heap.size ≤ gb191));clear HO0_1;clear HB;have HO0_1:=n0_;have HB:=n1_;have BK191:=n2_;have GW191:=n3_;have GE191:=n4_;clear n0_ n1_ n2_ n3_ n4_;clear hb hbox hg) | ((with_reducible refine gate_dst (N:=6) rfl ?_);refine box_event ?hg (N:=6) ?hd (cs:=#[.slice none 0 0,.slice none 0 0]) (t:=27) ?hr ?_;(case hd => rfl);(case hg => rfl);(case hr => first | (go_simp;done) | (go_simp;rfl));intro gb192 hg w13 hbox hb;have n0_:=Aside0.mk (Kd.V_below (Kd.V_elderB (by (with_reducible repeat (first | apply Kd.V_alloc | apply Kd.V_drewN | apply Kd.V_drew));exact HO0_1.out) gb192 (Nat.le_of_eq hg.symm)) hb);have n1_:=Aside0.mk (blk_below (g:=gb191) (o:=.cells #[.slice A0_0 l0_0.length c0_0,.slice A0_1 l0_1.length c0_1] 27 (0,0)) (by (with_reducible repeat (first | refine blk_drewN ?_ _ | refine blk_drew ?_ | refine blk_alloc ?_ _));exact BK191.out) hb);have n2_:=Aside0.mk (below_step (by repeat (first | (with_reducible first | exact HB.out | apply below_alloc | apply pw_below_drewN | apply below_drew1 | refine below_set ?_ GE191.out) | exact HB.out)) hb);have n3_:=Aside0.mk (hbox);have n4_:=Aside0.mk ((by rw [hg];exact (below_size (by repeat (first | (with_reducible first | exact HB.out | apply below_alloc | apply pw_below_drewN | apply below_drew1 | refine below_set ?_ GE191.out) | exact HB.out))) : w.heap.size ≤ gb192));have n5_:=Aside0.mk ((by rw [hg];exact (below_size (by repeat (first | (with_reducible first | exact HB.out | apply below_alloc | apply pw_below_drewN | apply below_drew1 | refine below_set ?_ GE191.out) | exact HB.out))) : w.heap.size ≤ gb192));have n6_:=Aside0.mk ((by rw [hg];exact Nat.ne_of_lt (blk_lt (g:=gb191) (o:=.cells #[.slice A0_0 l0_0.length c0_0,.slice A0_1 l0_1.length c0_1] 27 (0,0)) (by (with_reducible repeat (first | refine blk_drewN ?_ _ | refine blk_drew ?_ | refine blk_alloc ?_ _));exact BK191.out)) : gb191 ≠ gb192));have n7_:=Aside0.mk ((by rw [hg];exact Nat.ne_of_gt (blk_lt (g:=gb191) (o:=.cells #[.slice A0_0 l0_0.length c0_0,.slice A0_1 l0_1.length c0_1] 27 (0,0)) (by (with_reducible repeat (first | refine blk_drewN ?_ _ | refine blk_drew ?_ | refine blk_alloc ?_ _));exact BK191.out)) : gb192 ≠ gb191));clear HO0_1;clear BK191;clear HB;have HO0_1:=n0_;have BK191:=n1_;have HB:=n2_;have BK192:=n3_;have GW192:=n4_;have GE192:=n5_;have NB191_192:=n6_;have NB192_191:=n7_;clear n0_ n1_ n2_ n3_ n4_ n5_ n6_ n7_;clear hb hbox hg;have hnb14:=NB191_192.out;have hnc14:=NB192_191.out;have hcz15_0 : w13.cell? ⟨gb191,0,none⟩ = some (.slice A0_0 l0_0.length c0_0):=(blk_cell BK191.out 0).trans rfl;have hcz15_1 : w13.cell? ⟨gb191,1,none⟩ = some (.slice A0_1 l0_1.length c0_1):=(blk_cell BK191.out 1).trans rfl;have hfz15_0:=blk_frozen BK191.out 0;have hfz15_1:=blk_frozen BK191.out 1) | ((with_reducible refine gate_callee (f:=33) rfl ?_);refine goesL_ (some 10) rfl rfl Try.func33 (by kernel_rfl) rfl #[.agg #[.slice A0_0 l0_0.length c0_0,.slice A0_1 l0_1.length c0_1]] rfl (by (try simp only [List.map_toArray,List.map_cons,List.map_nil]);first | done | rfl | (simp only [List.length_drop,List.length_take];rfl)) ?_;(with_reducible refine (leaf_own.calls k _ _ l0_0 (fun k_ => (((P0_1_ k_ ∨ w.heap.size ≤ k_) ∧ k_ ≠ gb191) ∧ k_ ≠ gb192)) _ _ l0_1 t193 t196 _ ?side1 ?side2 ?side3 A4.out).mono ?_);(case side1 => repeat (first | exact (Kd.C_below HR0_0.out HB.out) | (with_reducible refine Kd.C_alloc ?_ _) | (with_reducible refine Kd.C_drewN ?_ _) | (with_reducible refine Kd.C_drew ?_)));(case side2 => exact HC0_0.out);(case side3 => exact HO0_1.out);rintro e w16 ⟨v194,v197,rfl,ho0,ho1,hb⟩;refine ⟨_,rfl,?_⟩;have n0_:=Aside0.mk (Kd.V_mono (Kd.V_told (Kd.V_told (Kd.V_old (by (with_reducible repeat (first | apply Kd.V_alloc | apply Kd.V_drewN | apply Kd.V_drew));exact HO0_1.out) hb) (Kd.R_base ho0)) (Kd.N_base ho1)) (fun _ h_ => h_.1));have n1_:=Aside0.mk (Kd.R_lower (Kd.R_newM (M:=fun k_ => (w.heap.size ≤ k_)) (Kd.R_mono (ok':=fun k_ => True) ho0 (fun _ hk_ => trivial)) (below_size (by repeat (first | (with_reducible first | exact HB.out | apply below_alloc | apply pw_below_drewN | apply below_drew1 | refine below_set ?_ GE191.out | refine below_set ?_ GE192.out) | exact HB.out))) (fun k_ h_ => h_)) (below_size (by repeat (first | (with_reducible first | exact HB.out | apply below_alloc | apply pw_below_drewN | apply below_drew1 | refine below_set ?_ GE191.out | refine below_set ?_ GE192.out) | exact HB.out))));have n2_:=Aside0.mk (Kd.N_lower (Kd.N_mono (ok':=fun k_ => (P0_1_ k_ ∨ w.heap.size ≤ k_) ∧ some k_ ≠ (v194 : Value).ownBlock ∧ k_ ≠ gb191 ∧ k_ ≠ gb192) ho1 (fun k_ hk_ => ⟨Or.elim hk_.1 (fun hs_ => hs_.1.1) (fun hn_ => (.inr (Nat.le_trans (below_size (by repeat (first | (with_reducible first | exact HB.out | apply below_alloc | apply pw_below_drewN | apply below_drew1 | refine below_set ?_ GE191.out | refine below_set ?_ GE192.out) | exact HB.out))) hn_))),hk_.2,Or.elim hk_.1 (fun hs_ => hs_.1.2) (fun hn_ => (Kd.freshB (g:=gb191) (o:=.cells #[.slice A0_0 l0_0.length c0_0,.slice A0_1 l0_1.length c0_1] 27 (0,0)) (by (with_reducible repeat (first | refine blk_drewN ?_ _ | refine blk_drew ?_ | refine blk_alloc ?_ _));exact BK191.out) k_ hn_)),Or.elim hk_.1 (fun hs_ => hs_.2) (fun hn_ => (Kd.freshB (g:=gb192) (o:=.cells #[.slice none 0 0,.slice none 0 0] 27 (0,0)) (by (with_reducible repeat (first | refine blk_drewN ?_ _ | refine blk_drew ?_ | refine blk_alloc ?_ _));exact BK192.out) k_ hn_))⟩)) (below_size (by repeat (first | (with_reducible first | exact HB.out | apply below_alloc | apply pw_below_drewN | apply below_drew1 | refine below_set ?_ GE191.out | refine below_set ?_ GE192.out) | exact HB.out))));have n3_:=Aside0.mk (blk_below (g:=gb191) (o:=.cells #[.slice A0_0 l0_0.length c0_0,.slice A0_1 l0_1.length c0_1] 27 (0,0)) (by (with_reducible repeat (first | refine blk_drewN ?_ _ | refine blk_drew ?_ | refine blk_alloc ?_ _));exact BK191.out) hb);have n4_:=Aside0.mk (blk_below (g:=gb192) (o:=.cells #[.slice none 0 0,.slice none 0 0] 27 (0,0)) (by (with_reducible repeat (first | refine blk_drewN ?_ _ | refine blk_drew ?_ | refine blk_alloc ?_ _));exact BK192.out) hb);have n5_:=Aside0.mk (below_step (by repeat (first | (with_reducible first | exact HB.out | apply below_alloc | apply pw_below_drewN | apply below_drew1 | refine below_set ?_ GE191.out | refine below_set ?_ GE192.out) | exact HB.out)) hb);clear HO0_1;clear BK191;clear BK192;clear HB;have HO0_1:=n0_;have HO195:=n1_;have HO198:=n2_;have BK191:=n3_;have BK192:=n4_;have HB:=n5_;clear n0_ n1_ n2_ n3_ n4_ n5_;(try clear hb);(try clear hb2);(try clear hk);(try clear hi);(try clear ho0);(try clear ho1)) | ((with_reducible refine gate_dst (N:=8) rfl ?_);refine box_event ?hg (N:=8) ?hd (cs:=#[.slice none 0 0,.slice none 0 0]) (t:=27) ?hr ?_;(case hd => rfl);(case hg => rfl);(case hr => first | (go_simp;done) | (go_simp;rfl));intro gb199 hg w17 hbox hb;have n0_:=Aside0.mk (Kd.V_below (Kd.V_elderB (by (with_reducible repeat (first | apply Kd.V_alloc | apply Kd.V_drewN | apply Kd.V_drew));exact HO0_1.out) gb199 (Nat.le_of_eq hg.symm)) hb);have n1_:=Aside0.mk (Kd.R_below (by (with_reducible repeat (first | apply Kd.R_alloc | apply Kd.R_drewN | apply Kd.R_drew));exact HO195.out) hb);have n2_:=Aside0.mk (Kd.N_below (Kd.N_elderB (by (with_reducible repeat (first | apply Kd.N_alloc | apply Kd.N_drewN | apply Kd.N_drew));exact HO198.out) gb199 (Nat.le_of_eq hg.symm)) hb);have n3_:=Aside0.mk (blk_below (g:=gb191) (o:=.cells #[.slice A0_0 l0_0.length c0_0,.slice A0_1 l0_1.length c0_1] 27 (0,0)) (by (with_reducible repeat (first | refine blk_drewN ?_ _ | refine blk_drew ?_ | refine blk_alloc ?_ _));exact BK191.out) hb);have n4_:=Aside0.mk (blk_below (g:=gb192) (o:=.cells #[.slice none 0 0,.slice none 0 0] 27 (0,0)) (by (with_reducible repeat (first | refine blk_drewN ?_ _ | refine blk_drew ?_ | refine blk_alloc ?_ _));exact BK192.out) hb);have n5_:=Aside0.mk (below_step (by repeat (first | (with_reducible first | exact HB.out | apply below_alloc | apply pw_below_drewN | apply below_drew1 | refine below_set ?_ GE191.out | refine below_set ?_ GE192.out) | exact HB.out)) hb);have n6_:=Aside0.mk (hbox);have n7_:=Aside0.mk ((by rw [hg];exact (below_size (by repeat (first | (with_reducible first | exact HB.out | apply below_alloc | apply pw_below_drewN | apply below_drew1 | refine below_set ?_ GE191.out | refine below_set ?_ GE192.out) | exact HB.out))) : w.heap.size ≤ gb199));have n8_:=Aside0.mk ((by rw [hg];exact (below_size (by repeat (first | (with_reducible first | exact HB.out | apply below_alloc | apply pw_below_drewN | apply below_drew1 | refine below_set ?_ GE191.out | refine below_set ?_ GE192.out) | exact HB.out))) : w.heap.size ≤ gb199));have n9_:=Aside0.mk ((by rw [hg];exact Nat.ne_of_lt (blk_lt (g:=gb191) (o:=.cells #[.slice A0_0 l0_0.length c0_0,.slice A0_1 l0_1.length c0_1] 27 (0,0)) (by (with_reducible repeat (first | refine blk_drewN ?_ _ | refine blk_drew ?_ | refine blk_alloc ?_ _));exact BK191.out)) : gb191 ≠ gb199));have n10_:=Aside0.mk ((by rw [hg];exact Nat.ne_of_gt (blk_lt (g:=gb191) (o:=.cells #[.slice A0_0 l0_0.length c0_0,.slice A0_1 l0_1.length c0_1] 27 (0,0)) (by (with_reducible repeat (first | refine blk_drewN ?_ _ | refine blk_drew ?_ | refine blk_alloc ?_ _));exact BK191.out)) : gb199 ≠ gb191));have n11_:=Aside0.mk ((by rw [hg];exact Nat.ne_of_lt (blk_lt (g:=gb192) (o:=.cells #[.slice none 0 0,.slice none 0 0] 27 (0,0)) (by (with_reducible repeat (first | refine blk_drewN ?_ _ | refine blk_drew ?_ | refine blk_alloc ?_ _));exact BK192.out)) : gb192 ≠ gb199));have n12_:=Aside0.mk ((by rw [hg];exact Nat.ne_of_gt (blk_lt (g:=gb192) (o:=.cells #[.slice none 0 0,.slice none 0 0] 27 (0,0)) (by (with_reducible repeat (first | refine blk_drewN ?_ _ | refine blk_drew ?_ | refine blk_alloc ?_ _));exact BK192.out)) : gb199 ≠ gb192));clear HO0_1;clear HO195;clear HO198;clear BK191;clear BK192;clear HB;have HO0_1:=n0_;have HO195:=n1_;have HO198:=n2_;have BK191:=n3_;have BK192:=n4_;have HB:=n5_;have BK199:=n6_;have GW199:=n7_;have GE199:=n8_;have NB191_199:=n9_;have NB199_191:=n10_;have NB192_199:=n11_;have NB199_192:=n12_;clear n0_ n1_ n2_ n3_ n4_ n5_ n6_ n7_ n8_ n9_ n10_ n11_ n12_;clear hb hbox hg;obtain ⟨Ao18,co18,eo18⟩:=Kd.R_slice HO195.out;subst eo18;have hnb19:=NB199_191.out;have hnc19:=NB191_199.out;have hnb20:=NB199_192.out;have hnc20:=NB192_199.out;have hcz21_0 : w17.cell? ⟨gb199,0,none⟩ = some (.slice none 0 0):=(blk_cell BK199.out 0).trans rfl;have hcz21_1 : w17.cell? ⟨gb199,1,none⟩ = some (.slice none 0 0):=(blk_cell BK199.out 1).trans rfl;have hfz21_0:=blk_frozen BK199.out 0;have hfz21_1:=blk_frozen BK199.out 1;obtain ⟨Ao22,co22,eo22⟩:=Kd.N_slice HO198.out;subst eo22))
    have n0_ : Aside0 (Kd.V (Kd.slice 5 (Kd.int .u8)) 22 ((w17.setCell ⟨gb199,0,none⟩ (.slice Ao18 t193.length co18)).setCell ⟨gb199,1,none⟩ (.slice Ao22 t196.length co22)) w.heap.size (fun k_ => (P0_1_ k_ ∨ w.heap.size ≤ k_) ∧ some k_ ≠ (.slice Ao18 t193.length co18 : Value).ownBlock ∧ some k_ ≠ (.slice Ao22 t196.length co22 : Value).ownBlock ∧ k_ ≠ gb191 ∧ k_ ≠ gb192 ∧ k_ ≠ gb199) (.slice A0_1 l0_1.length c0_1) l0_1):=⟨by (with_reducible repeat (first | apply Kd.V_alloc | apply Kd.V_drewN | apply Kd.V_drew));exact Kd.V_mono (Kd.V_far (p:=⟨gb199,1,none⟩) (Kd.V_far (p:=⟨gb199,0,none⟩) (Kd.V_mono HO0_1.out (fun k_ hk => (⟨hk,hk.2⟩ : _ ∧ k_ ≠ gb199))) (fun _ hk => hk.2) (.slice Ao18 t193.length co18)) (fun _ hk => hk.2) (.slice Ao22 t196.length co22)) (fun _ hk => ⟨hk.1.1.1.1.1.1,⟨hk.1.1.1.2,⟨hk.1.1.2,⟨hk.1.1.1.1.1.2,⟨hk.1.1.1.1.2,hk.1.2⟩⟩⟩⟩⟩)⟩
    have n1_ : Aside0 (Kd.R (Kd.int .i64) 3 ((w17.setCell ⟨gb199,0,none⟩ (.slice Ao18 t193.length co18)).setCell ⟨gb199,1,none⟩ (.slice Ao22 t196.length co22)) w.heap.size (fun k_ => (w.heap.size ≤ k_)) (.slice Ao18 t193.length co18) t193):=⟨by (with_reducible repeat (first | apply Kd.R_alloc | apply Kd.R_drewN | apply Kd.R_drew));exact Kd.R_mono (Kd.R_far (p:=⟨gb199,1,none⟩) (Kd.R_far (p:=⟨gb199,0,none⟩) (Kd.R_types HO195.out BK199.out (by decide)) (fun _ hk => hk.2) (.slice Ao18 t193.length co18)) (fun _ hk => hk.2) (.slice Ao22 t196.length co22)) (fun _ hk => hk.1.1)⟩
    have n2_ : Aside0 (Kd.N (Kd.slice 5 (Kd.int .u8)) 22 ((w17.setCell ⟨gb199,0,none⟩ (.slice Ao18 t193.length co18)).setCell ⟨gb199,1,none⟩ (.slice Ao22 t196.length co22)) w.heap.size (fun k_ => (P0_1_ k_ ∨ w.heap.size ≤ k_) ∧ some k_ ≠ (.slice Ao18 t193.length co18 : Value).ownBlock ∧ k_ ≠ gb191 ∧ k_ ≠ gb192 ∧ k_ ≠ gb199) (.slice Ao22 t196.length co22) t196):=⟨by (with_reducible repeat (first | apply Kd.N_alloc | apply Kd.N_drewN | apply Kd.N_drew));exact Kd.N_mono (Kd.N_far (p:=⟨gb199,1,none⟩) (Kd.N_far (p:=⟨gb199,0,none⟩) (Kd.N_mono HO198.out (fun k_ hk => (⟨hk,hk.2⟩ : _ ∧ k_ ≠ gb199))) (fun _ hk => hk.2) (.slice Ao18 t193.length co18)) (fun _ hk => hk.2) (.slice Ao22 t196.length co22)) (fun _ hk => ⟨hk.1.1.1,⟨hk.1.1.2.1,⟨hk.1.1.2.2.1,⟨hk.1.1.2.2.2,hk.1.2⟩⟩⟩⟩)⟩
    have n3_ : Aside0 (((w17.setCell ⟨gb199,0,none⟩ (.slice Ao18 t193.length co18)).setCell ⟨gb199,1,none⟩ (.slice Ao22 t196.length co22)).heap[gb191]? = some (.cells #[.slice A0_0 l0_0.length c0_0,.slice A0_1 l0_1.length c0_1] 27 (0,0))):=⟨by (with_reducible repeat (first | refine blk_drewN ?_ _ | refine blk_drew ?_ | refine blk_alloc ?_ _));refine blk_far ?_ NB191_199.out _;(with_reducible repeat (first | refine blk_drewN ?_ _ | refine blk_drew ?_ | refine blk_alloc ?_ _));refine blk_far ?_ NB191_199.out _;(with_reducible repeat (first | refine blk_drewN ?_ _ | refine blk_drew ?_ | refine blk_alloc ?_ _));exact BK191.out⟩
    have n4_ : Aside0 (((w17.setCell ⟨gb199,0,none⟩ (.slice Ao18 t193.length co18)).setCell ⟨gb199,1,none⟩ (.slice Ao22 t196.length co22)).heap[gb192]? = some (.cells #[.slice none 0 0,.slice none 0 0] 27 (0,0))):=⟨by (with_reducible repeat (first | refine blk_drewN ?_ _ | refine blk_drew ?_ | refine blk_alloc ?_ _));refine blk_far ?_ NB192_199.out _;(with_reducible repeat (first | refine blk_drewN ?_ _ | refine blk_drew ?_ | refine blk_alloc ?_ _));refine blk_far ?_ NB192_199.out _;(with_reducible repeat (first | refine blk_drewN ?_ _ | refine blk_drew ?_ | refine blk_alloc ?_ _));exact BK192.out⟩
    have n5_ : Aside0 (((w17.setCell ⟨gb199,0,none⟩ (.slice Ao18 t193.length co18)).setCell ⟨gb199,1,none⟩ (.slice Ao22 t196.length co22)).heap[gb199]? = some (.cells #[.slice Ao18 t193.length co18,.slice Ao22 t196.length co22] 27 (0,0))):=⟨by (with_reducible repeat (first | refine blk_drewN ?_ _ | refine blk_drew ?_ | refine blk_alloc ?_ _));refine blk_put (cs:=#[.slice Ao18 t193.length co18,.slice none 0 0]) ?_ 1 _ rfl;(with_reducible repeat (first | refine blk_drewN ?_ _ | refine blk_drew ?_ | refine blk_alloc ?_ _));refine blk_put (cs:=#[.slice none 0 0,.slice none 0 0]) ?_ 0 _ rfl;(with_reducible repeat (first | refine blk_drewN ?_ _ | refine blk_drew ?_ | refine blk_alloc ?_ _));exact BK199.out⟩
    have n6_ : Aside0 (Below w.heap.size w ((w17.setCell ⟨gb199,0,none⟩ (.slice Ao18 t193.length co18)).setCell ⟨gb199,1,none⟩ (.slice Ao22 t196.length co22))):=⟨by repeat (first | (with_reducible first | exact HB.out | apply below_alloc | apply pw_below_drewN | apply below_drew1 | refine below_set ?_ GE191.out | refine below_set ?_ GE192.out | refine below_set ?_ GE199.out) | exact HB.out)⟩
    (try clear HO0_1)
    (try clear HO195)
    (try clear HO198)
    (try clear BK191)
    (try clear BK192)
    (try clear BK199)
    (try clear HB)
    generalize ((w17.setCell ⟨gb199,0,none⟩ (.slice Ao18 t193.length co18)).setCell ⟨gb199,1,none⟩ (.slice Ao22 t196.length co22)) = w23 at n0_ n1_ n2_ n3_ n4_ n5_ n6_ ⊢
    have HO0_1:=n0_
    have HO195:=n1_
    have HO198:=n2_
    have BK191:=n3_
    have BK192:=n4_
    have BK199:=n5_
    have HB:=n6_
    clear n0_ n1_ n2_ n3_ n4_ n5_ n6_
    have n0_:=Aside0.mk (Kd.V_drew HO0_1.out)
    have n1_:=Aside0.mk (Kd.R_drew HO195.out)
    have n2_:=Aside0.mk (Kd.N_drew HO198.out)
    have n3_:=Aside0.mk (blk_drew BK191.out)
    have n4_:=Aside0.mk (blk_drew BK192.out)
    have n5_:=Aside0.mk (blk_drew BK199.out)
    have n6_:=Aside0.mk (below_drew1 HB.out)
    clear HO0_1
    clear HO195
    clear HO198
    clear BK191
    clear BK192
    clear BK199
    clear HB
    have HO0_1:=n0_
    have HO195:=n1_
    have HO198:=n2_
    have BK191:=n3_
    have BK192:=n4_
    have BK199:=n5_
    have HB:=n6_
    clear n0_ n1_ n2_ n3_ n4_ n5_ n6_
    refine start_ (n:=7) (S:=fun w' => w'.cell? ⟨gb199,0,none⟩ = some (.slice Ao18 t193.length co18) ∧ w'.cell? ⟨gb199,1,none⟩ = some (.slice Ao22 t196.length co22)) (ds:=[6]) #[ff,ff,ff,ff,ff,ff,ff] (by kernel_rfl) rfl rfl ⟨(blk_cell BK199.out 0).trans rfl,(blk_cell BK199.out 1).trans rfl⟩ (fun hHeld => ?_)
    generalize w23.drew = w24 at HO0_1 HO195 HO198 BK191 BK192 BK199 HB hHeld ⊢
    refine pure_ (i:=0) (N:=some 11) (v:=?_) (a':=?_) #[tt,ff,ff,ff,ff,ff,ff] rfl rfl (by kernel_rfl) (fun _ _ _ h => h) (Or.inl ⟨by rfl,?_⟩) ?_ ?_
    rotate_left
    ·intro w'
     go_simp
     with_reducible rfl
    rotate_left
    ·simp only [Act.put,q1_,q2_,q3_,i64_w,i32_w]
     rfl
    refine pure_ (i:=2) (N:=some 13) (v:=?_) (a':=?_) #[tt,ff,tt,ff,ff,ff,ff] rfl rfl (by kernel_rfl) (fun _ _ _ h => h) (Or.inl ⟨by rfl,?_⟩) ?_ ?_
    rotate_left
    ·intro w'
     go_simp
     with_reducible rfl
    rotate_left
    ·simp only [Act.put,q1_,q2_,q3_,i64_w,i32_w]
     rfl
    refine pure_ (i:=3) (N:=some 14) (v:=?_) (a':=?_) #[tt,ff,tt,tt,ff,ff,ff] rfl rfl (by kernel_rfl) (fun _ _ _ h => h) (Or.inl ⟨by rfl,?_⟩) ?_ ?_
    rotate_left
    ·intro w'
     go_simp
     with_reducible rfl
    rotate_left
    ·simp only [Act.put,q1_,q2_,q3_,i64_w,i32_w]
     rfl
    refine take_ (i:=1) (N:=some 12) (v:=?_) (a':=?_) #[tt,tt,tt,tt,ff,ff,ff] rfl rfl (by kernel_rfl) (fun _ _ _ h => h) (Or.inl ⟨by rfl,?_⟩) hHeld ?_ ?_
    rotate_left
    ·rintro w' ⟨s0,s1⟩
     go_simp
     with_reducible rfl
    rotate_left
    ·simp only [Act.put,q1_,q2_,q3_,i64_w,i32_w]
     rfl
    refine one_ (i:=4) (N:=some 15) #[tt,tt,tt,tt,tt,ff,ff] rfl rfl (by kernel_rfl) (by decide) (fun K hK => ?_)
    refine goes_ Try.func59 (by kernel_rfl) rfl #[.slice A2 l2.length c2] (by rfl) rfl rfl (by (try simp only [List.map_toArray,List.map_cons,List.map_nil]);first | done | rfl | (simp only [List.length_drop,List.length_take];rfl)) ?_
    with_reducible refine (slices_Clone_byte_byte_59.calls _ _ l2 t200 _ ?side1 ?side2 A5.out).mono ?_
    (case side1 => repeat (first | exact (Kd.C_below HR2.out HB.out) | (with_reducible refine Kd.C_alloc ?_ _) | (with_reducible refine Kd.C_drewN ?_ _) | (with_reducible refine Kd.C_drew ?_)))
    (case side2 => exact HC2.out)
    rintro e w25 ⟨v201,rfl,ho0,hb⟩
    refine ⟨_,rfl,?_⟩
    have n0_:=Aside0.mk (Kd.V_elder' (by (with_reducible repeat (first | apply Kd.V_alloc | apply Kd.V_drewN | apply Kd.V_drew));exact HO0_1.out) (Kd.R_base ho0) hb)
    have n1_:=Aside0.mk (Kd.R_below (by (with_reducible repeat (first | apply Kd.R_alloc | apply Kd.R_drewN | apply Kd.R_drew));exact HO195.out) hb)
    have n2_:=Aside0.mk (Kd.N_elder' (by (with_reducible repeat (first | apply Kd.N_alloc | apply Kd.N_drewN | apply Kd.N_drew));exact HO198.out) (Kd.R_base ho0) hb)
    have n3_:=Aside0.mk (Kd.R_lower (Kd.R_newM (M:=fun k_ => (w.heap.size ≤ k_)) ho0 (below_size (by repeat (first | (with_reducible first | exact HB.out | apply below_alloc | apply pw_below_drewN | apply below_drew1 | refine below_set ?_ GE191.out | refine below_set ?_ GE192.out | refine below_set ?_ GE199.out) | exact HB.out))) (fun k_ h_ => h_)) (below_size (by repeat (first | (with_reducible first | exact HB.out | apply below_alloc | apply pw_below_drewN | apply below_drew1 | refine below_set ?_ GE191.out | refine below_set ?_ GE192.out | refine below_set ?_ GE199.out) | exact HB.out))))
    have n4_:=Aside0.mk (blk_below (g:=gb191) (o:=.cells #[.slice A0_0 l0_0.length c0_0,.slice A0_1 l0_1.length c0_1] 27 (0,0)) (by (with_reducible repeat (first | refine blk_drewN ?_ _ | refine blk_drew ?_ | refine blk_alloc ?_ _));exact BK191.out) hb)
    have n5_:=Aside0.mk (blk_below (g:=gb192) (o:=.cells #[.slice none 0 0,.slice none 0 0] 27 (0,0)) (by (with_reducible repeat (first | refine blk_drewN ?_ _ | refine blk_drew ?_ | refine blk_alloc ?_ _));exact BK192.out) hb)
    have n6_:=Aside0.mk (blk_below (g:=gb199) (o:=.cells #[.slice Ao18 t193.length co18,.slice Ao22 t196.length co22] 27 (0,0)) (by (with_reducible repeat (first | refine blk_drewN ?_ _ | refine blk_drew ?_ | refine blk_alloc ?_ _));exact BK199.out) hb)
    have n7_:=Aside0.mk (below_step (by repeat (first | (with_reducible first | exact HB.out | apply below_alloc | apply pw_below_drewN | apply below_drew1 | refine below_set ?_ GE191.out | refine below_set ?_ GE192.out | refine below_set ?_ GE199.out) | exact HB.out)) hb)
    clear HO0_1
    clear HO195
    clear HO198
    clear BK191
    clear BK192
    clear BK199
    clear HB
    have HO0_1:=n0_
    have HO195:=n1_
    have HO198:=n2_
    have HO202:=n3_
    have BK191:=n4_
    have BK192:=n5_
    have BK199:=n6_
    have HB:=n7_
    clear n0_ n1_ n2_ n3_ n4_ n5_ n6_ n7_
    (try clear hb)
    (try clear hb2)
    (try clear hk)
    (try clear hi)
    (try clear ho0)
    have p8 : 0 ≤ (a1 : Int):=of_decide_eq_true (by first | (with_reducible assumption) | assumption)
    have q8 : (a1 : Int) < ((t196.length : Int) : Int):=of_decide_eq_true (by first | (with_reducible assumption) | assumption)
    obtain ⟨go8,co8,eo8,gb8,gl8,cl8,HG8⟩:=Kd.N_form HO198.out (by omega)
    (first | cases eo8 | (injection eo8 with ea_ en_ ec_;(first | subst ea_ | (injection ea_ with ea_;subst ea_));subst ec_;clear en_))
    have GB8:=Aside0.mk gb8
    have GG8:=Aside0.mk HG8
    clear gb8 gl8 HG8
    obtain ⟨ce8,hcl8,hM8,hcc8,hfr8⟩:=Kd.N_elem HO198.out [] (a1 : Int) p8 q8
    obtain ⟨ua8_0,uc8_0,rfl,ul8_0,ge8_0⟩:=Kd.FK_slice_open hM8
    have hx8_0:=hcc8 0 _ rfl
    have hf8_0:=hfr8 0
    (try simp only [show ((Kd.slice 5 (Kd.int .u8))).sz = 1 from rfl,Nat.mul_one,Nat.add_zero] at hx8_0)
    (try simp only [show ((Kd.slice 5 (Kd.int .u8))).sz = 1 from rfl,Nat.mul_one,Nat.add_zero] at hf8_0)
    clear hcl8 hcc8 hfr8 hM8
    replace p8:=eq_true p8
    replace q8:=eq_true q8
    obtain ⟨Ao26,co26,eo26⟩:=Kd.R_slice HO202.out
    (first | subst eo26 | (injection eo26 with f1_ f2_ f3_;have f4_:=f1_.symm;have f5_:=f3_.symm;clear f1_ f2_ f3_;subst f4_;subst f5_))
    have HX27:=Aside0.mk (show Kd.N (Kd.slice 5 (Kd.int .u8)) 22 _ w.heap.size (fun k_ => (P0_1_ k_ ∨ w.heap.size ≤ k_) ∧ some k_ ≠ (.slice Ao18 t193.length co18 : Value).ownBlock ∧ some k_ ≠ (.slice Ao26 t200.length co26 : Value).ownBlock ∧ k_ ≠ gb191 ∧ k_ ≠ gb192 ∧ k_ ≠ gb199) (.slice (some ⟨go8,0,none⟩) t196.length co22) t196 from (Kd.N_mono (HO198.out) (fun k_ hk => ⟨hk.1.1,⟨hk.1.2.1,⟨hk.2,⟨hk.1.2.2.1,⟨hk.1.2.2.2.1,hk.1.2.2.2.2⟩⟩⟩⟩⟩)))
    replace HX27:=Aside0.mk (show Kd.N (Kd.slice 5 (Kd.int .u8)) 22 _ w.heap.size (fun k_ => (P0_1_ k_ ∨ w.heap.size ≤ k_) ∧ some k_ ≠ (.slice Ao18 t193.length co18 : Value).ownBlock ∧ k_ ≠ gb191 ∧ k_ ≠ gb192 ∧ k_ ≠ gb199) (.slice (some ⟨go8,0,none⟩) t196.length co22) t196 from Kd.N_mono HX27.out (fun k_ hk => ⟨hk.1,⟨hk.2.1,⟨hk.2.2.2.1,⟨hk.2.2.2.2.1,hk.2.2.2.2.2⟩⟩⟩⟩))
    obtain ⟨ce27,hcl27,hM27,hcc27,hfr27⟩:=Kd.N_elem HX27.out [] (a1 : Int) (of_decide_eq_true (by first | (with_reducible assumption) | assumption)) (by have h_ : (a1 : Int) < ((t196.length : Int) : Int):=of_decide_eq_true (by first | (with_reducible assumption) | assumption);first | exact h_ | (have e_:=(Kd.N_reads' HO198.out).1;omega) | simpa using h_)
    obtain ⟨ua27_0,uc27_0,rfl,ul27_0,ge27_0⟩:=Kd.FK_slice_open hM27
    have HP27:=(Kd.N_seg HX27.out (a1 : Int) (of_decide_eq_true (by first | (with_reducible assumption) | assumption)) (by have h_ : (a1 : Int) < ((t196.length : Int) : Int):=of_decide_eq_true (by first | (with_reducible assumption) | assumption);first | exact h_ | (have e_:=(Kd.N_reads' HO198.out).1;omega) | simpa using h_) (seg:=[.slice Ao26 t200.length co26]) (j:=0) hcl27 hcc27 (show 1 ≤ 1 from by decide) (x':=t200) (Kd.FK_slice_mk (Kd.R_reads' (Kd.R_mono (ok':=(fun k_ => ((fun k_ => (P0_1_ k_ ∨ w.heap.size ≤ k_) ∧ some k_ ≠ (.slice Ao18 t193.length co18 : Value).ownBlock ∧ k_ ≠ gb191 ∧ k_ ≠ gb192 ∧ k_ ≠ gb199)) k_ ∧ k_ ≠ go8)) (Kd.R_types (Kd.R_types (Kd.R_types (Kd.R_apart' (Kd.R_apart' (HO202.out) (Kd.R_typed HO195.out) (by decide)) (Kd.N_typed HO198.out) (by decide)) BK191.out (by decide)) BK192.out (by decide)) BK199.out (by decide)) (fun k_ hk => ⟨⟨(.inr (hk.1.1.1.1.1.1)),⟨hk.1.1.1.1.2,⟨hk.1.1.2,⟨hk.1.2,hk.2⟩⟩⟩⟩,fun e_ => (hk.1.1.1.2) (by rw [e_];rfl)⟩))).2.1 (Kd.R_F (Kd.R_mono (ok':=(fun k_ => ((fun k_ => (P0_1_ k_ ∨ w.heap.size ≤ k_) ∧ some k_ ≠ (.slice Ao18 t193.length co18 : Value).ownBlock ∧ k_ ≠ gb191 ∧ k_ ≠ gb192 ∧ k_ ≠ gb199)) k_ ∧ k_ ≠ go8)) (Kd.R_types (Kd.R_types (Kd.R_types (Kd.R_apart' (Kd.R_apart' (HO202.out) (Kd.R_typed HO195.out) (by decide)) (Kd.N_typed HO198.out) (by decide)) BK191.out (by decide)) BK192.out (by decide)) BK199.out (by decide)) (fun k_ hk => ⟨⟨(.inr (hk.1.1.1.1.1.1)),⟨hk.1.1.1.1.2,⟨hk.1.1.2,⟨hk.1.2,hk.2⟩⟩⟩⟩,fun e_ => (hk.1.1.1.2) (by rw [e_];rfl)⟩)))) (fun _ hk => hk)).1
    (try simp only [show ((Kd.slice 5 (Kd.int .u8))).sz = 1 from rfl,Nat.mul_one,Nat.add_zero] at HP27)
    rw [← Ny203.out] at HP27
    have HQ27:=Aside0.mk HP27
    clear hcl27 hcc27 hfr27 hM27 HP27
    refine hK.out _ _ ⟨(blk_cell BK199.out 0).trans rfl,(blk_cell BK199.out 1).trans rfl⟩ (fun hHeld => ?_)
    clear hK K
    refine norm_ (a':=?_) ?_ ?_
    rotate_left
    ·show Act.put _ (some 15) _ = _
     simp only [Act.put,q1_,q2_,q3_,i64_w,i32_w]
     rfl
    refine pure_ (i:=5) (N:=some 16) (v:=?_) (a':=?_) #[tt,tt,tt,tt,tt,tt,ff] rfl rfl (by kernel_rfl) (fun _ _ _ h => h) (Or.inl ⟨by rfl,?_⟩) ?_ ?_
    rotate_left
    ·intro w'
     go_simp
     with_reducible rfl
    rotate_left
    ·simp only [Act.put,q1_,q2_,q3_,i64_w,i32_w]
     rfl
    refine last_ (i:=6) (N:=none) #[tt,tt,tt,tt,tt,tt,tt] rfl rfl (by kernel_rfl) (by decide) (fun K hK => ?_)
    refine skip_ (w1:=?_) (by rfl) rfl ?_ ?_
    rotate_left
    ·go_simp
     rfl
    refine hK.out _ _ ?_
    clear hK K
    refine done_ (by kernel_rfl) ?_
    have n0_ : Aside0 (Kd.V (Kd.slice 5 (Kd.int .u8)) 22 (w25.setCell ⟨go8,(a1 : Int).toNat,none⟩ (.slice Ao26 t200.length co26)) w.heap.size (fun k_ => (P0_1_ k_ ∨ w.heap.size ≤ k_) ∧ some k_ ≠ (.slice Ao18 t193.length co18 : Value).ownBlock ∧ some k_ ≠ (.slice (some ⟨go8,0,none⟩) t196.length co22 : Value).ownBlock ∧ k_ ≠ gb191 ∧ k_ ≠ gb192 ∧ k_ ≠ gb199) (.slice A0_1 l0_1.length c0_1) l0_1):=⟨by (with_reducible repeat (first | apply Kd.V_alloc | apply Kd.V_drewN | apply Kd.V_drew));exact Kd.V_mono (Kd.V_far (p:=⟨go8,(a1 : Int).toNat,none⟩) (Kd.V_mono HO0_1.out (fun k_ hk => (⟨hk,fun e_ => hk.1.2.2.1 (by rw [e_];rfl)⟩ : _ ∧ k_ ≠ go8))) (fun _ hk => hk.2) (.slice Ao26 t200.length co26)) (fun _ hk => ⟨hk.1.1.1,⟨hk.1.1.2.1,⟨hk.1.1.2.2.1,⟨hk.1.1.2.2.2.1,⟨hk.1.1.2.2.2.2.1,hk.1.1.2.2.2.2.2⟩⟩⟩⟩⟩)⟩
    have n1_ : Aside0 (Kd.R (Kd.int .i64) 3 (w25.setCell ⟨go8,(a1 : Int).toNat,none⟩ (.slice Ao26 t200.length co26)) w.heap.size (fun k_ => (w.heap.size ≤ k_)) (.slice Ao18 t193.length co18) t193):=⟨by (with_reducible repeat (first | apply Kd.R_alloc | apply Kd.R_drewN | apply Kd.R_drew));exact Kd.R_mono (Kd.R_far (p:=⟨go8,(a1 : Int).toNat,none⟩) (Kd.R_types HO195.out GG8.out (by decide)) (fun _ hk => hk.2) (.slice Ao26 t200.length co26)) (fun _ hk => hk.1)⟩
    have n2_ : Aside0 (Kd.N (Kd.slice 5 (Kd.int .u8)) 22 (w25.setCell ⟨go8,(a1 : Int).toNat,none⟩ (.slice Ao26 t200.length co26)) w.heap.size (fun k_ => (P0_1_ k_ ∨ w.heap.size ≤ k_) ∧ some k_ ≠ (.slice Ao18 t193.length co18 : Value).ownBlock ∧ k_ ≠ gb191 ∧ k_ ≠ gb192 ∧ k_ ≠ gb199) (.slice (some ⟨go8,0,none⟩) t196.length co22) y203):=⟨by (with_reducible repeat (first | apply Kd.N_alloc | apply Kd.N_drewN | apply Kd.N_drew));exact HQ27.out⟩
    have n3_ : Aside0 ((w25.setCell ⟨go8,(a1 : Int).toNat,none⟩ (.slice Ao26 t200.length co26)).heap[gb191]? = some (.cells #[.slice A0_0 l0_0.length c0_0,.slice A0_1 l0_1.length c0_1] 27 (0,0))):=⟨by (with_reducible repeat (first | refine blk_drewN ?_ _ | refine blk_drew ?_ | refine blk_alloc ?_ _));refine blk_far ?_ (by have h_:=Kd.N_away HO198.out (fun _ hk => hk.1.2.2.1);intro e_;exact h_ (by rw [e_];rfl)) _;(with_reducible repeat (first | refine blk_drewN ?_ _ | refine blk_drew ?_ | refine blk_alloc ?_ _));exact BK191.out⟩
    have n4_ : Aside0 ((w25.setCell ⟨go8,(a1 : Int).toNat,none⟩ (.slice Ao26 t200.length co26)).heap[gb192]? = some (.cells #[.slice none 0 0,.slice none 0 0] 27 (0,0))):=⟨by (with_reducible repeat (first | refine blk_drewN ?_ _ | refine blk_drew ?_ | refine blk_alloc ?_ _));refine blk_far ?_ (by have h_:=Kd.N_away HO198.out (fun _ hk => hk.1.2.2.2.1);intro e_;exact h_ (by rw [e_];rfl)) _;(with_reducible repeat (first | refine blk_drewN ?_ _ | refine blk_drew ?_ | refine blk_alloc ?_ _));exact BK192.out⟩
    have n5_ : Aside0 ((w25.setCell ⟨go8,(a1 : Int).toNat,none⟩ (.slice Ao26 t200.length co26)).heap[gb199]? = some (.cells #[.slice Ao18 t193.length co18,.slice (some ⟨go8,0,none⟩) t196.length co22] 27 (0,0))):=⟨by (with_reducible repeat (first | refine blk_drewN ?_ _ | refine blk_drew ?_ | refine blk_alloc ?_ _));refine blk_far ?_ (by have h_:=Kd.N_away HO198.out (fun _ hk => hk.1.2.2.2.2);intro e_;exact h_ (by rw [e_];rfl)) _;(with_reducible repeat (first | refine blk_drewN ?_ _ | refine blk_drew ?_ | refine blk_alloc ?_ _));exact BK199.out⟩
    have n6_ : Aside0 (Below w.heap.size w (w25.setCell ⟨go8,(a1 : Int).toNat,none⟩ (.slice Ao26 t200.length co26))):=⟨by repeat (first | (with_reducible first | exact HB.out | apply below_alloc | apply pw_below_drewN | apply below_drew1 | refine below_set ?_ GB8.out | refine below_set ?_ GE191.out | refine below_set ?_ GE192.out | refine below_set ?_ GE199.out) | exact HB.out)⟩
    (try clear HO0_1)
    (try clear HO195)
    (try clear HO198)
    (try clear BK191)
    (try clear BK192)
    (try clear BK199)
    (try clear HB)
    generalize (w25.setCell ⟨go8,(a1 : Int).toNat,none⟩ (.slice Ao26 t200.length co26)) = w28 at n0_ n1_ n2_ n3_ n4_ n5_ n6_ ⊢
    have HO0_1:=n0_
    have HO195:=n1_
    have HO198:=n2_
    have BK191:=n3_
    have BK192:=n4_
    have BK199:=n5_
    have HB:=n6_
    clear n0_ n1_ n2_ n3_ n4_ n5_ n6_
    have hcz29_0 : w28.cell? ⟨gb199,0,none⟩ = some (.slice Ao18 t193.length co18):=(blk_cell BK199.out 0).trans rfl
    have hcz29_1 : w28.cell? ⟨gb199,1,none⟩ = some (.slice (some ⟨go8,0,none⟩) t196.length co22):=(blk_cell BK199.out 1).trans rfl
    have hfz29_0:=blk_frozen BK199.out 0
    have hfz29_1:=blk_frozen BK199.out 1
    try go_wp2_with (first | ((with_reducible refine gate_callee (f:=46) rfl ?_);refine goesL_ (some 18) rfl rfl Try.func46 (by kernel_rfl) rfl #[.agg #[.slice Ao18 t193.length co18,.slice (some ⟨go8,0,none⟩) y203.length co22]] rfl (by (try simp only [List.map_toArray,List.map_cons,List.map_nil]);first | done | (rw [show y203.length = t196.length from (Kd.N_reads' HO198.out).1.symm] <;> rfl) | rfl | (simp only [List.length_drop,List.length_take];rfl)) ?_;(with_reducible refine (leaf_need.calls k _ _ t193 _ _ y203 t204 _ ?side1 ?side2 ?side3 ?side4 A9.out).mono ?_);(case side1 => repeat (first | exact (Kd.R_reads' HO195.out).2.2 | (with_reducible refine Kd.C_alloc ?_ _) | (with_reducible refine Kd.C_drewN ?_ _) | (with_reducible refine Kd.C_drew ?_)));(case side2 => exact (Kd.R_reads' HO195.out).2.1);(case side3 => repeat (first | exact (Kd.N_reads' HO198.out).2.2 | (with_reducible refine Kd.C_alloc ?_ _) | (with_reducible refine Kd.C_drewN ?_ _) | (with_reducible refine Kd.C_drew ?_)));(case side4 => rw [show y203.length = t196.length from (Kd.N_reads' HO198.out).1.symm];exact (Kd.N_reads' HO198.out).2.1);rintro e w30 ⟨rfl,hb⟩;refine ⟨_,rfl,?_⟩;have n0_:=Aside0.mk (Kd.V_below (by (with_reducible repeat (first | apply Kd.V_alloc | apply Kd.V_drewN | apply Kd.V_drew));exact HO0_1.out) hb);have n1_:=Aside0.mk (Kd.R_below (by (with_reducible repeat (first | apply Kd.R_alloc | apply Kd.R_drewN | apply Kd.R_drew));exact HO195.out) hb);have n2_:=Aside0.mk (Kd.N_below (by (with_reducible repeat (first | apply Kd.N_alloc | apply Kd.N_drewN | apply Kd.N_drew));exact HO198.out) hb);have n3_:=Aside0.mk (blk_below (g:=gb191) (o:=.cells #[.slice A0_0 l0_0.length c0_0,.slice A0_1 l0_1.length c0_1] 27 (0,0)) (by (with_reducible repeat (first | refine blk_drewN ?_ _ | refine blk_drew ?_ | refine blk_alloc ?_ _));exact BK191.out) hb);have n4_:=Aside0.mk (blk_below (g:=gb192) (o:=.cells #[.slice none 0 0,.slice none 0 0] 27 (0,0)) (by (with_reducible repeat (first | refine blk_drewN ?_ _ | refine blk_drew ?_ | refine blk_alloc ?_ _));exact BK192.out) hb);have n5_:=Aside0.mk (blk_below (g:=gb199) (o:=.cells #[.slice Ao18 t193.length co18,.slice (some ⟨go8,0,none⟩) t196.length co22] 27 (0,0)) (by (with_reducible repeat (first | refine blk_drewN ?_ _ | refine blk_drew ?_ | refine blk_alloc ?_ _));exact BK199.out) hb);have n6_:=Aside0.mk (below_step (by repeat (first | (with_reducible first | exact HB.out | apply below_alloc | apply pw_below_drewN | apply below_drew1 | refine below_set ?_ GE191.out | refine below_set ?_ GE192.out | refine below_set ?_ GE199.out) | exact HB.out)) hb);clear HO0_1;clear HO195;clear HO198;clear BK191;clear BK192;clear BK199;clear HB;have HO0_1:=n0_;have HO195:=n1_;have HO198:=n2_;have BK191:=n3_;have BK192:=n4_;have BK199:=n5_;have HB:=n6_;clear n0_ n1_ n2_ n3_ n4_ n5_ n6_;(try clear hb);(try clear hb2);(try clear hk);(try clear hi);have hcz31_0 : w30.cell? ⟨gb191,0,none⟩ = some (.slice A0_0 l0_0.length c0_0):=(blk_cell BK191.out 0).trans rfl;have hcz31_1 : w30.cell? ⟨gb191,1,none⟩ = some (.slice A0_1 l0_1.length c0_1):=(blk_cell BK191.out 1).trans rfl;have hfz31_0:=blk_frozen BK191.out 0;have hfz31_1:=blk_frozen BK191.out 1) | ((with_reducible refine gate_callee (f:=33) rfl ?_);refine goesL_ (some 21) rfl rfl Try.func33 (by kernel_rfl) rfl #[.agg #[.slice A0_0 l0_0.length c0_0,.slice A0_1 l0_1.length c0_1]] rfl (by (try simp only [List.map_toArray,List.map_cons,List.map_nil]);first | done | rfl | (simp only [List.length_drop,List.length_take];rfl)) ?_;(with_reducible refine (leaf_own.calls k _ _ l0_0 (fun k_ => ((P0_1_ k_ ∨ w.heap.size ≤ k_) ∧ (some k_ ≠ (.slice Ao18 t193.length co18 : Value).ownBlock ∧ (some k_ ≠ (.slice (some ⟨go8,0,none⟩) t196.length co22 : Value).ownBlock ∧ (k_ ≠ gb191 ∧ (k_ ≠ gb192 ∧ k_ ≠ gb199)))))) _ _ l0_1 t205 t208 _ ?side1 ?side2 ?side3 A11.out).mono ?_);(case side1 => repeat (first | exact (Kd.C_below HR0_0.out HB.out) | (with_reducible refine Kd.C_alloc ?_ _) | (with_reducible refine Kd.C_drewN ?_ _) | (with_reducible refine Kd.C_drew ?_)));(case side2 => exact HC0_0.out);(case side3 => exact HO0_1.out);rintro e w32 ⟨v206,v209,rfl,ho0,ho1,hb⟩;refine ⟨_,rfl,?_⟩;have n0_:=Aside0.mk (Kd.V_mono (Kd.V_told (Kd.V_told (Kd.V_old (by (with_reducible repeat (first | apply Kd.V_alloc | apply Kd.V_drewN | apply Kd.V_drew));exact HO0_1.out) hb) (Kd.R_base ho0)) (Kd.N_base ho1)) (fun _ h_ => h_.1));have n1_:=Aside0.mk (Kd.R_elder' (by (with_reducible repeat (first | apply Kd.R_alloc | apply Kd.R_drewN | apply Kd.R_drew));exact HO195.out) (Kd.R_base ho0) hb);have n2_:=Aside0.mk (Kd.N_mono (Kd.N_told (Kd.N_told (Kd.N_old (by (with_reducible repeat (first | apply Kd.N_alloc | apply Kd.N_drewN | apply Kd.N_drew));exact HO198.out) hb) (Kd.R_base ho0)) (Kd.N_base ho1)) (fun _ h_ => h_.1));have n3_:=Aside0.mk (Kd.R_lower (Kd.R_new' (Kd.R_newM (M:=fun k_ => (w.heap.size ≤ k_)) (Kd.R_mono (ok':=fun k_ => True) ho0 (fun _ hk_ => trivial)) (below_size (by repeat (first | (with_reducible first | exact HB.out | apply below_alloc | apply pw_below_drewN | apply below_drew1 | refine below_set ?_ GE191.out | refine below_set ?_ GE192.out | refine below_set ?_ GE199.out) | exact HB.out))) (fun k_ h_ => h_)) (Kd.R_lt (by (with_reducible repeat (first | apply Kd.R_alloc | apply Kd.R_drewN | apply Kd.R_drew));exact HO195.out))) (below_size (by repeat (first | (with_reducible first | exact HB.out | apply below_alloc | apply pw_below_drewN | apply below_drew1 | refine below_set ?_ GE191.out | refine below_set ?_ GE192.out | refine below_set ?_ GE199.out) | exact HB.out))));have n4_:=Aside0.mk (Kd.N_lower (Kd.N_mono (ok':=fun k_ => (P0_1_ k_ ∨ w.heap.size ≤ k_) ∧ some k_ ≠ (v206 : Value).ownBlock ∧ some k_ ≠ (.slice Ao18 t193.length co18 : Value).ownBlock ∧ some k_ ≠ (.slice (some ⟨go8,0,none⟩) t196.length co22 : Value).ownBlock ∧ k_ ≠ gb191 ∧ k_ ≠ gb192 ∧ k_ ≠ gb199) ho1 (fun k_ hk_ => ⟨Or.elim hk_.1 (fun hs_ => hs_.1) (fun hn_ => (.inr (Nat.le_trans (below_size (by repeat (first | (with_reducible first | exact HB.out | apply below_alloc | apply pw_below_drewN | apply below_drew1 | refine below_set ?_ GE191.out | refine below_set ?_ GE192.out | refine below_set ?_ GE199.out) | exact HB.out))) hn_))),hk_.2,Or.elim hk_.1 (fun hs_ => hs_.2.1) (fun hn_ => (Kd.fresh' (Kd.R_lt (by (with_reducible repeat (first | apply Kd.R_alloc | apply Kd.R_drewN | apply Kd.R_drew));exact HO195.out)) k_ hn_)),Or.elim hk_.1 (fun hs_ => hs_.2.2.1) (fun hn_ => (Kd.fresh' (Kd.N_lt (by (with_reducible repeat (first | apply Kd.N_alloc | apply Kd.N_drewN | apply Kd.N_drew));exact HO198.out)) k_ hn_)),Or.elim hk_.1 (fun hs_ => hs_.2.2.2.1) (fun hn_ => (Kd.freshB (g:=gb191) (o:=.cells #[.slice A0_0 l0_0.length c0_0,.slice A0_1 l0_1.length c0_1] 27 (0,0)) (by (with_reducible repeat (first | refine blk_drewN ?_ _ | refine blk_drew ?_ | refine blk_alloc ?_ _));exact BK191.out) k_ hn_)),Or.elim hk_.1 (fun hs_ => hs_.2.2.2.2.1) (fun hn_ => (Kd.freshB (g:=gb192) (o:=.cells #[.slice none 0 0,.slice none 0 0] 27 (0,0)) (by (with_reducible repeat (first | refine blk_drewN ?_ _ | refine blk_drew ?_ | refine blk_alloc ?_ _));exact BK192.out) k_ hn_)),Or.elim hk_.1 (fun hs_ => hs_.2.2.2.2.2) (fun hn_ => (Kd.freshB (g:=gb199) (o:=.cells #[.slice Ao18 t193.length co18,.slice (some ⟨go8,0,none⟩) t196.length co22] 27 (0,0)) (by (with_reducible repeat (first | refine blk_drewN ?_ _ | refine blk_drew ?_ | refine blk_alloc ?_ _));exact BK199.out) k_ hn_))⟩)) (below_size (by repeat (first | (with_reducible first | exact HB.out | apply below_alloc | apply pw_below_drewN | apply below_drew1 | refine below_set ?_ GE191.out | refine below_set ?_ GE192.out | refine below_set ?_ GE199.out) | exact HB.out))));have n5_:=Aside0.mk (blk_below (g:=gb191) (o:=.cells #[.slice A0_0 l0_0.length c0_0,.slice A0_1 l0_1.length c0_1] 27 (0,0)) (by (with_reducible repeat (first | refine blk_drewN ?_ _ | refine blk_drew ?_ | refine blk_alloc ?_ _));exact BK191.out) hb);have n6_:=Aside0.mk (blk_below (g:=gb192) (o:=.cells #[.slice none 0 0,.slice none 0 0] 27 (0,0)) (by (with_reducible repeat (first | refine blk_drewN ?_ _ | refine blk_drew ?_ | refine blk_alloc ?_ _));exact BK192.out) hb);have n7_:=Aside0.mk (blk_below (g:=gb199) (o:=.cells #[.slice Ao18 t193.length co18,.slice (some ⟨go8,0,none⟩) t196.length co22] 27 (0,0)) (by (with_reducible repeat (first | refine blk_drewN ?_ _ | refine blk_drew ?_ | refine blk_alloc ?_ _));exact BK199.out) hb);have n8_:=Aside0.mk (below_step (by repeat (first | (with_reducible first | exact HB.out | apply below_alloc | apply pw_below_drewN | apply below_drew1 | refine below_set ?_ GE191.out | refine below_set ?_ GE192.out | refine below_set ?_ GE199.out) | exact HB.out)) hb);clear HO0_1;clear HO195;clear HO198;clear BK191;clear BK192;clear BK199;clear HB;have HO0_1:=n0_;have HO195:=n1_;have HO198:=n2_;have HO207:=n3_;have HO210:=n4_;have BK191:=n5_;have BK192:=n6_;have BK199:=n7_;have HB:=n8_;clear n0_ n1_ n2_ n3_ n4_ n5_ n6_ n7_ n8_;(try clear hb);(try clear hb2);(try clear hk);(try clear hi);(try clear ho0);(try clear ho1);obtain ⟨Ao33,co33,eo33⟩:=Kd.R_slice HO207.out;subst eo33;have hcz34_0 : w32.cell? ⟨gb192,0,none⟩ = some (.slice none 0 0):=(blk_cell BK192.out 0).trans rfl;have hcz34_1 : w32.cell? ⟨gb192,1,none⟩ = some (.slice none 0 0):=(blk_cell BK192.out 1).trans rfl;have hfz34_0:=blk_frozen BK192.out 0;have hfz34_1:=blk_frozen BK192.out 1;obtain ⟨Ao35,co35,eo35⟩:=Kd.N_slice HO210.out;subst eo35))
    refine bodyPost_ret (results_ct rfl _ _ gb192 27 #[.slice Ao33 t205.length co33,.slice Ao35 t208.length co35] (0,0) _ rfl (by (with_reducible repeat (first | refine blk_drewN ?_ _ | refine blk_drew ?_ | refine blk_alloc ?_ _));refine blk_put (cs:=#[.slice Ao33 t205.length co33,.slice none 0 0]) ?_ 1 _ rfl;(with_reducible repeat (first | refine blk_drewN ?_ _ | refine blk_drew ?_ | refine blk_alloc ?_ _));refine blk_put (cs:=#[.slice none 0 0,.slice none 0 0]) ?_ 0 _ rfl;(with_reducible repeat (first | refine blk_drewN ?_ _ | refine blk_drew ?_ | refine blk_alloc ?_ _));exact BK192.out) Try.underlying27 rfl (by kernel_rfl)) rfl ?_
    exact ⟨_,_,by first | rfl | (simp [errW_none,errW_some] <;> rfl) | (simp [*,errW_none,errW_some] <;> rfl),by (with_reducible repeat (first | apply Kd.R_alloc | apply Kd.R_drewN | apply Kd.R_drew));exact Kd.R_mono (Kd.R_far (p:=⟨gb192,1,none⟩) (Kd.R_far (p:=⟨gb192,0,none⟩) (Kd.R_types HO207.out BK192.out (by decide)) (fun _ hk => hk.2) (.slice Ao33 t205.length co33)) (fun _ hk => hk.2) (.slice Ao35 t208.length co35)) (fun _ hk => hk.1.1.1),by (with_reducible repeat (first | apply Kd.N_alloc | apply Kd.N_drewN | apply Kd.N_drew));exact Kd.N_mono (Kd.N_far (p:=⟨gb192,1,none⟩) (Kd.N_far (p:=⟨gb192,0,none⟩) (Kd.N_mono HO210.out (fun k_ hk => (⟨hk,hk.2.2.2.2.2.1⟩ : _ ∧ k_ ≠ gb192))) (fun _ hk => hk.2) (.slice Ao33 t205.length co33)) (fun _ hk => hk.2) (.slice Ao35 t208.length co35)) (fun _ hk => ⟨hk.1.1,hk.1.2.1⟩),by repeat (first | (with_reducible first | exact HB.out | apply below_alloc | apply pw_below_drewN | apply below_drew1 | refine below_set ?_ GE191.out | refine below_set ?_ GE192.out | refine below_set ?_ GE199.out) | exact HB.out)⟩
   ·rw [if_neg c10] at H
    have c10b0 : decide (508 < t204) = false:=decide_eq_false c10
    clear c10
    simp only [Option.some.injEq,Prod.mk.injEq] at H
    obtain ⟨rfl,rfl,rfl⟩:=H
    go_enter Try.func35,Try.ntmps35
    try go_wp2_with (first | ((with_reducible refine gate_dst (N:=3) rfl ?_);refine box_event ?hg (N:=3) ?hd (cs:=#[.slice A0_0 l0_0.length c0_0,.slice A0_1 l0_1.length c0_1]) (t:=27) ?hr ?_;(case hd => rfl);(case hg => rfl);(case hr => first | (go_simp;done) | (go_simp;rfl));intro gb191 hg w36 hbox hb;have n0_:=Aside0.mk (Kd.V_below (Kd.V_elderB (by (with_reducible repeat (first | apply Kd.V_alloc | apply Kd.V_drewN | apply Kd.V_drew));exact HO0_1.out) gb191 (Nat.le_of_eq hg.symm)) hb);have n1_:=Aside0.mk (below_step (by repeat (first | (with_reducible first | exact HB.out | apply below_alloc | apply pw_below_drewN | apply below_drew1) | exact HB.out)) hb);have n2_:=Aside0.mk (hbox);have n3_:=Aside0.mk ((by rw [hg];exact (below_size (by repeat (first | (with_reducible first | exact HB.out | apply below_alloc | apply pw_below_drewN | apply below_drew1) | exact HB.out))) : w.heap.size ≤ gb191));have n4_:=Aside0.mk ((by rw [hg];exact (below_size (by repeat (first | (with_reducible first | exact HB.out | apply below_alloc | apply pw_below_drewN | apply below_drew1) | exact HB.out))) : w.heap.size ≤ gb191));clear HO0_1;clear HB;have HO0_1:=n0_;have HB:=n1_;have BK191:=n2_;have GW191:=n3_;have GE191:=n4_;clear n0_ n1_ n2_ n3_ n4_;clear hb hbox hg) | ((with_reducible refine gate_dst (N:=6) rfl ?_);refine box_event ?hg (N:=6) ?hd (cs:=#[.slice none 0 0,.slice none 0 0]) (t:=27) ?hr ?_;(case hd => rfl);(case hg => rfl);(case hr => first | (go_simp;done) | (go_simp;rfl));intro gb192 hg w37 hbox hb;have n0_:=Aside0.mk (Kd.V_below (Kd.V_elderB (by (with_reducible repeat (first | apply Kd.V_alloc | apply Kd.V_drewN | apply Kd.V_drew));exact HO0_1.out) gb192 (Nat.le_of_eq hg.symm)) hb);have n1_:=Aside0.mk (blk_below (g:=gb191) (o:=.cells #[.slice A0_0 l0_0.length c0_0,.slice A0_1 l0_1.length c0_1] 27 (0,0)) (by (with_reducible repeat (first | refine blk_drewN ?_ _ | refine blk_drew ?_ | refine blk_alloc ?_ _));exact BK191.out) hb);have n2_:=Aside0.mk (below_step (by repeat (first | (with_reducible first | exact HB.out | apply below_alloc | apply pw_below_drewN | apply below_drew1 | refine below_set ?_ GE191.out) | exact HB.out)) hb);have n3_:=Aside0.mk (hbox);have n4_:=Aside0.mk ((by rw [hg];exact (below_size (by repeat (first | (with_reducible first | exact HB.out | apply below_alloc | apply pw_below_drewN | apply below_drew1 | refine below_set ?_ GE191.out) | exact HB.out))) : w.heap.size ≤ gb192));have n5_:=Aside0.mk ((by rw [hg];exact (below_size (by repeat (first | (with_reducible first | exact HB.out | apply below_alloc | apply pw_below_drewN | apply below_drew1 | refine below_set ?_ GE191.out) | exact HB.out))) : w.heap.size ≤ gb192));have n6_:=Aside0.mk ((by rw [hg];exact Nat.ne_of_lt (blk_lt (g:=gb191) (o:=.cells #[.slice A0_0 l0_0.length c0_0,.slice A0_1 l0_1.length c0_1] 27 (0,0)) (by (with_reducible repeat (first | refine blk_drewN ?_ _ | refine blk_drew ?_ | refine blk_alloc ?_ _));exact BK191.out)) : gb191 ≠ gb192));have n7_:=Aside0.mk ((by rw [hg];exact Nat.ne_of_gt (blk_lt (g:=gb191) (o:=.cells #[.slice A0_0 l0_0.length c0_0,.slice A0_1 l0_1.length c0_1] 27 (0,0)) (by (with_reducible repeat (first | refine blk_drewN ?_ _ | refine blk_drew ?_ | refine blk_alloc ?_ _));exact BK191.out)) : gb192 ≠ gb191));clear HO0_1;clear BK191;clear HB;have HO0_1:=n0_;have BK191:=n1_;have HB:=n2_;have BK192:=n3_;have GW192:=n4_;have GE192:=n5_;have NB191_192:=n6_;have NB192_191:=n7_;clear n0_ n1_ n2_ n3_ n4_ n5_ n6_ n7_;clear hb hbox hg;have hnb38:=NB191_192.out;have hnc38:=NB192_191.out;have hcz39_0 : w37.cell? ⟨gb191,0,none⟩ = some (.slice A0_0 l0_0.length c0_0):=(blk_cell BK191.out 0).trans rfl;have hcz39_1 : w37.cell? ⟨gb191,1,none⟩ = some (.slice A0_1 l0_1.length c0_1):=(blk_cell BK191.out 1).trans rfl;have hfz39_0:=blk_frozen BK191.out 0;have hfz39_1:=blk_frozen BK191.out 1) | ((with_reducible refine gate_callee (f:=33) rfl ?_);refine goesL_ (some 10) rfl rfl Try.func33 (by kernel_rfl) rfl #[.agg #[.slice A0_0 l0_0.length c0_0,.slice A0_1 l0_1.length c0_1]] rfl (by (try simp only [List.map_toArray,List.map_cons,List.map_nil]);first | done | rfl | (simp only [List.length_drop,List.length_take];rfl)) ?_;(with_reducible refine (leaf_own.calls k _ _ l0_0 (fun k_ => (((P0_1_ k_ ∨ w.heap.size ≤ k_) ∧ k_ ≠ gb191) ∧ k_ ≠ gb192)) _ _ l0_1 t193 t196 _ ?side1 ?side2 ?side3 A4.out).mono ?_);(case side1 => repeat (first | exact (Kd.C_below HR0_0.out HB.out) | (with_reducible refine Kd.C_alloc ?_ _) | (with_reducible refine Kd.C_drewN ?_ _) | (with_reducible refine Kd.C_drew ?_)));(case side2 => exact HC0_0.out);(case side3 => exact HO0_1.out);rintro e w40 ⟨v194,v197,rfl,ho0,ho1,hb⟩;refine ⟨_,rfl,?_⟩;have n0_:=Aside0.mk (Kd.V_mono (Kd.V_told (Kd.V_told (Kd.V_old (by (with_reducible repeat (first | apply Kd.V_alloc | apply Kd.V_drewN | apply Kd.V_drew));exact HO0_1.out) hb) (Kd.R_base ho0)) (Kd.N_base ho1)) (fun _ h_ => h_.1));have n1_:=Aside0.mk (Kd.R_lower (Kd.R_newM (M:=fun k_ => (w.heap.size ≤ k_)) (Kd.R_mono (ok':=fun k_ => True) ho0 (fun _ hk_ => trivial)) (below_size (by repeat (first | (with_reducible first | exact HB.out | apply below_alloc | apply pw_below_drewN | apply below_drew1 | refine below_set ?_ GE191.out | refine below_set ?_ GE192.out) | exact HB.out))) (fun k_ h_ => h_)) (below_size (by repeat (first | (with_reducible first | exact HB.out | apply below_alloc | apply pw_below_drewN | apply below_drew1 | refine below_set ?_ GE191.out | refine below_set ?_ GE192.out) | exact HB.out))));have n2_:=Aside0.mk (Kd.N_lower (Kd.N_mono (ok':=fun k_ => (P0_1_ k_ ∨ w.heap.size ≤ k_) ∧ some k_ ≠ (v194 : Value).ownBlock ∧ k_ ≠ gb191 ∧ k_ ≠ gb192) ho1 (fun k_ hk_ => ⟨Or.elim hk_.1 (fun hs_ => hs_.1.1) (fun hn_ => (.inr (Nat.le_trans (below_size (by repeat (first | (with_reducible first | exact HB.out | apply below_alloc | apply pw_below_drewN | apply below_drew1 | refine below_set ?_ GE191.out | refine below_set ?_ GE192.out) | exact HB.out))) hn_))),hk_.2,Or.elim hk_.1 (fun hs_ => hs_.1.2) (fun hn_ => (Kd.freshB (g:=gb191) (o:=.cells #[.slice A0_0 l0_0.length c0_0,.slice A0_1 l0_1.length c0_1] 27 (0,0)) (by (with_reducible repeat (first | refine blk_drewN ?_ _ | refine blk_drew ?_ | refine blk_alloc ?_ _));exact BK191.out) k_ hn_)),Or.elim hk_.1 (fun hs_ => hs_.2) (fun hn_ => (Kd.freshB (g:=gb192) (o:=.cells #[.slice none 0 0,.slice none 0 0] 27 (0,0)) (by (with_reducible repeat (first | refine blk_drewN ?_ _ | refine blk_drew ?_ | refine blk_alloc ?_ _));exact BK192.out) k_ hn_))⟩)) (below_size (by repeat (first | (with_reducible first | exact HB.out | apply below_alloc | apply pw_below_drewN | apply below_drew1 | refine below_set ?_ GE191.out | refine below_set ?_ GE192.out) | exact HB.out))));have n3_:=Aside0.mk (blk_below (g:=gb191) (o:=.cells #[.slice A0_0 l0_0.length c0_0,.slice A0_1 l0_1.length c0_1] 27 (0,0)) (by (with_reducible repeat (first | refine blk_drewN ?_ _ | refine blk_drew ?_ | refine blk_alloc ?_ _));exact BK191.out) hb);have n4_:=Aside0.mk (blk_below (g:=gb192) (o:=.cells #[.slice none 0 0,.slice none 0 0] 27 (0,0)) (by (with_reducible repeat (first | refine blk_drewN ?_ _ | refine blk_drew ?_ | refine blk_alloc ?_ _));exact BK192.out) hb);have n5_:=Aside0.mk (below_step (by repeat (first | (with_reducible first | exact HB.out | apply below_alloc | apply pw_below_drewN | apply below_drew1 | refine below_set ?_ GE191.out | refine below_set ?_ GE192.out) | exact HB.out)) hb);clear HO0_1;clear BK191;clear BK192;clear HB;have HO0_1:=n0_;have HO195:=n1_;have HO198:=n2_;have BK191:=n3_;have BK192:=n4_;have HB:=n5_;clear n0_ n1_ n2_ n3_ n4_ n5_;(try clear hb);(try clear hb2);(try clear hk);(try clear hi);(try clear ho0);(try clear ho1)) | ((with_reducible refine gate_dst (N:=8) rfl ?_);refine box_event ?hg (N:=8) ?hd (cs:=#[.slice none 0 0,.slice none 0 0]) (t:=27) ?hr ?_;(case hd => rfl);(case hg => rfl);(case hr => first | (go_simp;done) | (go_simp;rfl));intro gb199 hg w41 hbox hb;have n0_:=Aside0.mk (Kd.V_below (Kd.V_elderB (by (with_reducible repeat (first | apply Kd.V_alloc | apply Kd.V_drewN | apply Kd.V_drew));exact HO0_1.out) gb199 (Nat.le_of_eq hg.symm)) hb);have n1_:=Aside0.mk (Kd.R_below (by (with_reducible repeat (first | apply Kd.R_alloc | apply Kd.R_drewN | apply Kd.R_drew));exact HO195.out) hb);have n2_:=Aside0.mk (Kd.N_below (Kd.N_elderB (by (with_reducible repeat (first | apply Kd.N_alloc | apply Kd.N_drewN | apply Kd.N_drew));exact HO198.out) gb199 (Nat.le_of_eq hg.symm)) hb);have n3_:=Aside0.mk (blk_below (g:=gb191) (o:=.cells #[.slice A0_0 l0_0.length c0_0,.slice A0_1 l0_1.length c0_1] 27 (0,0)) (by (with_reducible repeat (first | refine blk_drewN ?_ _ | refine blk_drew ?_ | refine blk_alloc ?_ _));exact BK191.out) hb);have n4_:=Aside0.mk (blk_below (g:=gb192) (o:=.cells #[.slice none 0 0,.slice none 0 0] 27 (0,0)) (by (with_reducible repeat (first | refine blk_drewN ?_ _ | refine blk_drew ?_ | refine blk_alloc ?_ _));exact BK192.out) hb);have n5_:=Aside0.mk (below_step (by repeat (first | (with_reducible first | exact HB.out | apply below_alloc | apply pw_below_drewN | apply below_drew1 | refine below_set ?_ GE191.out | refine below_set ?_ GE192.out) | exact HB.out)) hb);have n6_:=Aside0.mk (hbox);have n7_:=Aside0.mk ((by rw [hg];exact (below_size (by repeat (first | (with_reducible first | exact HB.out | apply below_alloc | apply pw_below_drewN | apply below_drew1 | refine below_set ?_ GE191.out | refine below_set ?_ GE192.out) | exact HB.out))) : w.heap.size ≤ gb199));have n8_:=Aside0.mk ((by rw [hg];exact (below_size (by repeat (first | (with_reducible first | exact HB.out | apply below_alloc | apply pw_below_drewN | apply below_drew1 | refine below_set ?_ GE191.out | refine below_set ?_ GE192.out) | exact HB.out))) : w.heap.size ≤ gb199));have n9_:=Aside0.mk ((by rw [hg];exact Nat.ne_of_lt (blk_lt (g:=gb191) (o:=.cells #[.slice A0_0 l0_0.length c0_0,.slice A0_1 l0_1.length c0_1] 27 (0,0)) (by (with_reducible repeat (first | refine blk_drewN ?_ _ | refine blk_drew ?_ | refine blk_alloc ?_ _));exact BK191.out)) : gb191 ≠ gb199));have n10_:=Aside0.mk ((by rw [hg];exact Nat.ne_of_gt (blk_lt (g:=gb191) (o:=.cells #[.slice A0_0 l0_0.length c0_0,.slice A0_1 l0_1.length c0_1] 27 (0,0)) (by (with_reducible repeat (first | refine blk_drewN ?_ _ | refine blk_drew ?_ | refine blk_alloc ?_ _));exact BK191.out)) : gb199 ≠ gb191));have n11_:=Aside0.mk ((by rw [hg];exact Nat.ne_of_lt (blk_lt (g:=gb192) (o:=.cells #[.slice none 0 0,.slice none 0 0] 27 (0,0)) (by (with_reducible repeat (first | refine blk_drewN ?_ _ | refine blk_drew ?_ | refine blk_alloc ?_ _));exact BK192.out)) : gb192 ≠ gb199));have n12_:=Aside0.mk ((by rw [hg];exact Nat.ne_of_gt (blk_lt (g:=gb192) (o:=.cells #[.slice none 0 0,.slice none 0 0] 27 (0,0)) (by (with_reducible repeat (first | refine blk_drewN ?_ _ | refine blk_drew ?_ | refine blk_alloc ?_ _));exact BK192.out)) : gb199 ≠ gb192));clear HO0_1;clear HO195;clear HO198;clear BK191;clear BK192;clear HB;have HO0_1:=n0_;have HO195:=n1_;have HO198:=n2_;have BK191:=n3_;have BK192:=n4_;have HB:=n5_;have BK199:=n6_;have GW199:=n7_;have GE199:=n8_;have NB191_199:=n9_;have NB199_191:=n10_;have NB192_199:=n11_;have NB199_192:=n12_;clear n0_ n1_ n2_ n3_ n4_ n5_ n6_ n7_ n8_ n9_ n10_ n11_ n12_;clear hb hbox hg;obtain ⟨Ao42,co42,eo42⟩:=Kd.R_slice HO195.out;subst eo42;have hnb43:=NB199_191.out;have hnc43:=NB191_199.out;have hnb44:=NB199_192.out;have hnc44:=NB192_199.out;have hcz45_0 : w41.cell? ⟨gb199,0,none⟩ = some (.slice none 0 0):=(blk_cell BK199.out 0).trans rfl;have hcz45_1 : w41.cell? ⟨gb199,1,none⟩ = some (.slice none 0 0):=(blk_cell BK199.out 1).trans rfl;have hfz45_0:=blk_frozen BK199.out 0;have hfz45_1:=blk_frozen BK199.out 1;obtain ⟨Ao46,co46,eo46⟩:=Kd.N_slice HO198.out;subst eo46))
    have n0_ : Aside0 (Kd.V (Kd.slice 5 (Kd.int .u8)) 22 ((w41.setCell ⟨gb199,0,none⟩ (.slice Ao42 t193.length co42)).setCell ⟨gb199,1,none⟩ (.slice Ao46 t196.length co46)) w.heap.size (fun k_ => (P0_1_ k_ ∨ w.heap.size ≤ k_) ∧ some k_ ≠ (.slice Ao42 t193.length co42 : Value).ownBlock ∧ some k_ ≠ (.slice Ao46 t196.length co46 : Value).ownBlock ∧ k_ ≠ gb191 ∧ k_ ≠ gb192 ∧ k_ ≠ gb199) (.slice A0_1 l0_1.length c0_1) l0_1):=⟨by (with_reducible repeat (first | apply Kd.V_alloc | apply Kd.V_drewN | apply Kd.V_drew));exact Kd.V_mono (Kd.V_far (p:=⟨gb199,1,none⟩) (Kd.V_far (p:=⟨gb199,0,none⟩) (Kd.V_mono HO0_1.out (fun k_ hk => (⟨hk,hk.2⟩ : _ ∧ k_ ≠ gb199))) (fun _ hk => hk.2) (.slice Ao42 t193.length co42)) (fun _ hk => hk.2) (.slice Ao46 t196.length co46)) (fun _ hk => ⟨hk.1.1.1.1.1.1,⟨hk.1.1.1.2,⟨hk.1.1.2,⟨hk.1.1.1.1.1.2,⟨hk.1.1.1.1.2,hk.1.2⟩⟩⟩⟩⟩)⟩
    have n1_ : Aside0 (Kd.R (Kd.int .i64) 3 ((w41.setCell ⟨gb199,0,none⟩ (.slice Ao42 t193.length co42)).setCell ⟨gb199,1,none⟩ (.slice Ao46 t196.length co46)) w.heap.size (fun k_ => (w.heap.size ≤ k_)) (.slice Ao42 t193.length co42) t193):=⟨by (with_reducible repeat (first | apply Kd.R_alloc | apply Kd.R_drewN | apply Kd.R_drew));exact Kd.R_mono (Kd.R_far (p:=⟨gb199,1,none⟩) (Kd.R_far (p:=⟨gb199,0,none⟩) (Kd.R_types HO195.out BK199.out (by decide)) (fun _ hk => hk.2) (.slice Ao42 t193.length co42)) (fun _ hk => hk.2) (.slice Ao46 t196.length co46)) (fun _ hk => hk.1.1)⟩
    have n2_ : Aside0 (Kd.N (Kd.slice 5 (Kd.int .u8)) 22 ((w41.setCell ⟨gb199,0,none⟩ (.slice Ao42 t193.length co42)).setCell ⟨gb199,1,none⟩ (.slice Ao46 t196.length co46)) w.heap.size (fun k_ => (P0_1_ k_ ∨ w.heap.size ≤ k_) ∧ some k_ ≠ (.slice Ao42 t193.length co42 : Value).ownBlock ∧ k_ ≠ gb191 ∧ k_ ≠ gb192 ∧ k_ ≠ gb199) (.slice Ao46 t196.length co46) t196):=⟨by (with_reducible repeat (first | apply Kd.N_alloc | apply Kd.N_drewN | apply Kd.N_drew));exact Kd.N_mono (Kd.N_far (p:=⟨gb199,1,none⟩) (Kd.N_far (p:=⟨gb199,0,none⟩) (Kd.N_mono HO198.out (fun k_ hk => (⟨hk,hk.2⟩ : _ ∧ k_ ≠ gb199))) (fun _ hk => hk.2) (.slice Ao42 t193.length co42)) (fun _ hk => hk.2) (.slice Ao46 t196.length co46)) (fun _ hk => ⟨hk.1.1.1,⟨hk.1.1.2.1,⟨hk.1.1.2.2.1,⟨hk.1.1.2.2.2,hk.1.2⟩⟩⟩⟩)⟩
    have n3_ : Aside0 (((w41.setCell ⟨gb199,0,none⟩ (.slice Ao42 t193.length co42)).setCell ⟨gb199,1,none⟩ (.slice Ao46 t196.length co46)).heap[gb191]? = some (.cells #[.slice A0_0 l0_0.length c0_0,.slice A0_1 l0_1.length c0_1] 27 (0,0))):=⟨by (with_reducible repeat (first | refine blk_drewN ?_ _ | refine blk_drew ?_ | refine blk_alloc ?_ _));refine blk_far ?_ NB191_199.out _;(with_reducible repeat (first | refine blk_drewN ?_ _ | refine blk_drew ?_ | refine blk_alloc ?_ _));refine blk_far ?_ NB191_199.out _;(with_reducible repeat (first | refine blk_drewN ?_ _ | refine blk_drew ?_ | refine blk_alloc ?_ _));exact BK191.out⟩
    have n4_ : Aside0 (((w41.setCell ⟨gb199,0,none⟩ (.slice Ao42 t193.length co42)).setCell ⟨gb199,1,none⟩ (.slice Ao46 t196.length co46)).heap[gb192]? = some (.cells #[.slice none 0 0,.slice none 0 0] 27 (0,0))):=⟨by (with_reducible repeat (first | refine blk_drewN ?_ _ | refine blk_drew ?_ | refine blk_alloc ?_ _));refine blk_far ?_ NB192_199.out _;(with_reducible repeat (first | refine blk_drewN ?_ _ | refine blk_drew ?_ | refine blk_alloc ?_ _));refine blk_far ?_ NB192_199.out _;(with_reducible repeat (first | refine blk_drewN ?_ _ | refine blk_drew ?_ | refine blk_alloc ?_ _));exact BK192.out⟩
    have n5_ : Aside0 (((w41.setCell ⟨gb199,0,none⟩ (.slice Ao42 t193.length co42)).setCell ⟨gb199,1,none⟩ (.slice Ao46 t196.length co46)).heap[gb199]? = some (.cells #[.slice Ao42 t193.length co42,.slice Ao46 t196.length co46] 27 (0,0))):=⟨by (with_reducible repeat (first | refine blk_drewN ?_ _ | refine blk_drew ?_ | refine blk_alloc ?_ _));refine blk_put (cs:=#[.slice Ao42 t193.length co42,.slice none 0 0]) ?_ 1 _ rfl;(with_reducible repeat (first | refine blk_drewN ?_ _ | refine blk_drew ?_ | refine blk_alloc ?_ _));refine blk_put (cs:=#[.slice none 0 0,.slice none 0 0]) ?_ 0 _ rfl;(with_reducible repeat (first | refine blk_drewN ?_ _ | refine blk_drew ?_ | refine blk_alloc ?_ _));exact BK199.out⟩
    have n6_ : Aside0 (Below w.heap.size w ((w41.setCell ⟨gb199,0,none⟩ (.slice Ao42 t193.length co42)).setCell ⟨gb199,1,none⟩ (.slice Ao46 t196.length co46))):=⟨by repeat (first | (with_reducible first | exact HB.out | apply below_alloc | apply pw_below_drewN | apply below_drew1 | refine below_set ?_ GE191.out | refine below_set ?_ GE192.out | refine below_set ?_ GE199.out) | exact HB.out)⟩
    (try clear HO0_1)
    (try clear HO195)
    (try clear HO198)
    (try clear BK191)
    (try clear BK192)
    (try clear BK199)
    (try clear HB)
    generalize ((w41.setCell ⟨gb199,0,none⟩ (.slice Ao42 t193.length co42)).setCell ⟨gb199,1,none⟩ (.slice Ao46 t196.length co46)) = w47 at n0_ n1_ n2_ n3_ n4_ n5_ n6_ ⊢
    have HO0_1:=n0_
    have HO195:=n1_
    have HO198:=n2_
    have BK191:=n3_
    have BK192:=n4_
    have BK199:=n5_
    have HB:=n6_
    clear n0_ n1_ n2_ n3_ n4_ n5_ n6_
    have n0_:=Aside0.mk (Kd.V_drew HO0_1.out)
    have n1_:=Aside0.mk (Kd.R_drew HO195.out)
    have n2_:=Aside0.mk (Kd.N_drew HO198.out)
    have n3_:=Aside0.mk (blk_drew BK191.out)
    have n4_:=Aside0.mk (blk_drew BK192.out)
    have n5_:=Aside0.mk (blk_drew BK199.out)
    have n6_:=Aside0.mk (below_drew1 HB.out)
    clear HO0_1
    clear HO195
    clear HO198
    clear BK191
    clear BK192
    clear BK199
    clear HB
    have HO0_1:=n0_
    have HO195:=n1_
    have HO198:=n2_
    have BK191:=n3_
    have BK192:=n4_
    have BK199:=n5_
    have HB:=n6_
    clear n0_ n1_ n2_ n3_ n4_ n5_ n6_
    refine start_ (n:=7) (S:=fun w' => w'.cell? ⟨gb199,0,none⟩ = some (.slice Ao42 t193.length co42) ∧ w'.cell? ⟨gb199,1,none⟩ = some (.slice Ao46 t196.length co46)) (ds:=[6]) #[ff,ff,ff,ff,ff,ff,ff] (by kernel_rfl) rfl rfl ⟨(blk_cell BK199.out 0).trans rfl,(blk_cell BK199.out 1).trans rfl⟩ (fun hHeld => ?_)
    generalize w47.drew = w48 at HO0_1 HO195 HO198 BK191 BK192 BK199 HB hHeld ⊢
    refine pure_ (i:=0) (N:=some 11) (v:=?_) (a':=?_) #[tt,ff,ff,ff,ff,ff,ff] rfl rfl (by kernel_rfl) (fun _ _ _ h => h) (Or.inl ⟨by rfl,?_⟩) ?_ ?_
    rotate_left
    ·intro w'
     go_simp
     with_reducible rfl
    rotate_left
    ·simp only [Act.put,q1_,q2_,q3_,i64_w,i32_w]
     rfl
    refine pure_ (i:=2) (N:=some 13) (v:=?_) (a':=?_) #[tt,ff,tt,ff,ff,ff,ff] rfl rfl (by kernel_rfl) (fun _ _ _ h => h) (Or.inl ⟨by rfl,?_⟩) ?_ ?_
    rotate_left
    ·intro w'
     go_simp
     with_reducible rfl
    rotate_left
    ·simp only [Act.put,q1_,q2_,q3_,i64_w,i32_w]
     rfl
    refine pure_ (i:=3) (N:=some 14) (v:=?_) (a':=?_) #[tt,ff,tt,tt,ff,ff,ff] rfl rfl (by kernel_rfl) (fun _ _ _ h => h) (Or.inl ⟨by rfl,?_⟩) ?_ ?_
    rotate_left
    ·intro w'
     go_simp
     with_reducible rfl
    rotate_left
    ·simp only [Act.put,q1_,q2_,q3_,i64_w,i32_w]
     rfl
    refine take_ (i:=1) (N:=some 12) (v:=?_) (a':=?_) #[tt,tt,tt,tt,ff,ff,ff] rfl rfl (by kernel_rfl) (fun _ _ _ h => h) (Or.inl ⟨by rfl,?_⟩) hHeld ?_ ?_
    rotate_left
    ·rintro w' ⟨s0,s1⟩
     go_simp
     with_reducible rfl
    rotate_left
    ·simp only [Act.put,q1_,q2_,q3_,i64_w,i32_w]
     rfl
    refine one_ (i:=4) (N:=some 15) #[tt,tt,tt,tt,tt,ff,ff] rfl rfl (by kernel_rfl) (by decide) (fun K hK => ?_)
    refine goes_ Try.func59 (by kernel_rfl) rfl #[.slice A2 l2.length c2] (by rfl) rfl rfl (by (try simp only [List.map_toArray,List.map_cons,List.map_nil]);first | done | rfl | (simp only [List.length_drop,List.length_take];rfl)) ?_
    with_reducible refine (slices_Clone_byte_byte_59.calls _ _ l2 t200 _ ?side1 ?side2 A5.out).mono ?_
    (case side1 => repeat (first | exact (Kd.C_below HR2.out HB.out) | (with_reducible refine Kd.C_alloc ?_ _) | (with_reducible refine Kd.C_drewN ?_ _) | (with_reducible refine Kd.C_drew ?_)))
    (case side2 => exact HC2.out)
    rintro e w49 ⟨v201,rfl,ho0,hb⟩
    refine ⟨_,rfl,?_⟩
    have n0_:=Aside0.mk (Kd.V_elder' (by (with_reducible repeat (first | apply Kd.V_alloc | apply Kd.V_drewN | apply Kd.V_drew));exact HO0_1.out) (Kd.R_base ho0) hb)
    have n1_:=Aside0.mk (Kd.R_below (by (with_reducible repeat (first | apply Kd.R_alloc | apply Kd.R_drewN | apply Kd.R_drew));exact HO195.out) hb)
    have n2_:=Aside0.mk (Kd.N_elder' (by (with_reducible repeat (first | apply Kd.N_alloc | apply Kd.N_drewN | apply Kd.N_drew));exact HO198.out) (Kd.R_base ho0) hb)
    have n3_:=Aside0.mk (Kd.R_lower (Kd.R_newM (M:=fun k_ => (w.heap.size ≤ k_)) ho0 (below_size (by repeat (first | (with_reducible first | exact HB.out | apply below_alloc | apply pw_below_drewN | apply below_drew1 | refine below_set ?_ GE191.out | refine below_set ?_ GE192.out | refine below_set ?_ GE199.out) | exact HB.out))) (fun k_ h_ => h_)) (below_size (by repeat (first | (with_reducible first | exact HB.out | apply below_alloc | apply pw_below_drewN | apply below_drew1 | refine below_set ?_ GE191.out | refine below_set ?_ GE192.out | refine below_set ?_ GE199.out) | exact HB.out))))
    have n4_:=Aside0.mk (blk_below (g:=gb191) (o:=.cells #[.slice A0_0 l0_0.length c0_0,.slice A0_1 l0_1.length c0_1] 27 (0,0)) (by (with_reducible repeat (first | refine blk_drewN ?_ _ | refine blk_drew ?_ | refine blk_alloc ?_ _));exact BK191.out) hb)
    have n5_:=Aside0.mk (blk_below (g:=gb192) (o:=.cells #[.slice none 0 0,.slice none 0 0] 27 (0,0)) (by (with_reducible repeat (first | refine blk_drewN ?_ _ | refine blk_drew ?_ | refine blk_alloc ?_ _));exact BK192.out) hb)
    have n6_:=Aside0.mk (blk_below (g:=gb199) (o:=.cells #[.slice Ao42 t193.length co42,.slice Ao46 t196.length co46] 27 (0,0)) (by (with_reducible repeat (first | refine blk_drewN ?_ _ | refine blk_drew ?_ | refine blk_alloc ?_ _));exact BK199.out) hb)
    have n7_:=Aside0.mk (below_step (by repeat (first | (with_reducible first | exact HB.out | apply below_alloc | apply pw_below_drewN | apply below_drew1 | refine below_set ?_ GE191.out | refine below_set ?_ GE192.out | refine below_set ?_ GE199.out) | exact HB.out)) hb)
    clear HO0_1
    clear HO195
    clear HO198
    clear BK191
    clear BK192
    clear BK199
    clear HB
    have HO0_1:=n0_
    have HO195:=n1_
    have HO198:=n2_
    have HO202:=n3_
    have BK191:=n4_
    have BK192:=n5_
    have BK199:=n6_
    have HB:=n7_
    clear n0_ n1_ n2_ n3_ n4_ n5_ n6_ n7_
    (try clear hb)
    (try clear hb2)
    (try clear hk)
    (try clear hi)
    (try clear ho0)
    have p8 : 0 ≤ (a1 : Int):=of_decide_eq_true (by first | (with_reducible assumption) | assumption)
    have q8 : (a1 : Int) < ((t196.length : Int) : Int):=of_decide_eq_true (by first | (with_reducible assumption) | assumption)
    obtain ⟨go8,co8,eo8,gb8,gl8,cl8,HG8⟩:=Kd.N_form HO198.out (by omega)
    (first | cases eo8 | (injection eo8 with ea_ en_ ec_;(first | subst ea_ | (injection ea_ with ea_;subst ea_));subst ec_;clear en_))
    have GB8:=Aside0.mk gb8
    have GG8:=Aside0.mk HG8
    clear gb8 gl8 HG8
    obtain ⟨ce8,hcl8,hM8,hcc8,hfr8⟩:=Kd.N_elem HO198.out [] (a1 : Int) p8 q8
    obtain ⟨ua8_0,uc8_0,rfl,ul8_0,ge8_0⟩:=Kd.FK_slice_open hM8
    have hx8_0:=hcc8 0 _ rfl
    have hf8_0:=hfr8 0
    (try simp only [show ((Kd.slice 5 (Kd.int .u8))).sz = 1 from rfl,Nat.mul_one,Nat.add_zero] at hx8_0)
    (try simp only [show ((Kd.slice 5 (Kd.int .u8))).sz = 1 from rfl,Nat.mul_one,Nat.add_zero] at hf8_0)
    clear hcl8 hcc8 hfr8 hM8
    replace p8:=eq_true p8
    replace q8:=eq_true q8
    obtain ⟨Ao50,co50,eo50⟩:=Kd.R_slice HO202.out
    (first | subst eo50 | (injection eo50 with f1_ f2_ f3_;have f4_:=f1_.symm;have f5_:=f3_.symm;clear f1_ f2_ f3_;subst f4_;subst f5_))
    have HX51:=Aside0.mk (show Kd.N (Kd.slice 5 (Kd.int .u8)) 22 _ w.heap.size (fun k_ => (P0_1_ k_ ∨ w.heap.size ≤ k_) ∧ some k_ ≠ (.slice Ao42 t193.length co42 : Value).ownBlock ∧ some k_ ≠ (.slice Ao50 t200.length co50 : Value).ownBlock ∧ k_ ≠ gb191 ∧ k_ ≠ gb192 ∧ k_ ≠ gb199) (.slice (some ⟨go8,0,none⟩) t196.length co46) t196 from (Kd.N_mono (HO198.out) (fun k_ hk => ⟨hk.1.1,⟨hk.1.2.1,⟨hk.2,⟨hk.1.2.2.1,⟨hk.1.2.2.2.1,hk.1.2.2.2.2⟩⟩⟩⟩⟩)))
    replace HX51:=Aside0.mk (show Kd.N (Kd.slice 5 (Kd.int .u8)) 22 _ w.heap.size (fun k_ => (P0_1_ k_ ∨ w.heap.size ≤ k_) ∧ some k_ ≠ (.slice Ao42 t193.length co42 : Value).ownBlock ∧ k_ ≠ gb191 ∧ k_ ≠ gb192 ∧ k_ ≠ gb199) (.slice (some ⟨go8,0,none⟩) t196.length co46) t196 from Kd.N_mono HX51.out (fun k_ hk => ⟨hk.1,⟨hk.2.1,⟨hk.2.2.2.1,⟨hk.2.2.2.2.1,hk.2.2.2.2.2⟩⟩⟩⟩))
    obtain ⟨ce51,hcl51,hM51,hcc51,hfr51⟩:=Kd.N_elem HX51.out [] (a1 : Int) (of_decide_eq_true (by first | (with_reducible assumption) | assumption)) (by have h_ : (a1 : Int) < ((t196.length : Int) : Int):=of_decide_eq_true (by first | (with_reducible assumption) | assumption);first | exact h_ | (have e_:=(Kd.N_reads' HO198.out).1;omega) | simpa using h_)
    obtain ⟨ua51_0,uc51_0,rfl,ul51_0,ge51_0⟩:=Kd.FK_slice_open hM51
    have HP51:=(Kd.N_seg HX51.out (a1 : Int) (of_decide_eq_true (by first | (with_reducible assumption) | assumption)) (by have h_ : (a1 : Int) < ((t196.length : Int) : Int):=of_decide_eq_true (by first | (with_reducible assumption) | assumption);first | exact h_ | (have e_:=(Kd.N_reads' HO198.out).1;omega) | simpa using h_) (seg:=[.slice Ao50 t200.length co50]) (j:=0) hcl51 hcc51 (show 1 ≤ 1 from by decide) (x':=t200) (Kd.FK_slice_mk (Kd.R_reads' (Kd.R_mono (ok':=(fun k_ => ((fun k_ => (P0_1_ k_ ∨ w.heap.size ≤ k_) ∧ some k_ ≠ (.slice Ao42 t193.length co42 : Value).ownBlock ∧ k_ ≠ gb191 ∧ k_ ≠ gb192 ∧ k_ ≠ gb199)) k_ ∧ k_ ≠ go8)) (Kd.R_types (Kd.R_types (Kd.R_types (Kd.R_apart' (Kd.R_apart' (HO202.out) (Kd.R_typed HO195.out) (by decide)) (Kd.N_typed HO198.out) (by decide)) BK191.out (by decide)) BK192.out (by decide)) BK199.out (by decide)) (fun k_ hk => ⟨⟨(.inr (hk.1.1.1.1.1.1)),⟨hk.1.1.1.1.2,⟨hk.1.1.2,⟨hk.1.2,hk.2⟩⟩⟩⟩,fun e_ => (hk.1.1.1.2) (by rw [e_];rfl)⟩))).2.1 (Kd.R_F (Kd.R_mono (ok':=(fun k_ => ((fun k_ => (P0_1_ k_ ∨ w.heap.size ≤ k_) ∧ some k_ ≠ (.slice Ao42 t193.length co42 : Value).ownBlock ∧ k_ ≠ gb191 ∧ k_ ≠ gb192 ∧ k_ ≠ gb199)) k_ ∧ k_ ≠ go8)) (Kd.R_types (Kd.R_types (Kd.R_types (Kd.R_apart' (Kd.R_apart' (HO202.out) (Kd.R_typed HO195.out) (by decide)) (Kd.N_typed HO198.out) (by decide)) BK191.out (by decide)) BK192.out (by decide)) BK199.out (by decide)) (fun k_ hk => ⟨⟨(.inr (hk.1.1.1.1.1.1)),⟨hk.1.1.1.1.2,⟨hk.1.1.2,⟨hk.1.2,hk.2⟩⟩⟩⟩,fun e_ => (hk.1.1.1.2) (by rw [e_];rfl)⟩)))) (fun _ hk => hk)).1
    (try simp only [show ((Kd.slice 5 (Kd.int .u8))).sz = 1 from rfl,Nat.mul_one,Nat.add_zero] at HP51)
    rw [← Ny203.out] at HP51
    have HQ51:=Aside0.mk HP51
    clear hcl51 hcc51 hfr51 hM51 HP51
    refine hK.out _ _ ⟨(blk_cell BK199.out 0).trans rfl,(blk_cell BK199.out 1).trans rfl⟩ (fun hHeld => ?_)
    clear hK K
    refine norm_ (a':=?_) ?_ ?_
    rotate_left
    ·show Act.put _ (some 15) _ = _
     simp only [Act.put,q1_,q2_,q3_,i64_w,i32_w]
     rfl
    refine pure_ (i:=5) (N:=some 16) (v:=?_) (a':=?_) #[tt,tt,tt,tt,tt,tt,ff] rfl rfl (by kernel_rfl) (fun _ _ _ h => h) (Or.inl ⟨by rfl,?_⟩) ?_ ?_
    rotate_left
    ·intro w'
     go_simp
     with_reducible rfl
    rotate_left
    ·simp only [Act.put,q1_,q2_,q3_,i64_w,i32_w]
     rfl
    refine last_ (i:=6) (N:=none) #[tt,tt,tt,tt,tt,tt,tt] rfl rfl (by kernel_rfl) (by decide) (fun K hK => ?_)
    refine skip_ (w1:=?_) (by rfl) rfl ?_ ?_
    rotate_left
    ·go_simp
     rfl
    refine hK.out _ _ ?_
    clear hK K
    refine done_ (by kernel_rfl) ?_
    have n0_ : Aside0 (Kd.V (Kd.slice 5 (Kd.int .u8)) 22 (w49.setCell ⟨go8,(a1 : Int).toNat,none⟩ (.slice Ao50 t200.length co50)) w.heap.size (fun k_ => (P0_1_ k_ ∨ w.heap.size ≤ k_) ∧ some k_ ≠ (.slice Ao42 t193.length co42 : Value).ownBlock ∧ some k_ ≠ (.slice (some ⟨go8,0,none⟩) t196.length co46 : Value).ownBlock ∧ k_ ≠ gb191 ∧ k_ ≠ gb192 ∧ k_ ≠ gb199) (.slice A0_1 l0_1.length c0_1) l0_1):=⟨by (with_reducible repeat (first | apply Kd.V_alloc | apply Kd.V_drewN | apply Kd.V_drew));exact Kd.V_mono (Kd.V_far (p:=⟨go8,(a1 : Int).toNat,none⟩) (Kd.V_mono HO0_1.out (fun k_ hk => (⟨hk,fun e_ => hk.1.2.2.1 (by rw [e_];rfl)⟩ : _ ∧ k_ ≠ go8))) (fun _ hk => hk.2) (.slice Ao50 t200.length co50)) (fun _ hk => ⟨hk.1.1.1,⟨hk.1.1.2.1,⟨hk.1.1.2.2.1,⟨hk.1.1.2.2.2.1,⟨hk.1.1.2.2.2.2.1,hk.1.1.2.2.2.2.2⟩⟩⟩⟩⟩)⟩
    have n1_ : Aside0 (Kd.R (Kd.int .i64) 3 (w49.setCell ⟨go8,(a1 : Int).toNat,none⟩ (.slice Ao50 t200.length co50)) w.heap.size (fun k_ => (w.heap.size ≤ k_)) (.slice Ao42 t193.length co42) t193):=⟨by (with_reducible repeat (first | apply Kd.R_alloc | apply Kd.R_drewN | apply Kd.R_drew));exact Kd.R_mono (Kd.R_far (p:=⟨go8,(a1 : Int).toNat,none⟩) (Kd.R_types HO195.out GG8.out (by decide)) (fun _ hk => hk.2) (.slice Ao50 t200.length co50)) (fun _ hk => hk.1)⟩
    have n2_ : Aside0 (Kd.N (Kd.slice 5 (Kd.int .u8)) 22 (w49.setCell ⟨go8,(a1 : Int).toNat,none⟩ (.slice Ao50 t200.length co50)) w.heap.size (fun k_ => (P0_1_ k_ ∨ w.heap.size ≤ k_) ∧ some k_ ≠ (.slice Ao42 t193.length co42 : Value).ownBlock ∧ k_ ≠ gb191 ∧ k_ ≠ gb192 ∧ k_ ≠ gb199) (.slice (some ⟨go8,0,none⟩) t196.length co46) y203):=⟨by (with_reducible repeat (first | apply Kd.N_alloc | apply Kd.N_drewN | apply Kd.N_drew));exact HQ51.out⟩
    have n3_ : Aside0 ((w49.setCell ⟨go8,(a1 : Int).toNat,none⟩ (.slice Ao50 t200.length co50)).heap[gb191]? = some (.cells #[.slice A0_0 l0_0.length c0_0,.slice A0_1 l0_1.length c0_1] 27 (0,0))):=⟨by (with_reducible repeat (first | refine blk_drewN ?_ _ | refine blk_drew ?_ | refine blk_alloc ?_ _));refine blk_far ?_ (by have h_:=Kd.N_away HO198.out (fun _ hk => hk.1.2.2.1);intro e_;exact h_ (by rw [e_];rfl)) _;(with_reducible repeat (first | refine blk_drewN ?_ _ | refine blk_drew ?_ | refine blk_alloc ?_ _));exact BK191.out⟩
    have n4_ : Aside0 ((w49.setCell ⟨go8,(a1 : Int).toNat,none⟩ (.slice Ao50 t200.length co50)).heap[gb192]? = some (.cells #[.slice none 0 0,.slice none 0 0] 27 (0,0))):=⟨by (with_reducible repeat (first | refine blk_drewN ?_ _ | refine blk_drew ?_ | refine blk_alloc ?_ _));refine blk_far ?_ (by have h_:=Kd.N_away HO198.out (fun _ hk => hk.1.2.2.2.1);intro e_;exact h_ (by rw [e_];rfl)) _;(with_reducible repeat (first | refine blk_drewN ?_ _ | refine blk_drew ?_ | refine blk_alloc ?_ _));exact BK192.out⟩
    have n5_ : Aside0 ((w49.setCell ⟨go8,(a1 : Int).toNat,none⟩ (.slice Ao50 t200.length co50)).heap[gb199]? = some (.cells #[.slice Ao42 t193.length co42,.slice (some ⟨go8,0,none⟩) t196.length co46] 27 (0,0))):=⟨by (with_reducible repeat (first | refine blk_drewN ?_ _ | refine blk_drew ?_ | refine blk_alloc ?_ _));refine blk_far ?_ (by have h_:=Kd.N_away HO198.out (fun _ hk => hk.1.2.2.2.2);intro e_;exact h_ (by rw [e_];rfl)) _;(with_reducible repeat (first | refine blk_drewN ?_ _ | refine blk_drew ?_ | refine blk_alloc ?_ _));exact BK199.out⟩
    have n6_ : Aside0 (Below w.heap.size w (w49.setCell ⟨go8,(a1 : Int).toNat,none⟩ (.slice Ao50 t200.length co50))):=⟨by repeat (first | (with_reducible first | exact HB.out | apply below_alloc | apply pw_below_drewN | apply below_drew1 | refine below_set ?_ GB8.out | refine below_set ?_ GE191.out | refine below_set ?_ GE192.out | refine below_set ?_ GE199.out) | exact HB.out)⟩
    (try clear HO0_1)
    (try clear HO195)
    (try clear HO198)
    (try clear BK191)
    (try clear BK192)
    (try clear BK199)
    (try clear HB)
    generalize (w49.setCell ⟨go8,(a1 : Int).toNat,none⟩ (.slice Ao50 t200.length co50)) = w52 at n0_ n1_ n2_ n3_ n4_ n5_ n6_ ⊢
    have HO0_1:=n0_
    have HO195:=n1_
    have HO198:=n2_
    have BK191:=n3_
    have BK192:=n4_
    have BK199:=n5_
    have HB:=n6_
    clear n0_ n1_ n2_ n3_ n4_ n5_ n6_
    have hcz53_0 : w52.cell? ⟨gb199,0,none⟩ = some (.slice Ao42 t193.length co42):=(blk_cell BK199.out 0).trans rfl
    have hcz53_1 : w52.cell? ⟨gb199,1,none⟩ = some (.slice (some ⟨go8,0,none⟩) t196.length co46):=(blk_cell BK199.out 1).trans rfl
    have hfz53_0:=blk_frozen BK199.out 0
    have hfz53_1:=blk_frozen BK199.out 1
    try go_wp2_with (first | ((with_reducible refine gate_callee (f:=46) rfl ?_);refine goesL_ (some 18) rfl rfl Try.func46 (by kernel_rfl) rfl #[.agg #[.slice Ao42 t193.length co42,.slice (some ⟨go8,0,none⟩) y203.length co46]] rfl (by (try simp only [List.map_toArray,List.map_cons,List.map_nil]);first | done | (rw [show y203.length = t196.length from (Kd.N_reads' HO198.out).1.symm] <;> rfl) | rfl | (simp only [List.length_drop,List.length_take];rfl)) ?_;(with_reducible refine (leaf_need.calls k _ _ t193 _ _ y203 t204 _ ?side1 ?side2 ?side3 ?side4 A9.out).mono ?_);(case side1 => repeat (first | exact (Kd.R_reads' HO195.out).2.2 | (with_reducible refine Kd.C_alloc ?_ _) | (with_reducible refine Kd.C_drewN ?_ _) | (with_reducible refine Kd.C_drew ?_)));(case side2 => exact (Kd.R_reads' HO195.out).2.1);(case side3 => repeat (first | exact (Kd.N_reads' HO198.out).2.2 | (with_reducible refine Kd.C_alloc ?_ _) | (with_reducible refine Kd.C_drewN ?_ _) | (with_reducible refine Kd.C_drew ?_)));(case side4 => rw [show y203.length = t196.length from (Kd.N_reads' HO198.out).1.symm];exact (Kd.N_reads' HO198.out).2.1);rintro e w54 ⟨rfl,hb⟩;refine ⟨_,rfl,?_⟩;have n0_:=Aside0.mk (Kd.V_below (by (with_reducible repeat (first | apply Kd.V_alloc | apply Kd.V_drewN | apply Kd.V_drew));exact HO0_1.out) hb);have n1_:=Aside0.mk (Kd.R_below (by (with_reducible repeat (first | apply Kd.R_alloc | apply Kd.R_drewN | apply Kd.R_drew));exact HO195.out) hb);have n2_:=Aside0.mk (Kd.N_below (by (with_reducible repeat (first | apply Kd.N_alloc | apply Kd.N_drewN | apply Kd.N_drew));exact HO198.out) hb);have n3_:=Aside0.mk (blk_below (g:=gb191) (o:=.cells #[.slice A0_0 l0_0.length c0_0,.slice A0_1 l0_1.length c0_1] 27 (0,0)) (by (with_reducible repeat (first | refine blk_drewN ?_ _ | refine blk_drew ?_ | refine blk_alloc ?_ _));exact BK191.out) hb);have n4_:=Aside0.mk (blk_below (g:=gb192) (o:=.cells #[.slice none 0 0,.slice none 0 0] 27 (0,0)) (by (with_reducible repeat (first | refine blk_drewN ?_ _ | refine blk_drew ?_ | refine blk_alloc ?_ _));exact BK192.out) hb);have n5_:=Aside0.mk (blk_below (g:=gb199) (o:=.cells #[.slice Ao42 t193.length co42,.slice (some ⟨go8,0,none⟩) t196.length co46] 27 (0,0)) (by (with_reducible repeat (first | refine blk_drewN ?_ _ | refine blk_drew ?_ | refine blk_alloc ?_ _));exact BK199.out) hb);have n6_:=Aside0.mk (below_step (by repeat (first | (with_reducible first | exact HB.out | apply below_alloc | apply pw_below_drewN | apply below_drew1 | refine below_set ?_ GE191.out | refine below_set ?_ GE192.out | refine below_set ?_ GE199.out) | exact HB.out)) hb);clear HO0_1;clear HO195;clear HO198;clear BK191;clear BK192;clear BK199;clear HB;have HO0_1:=n0_;have HO195:=n1_;have HO198:=n2_;have BK191:=n3_;have BK192:=n4_;have BK199:=n5_;have HB:=n6_;clear n0_ n1_ n2_ n3_ n4_ n5_ n6_;(try clear hb);(try clear hb2);(try clear hk);(try clear hi);have hcz55_0 : w54.cell? ⟨gb199,0,none⟩ = some (.slice Ao42 t193.length co42):=(blk_cell BK199.out 0).trans rfl;have hcz55_1 : w54.cell? ⟨gb199,1,none⟩ = some (.slice (some ⟨go8,0,none⟩) t196.length co46):=(blk_cell BK199.out 1).trans rfl;have hfz55_0:=blk_frozen BK199.out 0;have hfz55_1:=blk_frozen BK199.out 1;have hcz56_0 : w54.cell? ⟨gb192,0,none⟩ = some (.slice none 0 0):=(blk_cell BK192.out 0).trans rfl;have hcz56_1 : w54.cell? ⟨gb192,1,none⟩ = some (.slice none 0 0):=(blk_cell BK192.out 1).trans rfl;have hfz56_0:=blk_frozen BK192.out 0;have hfz56_1:=blk_frozen BK192.out 1))
    refine bodyPost_ret (results_ct rfl _ _ gb192 27 #[.slice Ao42 t193.length co42,.slice (some ⟨go8,0,none⟩) t196.length co46] (0,0) _ rfl (by (with_reducible repeat (first | refine blk_drewN ?_ _ | refine blk_drew ?_ | refine blk_alloc ?_ _));refine blk_put (cs:=#[.slice Ao42 t193.length co42,.slice none 0 0]) ?_ 1 _ rfl;(with_reducible repeat (first | refine blk_drewN ?_ _ | refine blk_drew ?_ | refine blk_alloc ?_ _));refine blk_put (cs:=#[.slice none 0 0,.slice none 0 0]) ?_ 0 _ rfl;(with_reducible repeat (first | refine blk_drewN ?_ _ | refine blk_drew ?_ | refine blk_alloc ?_ _));exact BK192.out) Try.underlying27 rfl (by kernel_rfl)) rfl ?_
    exact ⟨_,_,by first | rfl | (simp [errW_none,errW_some] <;> rfl) | (simp [*,errW_none,errW_some] <;> rfl),by (with_reducible repeat (first | apply Kd.R_alloc | apply Kd.R_drewN | apply Kd.R_drew));exact Kd.R_mono (Kd.R_far (p:=⟨gb192,1,none⟩) (Kd.R_far (p:=⟨gb192,0,none⟩) (Kd.R_types HO195.out BK192.out (by decide)) (fun _ hk => hk.2) (.slice Ao42 t193.length co42)) (fun _ hk => hk.2) (.slice (some ⟨go8,0,none⟩) t196.length co46)) (fun _ hk => hk.1),by (with_reducible repeat (first | apply Kd.N_alloc | apply Kd.N_drewN | apply Kd.N_drew));exact Kd.N_mono (Kd.N_far (p:=⟨gb192,1,none⟩) (Kd.N_far (p:=⟨gb192,0,none⟩) (Kd.N_mono HO198.out (fun k_ hk => (⟨hk,hk.2.2.2.1⟩ : _ ∧ k_ ≠ gb192))) (fun _ hk => hk.2) (.slice Ao42 t193.length co42)) (fun _ hk => hk.2) (.slice (some ⟨go8,0,none⟩) t196.length co46)) (fun _ hk => ⟨hk.1.1,hk.1.2.1⟩),by repeat (first | (with_reducible first | exact HB.out | apply below_alloc | apply pw_below_drewN | apply below_drew1 | refine below_set ?_ GE191.out | refine below_set ?_ GE192.out | refine below_set ?_ GE199.out) | exact HB.out)⟩
  ·rw [if_neg c7] at H
   exact absurd H (by simp)
 ·rw [if_neg c6] at H
  exact absurd H (by simp)
end Go.Proofs.Ytjigckhopkclgaa.P
