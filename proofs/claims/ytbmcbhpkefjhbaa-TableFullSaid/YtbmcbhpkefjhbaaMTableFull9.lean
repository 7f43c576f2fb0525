/- Put together by wip/prune.py out of this claim's texts. -/
import Derived.Test.YtbmcbhpkefjhbaaMTableFull5
import Derived.Test.YtbmcbhpkefjhbaaMTableFull7
import Derived.Test.YtbmcbhpkefjhbaaMTableFull8
namespace Go.Proofs.Ytbmcbhpkefjhbaa.P
open Go.RowKit Go.Proofs.YtbmcbhpkefjhbaaW.PrintWords Go.Proofs.YtbmcbhpkefjhbaaW.PrintLast Go.Proofs.YtbmcbhpkefjhbaaW.PrintMore
attribute [local go_sem] max2_int min2_int max_two min_two max_three min_three max_four min_four   -- for this text's walks alone
attribute [local go_sem] run_store_float
set_option linter.unusedVariables false
set_option linter.unusedSimpArgs false
mutual
def table_Eldest.l0 : Nat → List (S112) → Int → Int → Int → Int → Int → Int → Option (Int)
 | 0,_,_,_,_,_,_,_ => none
 | k + 1,x11,x12,x13,x181000,x181001,x181002,x181003 => if x13 < x12 then (if 0 ≤ x13 then (if x13 < (x11.length : Int) then (if ((rd_T112 x11 x13).f1) = 2 then (if x181000 = 0 then (table_Eldest.l0 k x11 x12 (wrap64 (x13 + 1)) ((rd_T112 x11 x13).f0) ((rd_T112 x11 x13).f1) ((rd_T112 x11 x13).f2) ((rd_T112 x11 x13).f3)) else (if ((rd_T112 x11 x13).f3) < x181003 then (table_Eldest.l0 k x11 x12 (wrap64 (x13 + 1)) ((rd_T112 x11 x13).f0) ((rd_T112 x11 x13).f1) ((rd_T112 x11 x13).f2) ((rd_T112 x11 x13).f3)) else (table_Eldest.l0 k x11 x12 (wrap64 (x13 + 1)) x181000 x181001 x181002 x181003))) else (table_Eldest.l0 k x11 x12 (wrap64 (x13 + 1)) x181000 x181001 x181002 x181003)) else (none)) else (none)) else (some x181000)
def table_Eldest.j0 : Nat → Int → Option (Int)
 | 0,_ => none
 | k + 1,x2 => some x2
end
def table_Eldest.f (k : Nat) (a0_0 : Int) (a0_1 : Int) (a0_2 : Int) (l0_3 : List (S112)) : Option (Int):=(table_Check.f k a0_0 a0_1 a0_2 l0_3).bind fun t179 => (if t179 = 0 then (table_Eldest.l0 k l0_3 (l0_3.length : Int) 0 0 0 0 0) else (table_Eldest.j0 k 0))
theorem table_Eldest.mono_l : ∀ k,(∀ y0 y1 y2 y3 y4 y5 y6,LeO (table_Eldest.l0 k y0 y1 y2 y3 y4 y5 y6) (table_Eldest.l0 (k + 1) y0 y1 y2 y3 y4 y5 y6)) ∧ (∀ y0,LeO (table_Eldest.j0 k y0) (table_Eldest.j0 (k + 1) y0))
 | 0 => ⟨fun _ _ _ _ _ _ _ r h => by simp [table_Eldest.l0] at h,fun _ r h => by simp [table_Eldest.j0] at h⟩
 | k + 1 => by
  obtain ⟨ih0,ih1⟩:=table_Eldest.mono_l k
  refine ⟨?_,?_⟩
  ·intro y0 y1 y2 y3 y4 y5 y6
   unfold table_Eldest.l0
   repeat' first
   | (with_reducible exact ih0 _ _ _ _ _ _ _)
   | (with_reducible exact ih1 _)
   | (with_reducible exact table_Check.mono _ _ _ _ _)
   | (with_reducible exact LeO.refl _)
   | (with_reducible exact LeO.none _)
   | (with_reducible refine LeO.ite ?_ ?_)
   | (with_reducible refine LeO.bind ?_ (fun _ => ?_))
   | exact ih0 _ _ _ _ _ _ _
   | exact ih1 _
   | exact table_Check.mono _ _ _ _ _
   | exact LeO.none _
   | refine LeO.ite ?_ ?_
   | refine LeO.bind ?_ (fun _ => ?_)
  ·intro y0
   unfold table_Eldest.j0
   repeat' first
   | (with_reducible exact ih0 _ _ _ _ _ _ _)
   | (with_reducible exact ih1 _)
   | (with_reducible exact table_Check.mono _ _ _ _ _)
   | (with_reducible exact LeO.refl _)
   | (with_reducible exact LeO.none _)
   | (with_reducible refine LeO.ite ?_ ?_)
   | (with_reducible refine LeO.bind ?_ (fun _ => ?_))
   | exact ih0 _ _ _ _ _ _ _
   | exact ih1 _
   | exact table_Check.mono _ _ _ _ _
   | exact LeO.none _
   | refine LeO.ite ?_ ?_
   | refine LeO.bind ?_ (fun _ => ?_)
theorem table_Eldest.mono : ∀ a0 a1 a2 a3 k,LeO (table_Eldest.f k a0 a1 a2 a3) (table_Eldest.f (k + 1) a0 a1 a2 a3):=by
 intro a0 a1 a2 a3 k
 obtain ⟨ih0,ih1⟩:=table_Eldest.mono_l k
 unfold table_Eldest.f
 repeat' first
   | (with_reducible exact ih0 _ _ _ _ _ _ _)
   | (with_reducible exact ih1 _)
   | (with_reducible exact table_Check.mono _ _ _ _ _)
   | (with_reducible exact LeO.refl _)
   | (with_reducible exact LeO.none _)
   | (with_reducible refine LeO.ite ?_ ?_)
   | (with_reducible refine LeO.bind ?_ (fun _ => ?_))
   | exact ih0 _ _ _ _ _ _ _
   | exact ih1 _
   | exact table_Check.mono _ _ _ _ _
   | exact LeO.none _
   | refine LeO.ite ?_ ?_
   | refine LeO.bind ?_ (fun _ => ?_)
set_option maxHeartbeats 8000000 in
set_option maxRecDepth 100000 in
theorem table_Eldest.calls (k : Nat) (a0_0 : Int) (a0_1 : Int) (a0_2 : Int) (A0_3 : Option Addr) (c0_3 : Nat) (l0_3 : List (S112)) (r : Int) (w : World) (hr0_3 : Kd.C k112 w A0_3 l0_3.length l0_3) (hc0_3 : l0_3.length ≤ c0_3) (h : table_Eldest.f k a0_0 a0_1 a0_2 l0_3 = some r) :
  Calls Try.prog 43 #[.agg #[.int .i64 a0_0,.int .i64 a0_1,.int .i64 a0_2,.slice A0_3 l0_3.length c0_3]] w fun e w' => e = .returned (.int .i64 r) ∧ Below w.heap.size w w':=by
 have hu69:=Try.underlying69
 have hu112:=Try.underlying112
 have HR0_3:=Aside0.mk hr0_3
 have HC0_3:=Aside0.mk hc0_3
 clear hr0_3 hc0_3
 have HB:=Aside0.mk (Below.refl w.heap.size w)
 have H : ((table_Check.f k a0_0 a0_1 a0_2 l0_3).bind fun t179 => (if t179 = 0 then (table_Eldest.l0 k l0_3 (l0_3.length : Int) 0 0 0 0 0) else (table_Eldest.j0 k 0))) = some r:=h
 clear h
 replace H:=Option.bind_eq_some_iff.mp H
 obtain ⟨t179,A20,H⟩:=H
 replace H : (if t179 = 0 then (table_Eldest.l0 k l0_3 (l0_3.length : Int) 0 0 0 0 0) else (table_Eldest.j0 k 0)) = some r:=H
 have A2:=Aside0.mk A20
 clear A20
 by_cases c3 : t179 = 0
 ·rw [if_pos c3] at H
  have c3b0 : (t179 == 0) = true:=beq_iff_eq.mpr c3
  have c3b1 : (t179 != 0) = false:=bne_eq_false_iff_eq.mpr c3
  clear c3
  have H':=Aside0.mk H
  clear H
  go_enter Try.func43,Try.ntmps43
  go_wp2_with (first | ((with_reducible refine gate_dst (N:=1) rfl ?_);refine box_event ?hg (N:=1) ?hd (cs:=#[.int .i64 a0_0,.int .i64 a0_1,.int .i64 a0_2,.slice A0_3 l0_3.length c0_3]) (t:=69) ?hr ?_;(case hd => rfl);(case hg => rfl);(case hr => first | (go_simp;done) | (go_simp;rfl));intro gb178 hg w4 hbox hb;have n0_:=Aside0.mk (below_step (by repeat (first | (with_reducible first | exact HB.out | apply below_alloc | apply pw_below_drewN | apply below_drew1) | exact HB.out)) hb);have n1_:=Aside0.mk (hbox);have n2_:=Aside0.mk ((by rw [hg];exact (below_size (by repeat (first | (with_reducible first | exact HB.out | apply below_alloc | apply pw_below_drewN | apply below_drew1) | exact HB.out))) : w.heap.size ≤ gb178));have n3_:=Aside0.mk ((by rw [hg];exact (below_size (by repeat (first | (with_reducible first | exact HB.out | apply below_alloc | apply pw_below_drewN | apply below_drew1) | exact HB.out))) : w.heap.size ≤ gb178));clear HB;have HB:=n0_;have BK178:=n1_;have GW178:=n2_;have GE178:=n3_;clear n0_ n1_ n2_ n3_;clear hb hbox hg;obtain ⟨hcz5_0,hcz5_1,hcz5_2,hcz5_3⟩:=blkc_4 BK178.out;obtain ⟨hfz5_0,hfz5_1,hfz5_2⟩:=blkz_3 BK178.out;have hfz5_3:=blk_frozen BK178.out 3) | ((with_reducible refine gate_callee (f:=64) rfl ?_);refine goesL_ (some 7) rfl rfl Try.func64 (by kernel_rfl) rfl #[.agg #[.int .i64 a0_0,.int .i64 a0_1,.int .i64 a0_2,.slice A0_3 l0_3.length c0_3]] rfl (by (try simp only [List.map_toArray,List.map_cons,List.map_nil]);first | done | rfl | (simp only [List.length_drop,List.length_take];rfl)) ?_;(with_reducible refine (table_Check.calls k a0_0 a0_1 a0_2 _ _ l0_3 t179 _ ?side1 ?side2 A2.out).mono ?_);(case side1 => repeat (first | exact (Kd.C_below HR0_3.out HB.out) | (with_reducible refine Kd.C_alloc ?_ _) | (with_reducible refine Kd.C_drewN ?_ _) | (with_reducible refine Kd.C_drew ?_)));(case side2 => exact HC0_3.out);rintro e w6 ⟨rfl,hb⟩;refine ⟨_,rfl,?_⟩;have n0_:=Aside0.mk (blk_below (g:=gb178) (o:=.cells #[.int .i64 a0_0,.int .i64 a0_1,.int .i64 a0_2,.slice A0_3 l0_3.length c0_3] 69 (0,0)) (by (with_reducible repeat (first | refine blk_drewN ?_ _ | refine blk_drew ?_ | refine blk_alloc ?_ _));exact BK178.out) hb);have n1_:=Aside0.mk (below_step (by repeat (first | (with_reducible first | exact HB.out | apply below_alloc | apply pw_below_drewN | apply below_drew1 | refine below_set ?_ GE178.out) | exact HB.out)) hb);clear BK178;clear HB;have BK178:=n0_;have HB:=n1_;clear n0_ n1_;(try clear hb);(try clear hb2);(try clear hk);(try clear hi)) | ((with_reducible refine gate_dst (N:=3) rfl ?_);refine box_event ?hg (N:=3) ?hd (cs:=#[.int .i64 0,.int .i64 0,.int .i64 0,.int .i64 0]) (t:=112) ?hr ?_;(case hd => rfl);(case hg => rfl);(case hr => first | (go_simp;done) | (go_simp;rfl));intro gb180 hg w7 hbox hb;have n0_:=Aside0.mk (blk_below (g:=gb178) (o:=.cells #[.int .i64 a0_0,.int .i64 a0_1,.int .i64 a0_2,.slice A0_3 l0_3.length c0_3] 69 (0,0)) (by (with_reducible repeat (first | refine blk_drewN ?_ _ | refine blk_drew ?_ | refine blk_alloc ?_ _));exact BK178.out) hb);have n1_:=Aside0.mk (below_step (by repeat (first | (with_reducible first | exact HB.out | apply below_alloc | apply pw_below_drewN | apply below_drew1 | refine below_set ?_ GE178.out) | exact HB.out)) hb);have n2_:=Aside0.mk (hbox);have n3_:=Aside0.mk ((by rw [hg];exact (below_size (by repeat (first | (with_reducible first | exact HB.out | apply below_alloc | apply pw_below_drewN | apply below_drew1 | refine below_set ?_ GE178.out) | exact HB.out))) : w.heap.size ≤ gb180));have n4_:=Aside0.mk ((by rw [hg];exact (below_size (by repeat (first | (with_reducible first | exact HB.out | apply below_alloc | apply pw_below_drewN | apply below_drew1 | refine below_set ?_ GE178.out) | exact HB.out))) : w.heap.size ≤ gb180));have n5_:=Aside0.mk ((by rw [hg];exact Nat.ne_of_lt (blk_lt (g:=gb178) (o:=.cells #[.int .i64 a0_0,.int .i64 a0_1,.int .i64 a0_2,.slice A0_3 l0_3.length c0_3] 69 (0,0)) (by (with_reducible repeat (first | refine blk_drewN ?_ _ | refine blk_drew ?_ | refine blk_alloc ?_ _));exact BK178.out)) : gb178 ≠ gb180));have n6_:=Aside0.mk ((by rw [hg];exact Nat.ne_of_gt (blk_lt (g:=gb178) (o:=.cells #[.int .i64 a0_0,.int .i64 a0_1,.int .i64 a0_2,.slice A0_3 l0_3.length c0_3] 69 (0,0)) (by (with_reducible repeat (first | refine blk_drewN ?_ _ | refine blk_drew ?_ | refine blk_alloc ?_ _));exact BK178.out)) : gb180 ≠ gb178));clear BK178;clear HB;have BK178:=n0_;have HB:=n1_;have BK180:=n2_;have GW180:=n3_;have GE180:=n4_;have NB178_180:=n5_;have NB180_178:=n6_;clear n0_ n1_ n2_ n3_ n4_ n5_ n6_;clear hb hbox hg;have hnb8:=NB180_178.out;have hnc8:=NB178_180.out;obtain ⟨hcz9_0,hcz9_1,hcz9_2,hcz9_3⟩:=blkc_4 BK180.out;obtain ⟨hfz9_0,hfz9_1,hfz9_2,hfz9_3⟩:=blkz_4 BK180.out;obtain ⟨hcz10_0,hcz10_1,hcz10_2,hcz10_3⟩:=blkc_4 BK178.out;obtain ⟨hfz10_0,hfz10_1,hfz10_2⟩:=blkz_3 BK178.out;have hfz10_3:=blk_frozen BK178.out 3))
  go_loopg [13] k (fun kq v13 w' => ∃ (x13_1 : Int) (x181000_1 : Int) (x181001_1 : Int) (x181002_1 : Int) (x181003_1 : Int),v13 = .int .i64 x13_1 ∧ Aside0 (table_Eldest.l0 kq l0_3 (l0_3.length : Int) x13_1 x181000_1 x181001_1 x181002_1 x181003_1 = some r) ∧ Aside0 (kq ≤ k) ∧ Aside0 (w'.heap[gb178]? = some (.cells #[.int .i64 a0_0,.int .i64 a0_1,.int .i64 a0_2,(.slice A0_3 l0_3.length c0_3)] 69 (0,0))) ∧ Aside0 (w'.heap[gb180]? = some (.cells #[.int .i64 x181000_1,.int .i64 x181001_1,.int .i64 x181002_1,.int .i64 x181003_1] 112 (0,0))) ∧ Aside0 (Below w.heap.size w w'))
  case atStart => exact ⟨(0),(0),(0),(0),(0),(by first | rfl | (simp;done) | (simp [*];done)),H',⟨Nat.le_refl _⟩,⟨by (with_reducible repeat (first | refine blk_drewN ?_ _ | refine blk_drew ?_ | refine blk_alloc ?_ _));refine blk_far ?_ NB178_180.out _;(with_reducible repeat (first | refine blk_drewN ?_ _ | refine blk_drew ?_ | refine blk_alloc ?_ _));refine blk_far ?_ NB178_180.out _;(with_reducible repeat (first | refine blk_drewN ?_ _ | refine blk_drew ?_ | refine blk_alloc ?_ _));refine blk_far ?_ NB178_180.out _;(with_reducible repeat (first | refine blk_drewN ?_ _ | refine blk_drew ?_ | refine blk_alloc ?_ _));refine blk_far ?_ NB178_180.out _;(with_reducible repeat (first | refine blk_drewN ?_ _ | refine blk_drew ?_ | refine blk_alloc ?_ _));exact BK178.out⟩,⟨by (with_reducible repeat (first | refine blk_drewN ?_ _ | refine blk_drew ?_ | refine blk_alloc ?_ _));apply blkf_4_0_3;(with_reducible repeat (first | refine blk_drewN ?_ _ | refine blk_drew ?_ | refine blk_alloc ?_ _));exact BK180.out⟩,⟨by repeat (first | (with_reducible first | exact HB.out | apply below_alloc | apply pw_below_drewN | apply below_drew1 | refine below_set ?_ GE178.out | refine below_set ?_ GE180.out) | exact HB.out)⟩⟩
  case round =>
   clear H'
   try clear p2
   try clear c3
   try clear c3b0
   try clear c3b1
   try clear c4
   try clear c6
   try clear c8
   try clear hcz10_0
   try clear hcz10_1
   try clear hcz10_2
   try clear hcz10_3
   try clear hcz5_0
   try clear hcz5_1
   try clear hcz5_2
   try clear hcz5_3
   try clear hcz9_0
   try clear hcz9_1
   try clear hcz9_2
   try clear hcz9_3
   try clear hfz10_0
   try clear hfz10_1
   try clear hfz10_2
   try clear hfz10_3
   try clear hfz5_0
   try clear hfz5_1
   try clear hfz5_2
   try clear hfz5_3
   try clear hfz9_0
   try clear hfz9_1
   try clear hfz9_2
   try clear hfz9_3
   obtain ⟨x13_1,x181000_1,x181001_1,x181002_1,x181003_1,rfl,HA,HK1,BK178,BK180,HB⟩:=hrel
   cases gk with
   | zero => exact absurd HA.out (by simp [table_Eldest.l0])
   | succ k1 =>
    have H:=HA.out
    clear HA
    simp only [table_Eldest.l0] at H
    by_cases c11 : x13_1 < (l0_3.length : Int)
    ·rw [if_pos c11] at H
     have c11b0 : decide (x13_1 < (l0_3.length : Int)) = true:=decide_eq_true c11
     clear c11
     by_cases c12 : 0 ≤ x13_1
     ·rw [if_pos c12] at H
      have c12b0 : decide (0 ≤ x13_1) = true:=decide_eq_true c12
      clear c12
      by_cases c13 : x13_1 < (l0_3.length : Int)
      ·rw [if_pos c13] at H
       have c13b0 : decide (x13_1 < (l0_3.length : Int)) = true:=decide_eq_true c13
       clear c13
       by_cases c14 : ((rd_T112 l0_3 x13_1).f1) = 2
       ·rw [if_pos c14] at H
        have c14b0 : (((rd_T112 l0_3 x13_1).f1) == 2) = true:=beq_iff_eq.mpr c14
        have c14b1 : (((rd_T112 l0_3 x13_1).f1) != 2) = false:=bne_eq_false_iff_eq.mpr c14
        clear c14
        by_cases c15 : x181000_1 = 0
        ·rw [if_pos c15] at H
         have c15b0 : (x181000_1 == 0) = true:=beq_iff_eq.mpr c15
         have c15b1 : (x181000_1 != 0) = false:=bne_eq_false_iff_eq.mpr c15
         clear c15
         have H':=Aside0.mk H
         clear H
         have p181 : 0 ≤ (x13_1 : Int):=of_decide_eq_true (by first | (with_reducible assumption) | assumption)
         have q181 : x13_1 < (l0_3.length : Int):=of_decide_eq_true (by first | (with_reducible assumption) | assumption)
         obtain ⟨ad181,e181,hx181_0,hx181_1,hx181_2,hx181_3⟩:=at_T112 HR0_3.out x13_1 p181 q181
         cases e181
         replace hx181_0:=(HB.out.cell (World.block_lt_of_cell? w _ hx181_0)).trans hx181_0
         replace hx181_1:=(HB.out.cell (World.block_lt_of_cell? w _ hx181_1)).trans hx181_1
         replace hx181_2:=(HB.out.cell (World.block_lt_of_cell? w _ hx181_2)).trans hx181_2
         replace hx181_3:=(HB.out.cell (World.block_lt_of_cell? w _ hx181_3)).trans hx181_3
         replace p181:=eq_true p181
         replace q181:=eq_true q181
         go_wp2_with (first | ((with_reducible refine gate_dst (N:=5) rfl ?_);refine box_event ?hg (N:=5) ?hd (cs:=#[.int .i64 0,.int .i64 0,.int .i64 0,.int .i64 0]) (t:=112) ?hr ?_;(case hd => rfl);(case hg => rfl);(case hr => first | (go_simp;done) | (go_simp;rfl));intro gb182 hg w16 hbox hb;have n0_:=Aside0.mk (blk_below (g:=gb178) (o:=.cells #[.int .i64 a0_0,.int .i64 a0_1,.int .i64 a0_2,.slice (some ad181) l0_3.length c0_3] 69 (0,0)) (by (with_reducible repeat (first | refine blk_drewN ?_ _ | refine blk_drew ?_ | refine blk_alloc ?_ _));exact BK178.out) hb);have n1_:=Aside0.mk (blk_below (g:=gb180) (o:=.cells #[.int .i64 x181000_1,.int .i64 x181001_1,.int .i64 x181002_1,.int .i64 x181003_1] 112 (0,0)) (by (with_reducible repeat (first | refine blk_drewN ?_ _ | refine blk_drew ?_ | refine blk_alloc ?_ _));exact BK180.out) hb);have n2_:=Aside0.mk (below_step (by repeat (first | (with_reducible first | exact HB.out | apply below_alloc | apply pw_below_drewN | apply below_drew1 | refine below_set ?_ GE178.out | refine below_set ?_ GE180.out) | exact HB.out)) hb);have n3_:=Aside0.mk (hbox);have n4_:=Aside0.mk ((by rw [hg];exact (below_size (by repeat (first | (with_reducible first | exact HB.out | apply below_alloc | apply pw_below_drewN | apply below_drew1 | refine below_set ?_ GE178.out | refine below_set ?_ GE180.out) | exact HB.out))) : w.heap.size ≤ gb182));have n5_:=Aside0.mk ((by rw [hg];exact (below_size (by repeat (first | (with_reducible first | exact HB.out | apply below_alloc | apply pw_below_drewN | apply below_drew1 | refine below_set ?_ GE178.out | refine below_set ?_ GE180.out) | exact HB.out))) : w.heap.size ≤ gb182));have n6_:=Aside0.mk ((by rw [hg];exact Nat.ne_of_lt (blk_lt (g:=gb178) (o:=.cells #[.int .i64 a0_0,.int .i64 a0_1,.int .i64 a0_2,.slice (some ad181) l0_3.length c0_3] 69 (0,0)) (by (with_reducible repeat (first | refine blk_drewN ?_ _ | refine blk_drew ?_ | refine blk_alloc ?_ _));exact BK178.out)) : gb178 ≠ gb182));have n7_:=Aside0.mk ((by rw [hg];exact Nat.ne_of_gt (blk_lt (g:=gb178) (o:=.cells #[.int .i64 a0_0,.int .i64 a0_1,.int .i64 a0_2,.slice (some ad181) l0_3.length c0_3] 69 (0,0)) (by (with_reducible repeat (first | refine blk_drewN ?_ _ | refine blk_drew ?_ | refine blk_alloc ?_ _));exact BK178.out)) : gb182 ≠ gb178));have n8_:=Aside0.mk ((by rw [hg];exact Nat.ne_of_lt (blk_lt (g:=gb180) (o:=.cells #[.int .i64 x181000_1,.int .i64 x181001_1,.int .i64 x181002_1,.int .i64 x181003_1] 112 (0,0)) (by (with_reducible repeat (first | refine blk_drewN ?_ _ | refine blk_drew ?_ | refine blk_alloc ?_ _));exact BK180.out)) : gb180 ≠ gb182));have n9_:=Aside0.mk ((by rw [hg];exact Nat.ne_of_gt (blk_lt (g:=gb180) (o:=.cells #[.int .i64 x181000_1,.int .i64 x181001_1,.int .i64 x181002_1,.int .i64 x181003_1] 112 (0,0)) (by (with_reducible repeat (first | refine blk_drewN ?_ _ | refine blk_drew ?_ | refine blk_alloc ?_ _));exact BK180.out)) : gb182 ≠ gb180));clear BK178;clear BK180;clear HB;have BK178:=n0_;have BK180:=n1_;have HB:=n2_;have BK182:=n3_;have GW182:=n4_;have GE182:=n5_;have NB178_182:=n6_;have NB182_178:=n7_;have NB180_182:=n8_;have NB182_180:=n9_;clear n0_ n1_ n2_ n3_ n4_ n5_ n6_ n7_ n8_ n9_;clear hb hbox hg;have hnb17:=NB182_178.out;have hnc17:=NB178_182.out;have hnb18:=NB182_180.out;have hnc18:=NB180_182.out;obtain ⟨hcz19_0,hcz19_1,hcz19_2,hcz19_3⟩:=blkc_4 BK182.out;obtain ⟨hfz19_0,hfz19_1,hfz19_2,hfz19_3⟩:=blkz_4 BK182.out;have hnb20:=NB180_178.out;have hnc20:=NB178_180.out;obtain ⟨hcz21_0,hcz21_1,hcz21_2,hcz21_3⟩:=blkc_4 BK180.out;obtain ⟨hfz21_0,hfz21_1,hfz21_2⟩:=blkz_3 BK180.out;have hfz21_3:=blk_frozen BK180.out 3))
         go_roundg k1
         case measure => have:=HK1.out;omega
         case rel => exact ⟨(wrap64 (x13_1 + 1)),((rd_T112 l0_3 x13_1).f0),((rd_T112 l0_3 x13_1).f1),((rd_T112 l0_3 x13_1).f2),((rd_T112 l0_3 x13_1).f3),(by first | rfl | (simp;done) | (simp [*];done)),H',⟨by have:=HK1.out;omega⟩,⟨by (with_reducible repeat (first | refine blk_drewN ?_ _ | refine blk_drew ?_ | refine blk_alloc ?_ _));refine blk_far ?_ NB178_180.out _;(with_reducible repeat (first | refine blk_drewN ?_ _ | refine blk_drew ?_ | refine blk_alloc ?_ _));refine blk_far ?_ NB178_180.out _;(with_reducible repeat (first | refine blk_drewN ?_ _ | refine blk_drew ?_ | refine blk_alloc ?_ _));refine blk_far ?_ NB178_180.out _;(with_reducible repeat (first | refine blk_drewN ?_ _ | refine blk_drew ?_ | refine blk_alloc ?_ _));refine blk_far ?_ NB178_180.out _;(with_reducible repeat (first | refine blk_drewN ?_ _ | refine blk_drew ?_ | refine blk_alloc ?_ _));refine blk_far ?_ NB178_182.out _;(with_reducible repeat (first | refine blk_drewN ?_ _ | refine blk_drew ?_ | refine blk_alloc ?_ _));refine blk_far ?_ NB178_182.out _;(with_reducible repeat (first | refine blk_drewN ?_ _ | refine blk_drew ?_ | refine blk_alloc ?_ _));refine blk_far ?_ NB178_182.out _;(with_reducible repeat (first | refine blk_drewN ?_ _ | refine blk_drew ?_ | refine blk_alloc ?_ _));refine blk_far ?_ NB178_182.out _;(with_reducible repeat (first | refine blk_drewN ?_ _ | refine blk_drew ?_ | refine blk_alloc ?_ _));exact BK178.out⟩,⟨by (with_reducible repeat (first | refine blk_drewN ?_ _ | refine blk_drew ?_ | refine blk_alloc ?_ _));apply blkf_4_0_3;(with_reducible repeat (first | refine blk_drewN ?_ _ | refine blk_drew ?_ | refine blk_alloc ?_ _));refine blk_far ?_ NB180_182.out _;(with_reducible repeat (first | refine blk_drewN ?_ _ | refine blk_drew ?_ | refine blk_alloc ?_ _));refine blk_far ?_ NB180_182.out _;(with_reducible repeat (first | refine blk_drewN ?_ _ | refine blk_drew ?_ | refine blk_alloc ?_ _));refine blk_far ?_ NB180_182.out _;(with_reducible repeat (first | refine blk_drewN ?_ _ | refine blk_drew ?_ | refine blk_alloc ?_ _));refine blk_far ?_ NB180_182.out _;(with_reducible repeat (first | refine blk_drewN ?_ _ | refine blk_drew ?_ | refine blk_alloc ?_ _));exact BK180.out⟩,⟨by repeat (first | (with_reducible first | exact HB.out | apply below_alloc | apply pw_below_drewN | apply below_drew1 | refine below_set ?_ GE178.out | refine below_set ?_ GE180.out | refine below_set ?_ GE182.out) | exact HB.out)⟩⟩
        ·rw [if_neg c15] at H
         have c15b0 : (x181000_1 == 0) = false:=beq_eq_false_iff_ne.mpr c15
         have c15b1 : (x181000_1 != 0) = true:=bne_iff_ne.mpr c15
         by_cases c22 : ((rd_T112 l0_3 x13_1).f3) < x181003_1
         ·rw [if_pos c22] at H
          have c22b0 : decide (((rd_T112 l0_3 x13_1).f3) < x181003_1) = true:=decide_eq_true c22
          clear c22
          have H':=Aside0.mk H
          clear H
          have p181 : 0 ≤ (x13_1 : Int):=of_decide_eq_true (by first | (with_reducible assumption) | assumption)
          have q181 : x13_1 < (l0_3.length : Int):=of_decide_eq_true (by first | (with_reducible assumption) | assumption)
          obtain ⟨ad181,e181,hx181_0,hx181_1,hx181_2,hx181_3⟩:=at_T112 HR0_3.out x13_1 p181 q181
          cases e181
          replace hx181_0:=(HB.out.cell (World.block_lt_of_cell? w _ hx181_0)).trans hx181_0
          replace hx181_1:=(HB.out.cell (World.block_lt_of_cell? w _ hx181_1)).trans hx181_1
          replace hx181_2:=(HB.out.cell (World.block_lt_of_cell? w _ hx181_2)).trans hx181_2
          replace hx181_3:=(HB.out.cell (World.block_lt_of_cell? w _ hx181_3)).trans hx181_3
          replace p181:=eq_true p181
          replace q181:=eq_true q181
          go_wp2_with (first | ((with_reducible refine gate_dst (N:=5) rfl ?_);refine box_event ?hg (N:=5) ?hd (cs:=#[.int .i64 0,.int .i64 0,.int .i64 0,.int .i64 0]) (t:=112) ?hr ?_;(case hd => rfl);(case hg => rfl);(case hr => first | (go_simp;done) | (go_simp;rfl));intro gb182 hg w23 hbox hb;have n0_:=Aside0.mk (blk_below (g:=gb178) (o:=.cells #[.int .i64 a0_0,.int .i64 a0_1,.int .i64 a0_2,.slice (some ad181) l0_3.length c0_3] 69 (0,0)) (by (with_reducible repeat (first | refine blk_drewN ?_ _ | refine blk_drew ?_ | refine blk_alloc ?_ _));exact BK178.out) hb);have n1_:=Aside0.mk (blk_below (g:=gb180) (o:=.cells #[.int .i64 x181000_1,.int .i64 x181001_1,.int .i64 x181002_1,.int .i64 x181003_1] 112 (0,0)) (by (with_reducible repeat (first | refine blk_drewN ?_ _ | refine blk_drew ?_ | refine blk_alloc ?_ _));exact BK180.out) hb);have n2_:=Aside0.mk (below_step (by repeat (first | (with_reducible first | exact HB.out | apply below_alloc | apply pw_below_drewN | apply below_drew1 | refine below_set ?_ GE178.out | refine below_set ?_ GE180.out) | exact HB.out)) hb);have n3_:=Aside0.mk (hbox);have n4_:=Aside0.mk ((by rw [hg];exact (below_size (by repeat (first | (with_reducible first | exact HB.out | apply below_alloc | apply pw_below_drewN | apply below_drew1 | refine below_set ?_ GE178.out | refine below_set ?_ GE180.out) | exact HB.out))) : w.heap.size ≤ gb182));have n5_:=Aside0.mk ((by rw [hg];exact (below_size (by repeat (first | (with_reducible first | exact HB.out | apply below_alloc | apply pw_below_drewN | apply below_drew1 | refine below_set ?_ GE178.out | refine below_set ?_ GE180.out) | exact HB.out))) : w.heap.size ≤ gb182));have n6_:=Aside0.mk ((by rw [hg];exact Nat.ne_of_lt (blk_lt (g:=gb178) (o:=.cells #[.int .i64 a0_0,.int .i64 a0_1,.int .i64 a0_2,.slice (some ad181) l0_3.length c0_3] 69 (0,0)) (by (with_reducible repeat (first | refine blk_drewN ?_ _ | refine blk_drew ?_ | refine blk_alloc ?_ _));exact BK178.out)) : gb178 ≠ gb182));have n7_:=Aside0.mk ((by rw [hg];exact Nat.ne_of_gt (blk_lt (g:=gb178) (o:=.cells #[.int .i64 a0_0,.int .i64 a0_1,.int .i64 a0_2,.slice (some ad181) l0_3.length c0_3] 69 (0,0)) (by (with_reducible repeat (first | refine blk_drewN ?_ _ | refine blk_drew ?_ | refine blk_alloc ?_ _));exact BK178.out)) : gb182 ≠ gb178));have n8_:=Aside0.mk ((by rw [hg];exact Nat.ne_of_lt (blk_lt (g:=gb180) (o:=.cells #[.int .i64 x181000_1,.int .i64 x181001_1,.int .i64 x181002_1,.int .i64 x181003_1] 112 (0,0)) (by (with_reducible repeat (first | refine blk_drewN ?_ _ | refine blk_drew ?_ | refine blk_alloc ?_ _));exact BK180.out)) : gb180 ≠ gb182));have n9_:=Aside0.mk ((by rw [hg];exact Nat.ne_of_gt (blk_lt (g:=gb180) (o:=.cells #[.int .i64 x181000_1,.int .i64 x181001_1,.int .i64 x181002_1,.int .i64 x181003_1] 112 (0,0)) (by (with_reducible repeat (first | refine blk_drewN ?_ _ | refine blk_drew ?_ | refine blk_alloc ?_ _));exact BK180.out)) : gb182 ≠ gb180));clear BK178;clear BK180;clear HB;have BK178:=n0_;have BK180:=n1_;have HB:=n2_;have BK182:=n3_;have GW182:=n4_;have GE182:=n5_;have NB178_182:=n6_;have NB182_178:=n7_;have NB180_182:=n8_;have NB182_180:=n9_;clear n0_ n1_ n2_ n3_ n4_ n5_ n6_ n7_ n8_ n9_;clear hb hbox hg;have hnb24:=NB182_178.out;have hnc24:=NB178_182.out;have hnb25:=NB182_180.out;have hnc25:=NB180_182.out;obtain ⟨hcz26_0,hcz26_1,hcz26_2,hcz26_3⟩:=blkc_4 BK182.out;obtain ⟨hfz26_0,hfz26_1,hfz26_2,hfz26_3⟩:=blkz_4 BK182.out;have hnb27:=NB180_178.out;have hnc27:=NB178_180.out;obtain ⟨hcz28_0,hcz28_1,hcz28_2,hcz28_3⟩:=blkc_4 BK180.out;obtain ⟨hfz28_0,hfz28_1,hfz28_2⟩:=blkz_3 BK180.out;have hfz28_3:=blk_frozen BK180.out 3))
          go_roundg k1
          case measure => have:=HK1.out;omega
          case rel => exact ⟨(wrap64 (x13_1 + 1)),((rd_T112 l0_3 x13_1).f0),((rd_T112 l0_3 x13_1).f1),((rd_T112 l0_3 x13_1).f2),((rd_T112 l0_3 x13_1).f3),(by first | rfl | (simp;done) | (simp [*];done)),H',⟨by have:=HK1.out;omega⟩,⟨by (with_reducible repeat (first | refine blk_drewN ?_ _ | refine blk_drew ?_ | refine blk_alloc ?_ _));refine blk_far ?_ NB178_180.out _;(with_reducible repeat (first | refine blk_drewN ?_ _ | refine blk_drew ?_ | refine blk_alloc ?_ _));refine blk_far ?_ NB178_180.out _;(with_reducible repeat (first | refine blk_drewN ?_ _ | refine blk_drew ?_ | refine blk_alloc ?_ _));refine blk_far ?_ NB178_180.out _;(with_reducible repeat (first | refine blk_drewN ?_ _ | refine blk_drew ?_ | refine blk_alloc ?_ _));refine blk_far ?_ NB178_180.out _;(with_reducible repeat (first | refine blk_drewN ?_ _ | refine blk_drew ?_ | refine blk_alloc ?_ _));refine blk_far ?_ NB178_182.out _;(with_reducible repeat (first | refine blk_drewN ?_ _ | refine blk_drew ?_ | refine blk_alloc ?_ _));refine blk_far ?_ NB178_182.out _;(with_reducible repeat (first | refine blk_drewN ?_ _ | refine blk_drew ?_ | refine blk_alloc ?_ _));refine blk_far ?_ NB178_182.out _;(with_reducible repeat (first | refine blk_drewN ?_ _ | refine blk_drew ?_ | refine blk_alloc ?_ _));refine blk_far ?_ NB178_182.out _;(with_reducible repeat (first | refine blk_drewN ?_ _ | refine blk_drew ?_ | refine blk_alloc ?_ _));exact BK178.out⟩,⟨by (with_reducible repeat (first | refine blk_drewN ?_ _ | refine blk_drew ?_ | refine blk_alloc ?_ _));apply blkf_4_0_3;(with_reducible repeat (first | refine blk_drewN ?_ _ | refine blk_drew ?_ | refine blk_alloc ?_ _));refine blk_far ?_ NB180_182.out _;(with_reducible repeat (first | refine blk_drewN ?_ _ | refine blk_drew ?_ | refine blk_alloc ?_ _));refine blk_far ?_ NB180_182.out _;(with_reducible repeat (first | refine blk_drewN ?_ _ | refine blk_drew ?_ | refine blk_alloc ?_ _));refine blk_far ?_ NB180_182.out _;(with_reducible repeat (first | refine blk_drewN ?_ _ | refine blk_drew ?_ | refine blk_alloc ?_ _));refine blk_far ?_ NB180_182.out _;(with_reducible repeat (first | refine blk_drewN ?_ _ | refine blk_drew ?_ | refine blk_alloc ?_ _));exact BK180.out⟩,⟨by repeat (first | (with_reducible first | exact HB.out | apply below_alloc | apply pw_below_drewN | apply below_drew1 | refine below_set ?_ GE178.out | refine below_set ?_ GE180.out | refine below_set ?_ GE182.out) | exact HB.out)⟩⟩
         ·rw [if_neg c22] at H
          have c22b0 : decide (((rd_T112 l0_3 x13_1).f3) < x181003_1) = false:=decide_eq_false c22
          clear c22
          have H':=Aside0.mk H
          clear H
          have p181 : 0 ≤ (x13_1 : Int):=of_decide_eq_true (by first | (with_reducible assumption) | assumption)
          have q181 : x13_1 < (l0_3.length : Int):=of_decide_eq_true (by first | (with_reducible assumption) | assumption)
          obtain ⟨ad181,e181,hx181_0,hx181_1,hx181_2,hx181_3⟩:=at_T112 HR0_3.out x13_1 p181 q181
          cases e181
          replace hx181_0:=(HB.out.cell (World.block_lt_of_cell? w _ hx181_0)).trans hx181_0
          replace hx181_1:=(HB.out.cell (World.block_lt_of_cell? w _ hx181_1)).trans hx181_1
          replace hx181_2:=(HB.out.cell (World.block_lt_of_cell? w _ hx181_2)).trans hx181_2
          replace hx181_3:=(HB.out.cell (World.block_lt_of_cell? w _ hx181_3)).trans hx181_3
          replace p181:=eq_true p181
          replace q181:=eq_true q181
          go_wp2_with (first | ((with_reducible refine gate_dst (N:=5) rfl ?_);refine box_event ?hg (N:=5) ?hd (cs:=#[.int .i64 0,.int .i64 0,.int .i64 0,.int .i64 0]) (t:=112) ?hr ?_;(case hd => rfl);(case hg => rfl);(case hr => first | (go_simp;done) | (go_simp;rfl));intro gb182 hg w29 hbox hb;have n0_:=Aside0.mk (blk_below (g:=gb178) (o:=.cells #[.int .i64 a0_0,.int .i64 a0_1,.int .i64 a0_2,.slice (some ad181) l0_3.length c0_3] 69 (0,0)) (by (with_reducible repeat (first | refine blk_drewN ?_ _ | refine blk_drew ?_ | refine blk_alloc ?_ _));exact BK178.out) hb);have n1_:=Aside0.mk (blk_below (g:=gb180) (o:=.cells #[.int .i64 x181000_1,.int .i64 x181001_1,.int .i64 x181002_1,.int .i64 x181003_1] 112 (0,0)) (by (with_reducible repeat (first | refine blk_drewN ?_ _ | refine blk_drew ?_ | refine blk_alloc ?_ _));exact BK180.out) hb);have n2_:=Aside0.mk (below_step (by repeat (first | (with_reducible first | exact HB.out | apply below_alloc | apply pw_below_drewN | apply below_drew1 | refine below_set ?_ GE178.out | refine below_set ?_ GE180.out) | exact HB.out)) hb);have n3_:=Aside0.mk (hbox);have n4_:=Aside0.mk ((by rw [hg];exact (below_size (by repeat (first | (with_reducible first | exact HB.out | apply below_alloc | apply pw_below_drewN | apply below_drew1 | refine below_set ?_ GE178.out | refine below_set ?_ GE180.out) | exact HB.out))) : w.heap.size ≤ gb182));have n5_:=Aside0.mk ((by rw [hg];exact (below_size (by repeat (first | (with_reducible first | exact HB.out | apply below_alloc | apply pw_below_drewN | apply below_drew1 | refine below_set ?_ GE178.out | refine below_set ?_ GE180.out) | exact HB.out))) : w.heap.size ≤ gb182));have n6_:=Aside0.mk ((by rw [hg];exact Nat.ne_of_lt (blk_lt (g:=gb178) (o:=.cells #[.int .i64 a0_0,.int .i64 a0_1,.int .i64 a0_2,.slice (some ad181) l0_3.length c0_3] 69 (0,0)) (by (with_reducible repeat (first | refine blk_drewN ?_ _ | refine blk_drew ?_ | refine blk_alloc ?_ _));exact BK178.out)) : gb178 ≠ gb182));have n7_:=Aside0.mk ((by rw [hg];exact Nat.ne_of_gt (blk_lt (g:=gb178) (o:=.cells #[.int .i64 a0_0,.int .i64 a0_1,.int .i64 a0_2,.slice (some ad181) l0_3.length c0_3] 69 (0,0)) (by (with_reducible repeat (first | refine blk_drewN ?_ _ | refine blk_drew ?_ | refine blk_alloc ?_ _));exact BK178.out)) : gb182 ≠ gb178));have n8_:=Aside0.mk ((by rw [hg];exact Nat.ne_of_lt (blk_lt (g:=gb180) (o:=.cells #[.int .i64 x181000_1,.int .i64 x181001_1,.int .i64 x181002_1,.int .i64 x181003_1] 112 (0,0)) (by (with_reducible repeat (first | refine blk_drewN ?_ _ | refine blk_drew ?_ | refine blk_alloc ?_ _));exact BK180.out)) : gb180 ≠ gb182));have n9_:=Aside0.mk ((by rw [hg];exact Nat.ne_of_gt (blk_lt (g:=gb180) (o:=.cells #[.int .i64 x181000_1,.int .i64 x181001_1,.int .i64 x181002_1,.int .i64 x181003_1] 112 (0,0)) (by (with_reducible repeat (first | refine blk_drewN ?_ _ | refine blk_drew ?_ | refine blk_alloc ?_ _));exact BK180.out)) : gb182 ≠ gb180));clear BK178;clear BK180;clear HB;have BK178:=n0_;have BK180:=n1_;have HB:=n2_;have BK182:=n3_;have GW182:=n4_;have GE182:=n5_;have NB178_182:=n6_;have NB182_178:=n7_;have NB180_182:=n8_;have NB182_180:=n9_;clear n0_ n1_ n2_ n3_ n4_ n5_ n6_ n7_ n8_ n9_;clear hb hbox hg;have hnb30:=NB182_178.out;have hnc30:=NB178_182.out;have hnb31:=NB182_180.out;have hnc31:=NB180_182.out;obtain ⟨hcz32_0,hcz32_1,hcz32_2,hcz32_3⟩:=blkc_4 BK182.out;obtain ⟨hfz32_0,hfz32_1,hfz32_2,hfz32_3⟩:=blkz_4 BK182.out;have hnb33:=NB180_178.out;have hnc33:=NB178_180.out;obtain ⟨hcz34_0,hcz34_1,hcz34_2,hcz34_3⟩:=blkc_4 BK180.out;obtain ⟨hfz34_0,hfz34_1,hfz34_2⟩:=blkz_3 BK180.out;have hfz34_3:=blk_frozen BK180.out 3))
          go_roundg k1
          case measure => have:=HK1.out;omega
          case rel => exact ⟨(wrap64 (x13_1 + 1)),(x181000_1),(x181001_1),(x181002_1),(x181003_1),(by first | rfl | (simp;done) | (simp [*];done)),H',⟨by have:=HK1.out;omega⟩,⟨by (with_reducible repeat (first | refine blk_drewN ?_ _ | refine blk_drew ?_ | refine blk_alloc ?_ _));refine blk_far ?_ NB178_182.out _;(with_reducible repeat (first | refine blk_drewN ?_ _ | refine blk_drew ?_ | refine blk_alloc ?_ _));refine blk_far ?_ NB178_182.out _;(with_reducible repeat (first | refine blk_drewN ?_ _ | refine blk_drew ?_ | refine blk_alloc ?_ _));refine blk_far ?_ NB178_182.out _;(with_reducible repeat (first | refine blk_drewN ?_ _ | refine blk_drew ?_ | refine blk_alloc ?_ _));refine blk_far ?_ NB178_182.out _;(with_reducible repeat (first | refine blk_drewN ?_ _ | refine blk_drew ?_ | refine blk_alloc ?_ _));exact BK178.out⟩,⟨by (with_reducible repeat (first | refine blk_drewN ?_ _ | refine blk_drew ?_ | refine blk_alloc ?_ _));refine blk_far ?_ NB180_182.out _;(with_reducible repeat (first | refine blk_drewN ?_ _ | refine blk_drew ?_ | refine blk_alloc ?_ _));refine blk_far ?_ NB180_182.out _;(with_reducible repeat (first | refine blk_drewN ?_ _ | refine blk_drew ?_ | refine blk_alloc ?_ _));refine blk_far ?_ NB180_182.out _;(with_reducible repeat (first | refine blk_drewN ?_ _ | refine blk_drew ?_ | refine blk_alloc ?_ _));refine blk_far ?_ NB180_182.out _;(with_reducible repeat (first | refine blk_drewN ?_ _ | refine blk_drew ?_ | refine blk_alloc ?_ _));exact BK180.out⟩,⟨by repeat (first | (with_reducible first | exact HB.out | apply below_alloc | apply pw_below_drewN | apply below_drew1 | refine below_set ?_ GE178.out | refine below_set ?_ GE180.out | refine below_set ?_ GE182.out) | exact HB.out)⟩⟩
       ·rw [if_neg c14] at H
        have c14b0 : (((rd_T112 l0_3 x13_1).f1) == 2) = false:=beq_eq_false_iff_ne.mpr c14
        have c14b1 : (((rd_T112 l0_3 x13_1).f1) != 2) = true:=bne_iff_ne.mpr c14
        have H':=Aside0.mk H
        clear H
        have p181 : 0 ≤ (x13_1 : Int):=of_decide_eq_true (by first | (with_reducible assumption) | assumption)
        have q181 : x13_1 < (l0_3.length : Int):=of_decide_eq_true (by first | (with_reducible assumption) | assumption)
        obtain ⟨ad181,e181,hx181_0,hx181_1,hx181_2,hx181_3⟩:=at_T112 HR0_3.out x13_1 p181 q181
        cases e181
        replace hx181_0:=(HB.out.cell (World.block_lt_of_cell? w _ hx181_0)).trans hx181_0
        replace hx181_1:=(HB.out.cell (World.block_lt_of_cell? w _ hx181_1)).trans hx181_1
        replace hx181_2:=(HB.out.cell (World.block_lt_of_cell? w _ hx181_2)).trans hx181_2
        replace hx181_3:=(HB.out.cell (World.block_lt_of_cell? w _ hx181_3)).trans hx181_3
        replace p181:=eq_true p181
        replace q181:=eq_true q181
        go_wp2_with (first | ((with_reducible refine gate_dst (N:=5) rfl ?_);refine box_event ?hg (N:=5) ?hd (cs:=#[.int .i64 0,.int .i64 0,.int .i64 0,.int .i64 0]) (t:=112) ?hr ?_;(case hd => rfl);(case hg => rfl);(case hr => first | (go_simp;done) | (go_simp;rfl));intro gb182 hg w35 hbox hb;have n0_:=Aside0.mk (blk_below (g:=gb178) (o:=.cells #[.int .i64 a0_0,.int .i64 a0_1,.int .i64 a0_2,.slice (some ad181) l0_3.length c0_3] 69 (0,0)) (by (with_reducible repeat (first | refine blk_drewN ?_ _ | refine blk_drew ?_ | refine blk_alloc ?_ _));exact BK178.out) hb);have n1_:=Aside0.mk (blk_below (g:=gb180) (o:=.cells #[.int .i64 x181000_1,.int .i64 x181001_1,.int .i64 x181002_1,.int .i64 x181003_1] 112 (0,0)) (by (with_reducible repeat (first | refine blk_drewN ?_ _ | refine blk_drew ?_ | refine blk_alloc ?_ _));exact BK180.out) hb);have n2_:=Aside0.mk (below_step (by repeat (first | (with_reducible first | exact HB.out | apply below_alloc | apply pw_below_drewN | apply below_drew1 | refine below_set ?_ GE178.out | refine below_set ?_ GE180.out) | exact HB.out)) hb);have n3_:=Aside0.mk (hbox);have n4_:=Aside0.mk ((by rw [hg];exact (below_size (by repeat (first | (with_reducible first | exact HB.out | apply below_alloc | apply pw_below_drewN | apply below_drew1 | refine below_set ?_ GE178.out | refine below_set ?_ GE180.out) | exact HB.out))) : w.heap.size ≤ gb182));have n5_:=Aside0.mk ((by rw [hg];exact (below_size (by repeat (first | (with_reducible first | exact HB.out | apply below_alloc | apply pw_below_drewN | apply below_drew1 | refine below_set ?_ GE178.out | refine below_set ?_ GE180.out) | exact HB.out))) : w.heap.size ≤ gb182));have n6_:=Aside0.mk ((by rw [hg];exact Nat.ne_of_lt (blk_lt (g:=gb178) (o:=.cells #[.int .i64 a0_0,.int .i64 a0_1,.int .i64 a0_2,.slice (some ad181) l0_3.length c0_3] 69 (0,0)) (by (with_reducible repeat (first | refine blk_drewN ?_ _ | refine blk_drew ?_ | refine blk_alloc ?_ _));exact BK178.out)) : gb178 ≠ gb182));have n7_:=Aside0.mk ((by rw [hg];exact Nat.ne_of_gt (blk_lt (g:=gb178) (o:=.cells #[.int .i64 a0_0,.int .i64 a0_1,.int .i64 a0_2,.slice (some ad181) l0_3.length c0_3] 69 (0,0)) (by (with_reducible repeat (first | refine blk_drewN ?_ _ | refine blk_drew ?_ | refine blk_alloc ?_ _));exact BK178.out)) : gb182 ≠ gb178));have n8_:=Aside0.mk ((by rw [hg];exact Nat.ne_of_lt (blk_lt (g:=gb180) (o:=.cells #[.int .i64 x181000_1,.int .i64 x181001_1,.int .i64 x181002_1,.int .i64 x181003_1] 112 (0,0)) (by (with_reducible repeat (first | refine blk_drewN ?_ _ | refine blk_drew ?_ | refine blk_alloc ?_ _));exact BK180.out)) : gb180 ≠ gb182));have n9_:=Aside0.mk ((by rw [hg];exact Nat.ne_of_gt (blk_lt (g:=gb180) (o:=.cells #[.int .i64 x181000_1,.int .i64 x181001_1,.int .i64 x181002_1,.int .i64 x181003_1] 112 (0,0)) (by (with_reducible repeat (first | refine blk_drewN ?_ _ | refine blk_drew ?_ | refine blk_alloc ?_ _));exact BK180.out)) : gb182 ≠ gb180));clear BK178;clear BK180;clear HB;have BK178:=n0_;have BK180:=n1_;have HB:=n2_;have BK182:=n3_;have GW182:=n4_;have GE182:=n5_;have NB178_182:=n6_;have NB182_178:=n7_;have NB180_182:=n8_;have NB182_180:=n9_;clear n0_ n1_ n2_ n3_ n4_ n5_ n6_ n7_ n8_ n9_;clear hb hbox hg;have hnb36:=NB182_178.out;have hnc36:=NB178_182.out;have hnb37:=NB182_180.out;have hnc37:=NB180_182.out;obtain ⟨hcz38_0,hcz38_1,hcz38_2,hcz38_3⟩:=blkc_4 BK182.out;obtain ⟨hfz38_0,hfz38_1,hfz38_2⟩:=blkz_3 BK182.out;have hfz38_3:=blk_frozen BK182.out 3))
        go_roundg k1
        case measure => have:=HK1.out;omega
        case rel => exact ⟨(wrap64 (x13_1 + 1)),(x181000_1),(x181001_1),(x181002_1),(x181003_1),(by first | rfl | (simp;done) | (simp [*];done)),H',⟨by have:=HK1.out;omega⟩,⟨by (with_reducible repeat (first | refine blk_drewN ?_ _ | refine blk_drew ?_ | refine blk_alloc ?_ _));refine blk_far ?_ NB178_182.out _;(with_reducible repeat (first | refine blk_drewN ?_ _ | refine blk_drew ?_ | refine blk_alloc ?_ _));refine blk_far ?_ NB178_182.out _;(with_reducible repeat (first | refine blk_drewN ?_ _ | refine blk_drew ?_ | refine blk_alloc ?_ _));refine blk_far ?_ NB178_182.out _;(with_reducible repeat (first | refine blk_drewN ?_ _ | refine blk_drew ?_ | refine blk_alloc ?_ _));refine blk_far ?_ NB178_182.out _;(with_reducible repeat (first | refine blk_drewN ?_ _ | refine blk_drew ?_ | refine blk_alloc ?_ _));exact BK178.out⟩,⟨by (with_reducible repeat (first | refine blk_drewN ?_ _ | refine blk_drew ?_ | refine blk_alloc ?_ _));refine blk_far ?_ NB180_182.out _;(with_reducible repeat (first | refine blk_drewN ?_ _ | refine blk_drew ?_ | refine blk_alloc ?_ _));refine blk_far ?_ NB180_182.out _;(with_reducible repeat (first | refine blk_drewN ?_ _ | refine blk_drew ?_ | refine blk_alloc ?_ _));refine blk_far ?_ NB180_182.out _;(with_reducible repeat (first | refine blk_drewN ?_ _ | refine blk_drew ?_ | refine blk_alloc ?_ _));refine blk_far ?_ NB180_182.out _;(with_reducible repeat (first | refine blk_drewN ?_ _ | refine blk_drew ?_ | refine blk_alloc ?_ _));exact BK180.out⟩,⟨by repeat (first | (with_reducible first | exact HB.out | apply below_alloc | apply pw_below_drewN | apply below_drew1 | refine below_set ?_ GE178.out | refine below_set ?_ GE180.out | refine below_set ?_ GE182.out) | exact HB.out)⟩⟩
      ·rw [if_neg c13] at H
       exact absurd H (by simp)
     ·rw [if_neg c12] at H
      exact absurd H (by simp)
    ·rw [if_neg c11] at H
     have c11b0 : decide (x13_1 < (l0_3.length : Int)) = false:=decide_eq_false c11
     clear c11
     obtain rfl:=Option.some.inj H
     have hnb39:=NB180_178.out
     have hnc39:=NB178_180.out
     obtain ⟨hcz40_0,hcz40_1,hcz40_2,hcz40_3⟩:=blkc_4 BK180.out
     obtain ⟨hfz40_0,hfz40_1,hfz40_2,hfz40_3⟩:=blkz_4 BK180.out
     go_wp2
     go_ret
     exact ⟨by first | rfl | (simp [errW_none,errW_some] <;> rfl) | (simp [*,errW_none,errW_some] <;> rfl),by repeat (first | (with_reducible first | exact HB.out | apply below_alloc | apply pw_below_drewN | apply below_drew1 | refine below_set ?_ GE178.out | refine below_set ?_ GE180.out) | exact HB.out)⟩
 ·rw [if_neg c3] at H
  have c3b0 : (t179 == 0) = false:=beq_eq_false_iff_ne.mpr c3
  have c3b1 : (t179 != 0) = true:=bne_iff_ne.mpr c3
  have HC41:=Aside0.mk H
  clear H
  go_enter Try.func43,Try.ntmps43
  go_upto_region 2 with (first | ((with_reducible refine gate_dst (N:=1) rfl ?_);refine box_event ?hg (N:=1) ?hd (cs:=#[.int .i64 a0_0,.int .i64 a0_1,.int .i64 a0_2,.slice A0_3 l0_3.length c0_3]) (t:=69) ?hr ?_;(case hd => rfl);(case hg => rfl);(case hr => first | (go_simp;done) | (go_simp;rfl));intro gb178 hg w42 hbox hb;have n0_:=Aside0.mk (below_step (by repeat (first | (with_reducible first | exact HB.out | apply below_alloc | apply pw_below_drewN | apply below_drew1) | exact HB.out)) hb);have n1_:=Aside0.mk (hbox);have n2_:=Aside0.mk ((by rw [hg];exact (below_size (by repeat (first | (with_reducible first | exact HB.out | apply below_alloc | apply pw_below_drewN | apply below_drew1) | exact HB.out))) : w.heap.size ≤ gb178));have n3_:=Aside0.mk ((by rw [hg];exact (below_size (by repeat (first | (with_reducible first | exact HB.out | apply below_alloc | apply pw_below_drewN | apply below_drew1) | exact HB.out))) : w.heap.size ≤ gb178));clear HB;have HB:=n0_;have BK178:=n1_;have GW178:=n2_;have GE178:=n3_;clear n0_ n1_ n2_ n3_;clear hb hbox hg;obtain ⟨hcz43_0,hcz43_1,hcz43_2,hcz43_3⟩:=blkc_4 BK178.out;obtain ⟨hfz43_0,hfz43_1,hfz43_2⟩:=blkz_3 BK178.out;have hfz43_3:=blk_frozen BK178.out 3) | ((with_reducible refine gate_callee (f:=64) rfl ?_);refine goesL_ (some 7) rfl rfl Try.func64 (by kernel_rfl) rfl #[.agg #[.int .i64 a0_0,.int .i64 a0_1,.int .i64 a0_2,.slice A0_3 l0_3.length c0_3]] rfl (by (try simp only [List.map_toArray,List.map_cons,List.map_nil]);first | done | rfl | (simp only [List.length_drop,List.length_take];rfl)) ?_;(with_reducible refine (table_Check.calls k a0_0 a0_1 a0_2 _ _ l0_3 t179 _ ?side1 ?side2 A2.out).mono ?_);(case side1 => repeat (first | exact (Kd.C_below HR0_3.out HB.out) | (with_reducible refine Kd.C_alloc ?_ _) | (with_reducible refine Kd.C_drewN ?_ _) | (with_reducible refine Kd.C_drew ?_)));(case side2 => exact HC0_3.out);rintro e w44 ⟨rfl,hb⟩;refine ⟨_,rfl,?_⟩;have n0_:=Aside0.mk (blk_below (g:=gb178) (o:=.cells #[.int .i64 a0_0,.int .i64 a0_1,.int .i64 a0_2,.slice A0_3 l0_3.length c0_3] 69 (0,0)) (by (with_reducible repeat (first | refine blk_drewN ?_ _ | refine blk_drew ?_ | refine blk_alloc ?_ _));exact BK178.out) hb);have n1_:=Aside0.mk (below_step (by repeat (first | (with_reducible first | exact HB.out | apply below_alloc | apply pw_below_drewN | apply below_drew1 | refine below_set ?_ GE178.out) | exact HB.out)) hb);clear BK178;clear HB;have BK178:=n0_;have HB:=n1_;clear n0_ n1_;(try clear hb);(try clear hb2);(try clear hk);(try clear hi)))
  (try simp only [Act.put,List.setIfInBounds_toArray,List.set_cons_zero,List.set_cons_succ])
  go_cut [2] (fun v2 wc => ∃ (kq : Nat) (x2_40 : Int),v2 = .int .i64 x2_40 ∧ Aside0 (table_Eldest.j0 kq x2_40 = some r) ∧ Aside0 (kq ≤ k) ∧ Aside0 (wc.heap[gb178]? = some (.cells #[.int .i64 a0_0,.int .i64 a0_1,.int .i64 a0_2,(.slice A0_3 l0_3.length c0_3)] 69 (0,0))) ∧ Aside0 (Below w.heap.size w wc))
  case first =>
   have H:=HC41.out
   clear HC41
   have H':=Aside0.mk H
   clear H
   go_wp2
   go_meet
   case rel => exact ⟨_,(0),(by first | rfl | (simp;done) | (simp [*];done)),H',⟨by first | omega | exact Nat.le_refl _⟩,⟨by (with_reducible repeat (first | refine blk_drewN ?_ _ | refine blk_drew ?_ | refine blk_alloc ?_ _));exact BK178.out⟩,⟨by repeat (first | (with_reducible first | exact HB.out | apply below_alloc | apply pw_below_drewN | apply below_drew1 | refine below_set ?_ GE178.out) | exact HB.out)⟩⟩
  case rest =>
   clear HC41
   try clear c1
   try clear p1
   try clear q1
   try clear hx1
   try clear c2
   try clear p2
   try clear c3
   try clear c3b0
   try clear c3b1
   try clear c4
   try clear c6
   try clear p6
   try clear c8
   try clear c11
   try clear c11b0
   try clear c12
   try clear c12b0
   try clear c13
   try clear c13b0
   try clear c14
   try clear c14b0
   try clear c14b1
   try clear c15
   try clear c15b0
   try clear c15b1
   try clear c17
   try clear c18
   try clear p18
   try clear q18
   try clear hx18
   try clear c20
   try clear c22
   try clear c22b0
   try clear c24
   try clear c25
   try clear c27
   try clear c30
   try clear c31
   try clear c33
   try clear c36
   try clear c37
   try clear c39
   try clear c43
   try clear hcz10_0
   try clear hcz10_1
   try clear hcz10_2
   try clear hcz10_3
   try clear hcz19_0
   try clear hcz19_1
   try clear hcz19_2
   try clear hcz19_3
   try clear hcz21_0
   try clear hcz21_1
   try clear hcz21_2
   try clear hcz21_3
   try clear hcz26_0
   try clear hcz26_1
   try clear hcz26_2
   try clear hcz26_3
   try clear hcz28_0
   try clear hcz28_1
   try clear hcz28_2
   try clear hcz28_3
   try clear hcz32_0
   try clear hcz32_1
   try clear hcz32_2
   try clear hcz32_3
   try clear hcz34_0
   try clear hcz34_1
   try clear hcz34_2
   try clear hcz34_3
   try clear hcz38_0
   try clear hcz38_1
   try clear hcz38_2
   try clear hcz38_3
   try clear hcz40_0
   try clear hcz40_1
   try clear hcz40_2
   try clear hcz40_3
   try clear hcz43_0
   try clear hcz43_1
   try clear hcz43_2
   try clear hcz43_3
   try clear hcz5_0
   try clear hcz5_1
   try clear hcz5_2
   try clear hcz5_3
   try clear hcz9_0
   try clear hcz9_1
   try clear hcz9_2
   try clear hcz9_3
   try clear hfz10_0
   try clear hfz10_1
   try clear hfz10_2
   try clear hfz10_3
   try clear hfz19_0
   try clear hfz19_1
   try clear hfz19_2
   try clear hfz19_3
   try clear hfz21_0
   try clear hfz21_1
   try clear hfz21_2
   try clear hfz21_3
   try clear hfz26_0
   try clear hfz26_1
   try clear hfz26_2
   try clear hfz26_3
   try clear hfz28_0
   try clear hfz28_1
   try clear hfz28_2
   try clear hfz28_3
   try clear hfz32_0
   try clear hfz32_1
   try clear hfz32_2
   try clear hfz32_3
   try clear hfz34_0
   try clear hfz34_1
   try clear hfz34_2
   try clear hfz34_3
   try clear hfz38_0
   try clear hfz38_1
   try clear hfz38_2
   try clear hfz38_3
   try clear hfz40_0
   try clear hfz40_1
   try clear hfz40_2
   try clear hfz40_3
   try clear hfz43_0
   try clear hfz43_1
   try clear hfz43_2
   try clear hfz43_3
   try clear hfz5_0
   try clear hfz5_1
   try clear hfz5_2
   try clear hfz5_3
   try clear hfz9_0
   try clear hfz9_1
   try clear hfz9_2
   try clear hfz9_3
   try clear hx181_0
   try clear hx181_1
   try clear hx181_2
   try clear hx181_3
   try clear p181
   try clear p2
   try clear q181
   obtain ⟨kq,x2_40,rfl,HA,HJ40,BK178,HB⟩:=hcut
   cases kq with
   | zero => exact absurd HA.out (by simp [table_Eldest.j0])
   | succ kj40 =>
    have H:=HA.out
    clear HA
    simp only [table_Eldest.j0] at H
    obtain rfl:=Option.some.inj H
    go_wp2
    go_ret
    exact ⟨by first | rfl | (simp [errW_none,errW_some] <;> rfl) | (simp [*,errW_none,errW_some] <;> rfl),by repeat (first | (with_reducible first | exact HB.out | apply below_alloc | apply pw_below_drewN | apply below_drew1 | refine below_set ?_ GE178.out) | exact HB.out)⟩
end Go.Proofs.Ytbmcbhpkefjhbaa.P
namespace Go.Proofs.Ytbmcbhpkefjhbaa.P
open Go.RowKit Go.Proofs.YtbmcbhpkefjhbaaW.PrintWords Go.Proofs.YtbmcbhpkefjhbaaW.PrintLast Go.Proofs.YtbmcbhpkefjhbaaW.PrintMore
attribute [local go_sem] max2_int min2_int max_two min_two max_three min_three max_four min_four   -- for this text's walks alone
attribute [local go_sem] run_store_float
set_option linter.unusedVariables false
set_option linter.unusedSimpArgs false
def humuslaw11_awake.j0 : Nat → Bool → Option (Bool)
 | 0,_ => none
 | k + 1,x0 => some x0
def humuslaw11_awake.f (k : Nat)  : Option (Bool):=(table_First.f).bind fun bt183 => ((table_Enter.f k bt183.1 bt183.2.1 bt183.2.2.1 bt183.2.2.2 5).bind fun bt189 => ((table_Commit.f k bt189.1 bt189.2.1 bt189.2.2.1 bt189.2.2.2.1 5).bind fun bt198 => (if bt189.2.2.2.2.2 = 0 then (if bt198.2.2.2.2.2 = 0 then (if bt189.2.2.2.2.1 = 0 then (if bt198.2.2.2.2.1 = 1 then (if bt198.1 = 6 then ((table_Eldest.f k bt198.1 bt198.2.1 bt198.2.2.1 bt198.2.2.2.1).bind fun t206 => (humuslaw11_awake.j0 k (t206 == 5))) else (humuslaw11_awake.j0 k false)) else (humuslaw11_awake.j0 k false)) else (humuslaw11_awake.j0 k false)) else (humuslaw11_awake.j0 k false)) else (humuslaw11_awake.j0 k false))))
theorem humuslaw11_awake.mono_l : ∀ k,(∀ y0,LeO (humuslaw11_awake.j0 k y0) (humuslaw11_awake.j0 (k + 1) y0))
 | 0 => fun _ r h => by simp [humuslaw11_awake.j0] at h
 | k + 1 => by
  have ih0:=humuslaw11_awake.mono_l k
  ·intro y0
   unfold humuslaw11_awake.j0
   repeat' first
   | (with_reducible exact ih0 _)
   | (with_reducible exact table_Commit.mono _ _ _ _ _ _)
   | (with_reducible exact table_Eldest.mono _ _ _ _ _)
   | (with_reducible exact table_Enter.mono _ _ _ _ _ _)
   | (with_reducible exact LeO.refl _)
   | (with_reducible exact LeO.none _)
   | (with_reducible refine LeO.ite ?_ ?_)
   | (with_reducible refine LeO.bind ?_ (fun _ => ?_))
   | exact ih0 _
   | exact table_Commit.mono _ _ _ _ _ _
   | exact table_Eldest.mono _ _ _ _ _
   | exact table_Enter.mono _ _ _ _ _ _
   | exact LeO.none _
   | refine LeO.ite ?_ ?_
   | refine LeO.bind ?_ (fun _ => ?_)
theorem humuslaw11_awake.mono : ∀ k,LeO (humuslaw11_awake.f k ) (humuslaw11_awake.f (k + 1) ):=by
 intro  k
 have ih0:=humuslaw11_awake.mono_l k
 unfold humuslaw11_awake.f
 repeat' first
   | (with_reducible exact ih0 _)
   | (with_reducible exact table_Commit.mono _ _ _ _ _ _)
   | (with_reducible exact table_Eldest.mono _ _ _ _ _)
   | (with_reducible exact table_Enter.mono _ _ _ _ _ _)
   | (with_reducible exact LeO.refl _)
   | (with_reducible exact LeO.none _)
   | (with_reducible refine LeO.ite ?_ ?_)
   | (with_reducible refine LeO.bind ?_ (fun _ => ?_))
   | exact ih0 _
   | exact table_Commit.mono _ _ _ _ _ _
   | exact table_Eldest.mono _ _ _ _ _
   | exact table_Enter.mono _ _ _ _ _ _
   | exact LeO.none _
   | refine LeO.ite ?_ ?_
   | refine LeO.bind ?_ (fun _ => ?_)
set_option maxHeartbeats 8000000 in
set_option maxRecDepth 100000 in
theorem humuslaw11_awake.calls (k : Nat)  (r : Bool) (w : World) (h : humuslaw11_awake.f k  = some r) :
  Calls Try.prog 39 #[] w fun e w' => e = .returned (.bool r) ∧ Below w.heap.size w w':=by
 have hu69:=Try.underlying69
 have HB:=Aside0.mk (Below.refl w.heap.size w)
 have H : ((table_First.f).bind fun bt183 => ((table_Enter.f k bt183.1 bt183.2.1 bt183.2.2.1 bt183.2.2.2 5).bind fun bt189 => ((table_Commit.f k bt189.1 bt189.2.1 bt189.2.2.1 bt189.2.2.2.1 5).bind fun bt198 => (if bt189.2.2.2.2.2 = 0 then (if bt198.2.2.2.2.2 = 0 then (if bt189.2.2.2.2.1 = 0 then (if bt198.2.2.2.2.1 = 1 then (if bt198.1 = 6 then ((table_Eldest.f k bt198.1 bt198.2.1 bt198.2.2.1 bt198.2.2.2.1).bind fun t206 => (humuslaw11_awake.j0 k (t206 == 5))) else (humuslaw11_awake.j0 k false)) else (humuslaw11_awake.j0 k false)) else (humuslaw11_awake.j0 k false)) else (humuslaw11_awake.j0 k false)) else (humuslaw11_awake.j0 k false))))) = some r:=h
 clear h
 replace H:=Option.bind_eq_some_iff.mp H
 obtain ⟨⟨t183,t184,t185,t186⟩,A10,H⟩:=H
 replace H : ((table_Enter.f k t183 t184 t185 t186 5).bind fun bt189 => ((table_Commit.f k bt189.1 bt189.2.1 bt189.2.2.1 bt189.2.2.2.1 5).bind fun bt198 => (if bt189.2.2.2.2.2 = 0 then (if bt198.2.2.2.2.2 = 0 then (if bt189.2.2.2.2.1 = 0 then (if bt198.2.2.2.2.1 = 1 then (if bt198.1 = 6 then ((table_Eldest.f k bt198.1 bt198.2.1 bt198.2.2.1 bt198.2.2.2.1).bind fun t206 => (humuslaw11_awake.j0 k (t206 == 5))) else (humuslaw11_awake.j0 k false)) else (humuslaw11_awake.j0 k false)) else (humuslaw11_awake.j0 k false)) else (humuslaw11_awake.j0 k false)) else (humuslaw11_awake.j0 k false)))) = some r:=H
 have A1:=Aside0.mk A10
 clear A10
 replace H:=Option.bind_eq_some_iff.mp H
 obtain ⟨⟨t189,t190,t191,t192,t195,t196⟩,A20,H⟩:=H
 replace H : ((table_Commit.f k t189 t190 t191 t192 5).bind fun bt198 => (if t196 = 0 then (if bt198.2.2.2.2.2 = 0 then (if t195 = 0 then (if bt198.2.2.2.2.1 = 1 then (if bt198.1 = 6 then ((table_Eldest.f k bt198.1 bt198.2.1 bt198.2.2.1 bt198.2.2.2.1).bind fun t206 => (humuslaw11_awake.j0 k (t206 == 5))) else (humuslaw11_awake.j0 k false)) else (humuslaw11_awake.j0 k false)) else (humuslaw11_awake.j0 k false)) else (humuslaw11_awake.j0 k false)) else (humuslaw11_awake.j0 k false))) = some r:=H
 have A2:=Aside0.mk A20
 clear A20
 replace H:=Option.bind_eq_some_iff.mp H
 obtain ⟨⟨t198,t199,t200,t201,t204,t205⟩,A30,H⟩:=H
 replace H : (if t196 = 0 then (if t205 = 0 then (if t195 = 0 then (if t204 = 1 then (if t198 = 6 then ((table_Eldest.f k t198 t199 t200 t201).bind fun t206 => (humuslaw11_awake.j0 k (t206 == 5))) else (humuslaw11_awake.j0 k false)) else (humuslaw11_awake.j0 k false)) else (humuslaw11_awake.j0 k false)) else (humuslaw11_awake.j0 k false)) else (humuslaw11_awake.j0 k false)) = some r:=H
 have A3:=Aside0.mk A30
 clear A30
 have HC4:=Aside0.mk H
 clear H
 go_enter Try.func39,Try.ntmps39
 go_upto_region 3 with (first | ((with_reducible refine gate_callee (f:=36) rfl ?_);refine goesL_ (some 7) rfl rfl Try.func36 (by kernel_rfl) rfl #[] rfl (by (try simp only [List.map_toArray,List.map_cons,List.map_nil]);first | done | rfl | (simp only [List.length_drop,List.length_take];rfl)) ?_;(with_reducible refine (table_First.calls  t183 t184 t185 t186 _ A1.out).mono ?_);rintro e w5 ⟨v187,rfl,ho0,hb⟩;refine ⟨_,rfl,?_⟩;have n0_:=Aside0.mk (Kd.R_lower ho0 (below_size (by repeat (first | (with_reducible first | exact HB.out | apply below_alloc | apply pw_below_drewN | apply below_drew1) | exact HB.out))));have n1_:=Aside0.mk (below_step (by repeat (first | (with_reducible first | exact HB.out | apply below_alloc | apply pw_below_drewN | apply below_drew1) | exact HB.out)) hb);clear HB;have HO188:=n0_;have HB:=n1_;clear n0_ n1_;(try clear hb);(try clear hb2);(try clear hk);(try clear hi);(try clear ho0);obtain ⟨Ao6,co6,eo6⟩:=Kd.R_slice HO188.out;subst eo6) | ((with_reducible refine gate_callee (f:=37) rfl ?_);refine goesL_ (some 8) rfl rfl Try.func37 (by kernel_rfl) rfl #[.agg #[.int .i64 t183,.int .i64 t184,.int .i64 t185,.slice Ao6 t186.length co6],.int .i64 5] rfl (by (try simp only [List.map_toArray,List.map_cons,List.map_nil]);first | done | rfl | (simp only [List.length_drop,List.length_take];rfl)) ?_;(with_reducible refine (table_Enter.calls k t183 t184 t185 _ _ t186 5 t189 t190 t191 t192 t195 t196 _ ?side1 ?side2 A2.out).mono ?_);(case side1 => repeat (first | exact (Kd.R_reads' HO188.out).2.2 | (with_reducible refine Kd.C_alloc ?_ _) | (with_reducible refine Kd.C_drewN ?_ _) | (with_reducible refine Kd.C_drew ?_)));(case side2 => exact (Kd.R_reads' HO188.out).2.1);rintro e w7 ⟨v193,rfl,ho0,hb⟩;refine ⟨_,rfl,?_⟩;have n0_:=Aside0.mk (Kd.R_elder' (by (with_reducible repeat (first | apply Kd.R_alloc | apply Kd.R_drewN | apply Kd.R_drew));exact HO188.out) (Kd.R_base ho0) hb);have n1_:=Aside0.mk (Kd.R_lower (Kd.R_new' ho0 (Kd.R_lt (by (with_reducible repeat (first | apply Kd.R_alloc | apply Kd.R_drewN | apply Kd.R_drew));exact HO188.out))) (below_size (by repeat (first | (with_reducible first | exact HB.out | apply below_alloc | apply pw_below_drewN | apply below_drew1) | exact HB.out))));have n2_:=Aside0.mk (below_step (by repeat (first | (with_reducible first | exact HB.out | apply below_alloc | apply pw_below_drewN | apply below_drew1) | exact HB.out)) hb);clear HO188;clear HB;have HO188:=n0_;have HO194:=n1_;have HB:=n2_;clear n0_ n1_ n2_;(try clear hb);(try clear hb2);(try clear hk);(try clear hi);(try clear ho0)) | ((with_reducible refine gate_dst (N:=1) rfl ?_);refine box_event ?hg (N:=1) ?hd (cs:=#[.int .i64 0,.int .i64 0,.int .i64 0,.slice none 0 0]) (t:=69) ?hr ?_;(case hd => rfl);(case hg => rfl);(case hr => first | (go_simp;done) | (go_simp;rfl));intro gb197 hg w8 hbox hb;have n0_:=Aside0.mk (Kd.R_below (by (with_reducible repeat (first | apply Kd.R_alloc | apply Kd.R_drewN | apply Kd.R_drew));exact HO188.out) hb);have n1_:=Aside0.mk (Kd.R_below (by (with_reducible repeat (first | apply Kd.R_alloc | apply Kd.R_drewN | apply Kd.R_drew));exact HO194.out) hb);have n2_:=Aside0.mk (below_step (by repeat (first | (with_reducible first | exact HB.out | apply below_alloc | apply pw_below_drewN | apply below_drew1) | exact HB.out)) hb);have n3_:=Aside0.mk (hbox);have n4_:=Aside0.mk ((by rw [hg];exact (below_size (by repeat (first | (with_reducible first | exact HB.out | apply below_alloc | apply pw_below_drewN | apply below_drew1) | exact HB.out))) : w.heap.size ≤ gb197));have n5_:=Aside0.mk ((by rw [hg];exact (below_size (by repeat (first | (with_reducible first | exact HB.out | apply below_alloc | apply pw_below_drewN | apply below_drew1) | exact HB.out))) : w.heap.size ≤ gb197));clear HO188;clear HO194;clear HB;have HO188:=n0_;have HO194:=n1_;have HB:=n2_;have BK197:=n3_;have GW197:=n4_;have GE197:=n5_;clear n0_ n1_ n2_ n3_ n4_ n5_;clear hb hbox hg;obtain ⟨hcz9_0,hcz9_1,hcz9_2,hcz9_3⟩:=blkc_4 BK197.out;obtain ⟨hfz9_0,hfz9_1,hfz9_2,hfz9_3⟩:=blkz_4 BK197.out;obtain ⟨Ao10,co10,eo10⟩:=Kd.R_slice HO194.out;subst eo10) | ((with_reducible refine gate_callee (f:=41) rfl ?_);refine goesL_ (some 14) rfl rfl Try.func41 (by kernel_rfl) rfl #[.agg #[.int .i64 t189,.int .i64 t190,.int .i64 t191,.slice Ao10 t192.length co10],.int .i64 5] rfl (by (try simp only [List.map_toArray,List.map_cons,List.map_nil]);first | done | rfl | (simp only [List.length_drop,List.length_take];rfl)) ?_;(with_reducible refine (table_Commit.calls k t189 t190 t191 _ _ t192 5 t198 t199 t200 t201 t204 t205 _ ?side1 ?side2 A3.out).mono ?_);(case side1 => refine (Kd.R_reads' (e:=112) (base:=w.heap.size) (ok:=fun k_ => (True ∧ some k_ ≠ (.slice Ao6 t186.length co6 : Value).ownBlock)) (n:=t192.length) (c:=co10) ?_).2.2;exact (by (with_reducible repeat (first | apply Kd.R_alloc | apply Kd.R_drewN | apply Kd.R_drew));exact (Kd.R_mono (Kd.R_far (p:=⟨gb197,3,none⟩) (Kd.R_far (p:=⟨gb197,2,none⟩) (Kd.R_far (p:=⟨gb197,1,none⟩) (Kd.R_far (p:=⟨gb197,0,none⟩) (Kd.R_types HO194.out BK197.out (by decide)) (fun _ hk => hk.2) (.int .i64 t189)) (fun _ hk => hk.2) (.int .i64 t190)) (fun _ hk => hk.2) (.int .i64 t191)) (fun _ hk => hk.2) (.slice Ao10 t192.length co10)) (fun _ h_ => h_.1))));(case side2 => exact (Kd.R_reads' HO194.out).2.1);rintro e w11 ⟨v202,rfl,ho0,hb⟩;refine ⟨_,rfl,?_⟩;have n0_:=Aside0.mk (Kd.R_elder' (by (with_reducible repeat (first | apply Kd.R_alloc | apply Kd.R_drewN | apply Kd.R_drew));exact (Kd.R_mono (Kd.R_far (p:=⟨gb197,3,none⟩) (Kd.R_far (p:=⟨gb197,2,none⟩) (Kd.R_far (p:=⟨gb197,1,none⟩) (Kd.R_far (p:=⟨gb197,0,none⟩) (Kd.R_types HO188.out BK197.out (by decide)) (fun _ hk => hk.2) (.int .i64 t189)) (fun _ hk => hk.2) (.int .i64 t190)) (fun _ hk => hk.2) (.int .i64 t191)) (fun _ hk => hk.2) (.slice Ao10 t192.length co10)) (fun _ h_ => h_.1))) (Kd.R_base ho0) hb);have n1_:=Aside0.mk (Kd.R_elder' (by (with_reducible repeat (first | apply Kd.R_alloc | apply Kd.R_drewN | apply Kd.R_drew));exact (Kd.R_mono (Kd.R_far (p:=⟨gb197,3,none⟩) (Kd.R_far (p:=⟨gb197,2,none⟩) (Kd.R_far (p:=⟨gb197,1,none⟩) (Kd.R_far (p:=⟨gb197,0,none⟩) (Kd.R_types HO194.out BK197.out (by decide)) (fun _ hk => hk.2) (.int .i64 t189)) (fun _ hk => hk.2) (.int .i64 t190)) (fun _ hk => hk.2) (.int .i64 t191)) (fun _ hk => hk.2) (.slice Ao10 t192.length co10)) (fun _ h_ => h_.1))) (Kd.R_base ho0) hb);have n2_:=Aside0.mk (Kd.R_lower (Kd.R_new' (Kd.R_new' ho0 (Kd.R_lt (by (with_reducible repeat (first | apply Kd.R_alloc | apply Kd.R_drewN | apply Kd.R_drew));exact (Kd.R_mono (Kd.R_far (p:=⟨gb197,3,none⟩) (Kd.R_far (p:=⟨gb197,2,none⟩) (Kd.R_far (p:=⟨gb197,1,none⟩) (Kd.R_far (p:=⟨gb197,0,none⟩) (Kd.R_types HO188.out BK197.out (by decide)) (fun _ hk => hk.2) (.int .i64 t189)) (fun _ hk => hk.2) (.int .i64 t190)) (fun _ hk => hk.2) (.int .i64 t191)) (fun _ hk => hk.2) (.slice Ao10 t192.length co10)) (fun _ h_ => h_.1))))) (Kd.R_lt (by (with_reducible repeat (first | apply Kd.R_alloc | apply Kd.R_drewN | apply Kd.R_drew));exact (Kd.R_mono (Kd.R_far (p:=⟨gb197,3,none⟩) (Kd.R_far (p:=⟨gb197,2,none⟩) (Kd.R_far (p:=⟨gb197,1,none⟩) (Kd.R_far (p:=⟨gb197,0,none⟩) (Kd.R_types HO194.out BK197.out (by decide)) (fun _ hk => hk.2) (.int .i64 t189)) (fun _ hk => hk.2) (.int .i64 t190)) (fun _ hk => hk.2) (.int .i64 t191)) (fun _ hk => hk.2) (.slice Ao10 t192.length co10)) (fun _ h_ => h_.1))))) (below_size (by repeat (first | (with_reducible first | exact HB.out | apply below_alloc | apply pw_below_drewN | apply below_drew1 | refine below_set ?_ GE197.out) | exact HB.out))));have n3_:=Aside0.mk (blk_below (g:=gb197) (o:=.cells #[.int .i64 t189,.int .i64 t190,.int .i64 t191,.slice Ao10 t192.length co10] 69 (0,0)) (by (with_reducible repeat (first | refine blk_drewN ?_ _ | refine blk_drew ?_ | refine blk_alloc ?_ _));apply blkf_4_0_3;(with_reducible repeat (first | refine blk_drewN ?_ _ | refine blk_drew ?_ | refine blk_alloc ?_ _));exact BK197.out) hb);have n4_:=Aside0.mk (below_step (by repeat (first | (with_reducible first | exact HB.out | apply below_alloc | apply pw_below_drewN | apply below_drew1 | refine below_set ?_ GE197.out) | exact HB.out)) hb);clear HO188;clear HO194;clear BK197;clear HB;have HO188:=n0_;have HO194:=n1_;have HO203:=n2_;have BK197:=n3_;have HB:=n4_;clear n0_ n1_ n2_ n3_ n4_;(try clear hb);(try clear hb2);(try clear hk);(try clear hi);(try clear ho0);obtain ⟨hcz12_0,hcz12_1,hcz12_2,hcz12_3⟩:=blkc_4 BK197.out;obtain ⟨hfz12_0,hfz12_1,hfz12_2,hfz12_3⟩:=blkz_4 BK197.out;obtain ⟨Ao13,co13,eo13⟩:=Kd.R_slice HO203.out;subst eo13))
 (try simp only [Act.put,List.setIfInBounds_toArray,List.set_cons_zero,List.set_cons_succ])
 go_cut [0] (fun v0 wc => ∃ (kq : Nat) (x0_3 : Bool),v0 = .bool x0_3 ∧ Aside0 (humuslaw11_awake.j0 kq x0_3 = some r) ∧ Aside0 (kq ≤ k) ∧ Aside0 (Kd.R k112 112 wc w.heap.size (fun _ => True) (.slice Ao13 t201.length co13) t201) ∧ Aside0 (wc.heap[gb197]? = some (.cells #[.int .i64 t198,.int .i64 t199,.int .i64 t200,(.slice Ao13 t201.length co13)] 69 (0,0))) ∧ Aside0 (Below w.heap.size w wc))
 case first =>
  have H:=HC4.out
  clear HC4
  by_cases c14 : t196 = 0
  ·rw [if_pos c14] at H
   have c14b0 : (t196 == 0) = true:=beq_iff_eq.mpr c14
   have c14b1 : (t196 != 0) = false:=bne_eq_false_iff_eq.mpr c14
   clear c14
   (first | rw [c14b0] | (simp only [i64_w,i32_w];rw [c14b0]) | skip)
   by_cases c15 : t205 = 0
   ·rw [if_pos c15] at H
    have c15b0 : (t205 == 0) = true:=beq_iff_eq.mpr c15
    have c15b1 : (t205 != 0) = false:=bne_eq_false_iff_eq.mpr c15
    clear c15
    by_cases c16 : t195 = 0
    ·rw [if_pos c16] at H
     have c16b0 : (t195 == 0) = true:=beq_iff_eq.mpr c16
     have c16b1 : (t195 != 0) = false:=bne_eq_false_iff_eq.mpr c16
     clear c16
     by_cases c17 : t204 = 1
     ·rw [if_pos c17] at H
      have c17b0 : (t204 == 1) = true:=beq_iff_eq.mpr c17
      have c17b1 : (t204 != 1) = false:=bne_eq_false_iff_eq.mpr c17
      clear c17
      by_cases c18 : t198 = 6
      ·rw [if_pos c18] at H
       have c18b0 : (t198 == 6) = true:=beq_iff_eq.mpr c18
       have c18b1 : (t198 != 6) = false:=bne_eq_false_iff_eq.mpr c18
       clear c18
       replace H:=Option.bind_eq_some_iff.mp H
       obtain ⟨t206,A190,H⟩:=H
       replace H : (humuslaw11_awake.j0 k (t206 == 5)) = some r:=H
       have A19:=Aside0.mk A190
       clear A190
       have H':=Aside0.mk H
       clear H
       obtain ⟨hcz20_0,hcz20_1,hcz20_2,hcz20_3⟩:=blkc_4 BK197.out
       obtain ⟨hfz20_0,hfz20_1,hfz20_2,hfz20_3⟩:=blkz_4 BK197.out
       go_wp2_with (first | (go_at_call 43;(with_reducible refine (table_Eldest.calls k t198 t199 t200 _ _ t201 t206 _ ?side1 ?side2 A19.out).mono ?_);(case side1 => refine (Kd.R_reads' (e:=112) (base:=w.heap.size) (ok:=fun k_ => ((True ∧ some k_ ≠ (.slice Ao6 t186.length co6 : Value).ownBlock) ∧ some k_ ≠ (.slice Ao10 t192.length co10 : Value).ownBlock)) (n:=t201.length) (c:=co13) ?_).2.2;exact (by (with_reducible repeat (first | apply Kd.R_alloc | apply Kd.R_drewN | apply Kd.R_drew));exact (Kd.R_mono (Kd.R_far (p:=⟨gb197,3,none⟩) (Kd.R_far (p:=⟨gb197,2,none⟩) (Kd.R_far (p:=⟨gb197,1,none⟩) (Kd.R_far (p:=⟨gb197,0,none⟩) (Kd.R_types HO203.out BK197.out (by decide)) (fun _ hk => hk.2) (.int .i64 t198)) (fun _ hk => hk.2) (.int .i64 t199)) (fun _ hk => hk.2) (.int .i64 t200)) (fun _ hk => hk.2) (.slice Ao13 t201.length co13)) (fun _ h_ => h_.1))));(case side2 => exact (Kd.R_reads' HO203.out).2.1);rintro e w21 ⟨rfl,hb⟩;have n0_:=Aside0.mk (Kd.R_below (by (with_reducible repeat (first | apply Kd.R_alloc | apply Kd.R_drewN | apply Kd.R_drew));exact (Kd.R_mono (Kd.R_far (p:=⟨gb197,3,none⟩) (Kd.R_far (p:=⟨gb197,2,none⟩) (Kd.R_far (p:=⟨gb197,1,none⟩) (Kd.R_far (p:=⟨gb197,0,none⟩) (Kd.R_types HO188.out BK197.out (by decide)) (fun _ hk => hk.2) (.int .i64 t198)) (fun _ hk => hk.2) (.int .i64 t199)) (fun _ hk => hk.2) (.int .i64 t200)) (fun _ hk => hk.2) (.slice Ao13 t201.length co13)) (fun _ h_ => h_.1))) hb);have n1_:=Aside0.mk (Kd.R_below (by (with_reducible repeat (first | apply Kd.R_alloc | apply Kd.R_drewN | apply Kd.R_drew));exact (Kd.R_mono (Kd.R_far (p:=⟨gb197,3,none⟩) (Kd.R_far (p:=⟨gb197,2,none⟩) (Kd.R_far (p:=⟨gb197,1,none⟩) (Kd.R_far (p:=⟨gb197,0,none⟩) (Kd.R_types HO194.out BK197.out (by decide)) (fun _ hk => hk.2) (.int .i64 t198)) (fun _ hk => hk.2) (.int .i64 t199)) (fun _ hk => hk.2) (.int .i64 t200)) (fun _ hk => hk.2) (.slice Ao13 t201.length co13)) (fun _ h_ => h_.1))) hb);have n2_:=Aside0.mk (Kd.R_below (by (with_reducible repeat (first | apply Kd.R_alloc | apply Kd.R_drewN | apply Kd.R_drew));exact (Kd.R_mono (Kd.R_far (p:=⟨gb197,3,none⟩) (Kd.R_far (p:=⟨gb197,2,none⟩) (Kd.R_far (p:=⟨gb197,1,none⟩) (Kd.R_far (p:=⟨gb197,0,none⟩) (Kd.R_types HO203.out BK197.out (by decide)) (fun _ hk => hk.2) (.int .i64 t198)) (fun _ hk => hk.2) (.int .i64 t199)) (fun _ hk => hk.2) (.int .i64 t200)) (fun _ hk => hk.2) (.slice Ao13 t201.length co13)) (fun _ h_ => h_.1))) hb);have n3_:=Aside0.mk (blk_below (g:=gb197) (o:=.cells #[.int .i64 t198,.int .i64 t199,.int .i64 t200,.slice Ao13 t201.length co13] 69 (0,0)) (by (with_reducible repeat (first | refine blk_drewN ?_ _ | refine blk_drew ?_ | refine blk_alloc ?_ _));apply blkf_4_0_3;(with_reducible repeat (first | refine blk_drewN ?_ _ | refine blk_drew ?_ | refine blk_alloc ?_ _));exact BK197.out) hb);have n4_:=Aside0.mk (below_step (by repeat (first | (with_reducible first | exact HB.out | apply below_alloc | apply pw_below_drewN | apply below_drew1 | refine below_set ?_ GE197.out) | exact HB.out)) hb);clear HO188;clear HO194;clear HO203;clear BK197;clear HB;have HO188:=n0_;have HO194:=n1_;have HO203:=n2_;have BK197:=n3_;have HB:=n4_;clear n0_ n1_ n2_ n3_ n4_;(try clear hb);(try clear hb2);(try clear hk);(try clear hi)))
       go_meet
       case rel => exact ⟨_,((t206 == 5)),(by first | rfl | (simp;done) | (simp [*];done)),H',⟨by first | omega | exact Nat.le_refl _⟩,⟨by (with_reducible repeat (first | apply Kd.R_alloc | apply Kd.R_drewN | apply Kd.R_drew));exact Kd.R_mono HO203.out (fun _ hk => trivial)⟩,⟨by (with_reducible repeat (first | refine blk_drewN ?_ _ | refine blk_drew ?_ | refine blk_alloc ?_ _));exact BK197.out⟩,⟨by repeat (first | (with_reducible first | exact HB.out | apply below_alloc | apply pw_below_drewN | apply below_drew1 | refine below_set ?_ GE197.out) | exact HB.out)⟩⟩
      ·rw [if_neg c18] at H
       have c18b0 : (t198 == 6) = false:=beq_eq_false_iff_ne.mpr c18
       have c18b1 : (t198 != 6) = true:=bne_iff_ne.mpr c18
       have H':=Aside0.mk H
       clear H
       obtain ⟨hcz22_0,hcz22_1,hcz22_2,hcz22_3⟩:=blkc_4 BK197.out
       obtain ⟨hfz22_0,hfz22_1,hfz22_2,hfz22_3⟩:=blkz_4 BK197.out
       go_wp2
       go_meet
       case rel => exact ⟨_,(false),(by first | rfl | (simp;done) | (simp [*];done)),H',⟨by first | omega | exact Nat.le_refl _⟩,⟨by (with_reducible repeat (first | apply Kd.R_alloc | apply Kd.R_drewN | apply Kd.R_drew));exact Kd.R_mono (Kd.R_far (p:=⟨gb197,3,none⟩) (Kd.R_far (p:=⟨gb197,2,none⟩) (Kd.R_far (p:=⟨gb197,1,none⟩) (Kd.R_far (p:=⟨gb197,0,none⟩) (Kd.R_types HO203.out BK197.out (by decide)) (fun _ hk => hk.2) (.int .i64 t198)) (fun _ hk => hk.2) (.int .i64 t199)) (fun _ hk => hk.2) (.int .i64 t200)) (fun _ hk => hk.2) (.slice Ao13 t201.length co13)) (fun _ hk => trivial)⟩,⟨by (with_reducible repeat (first | refine blk_drewN ?_ _ | refine blk_drew ?_ | refine blk_alloc ?_ _));apply blkf_4_0_3;(with_reducible repeat (first | refine blk_drewN ?_ _ | refine blk_drew ?_ | refine blk_alloc ?_ _));exact BK197.out⟩,⟨by repeat (first | (with_reducible first | exact HB.out | apply below_alloc | apply pw_below_drewN | apply below_drew1 | refine below_set ?_ GE197.out) | exact HB.out)⟩⟩
     ·rw [if_neg c17] at H
      have c17b0 : (t204 == 1) = false:=beq_eq_false_iff_ne.mpr c17
      have c17b1 : (t204 != 1) = true:=bne_iff_ne.mpr c17
      have H':=Aside0.mk H
      clear H
      go_wp2
      go_meet
      case rel => exact ⟨_,(false),(by first | rfl | (simp;done) | (simp [*];done)),H',⟨by first | omega | exact Nat.le_refl _⟩,⟨by (with_reducible repeat (first | apply Kd.R_alloc | apply Kd.R_drewN | apply Kd.R_drew));exact Kd.R_mono (Kd.R_far (p:=⟨gb197,3,none⟩) (Kd.R_far (p:=⟨gb197,2,none⟩) (Kd.R_far (p:=⟨gb197,1,none⟩) (Kd.R_far (p:=⟨gb197,0,none⟩) (Kd.R_types HO203.out BK197.out (by decide)) (fun _ hk => hk.2) (.int .i64 t198)) (fun _ hk => hk.2) (.int .i64 t199)) (fun _ hk => hk.2) (.int .i64 t200)) (fun _ hk => hk.2) (.slice Ao13 t201.length co13)) (fun _ hk => trivial)⟩,⟨by (with_reducible repeat (first | refine blk_drewN ?_ _ | refine blk_drew ?_ | refine blk_alloc ?_ _));apply blkf_4_0_3;(with_reducible repeat (first | refine blk_drewN ?_ _ | refine blk_drew ?_ | refine blk_alloc ?_ _));exact BK197.out⟩,⟨by repeat (first | (with_reducible first | exact HB.out | apply below_alloc | apply pw_below_drewN | apply below_drew1 | refine below_set ?_ GE197.out) | exact HB.out)⟩⟩
    ·rw [if_neg c16] at H
     have c16b0 : (t195 == 0) = false:=beq_eq_false_iff_ne.mpr c16
     have c16b1 : (t195 != 0) = true:=bne_iff_ne.mpr c16
     have H':=Aside0.mk H
     clear H
     go_wp2
     go_meet
     case rel => exact ⟨_,(false),(by first | rfl | (simp;done) | (simp [*];done)),H',⟨by first | omega | exact Nat.le_refl _⟩,⟨by (with_reducible repeat (first | apply Kd.R_alloc | apply Kd.R_drewN | apply Kd.R_drew));exact Kd.R_mono (Kd.R_far (p:=⟨gb197,3,none⟩) (Kd.R_far (p:=⟨gb197,2,none⟩) (Kd.R_far (p:=⟨gb197,1,none⟩) (Kd.R_far (p:=⟨gb197,0,none⟩) (Kd.R_types HO203.out BK197.out (by decide)) (fun _ hk => hk.2) (.int .i64 t198)) (fun _ hk => hk.2) (.int .i64 t199)) (fun _ hk => hk.2) (.int .i64 t200)) (fun _ hk => hk.2) (.slice Ao13 t201.length co13)) (fun _ hk => trivial)⟩,⟨by (with_reducible repeat (first | refine blk_drewN ?_ _ | refine blk_drew ?_ | refine blk_alloc ?_ _));apply blkf_4_0_3;(with_reducible repeat (first | refine blk_drewN ?_ _ | refine blk_drew ?_ | refine blk_alloc ?_ _));exact BK197.out⟩,⟨by repeat (first | (with_reducible first | exact HB.out | apply below_alloc | apply pw_below_drewN | apply below_drew1 | refine below_set ?_ GE197.out) | exact HB.out)⟩⟩
   ·rw [if_neg c15] at H
    have c15b0 : (t205 == 0) = false:=beq_eq_false_iff_ne.mpr c15
    have c15b1 : (t205 != 0) = true:=bne_iff_ne.mpr c15
    have H':=Aside0.mk H
    clear H
    go_wp2
    go_meet
    case rel => exact ⟨_,(false),(by first | rfl | (simp;done) | (simp [*];done)),H',⟨by first | omega | exact Nat.le_refl _⟩,⟨by (with_reducible repeat (first | apply Kd.R_alloc | apply Kd.R_drewN | apply Kd.R_drew));exact Kd.R_mono (Kd.R_far (p:=⟨gb197,3,none⟩) (Kd.R_far (p:=⟨gb197,2,none⟩) (Kd.R_far (p:=⟨gb197,1,none⟩) (Kd.R_far (p:=⟨gb197,0,none⟩) (Kd.R_types HO203.out BK197.out (by decide)) (fun _ hk => hk.2) (.int .i64 t198)) (fun _ hk => hk.2) (.int .i64 t199)) (fun _ hk => hk.2) (.int .i64 t200)) (fun _ hk => hk.2) (.slice Ao13 t201.length co13)) (fun _ hk => trivial)⟩,⟨by (with_reducible repeat (first | refine blk_drewN ?_ _ | refine blk_drew ?_ | refine blk_alloc ?_ _));apply blkf_4_0_3;(with_reducible repeat (first | refine blk_drewN ?_ _ | refine blk_drew ?_ | refine blk_alloc ?_ _));exact BK197.out⟩,⟨by repeat (first | (with_reducible first | exact HB.out | apply below_alloc | apply pw_below_drewN | apply below_drew1 | refine below_set ?_ GE197.out) | exact HB.out)⟩⟩
  ·rw [if_neg c14] at H
   have c14b0 : (t196 == 0) = false:=beq_eq_false_iff_ne.mpr c14
   have c14b1 : (t196 != 0) = true:=bne_iff_ne.mpr c14
   (first | rw [c14b0] | (simp only [i64_w,i32_w];rw [c14b0]) | skip)
   have H':=Aside0.mk H
   clear H
   go_wp2
   go_meet
   case rel => exact ⟨_,(false),(by first | rfl | (simp;done) | (simp [*];done)),H',⟨by first | omega | exact Nat.le_refl _⟩,⟨by (with_reducible repeat (first | apply Kd.R_alloc | apply Kd.R_drewN | apply Kd.R_drew));exact Kd.R_mono (Kd.R_far (p:=⟨gb197,3,none⟩) (Kd.R_far (p:=⟨gb197,2,none⟩) (Kd.R_far (p:=⟨gb197,1,none⟩) (Kd.R_far (p:=⟨gb197,0,none⟩) (Kd.R_types HO203.out BK197.out (by decide)) (fun _ hk => hk.2) (.int .i64 t198)) (fun _ hk => hk.2) (.int .i64 t199)) (fun _ hk => hk.2) (.int .i64 t200)) (fun _ hk => hk.2) (.slice Ao13 t201.length co13)) (fun _ hk => trivial)⟩,⟨by (with_reducible repeat (first | refine blk_drewN ?_ _ | refine blk_drew ?_ | refine blk_alloc ?_ _));apply blkf_4_0_3;(with_reducible repeat (first | refine blk_drewN ?_ _ | refine blk_drew ?_ | refine blk_alloc ?_ _));exact BK197.out⟩,⟨by repeat (first | (with_reducible first | exact HB.out | apply below_alloc | apply pw_below_drewN | apply below_drew1 | refine below_set ?_ GE197.out) | exact HB.out)⟩⟩
 case rest =>
  clear HC4
  try clear c1
  try clear p2
  try clear c3
  try clear c4
  try clear c14
  try clear c14b0
  try clear c14b1
  try clear c15
  try clear c15b0
  try clear c15b1
  try clear c16
  try clear c16b0
  try clear c16b1
  try clear c17
  try clear c17b0
  try clear c17b1
  try clear c18
  try clear c18b0
  try clear c18b1
  try clear hcz12_0
  try clear hcz12_1
  try clear hcz12_2
  try clear hcz12_3
  try clear hcz20_0
  try clear hcz20_1
  try clear hcz20_2
  try clear hcz20_3
  try clear hcz22_0
  try clear hcz22_1
  try clear hcz22_2
  try clear hcz22_3
  try clear hcz9_0
  try clear hcz9_1
  try clear hcz9_2
  try clear hcz9_3
  try clear hfz12_0
  try clear hfz12_1
  try clear hfz12_2
  try clear hfz12_3
  try clear hfz20_0
  try clear hfz20_1
  try clear hfz20_2
  try clear hfz20_3
  try clear hfz22_0
  try clear hfz22_1
  try clear hfz22_2
  try clear hfz22_3
  try clear hfz9_0
  try clear hfz9_1
  try clear hfz9_2
  try clear hfz9_3
  obtain ⟨kq,x0_3,rfl,HA,HJ3,HO_198003,BK197,HB⟩:=hcut
  cases kq with
  | zero => exact absurd HA.out (by simp [humuslaw11_awake.j0])
  | succ kj3 =>
   have H:=HA.out
   clear HA
   simp only [humuslaw11_awake.j0] at H
   obtain rfl:=Option.some.inj H
   go_wp2
   go_ret
   exact ⟨by first | rfl | (simp [errW_none,errW_some] <;> rfl) | (simp [*,errW_none,errW_some] <;> rfl),by repeat (first | (with_reducible first | exact HB.out | apply below_alloc | apply pw_below_drewN | apply below_drew1 | refine below_set ?_ GE197.out) | exact HB.out)⟩
end Go.Proofs.Ytbmcbhpkefjhbaa.P
namespace Go.Proofs.Ytbmcbhpkefjhbaa.P
open Go.RowKit Go.Proofs.YtbmcbhpkefjhbaaW.PrintWords Go.Proofs.YtbmcbhpkefjhbaaW.PrintLast Go.Proofs.YtbmcbhpkefjhbaaW.PrintMore
attribute [local go_sem] max2_int min2_int max_two min_two max_three min_three max_four min_four   -- for this text's walks alone
attribute [local go_sem] run_store_float
set_option linter.unusedVariables false
set_option linter.unusedSimpArgs false
mutual
def humuslaw11_TableFull.j0 : Nat → List Int → Int → List Int → Int → Int → Int → Int → List (S112) → Option (Bool)
 | 0,_,_,_,_,_,_,_,_ => none
 | k + 1,x0,x1,x6,x7,x214000,x214001,x214002,x214003 => humuslaw11_TableFull.l0 k x0 x1 x6 x7 x214000 x214001 x214002 x214003
def humuslaw11_TableFull.l0 : Nat → List Int → Int → List Int → Int → Int → Int → Int → List (S112) → Option (Bool)
 | 0,_,_,_,_,_,_,_,_ => none
 | k + 1,x0,x1,x6,x7,x214000,x214001,x214002,x214003 => if x7 < 13 then (humuslaw11_TableFull.j3 k x0 x1 x6 x7 (wrap64 ((wrap64 (20 * x7)) + 1)) x214000 x214001 x214002 x214003) else (if 0 ≤ (Int.tmod (wrap64 (x1)) 12) then (if (Int.tmod (wrap64 (x1)) 12) < (x6.length : Int) then ((table_Leave.f k x214000 x214001 x214002 x214003 (rd x6 (Int.tmod (wrap64 (x1)) 12))).bind fun bt218 => (if 12 < (x6.length : Int) then ((table_Enter.f k bt218.1 bt218.2.1 bt218.2.2.1 bt218.2.2.2.1 (rd x6 12)).bind fun bt226 => (if bt218.2.2.2.2 = 0 then (if bt226.2.2.2.2.2 = 0 then (if bt226.2.2.2.2.1 = (Int.tmod (wrap64 (x1)) 12) then ((humuslaw11_awake.f k).bind fun t235 => (humuslaw11_TableFull.j2 k t235)) else (none)) else (none)) else (none))) else (none))) else (none)) else (none))
def humuslaw11_TableFull.j3 : Nat → List Int → Int → List Int → Int → Int → Int → Int → Int → List (S112) → Option (Bool)
 | 0,_,_,_,_,_,_,_,_,_ => none
 | k + 1,x0,x1,x6,x7,x8,x214000,x214001,x214002,x214003 => if x7 < (x0.length : Int) then (if 0 ≤ x7 then ((table_Enter.f k x214000 x214001 x214002 x214003 (wrap64 (x8 + (wrap64 (Int.tmod (rd x0 x7) 20))))).bind fun bt237 => (if ((bt237.2.2.2.2.2 == 0) != (decide (x7 < 12))) = true then (humuslaw11_TableFull.j4 k x0 x1 x6 x7 (wrap64 (x8 + (wrap64 (Int.tmod (rd x0 x7) 20)))) true bt237.1 bt237.2.1 bt237.2.2.1 bt237.2.2.2.1) else (if x7 = 12 then (humuslaw11_TableFull.j4 k x0 x1 x6 x7 (wrap64 (x8 + (wrap64 (Int.tmod (rd x0 x7) 20)))) (bt237.2.2.2.2.2 != 12) bt237.1 bt237.2.1 bt237.2.2.1 bt237.2.2.2.1) else (humuslaw11_TableFull.j4 k x0 x1 x6 x7 (wrap64 (x8 + (wrap64 (Int.tmod (rd x0 x7) 20)))) false bt237.1 bt237.2.1 bt237.2.2.1 bt237.2.2.2.1)))) else (none)) else ((table_Enter.f k x214000 x214001 x214002 x214003 x8).bind fun bt249 => (if ((bt249.2.2.2.2.2 == 0) != (decide (x7 < 12))) = true then (humuslaw11_TableFull.j5 k x0 x1 x6 x7 x8 true bt249.1 bt249.2.1 bt249.2.2.1 bt249.2.2.2.1) else (if x7 = 12 then (humuslaw11_TableFull.j5 k x0 x1 x6 x7 x8 (bt249.2.2.2.2.2 != 12) bt249.1 bt249.2.1 bt249.2.2.1 bt249.2.2.2.1) else (humuslaw11_TableFull.j5 k x0 x1 x6 x7 x8 false bt249.1 bt249.2.1 bt249.2.2.1 bt249.2.2.2.1))))
def humuslaw11_TableFull.j4 : Nat → List Int → Int → List Int → Int → Int → Bool → Int → Int → Int → List (S112) → Option (Bool)
 | 0,_,_,_,_,_,_,_,_,_,_ => none
 | k + 1,x0,x1,x6,x7,x8,x56,x246000,x246001,x246002,x246003 => if x56 = true then (none) else (if x6.length < 17592186044416 then (humuslaw11_TableFull.l0 k x0 x1 (x6 ++ [x8]) (wrap64 (x7 + 1)) x246000 x246001 x246002 x246003) else (none))
def humuslaw11_TableFull.j5 : Nat → List Int → Int → List Int → Int → Int → Bool → Int → Int → Int → List (S112) → Option (Bool)
 | 0,_,_,_,_,_,_,_,_,_,_ => none
 | k + 1,x0,x1,x6,x7,x8,x56,x258000,x258001,x258002,x258003 => if x56 = true then (none) else (if x6.length < 17592186044416 then (humuslaw11_TableFull.l0 k x0 x1 (x6 ++ [x8]) (wrap64 (x7 + 1)) x258000 x258001 x258002 x258003) else (none))
def humuslaw11_TableFull.j2 : Nat → Bool → Option (Bool)
 | 0,_ => none
 | k + 1,x4 => some x4
end
def humuslaw11_TableFull.f (k : Nat) (l0 : List Int) (a1 : Int) : Option (Bool):=(table_First.f).bind fun bt207 => (humuslaw11_TableFull.j0 k l0 a1 (([] : List Int)) 0 bt207.1 bt207.2.1 bt207.2.2.1 bt207.2.2.2)
def humuslaw11_TableFull.T14 : Bool × List (List Nat × List Nat):=(true,[([],[]),([],[]),([],[]),([2],[2]),([3],[3]),([1,4],[1,4]),([5],[5]),([0,6],[0,6]),([7],[7]),([8],[8]),([8],[8]),([9,7,0,1,2,3,4,5,6,7,8,9],[9]),([10,11,0,1,2,3,4,5,6,7,8,9,10,11],[10])])
def humuslaw11_TableFull.B14 : List Nat:=[0,0,0,4,12,30,62,127,255,511,511,1023,4095]
theorem humuslaw11_TableFull.tab14 : rtab .any (opsOf Try.f11 14) = humuslaw11_TableFull.T14:=by kernel_rfl
theorem humuslaw11_TableFull.bits14 : waitsOk humuslaw11_TableFull.T14.2 humuslaw11_TableFull.B14 = true:=by kernel_rfl
def humuslaw11_TableFull.T15 : Bool × List (List Nat × List Nat):=(true,[([],[]),([],[]),([1],[1]),([2],[2]),([0,3],[0,3]),([4],[4]),([5],[5]),([5],[5]),([5],[5]),([],[]),([9,6,4,0,1,2,3,4,5,6,9],[6,9]),([7,10,0,1,2,3,4,5,6,7,9,10],[7]),([8,11,0,1,2,3,4,5,6,7,8,9,10,11],[8])])
def humuslaw11_TableFull.B15 : List Nat:=[0,0,2,6,15,31,63,63,63,0,639,1791,4095]
theorem humuslaw11_TableFull.tab15 : rtab .any (opsOf Try.f11 15) = humuslaw11_TableFull.T15:=by kernel_rfl
theorem humuslaw11_TableFull.bits15 : waitsOk humuslaw11_TableFull.T15.2 humuslaw11_TableFull.B15 = true:=by kernel_rfl
set_option maxHeartbeats 8000000 in
set_option maxRecDepth 100000 in
theorem humuslaw11_TableFull.calls (k : Nat) (A0 : Option Addr) (c0 : Nat) (l0 : List Int) (a1 : Int) (r : Bool) (w : World) (hr0 : Kd.C (Kd.int .u8) w A0 l0.length l0) (hc0 : l0.length ≤ c0) (h : humuslaw11_TableFull.f k l0 a1 = some r) :
  Calls Try.prog 11 #[.slice A0 l0.length c0,.int .u8 a1] w fun e w' => e = .returned (.bool r) ∧ Below w.heap.size w w':=by
 have hu69:=Try.underlying69
 have HR0:=Aside0.mk hr0
 have HC0:=Aside0.mk hc0
 clear hr0 hc0
 have HB:=Aside0.mk (Below.refl w.heap.size w)
 have H : ((table_First.f).bind fun bt207 => (humuslaw11_TableFull.j0 k l0 a1 (([] : List Int)) 0 bt207.1 bt207.2.1 bt207.2.2.1 bt207.2.2.2)) = some r:=h
 clear h
 replace H:=Option.bind_eq_some_iff.mp H
 obtain ⟨⟨t207,t208,t209,t210⟩,A30,H⟩:=H
 replace H : (humuslaw11_TableFull.j0 k l0 a1 (([] : List Int)) 0 t207 t208 t209 t210) = some r:=H
 have A3:=Aside0.mk A30
 clear A30
 obtain ⟨y214,hy214⟩ : ∃ y_ : List Int,y_ = (([] : List Int)):=⟨_,rfl⟩
 replace H : (humuslaw11_TableFull.j0 k l0 a1 y214 0 t207 t208 t209 t210) = some r:=by first | (rw [hy214];with_reducible exact H) | (have H2_:=(Option.bind_some _ _).symm.trans H;rw [hy214];with_reducible exact H2_) | (have H2_:=(Option.bind_some _ _).symm.trans H;with_reducible exact H2_) | with_reducible exact H | (rw [hy214];exact H) | exact H
 have Ny214:=Aside0.mk hy214
 clear hy214
 have HC4:=Aside0.mk H
 clear H
 go_enter Try.func11,Try.ntmps11
 go_upto_region 3 with (first | ((with_reducible refine gate_callee (f:=36) rfl ?_);refine goesL_ (some 16) rfl rfl Try.func36 (by kernel_rfl) rfl #[] rfl (by (try simp only [List.map_toArray,List.map_cons,List.map_nil]);first | done | rfl | (simp only [List.length_drop,List.length_take];rfl)) ?_;(with_reducible refine (table_First.calls  t207 t208 t209 t210 _ A3.out).mono ?_);rintro e w5 ⟨v211,rfl,ho0,hb⟩;refine ⟨_,rfl,?_⟩;have n0_:=Aside0.mk (Kd.R_lower ho0 (below_size (by repeat (first | (with_reducible first | exact HB.out | apply below_alloc | apply pw_below_drewN | apply below_drew1) | exact HB.out))));have n1_:=Aside0.mk (below_step (by repeat (first | (with_reducible first | exact HB.out | apply below_alloc | apply pw_below_drewN | apply below_drew1) | exact HB.out)) hb);clear HB;have HO212:=n0_;have HB:=n1_;clear n0_ n1_;(try clear hb);(try clear hb2);(try clear hk);(try clear hi);(try clear ho0)) | ((with_reducible refine gate_dst (N:=5) rfl ?_);refine box_event ?hg (N:=5) ?hd (cs:=#[.int .i64 0,.int .i64 0,.int .i64 0,.slice none 0 0]) (t:=69) ?hr ?_;(case hd => rfl);(case hg => rfl);(case hr => first | (go_simp;done) | (go_simp;rfl));intro gb213 hg w6 hbox hb;have n0_:=Aside0.mk (Kd.R_below (by (with_reducible repeat (first | apply Kd.R_alloc | apply Kd.R_drewN | apply Kd.R_drew));exact HO212.out) hb);have n1_:=Aside0.mk (below_step (by repeat (first | (with_reducible first | exact HB.out | apply below_alloc | apply pw_below_drewN | apply below_drew1) | exact HB.out)) hb);have n2_:=Aside0.mk (hbox);have n3_:=Aside0.mk ((by rw [hg];exact (below_size (by repeat (first | (with_reducible first | exact HB.out | apply below_alloc | apply pw_below_drewN | apply below_drew1) | exact HB.out))) : w.heap.size ≤ gb213));have n4_:=Aside0.mk ((by rw [hg];exact (below_size (by repeat (first | (with_reducible first | exact HB.out | apply below_alloc | apply pw_below_drewN | apply below_drew1) | exact HB.out))) : w.heap.size ≤ gb213));clear HO212;clear HB;have HO212:=n0_;have HB:=n1_;have BK213:=n2_;have GW213:=n3_;have GE213:=n4_;clear n0_ n1_ n2_ n3_ n4_;clear hb hbox hg;obtain ⟨hcz7_0,hcz7_1,hcz7_2,hcz7_3⟩:=blkc_4 BK213.out;obtain ⟨hfz7_0,hfz7_1,hfz7_2,hfz7_3⟩:=blkz_4 BK213.out;obtain ⟨Ao8,co8,eo8⟩:=Kd.R_slice HO212.out;subst eo8) | ((with_reducible refine gate_dst (N:=17) rfl ?_);refine Kd.R_lit (Kd.int .i64) _ 3 ?hg (N:=17) ?hd (xs:=([] : List Int)) (inner:=[]) (ok:=fun _ => True) (okp:=fun _ => True) ?hr ?hp (fun _ hk => hk) trivial (Below.refl _ _) (Nat.le_refl _) (by simp) ?_;(case hd => rfl);(case hg => rfl);(case hr => first | (go_simp;done) | (go_simp;rfl));(case hp => exact (Reps.none _ _));intro v215 w9 ho10 hb hg_ hnew_;clear hg_ hnew_;(first | rw [← Ny214.out] at ho10 | (simp only [Int.reduceToNat] at ho10;rw [← Ny214.out] at ho10));have n0_:=Aside0.mk (Kd.R_below (by (with_reducible repeat (first | apply Kd.R_alloc | apply Kd.R_drewN | apply Kd.R_drew));exact (Kd.R_mono (Kd.R_far (p:=⟨gb213,3,none⟩) (Kd.R_far (p:=⟨gb213,2,none⟩) (Kd.R_far (p:=⟨gb213,1,none⟩) (Kd.R_far (p:=⟨gb213,0,none⟩) (Kd.R_types HO212.out BK213.out (by decide)) (fun _ hk => hk.2) (.int .i64 t207)) (fun _ hk => hk.2) (.int .i64 t208)) (fun _ hk => hk.2) (.int .i64 t209)) (fun _ hk => hk.2) (.slice Ao8 t210.length co8)) (fun _ h_ => h_.1))) hb);have n1_:=Aside0.mk (Kd.R_lower ho10 (below_size (by repeat (first | (with_reducible first | exact HB.out | apply below_alloc | apply pw_below_drewN | apply below_drew1 | refine below_set ?_ GE213.out) | exact HB.out))));have n2_:=Aside0.mk (blk_below (g:=gb213) (o:=.cells #[.int .i64 t207,.int .i64 t208,.int .i64 t209,.slice Ao8 t210.length co8] 69 (0,0)) (by (with_reducible repeat (first | refine blk_drewN ?_ _ | refine blk_drew ?_ | refine blk_alloc ?_ _));apply blkf_4_0_3;(with_reducible repeat (first | refine blk_drewN ?_ _ | refine blk_drew ?_ | refine blk_alloc ?_ _));exact BK213.out) hb);have n3_:=Aside0.mk (below_step (by repeat (first | (with_reducible first | exact HB.out | apply below_alloc | apply pw_below_drewN | apply below_drew1 | refine below_set ?_ GE213.out) | exact HB.out)) hb);clear HO212;clear BK213;clear HB;have HO212:=n0_;have HO216:=n1_;have BK213:=n2_;have HB:=n3_;clear n0_ n1_ n2_ n3_;clear hb ho10))
 (try simp only [Act.put,List.setIfInBounds_toArray,List.set_cons_zero,List.set_cons_succ])
 go_cut [7] (fun v7 wc => ∃ (kq : Nat) (x7_3 : Int),v7 = .int .i64 x7_3 ∧ Aside0 (humuslaw11_TableFull.j0 kq l0 a1 y214 x7_3 t207 t208 t209 t210 = some r) ∧ Aside0 (kq ≤ k) ∧ Aside0 (Kd.R (Kd.int .i64) 3 wc w.heap.size (fun _ => True) v215 y214) ∧ Aside0 (Kd.R k112 112 wc w.heap.size (fun _ => True) (.slice Ao8 t210.length co8) t210) ∧ Aside0 (wc.heap[gb213]? = some (.cells #[.int .i64 t207,.int .i64 t208,.int .i64 t209,(.slice Ao8 t210.length co8)] 69 (0,0))) ∧ Aside0 (Below w.heap.size w wc))
 case first =>
  have H:=HC4.out
  clear HC4
  have H':=Aside0.mk H
  clear H
  go_wp2
  go_meet
  case rel => exact ⟨_,(0),(by first | rfl | (simp;done) | (simp [*];done)),H',⟨by first | omega | exact Nat.le_refl _⟩,⟨by (with_reducible repeat (first | apply Kd.R_alloc | apply Kd.R_drewN | apply Kd.R_drew));exact HO216.out⟩,⟨by (with_reducible repeat (first | apply Kd.R_alloc | apply Kd.R_drewN | apply Kd.R_drew));exact HO212.out⟩,⟨by (with_reducible repeat (first | refine blk_drewN ?_ _ | refine blk_drew ?_ | refine blk_alloc ?_ _));exact BK213.out⟩,⟨by repeat (first | (with_reducible first | exact HB.out | apply below_alloc | apply pw_below_drewN | apply below_drew1 | refine below_set ?_ GE213.out) | exact HB.out)⟩⟩
 case rest =>
  clear HC4
  try clear c1
  try clear p2
  try clear c3
  try clear hcz7_0
  try clear hcz7_1
  try clear hcz7_2
  try clear hcz7_3
  try clear hfz7_0
  try clear hfz7_1
  try clear hfz7_2
  try clear hfz7_3
  obtain ⟨kq,x7_3,rfl,HA,HJ3,HO_6,HO_214003,BK213,HB⟩:=hcut
  cases kq with
  | zero => exact absurd HA.out (by simp [humuslaw11_TableFull.j0])
  | succ kj3 =>
   have H:=HA.out
   clear HA
   simp only [humuslaw11_TableFull.j0] at H
   have H':=Aside0.mk H
   clear H
   go_wp2
   go_loopg [6,7] kj3 (fun kq v6 v7 w' => ∃ (x6_2 : List Int) (x7_2 : Int) (x214000_2 : Int) (x214001_2 : Int) (x214002_2 : Int) (x214003_2 : List (S112)) (u214003 : Value),v7 = .int .i64 x7_2 ∧ Aside0 (humuslaw11_TableFull.l0 kq l0 a1 x6_2 x7_2 x214000_2 x214001_2 x214002_2 x214003_2 = some r) ∧ Aside0 (kq ≤ kj3) ∧ Aside0 (Kd.R (Kd.int .i64) 3 w' w.heap.size (fun _ => True) v6 x6_2) ∧ Aside0 (Kd.R k112 112 w' w.heap.size (fun _ => True) u214003 x214003_2) ∧ Aside0 (w'.heap[gb213]? = some (.cells #[.int .i64 x214000_2,.int .i64 x214001_2,.int .i64 x214002_2,u214003] 69 (0,0))) ∧ Aside0 (Below w.heap.size w w'))
   case atStart => exact ⟨(y214),(x7_3),(t207),(t208),(t209),(t210),(.slice Ao8 t210.length co8),(by first | rfl | (simp;done) | (simp [*];done)),H',⟨Nat.le_refl _⟩,⟨by (with_reducible repeat (first | apply Kd.R_alloc | apply Kd.R_drewN | apply Kd.R_drew));exact HO_6.out⟩,⟨by (with_reducible repeat (first | apply Kd.R_alloc | apply Kd.R_drewN | apply Kd.R_drew));exact HO_214003.out⟩,⟨by (with_reducible repeat (first | refine blk_drewN ?_ _ | refine blk_drew ?_ | refine blk_alloc ?_ _));exact BK213.out⟩,⟨by repeat (first | (with_reducible first | exact HB.out | apply below_alloc | apply pw_below_drewN | apply below_drew1 | refine below_set ?_ GE213.out) | exact HB.out)⟩⟩
   case round =>
    clear H'
    try clear c1
    try clear p2
    try clear c3
    try clear hcz7_0
    try clear hcz7_1
    try clear hcz7_2
    try clear hcz7_3
    try clear hfz7_0
    try clear hfz7_1
    try clear hfz7_2
    try clear hfz7_3
    try clear p2
    obtain ⟨x6_2,x7_2,x214000_2,x214001_2,x214002_2,x214003_2,u214003,rfl,HA,HK2,HO_6,HO_214003,BK213,HB⟩:=hrel
    cases gk with
    | zero => exact absurd HA.out (by simp [humuslaw11_TableFull.l0])
    | succ k2 =>
     have H:=HA.out
     clear HA
     simp only [humuslaw11_TableFull.l0] at H
     by_cases c11 : x7_2 < 13
     ·rw [if_pos c11] at H
      have c11b0 : decide (x7_2 < 13) = true:=decide_eq_true c11
      clear c11
      have HC12:=Aside0.mk H
      clear H
      go_upto_region 6 with (fail)
      go_cut [8] (fun v8 wc => ∃ (kq : Nat) (x8_11 : Int),v8 = .int .i64 x8_11 ∧ Aside0 (humuslaw11_TableFull.j3 kq l0 a1 x6_2 x7_2 x8_11 x214000_2 x214001_2 x214002_2 x214003_2 = some r) ∧ Aside0 (kq ≤ k2) ∧ Aside0 (Kd.R (Kd.int .i64) 3 wc w.heap.size (fun _ => True) u6 x6_2) ∧ Aside0 (Kd.R k112 112 wc w.heap.size (fun _ => True) u214003 x214003_2) ∧ Aside0 (wc.heap[gb213]? = some (.cells #[.int .i64 x214000_2,.int .i64 x214001_2,.int .i64 x214002_2,u214003] 69 (0,0))) ∧ Aside0 (Below w.heap.size w wc))
      case first =>
       have H:=HC12.out
       clear HC12
       have H':=Aside0.mk H
       clear H
       go_wp2
       go_meet
       case rel => exact ⟨_,(wrap64 ((wrap64 (20 * x7_2)) + 1)),(by first | rfl | (simp;done) | (simp [*];done)),H',⟨by have:=HJ3.out;have:=HK2.out;first | omega | exact Nat.le_refl _⟩,⟨by (with_reducible repeat (first | apply Kd.R_alloc | apply Kd.R_drewN | apply Kd.R_drew));exact HO_6.out⟩,⟨by (with_reducible repeat (first | apply Kd.R_alloc | apply Kd.R_drewN | apply Kd.R_drew));exact HO_214003.out⟩,⟨by (with_reducible repeat (first | refine blk_drewN ?_ _ | refine blk_drew ?_ | refine blk_alloc ?_ _));exact BK213.out⟩,⟨by repeat (first | (with_reducible first | exact HB.out | apply below_alloc | apply pw_below_drewN | apply below_drew1 | refine below_set ?_ GE213.out) | exact HB.out)⟩⟩
      case rest =>
       clear HC12
       try clear c1
       try clear p2
       try clear c3
       try clear p6
       try clear c11
       try clear c11b0
       try clear hcz7_0
       try clear hcz7_1
       try clear hcz7_2
       try clear hcz7_3
       try clear hfz7_0
       try clear hfz7_1
       try clear hfz7_2
       try clear hfz7_3
       try clear p2
       obtain ⟨kq,x8_11,rfl,HA,HJ11,HO_6,HO_214003,BK213,HB⟩:=hcut
       cases kq with
       | zero => exact absurd HA.out (by simp [humuslaw11_TableFull.j3])
       | succ kj11 =>
        have H:=HA.out
        clear HA
        simp only [humuslaw11_TableFull.j3] at H
        by_cases c13 : x7_2 < (l0.length : Int)
        ·rw [if_pos c13] at H
         have c13b0 : decide (x7_2 < (l0.length : Int)) = true:=decide_eq_true c13
         clear c13
         by_cases c14 : 0 ≤ x7_2
         ·rw [if_pos c14] at H
          have c14b0 : decide (0 ≤ x7_2) = true:=decide_eq_true c14
          clear c14
          replace H:=Option.bind_eq_some_iff.mp H
          obtain ⟨⟨t237,t238,t239,t240,t243,t244⟩,A150,H⟩:=H
          replace H : (if ((t244 == 0) != (decide (x7_2 < 12))) = true then (humuslaw11_TableFull.j4 kj11 l0 a1 x6_2 x7_2 (wrap64 (x8_11 + (wrap64 (Int.tmod (rd l0 x7_2) 20)))) true t237 t238 t239 t240) else (if x7_2 = 12 then (humuslaw11_TableFull.j4 kj11 l0 a1 x6_2 x7_2 (wrap64 (x8_11 + (wrap64 (Int.tmod (rd l0 x7_2) 20)))) (t244 != 12) t237 t238 t239 t240) else (humuslaw11_TableFull.j4 kj11 l0 a1 x6_2 x7_2 (wrap64 (x8_11 + (wrap64 (Int.tmod (rd l0 x7_2) 20)))) false t237 t238 t239 t240))) = some r:=H
          have A15:=Aside0.mk A150
          clear A150
          have HC16:=Aside0.mk H
          clear H
          have p236 : 0 ≤ (x7_2 : Int):=of_decide_eq_true (by first | (with_reducible assumption) | assumption)
          have q236 : x7_2 < (l0.length : Int):=of_decide_eq_true (by first | (with_reducible assumption) | assumption)
          obtain ⟨ad236,e236,hx236_0⟩:=Kd.at_int HR0.out x7_2 p236 q236
          cases e236
          replace hx236_0:=(HB.out.cell (World.block_lt_of_cell? w _ hx236_0)).trans hx236_0
          replace p236:=eq_true p236
          replace q236:=eq_true q236
          obtain ⟨hcz17_0,hcz17_1,hcz17_2,hcz17_3⟩:=blkc_4 BK213.out
          obtain ⟨hfz17_0,hfz17_1,hfz17_2,hfz17_3⟩:=blkz_4 BK213.out
          obtain ⟨Ao18,co18,eo18⟩:=Kd.R_slice HO_214003.out
          subst eo18
          go_upto_region 10 with (first | ((with_reducible refine gate_callee (f:=37) rfl ?_);refine goesL_ (some 40) rfl rfl Try.func37 (by kernel_rfl) rfl #[.agg #[.int .i64 x214000_2,.int .i64 x214001_2,.int .i64 x214002_2,.slice Ao18 x214003_2.length co18],.int .i64 (wrap64 (x8_11 + (wrap64 (Int.tmod (rd l0 x7_2) 20))))] rfl (by (try simp only [List.map_toArray,List.map_cons,List.map_nil]);first | done | rfl | (simp only [List.length_drop,List.length_take];rfl)) ?_;(with_reducible refine (table_Enter.calls kj11 x214000_2 x214001_2 x214002_2 _ _ x214003_2 (wrap64 (x8_11 + (wrap64 (Int.tmod (rd l0 x7_2) 20)))) t237 t238 t239 t240 t243 t244 _ ?side1 ?side2 A15.out).mono ?_);(case side1 => repeat (first | exact (Kd.R_reads' HO_214003.out).2.2 | (with_reducible refine Kd.C_alloc ?_ _) | (with_reducible refine Kd.C_drewN ?_ _) | (with_reducible refine Kd.C_drew ?_)));(case side2 => exact (Kd.R_reads' HO_214003.out).2.1);rintro e w19 ⟨v241,rfl,ho0,hb⟩;refine ⟨_,rfl,?_⟩;have n0_:=Aside0.mk (Kd.R_below (by (with_reducible repeat (first | apply Kd.R_alloc | apply Kd.R_drewN | apply Kd.R_drew));exact HO_6.out) hb);have n1_:=Aside0.mk (Kd.R_elder' (by (with_reducible repeat (first | apply Kd.R_alloc | apply Kd.R_drewN | apply Kd.R_drew));exact HO_214003.out) (Kd.R_base ho0) hb);have n2_:=Aside0.mk (Kd.R_lower (Kd.R_new' ho0 (Kd.R_lt (by (with_reducible repeat (first | apply Kd.R_alloc | apply Kd.R_drewN | apply Kd.R_drew));exact HO_214003.out))) (below_size (by repeat (first | (with_reducible first | exact HB.out | apply below_alloc | apply pw_below_drewN | apply below_drew1 | refine below_set ?_ GE213.out) | exact HB.out))));have n3_:=Aside0.mk (blk_below (g:=gb213) (o:=.cells #[.int .i64 x214000_2,.int .i64 x214001_2,.int .i64 x214002_2,.slice Ao18 x214003_2.length co18] 69 (0,0)) (by (with_reducible repeat (first | refine blk_drewN ?_ _ | refine blk_drew ?_ | refine blk_alloc ?_ _));exact BK213.out) hb);have n4_:=Aside0.mk (below_step (by repeat (first | (with_reducible first | exact HB.out | apply below_alloc | apply pw_below_drewN | apply below_drew1 | refine below_set ?_ GE213.out) | exact HB.out)) hb);clear HO_6;clear HO_214003;clear BK213;clear HB;have HO_6:=n0_;have HO_214003:=n1_;have HO242:=n2_;have BK213:=n3_;have HB:=n4_;clear n0_ n1_ n2_ n3_ n4_;(try clear hb);(try clear hb2);(try clear hk);(try clear hi);(try clear ho0)) | ((with_reducible refine gate_dst (N:=9) rfl ?_);refine box_event ?hg (N:=9) ?hd (cs:=#[.int .i64 0,.int .i64 0,.int .i64 0,.slice none 0 0]) (t:=69) ?hr ?_;(case hd => rfl);(case hg => rfl);(case hr => first | (go_simp;done) | (go_simp;rfl));intro gb245 hg w20 hbox hb;have n0_:=Aside0.mk (Kd.R_below (by (with_reducible repeat (first | apply Kd.R_alloc | apply Kd.R_drewN | apply Kd.R_drew));exact HO_6.out) hb);have n1_:=Aside0.mk (Kd.R_below (by (with_reducible repeat (first | apply Kd.R_alloc | apply Kd.R_drewN | apply Kd.R_drew));exact HO_214003.out) hb);have n2_:=Aside0.mk (Kd.R_below (by (with_reducible repeat (first | apply Kd.R_alloc | apply Kd.R_drewN | apply Kd.R_drew));exact HO242.out) hb);have n3_:=Aside0.mk (blk_below (g:=gb213) (o:=.cells #[.int .i64 x214000_2,.int .i64 x214001_2,.int .i64 x214002_2,.slice Ao18 x214003_2.length co18] 69 (0,0)) (by (with_reducible repeat (first | refine blk_drewN ?_ _ | refine blk_drew ?_ | refine blk_alloc ?_ _));exact BK213.out) hb);have n4_:=Aside0.mk (below_step (by repeat (first | (with_reducible first | exact HB.out | apply below_alloc | apply pw_below_drewN | apply below_drew1 | refine below_set ?_ GE213.out) | exact HB.out)) hb);have n5_:=Aside0.mk (hbox);have n6_:=Aside0.mk ((by rw [hg];exact (below_size (by repeat (first | (with_reducible first | exact HB.out | apply below_alloc | apply pw_below_drewN | apply below_drew1 | refine below_set ?_ GE213.out) | exact HB.out))) : w.heap.size ≤ gb245));have n7_:=Aside0.mk ((by rw [hg];exact (below_size (by repeat (first | (with_reducible first | exact HB.out | apply below_alloc | apply pw_below_drewN | apply below_drew1 | refine below_set ?_ GE213.out) | exact HB.out))) : w.heap.size ≤ gb245));have n8_:=Aside0.mk ((by rw [hg];exact Nat.ne_of_lt (blk_lt (g:=gb213) (o:=.cells #[.int .i64 x214000_2,.int .i64 x214001_2,.int .i64 x214002_2,.slice Ao18 x214003_2.length co18] 69 (0,0)) (by (with_reducible repeat (first | refine blk_drewN ?_ _ | refine blk_drew ?_ | refine blk_alloc ?_ _));exact BK213.out)) : gb213 ≠ gb245));have n9_:=Aside0.mk ((by rw [hg];exact Nat.ne_of_gt (blk_lt (g:=gb213) (o:=.cells #[.int .i64 x214000_2,.int .i64 x214001_2,.int .i64 x214002_2,.slice Ao18 x214003_2.length co18] 69 (0,0)) (by (with_reducible repeat (first | refine blk_drewN ?_ _ | refine blk_drew ?_ | refine blk_alloc ?_ _));exact BK213.out)) : gb245 ≠ gb213));clear HO_6;clear HO_214003;clear HO242;clear BK213;clear HB;have HO_6:=n0_;have HO_214003:=n1_;have HO242:=n2_;have BK213:=n3_;have HB:=n4_;have BK245:=n5_;have GW245:=n6_;have GE245:=n7_;have NB213_245:=n8_;have NB245_213:=n9_;clear n0_ n1_ n2_ n3_ n4_ n5_ n6_ n7_ n8_ n9_;clear hb hbox hg;have hnb21:=NB245_213.out;have hnc21:=NB213_245.out;obtain ⟨hcz22_0,hcz22_1,hcz22_2,hcz22_3⟩:=blkc_4 BK245.out;obtain ⟨hfz22_0,hfz22_1,hfz22_2,hfz22_3⟩:=blkz_4 BK245.out;obtain ⟨Ao23,co23,eo23⟩:=Kd.R_slice HO242.out;subst eo23))
          (try simp only [Act.put,List.setIfInBounds_toArray,List.set_cons_zero,List.set_cons_succ])
          go_cut [56] (fun v56 wc => ∃ (kq : Nat) (x56_15 : Bool),v56 = .bool x56_15 ∧ Aside0 (humuslaw11_TableFull.j4 kq l0 a1 x6_2 x7_2 (wrap64 (x8_11 + (wrap64 (Int.tmod (rd l0 x7_2) 20)))) x56_15 t237 t238 t239 t240 = some r) ∧ Aside0 (kq ≤ kj11) ∧ Aside0 (Kd.R (Kd.int .i64) 3 wc w.heap.size (fun _ => True) u6 x6_2) ∧ Aside0 (Kd.R k112 112 wc w.heap.size (fun k_ => some k_ ≠ ((.slice Ao23 t240.length co23) : Value).ownBlock) (.slice Ao18 x214003_2.length co18) x214003_2) ∧ Aside0 (Kd.R k112 112 wc w.heap.size (fun k_ => some k_ ≠ ((.slice Ao18 x214003_2.length co18) : Value).ownBlock) (.slice Ao23 t240.length co23) t240) ∧ Aside0 (wc.heap[gb213]? = some (.cells #[.int .i64 x214000_2,.int .i64 x214001_2,.int .i64 x214002_2,(.slice Ao18 x214003_2.length co18)] 69 (0,0))) ∧ Aside0 (wc.heap[gb245]? = some (.cells #[.int .i64 t237,.int .i64 t238,.int .i64 t239,(.slice Ao23 t240.length co23)] 69 (0,0))) ∧ Aside0 (Below w.heap.size w wc))
          case first =>
           have H:=HC16.out
           clear HC16
           by_cases c24 : ((t244 == 0) != (decide (x7_2 < 12))) = true
           ·rw [if_pos c24] at H
            have c24b0 : ((t244 == 0) != (decide (x7_2 < 12))) = true:=c24
            (try (have c24b1 : decide ((t244 == 0) = (decide (x7_2 < 12))) = false:=by simpa using c24))
            (try (have c24b2 : ((t244 == 0) == (decide (x7_2 < 12))) = false:=by simpa using c24))
            (try (have c24b3 : ¬ ((t244 == 0) = (decide (x7_2 < 12))):=by simpa using c24))
            clear c24
            (first | rw [c24b0] | (simp only [i64_w,i32_w];rw [c24b0]) | skip)
            have H':=Aside0.mk H
            clear H
            go_wp2
            go_meet
            case rel => exact ⟨_,(true),(by first | rfl | (simp;done) | (simp [*];done)),H',⟨by have:=HJ3.out;have:=HK2.out;have:=HJ11.out;first | omega | exact Nat.le_refl _⟩,⟨by (with_reducible repeat (first | apply Kd.R_alloc | apply Kd.R_drewN | apply Kd.R_drew));exact Kd.R_mono (Kd.R_far (p:=⟨gb245,3,none⟩) (Kd.R_far (p:=⟨gb245,2,none⟩) (Kd.R_far (p:=⟨gb245,1,none⟩) (Kd.R_far (p:=⟨gb245,0,none⟩) (Kd.R_types HO_6.out BK245.out (by decide)) (fun _ hk => hk.2) (.int .i64 t237)) (fun _ hk => hk.2) (.int .i64 t238)) (fun _ hk => hk.2) (.int .i64 t239)) (fun _ hk => hk.2) (.slice Ao23 t240.length co23)) (fun _ hk => trivial)⟩,⟨by (with_reducible repeat (first | apply Kd.R_alloc | apply Kd.R_drewN | apply Kd.R_drew));exact Kd.R_mono (Kd.R_far (p:=⟨gb245,3,none⟩) (Kd.R_far (p:=⟨gb245,2,none⟩) (Kd.R_far (p:=⟨gb245,1,none⟩) (Kd.R_far (p:=⟨gb245,0,none⟩) (Kd.R_types HO_214003.out BK245.out (by decide)) (fun _ hk => hk.2) (.int .i64 t237)) (fun _ hk => hk.2) (.int .i64 t238)) (fun _ hk => hk.2) (.int .i64 t239)) (fun _ hk => hk.2) (.slice Ao23 t240.length co23)) (fun _ hk => hk.1.2)⟩,⟨by (with_reducible repeat (first | apply Kd.R_alloc | apply Kd.R_drewN | apply Kd.R_drew));exact Kd.R_mono (Kd.R_far (p:=⟨gb245,3,none⟩) (Kd.R_far (p:=⟨gb245,2,none⟩) (Kd.R_far (p:=⟨gb245,1,none⟩) (Kd.R_far (p:=⟨gb245,0,none⟩) (Kd.R_types HO242.out BK245.out (by decide)) (fun _ hk => hk.2) (.int .i64 t237)) (fun _ hk => hk.2) (.int .i64 t238)) (fun _ hk => hk.2) (.int .i64 t239)) (fun _ hk => hk.2) (.slice Ao23 t240.length co23)) (fun _ hk => hk.1.2)⟩,⟨by (with_reducible repeat (first | refine blk_drewN ?_ _ | refine blk_drew ?_ | refine blk_alloc ?_ _));refine blk_far ?_ NB213_245.out _;(with_reducible repeat (first | refine blk_drewN ?_ _ | refine blk_drew ?_ | refine blk_alloc ?_ _));refine blk_far ?_ NB213_245.out _;(with_reducible repeat (first | refine blk_drewN ?_ _ | refine blk_drew ?_ | refine blk_alloc ?_ _));refine blk_far ?_ NB213_245.out _;(with_reducible repeat (first | refine blk_drewN ?_ _ | refine blk_drew ?_ | refine blk_alloc ?_ _));refine blk_far ?_ NB213_245.out _;(with_reducible repeat (first | refine blk_drewN ?_ _ | refine blk_drew ?_ | refine blk_alloc ?_ _));exact BK213.out⟩,⟨by (with_reducible repeat (first | refine blk_drewN ?_ _ | refine blk_drew ?_ | refine blk_alloc ?_ _));apply blkf_4_0_3;(with_reducible repeat (first | refine blk_drewN ?_ _ | refine blk_drew ?_ | refine blk_alloc ?_ _));exact BK245.out⟩,⟨by repeat (first | (with_reducible first | exact HB.out | apply below_alloc | apply pw_below_drewN | apply below_drew1 | refine below_set ?_ GE213.out | refine below_set ?_ GE245.out) | exact HB.out)⟩⟩
           ·rw [if_neg c24] at H
            have c24b0 : ((t244 == 0) != (decide (x7_2 < 12))) = false:=by simpa using c24
            (try (have c24b1 : decide ((t244 == 0) = (decide (x7_2 < 12))) = true:=by simpa using c24))
            (try (have c24b2 : ((t244 == 0) == (decide (x7_2 < 12))) = true:=by simpa using c24))
            clear c24
            (first | rw [c24b0] | (simp only [i64_w,i32_w];rw [c24b0]) | skip)
            by_cases c25 : x7_2 = 12
            ·rw [if_pos c25] at H
             have c25b0 : (x7_2 == 12) = true:=beq_iff_eq.mpr c25
             have c25b1 : (x7_2 != 12) = false:=bne_eq_false_iff_eq.mpr c25
             clear c25
             have H':=Aside0.mk H
             clear H
             go_wp2
             go_meet
             case rel => exact ⟨_,((t244 != 12)),(by first | rfl | (simp;done) | (simp [*];done)),H',⟨by have:=HJ3.out;have:=HK2.out;have:=HJ11.out;first | omega | exact Nat.le_refl _⟩,⟨by (with_reducible repeat (first | apply Kd.R_alloc | apply Kd.R_drewN | apply Kd.R_drew));exact Kd.R_mono (Kd.R_far (p:=⟨gb245,3,none⟩) (Kd.R_far (p:=⟨gb245,2,none⟩) (Kd.R_far (p:=⟨gb245,1,none⟩) (Kd.R_far (p:=⟨gb245,0,none⟩) (Kd.R_types HO_6.out BK245.out (by decide)) (fun _ hk => hk.2) (.int .i64 t237)) (fun _ hk => hk.2) (.int .i64 t238)) (fun _ hk => hk.2) (.int .i64 t239)) (fun _ hk => hk.2) (.slice Ao23 t240.length co23)) (fun _ hk => trivial)⟩,⟨by (with_reducible repeat (first | apply Kd.R_alloc | apply Kd.R_drewN | apply Kd.R_drew));exact Kd.R_mono (Kd.R_far (p:=⟨gb245,3,none⟩) (Kd.R_far (p:=⟨gb245,2,none⟩) (Kd.R_far (p:=⟨gb245,1,none⟩) (Kd.R_far (p:=⟨gb245,0,none⟩) (Kd.R_types HO_214003.out BK245.out (by decide)) (fun _ hk => hk.2) (.int .i64 t237)) (fun _ hk => hk.2) (.int .i64 t238)) (fun _ hk => hk.2) (.int .i64 t239)) (fun _ hk => hk.2) (.slice Ao23 t240.length co23)) (fun _ hk => hk.1.2)⟩,⟨by (with_reducible repeat (first | apply Kd.R_alloc | apply Kd.R_drewN | apply Kd.R_drew));exact Kd.R_mono (Kd.R_far (p:=⟨gb245,3,none⟩) (Kd.R_far (p:=⟨gb245,2,none⟩) (Kd.R_far (p:=⟨gb245,1,none⟩) (Kd.R_far (p:=⟨gb245,0,none⟩) (Kd.R_types HO242.out BK245.out (by decide)) (fun _ hk => hk.2) (.int .i64 t237)) (fun _ hk => hk.2) (.int .i64 t238)) (fun _ hk => hk.2) (.int .i64 t239)) (fun _ hk => hk.2) (.slice Ao23 t240.length co23)) (fun _ hk => hk.1.2)⟩,⟨by (with_reducible repeat (first | refine blk_drewN ?_ _ | refine blk_drew ?_ | refine blk_alloc ?_ _));refine blk_far ?_ NB213_245.out _;(with_reducible repeat (first | refine blk_drewN ?_ _ | refine blk_drew ?_ | refine blk_alloc ?_ _));refine blk_far ?_ NB213_245.out _;(with_reducible repeat (first | refine blk_drewN ?_ _ | refine blk_drew ?_ | refine blk_alloc ?_ _));refine blk_far ?_ NB213_245.out _;(with_reducible repeat (first | refine blk_drewN ?_ _ | refine blk_drew ?_ | refine blk_alloc ?_ _));refine blk_far ?_ NB213_245.out _;(with_reducible repeat (first | refine blk_drewN ?_ _ | refine blk_drew ?_ | refine blk_alloc ?_ _));exact BK213.out⟩,⟨by (with_reducible repeat (first | refine blk_drewN ?_ _ | refine blk_drew ?_ | refine blk_alloc ?_ _));apply blkf_4_0_3;(with_reducible repeat (first | refine blk_drewN ?_ _ | refine blk_drew ?_ | refine blk_alloc ?_ _));exact BK245.out⟩,⟨by repeat (first | (with_reducible first | exact HB.out | apply below_alloc | apply pw_below_drewN | apply below_drew1 | refine below_set ?_ GE213.out | refine below_set ?_ GE245.out) | exact HB.out)⟩⟩
            ·rw [if_neg c25] at H
             have c25b0 : (x7_2 == 12) = false:=beq_eq_false_iff_ne.mpr c25
             have c25b1 : (x7_2 != 12) = true:=bne_iff_ne.mpr c25
             have H':=Aside0.mk H
             clear H
             go_wp2
             go_meet
             case rel => exact ⟨_,(false),(by first | rfl | (simp;done) | (simp [*];done)),H',⟨by have:=HJ3.out;have:=HK2.out;have:=HJ11.out;first | omega | exact Nat.le_refl _⟩,⟨by (with_reducible repeat (first | apply Kd.R_alloc | apply Kd.R_drewN | apply Kd.R_drew));exact Kd.R_mono (Kd.R_far (p:=⟨gb245,3,none⟩) (Kd.R_far (p:=⟨gb245,2,none⟩) (Kd.R_far (p:=⟨gb245,1,none⟩) (Kd.R_far (p:=⟨gb245,0,none⟩) (Kd.R_types HO_6.out BK245.out (by decide)) (fun _ hk => hk.2) (.int .i64 t237)) (fun _ hk => hk.2) (.int .i64 t238)) (fun _ hk => hk.2) (.int .i64 t239)) (fun _ hk => hk.2) (.slice Ao23 t240.length co23)) (fun _ hk => trivial)⟩,⟨by (with_reducible repeat (first | apply Kd.R_alloc | apply Kd.R_drewN | apply Kd.R_drew));exact Kd.R_mono (Kd.R_far (p:=⟨gb245,3,none⟩) (Kd.R_far (p:=⟨gb245,2,none⟩) (Kd.R_far (p:=⟨gb245,1,none⟩) (Kd.R_far (p:=⟨gb245,0,none⟩) (Kd.R_types HO_214003.out BK245.out (by decide)) (fun _ hk => hk.2) (.int .i64 t237)) (fun _ hk => hk.2) (.int .i64 t238)) (fun _ hk => hk.2) (.int .i64 t239)) (fun _ hk => hk.2) (.slice Ao23 t240.length co23)) (fun _ hk => hk.1.2)⟩,⟨by (with_reducible repeat (first | apply Kd.R_alloc | apply Kd.R_drewN | apply Kd.R_drew));exact Kd.R_mono (Kd.R_far (p:=⟨gb245,3,none⟩) (Kd.R_far (p:=⟨gb245,2,none⟩) (Kd.R_far (p:=⟨gb245,1,none⟩) (Kd.R_far (p:=⟨gb245,0,none⟩) (Kd.R_types HO242.out BK245.out (by decide)) (fun _ hk => hk.2) (.int .i64 t237)) (fun _ hk => hk.2) (.int .i64 t238)) (fun _ hk => hk.2) (.int .i64 t239)) (fun _ hk => hk.2) (.slice Ao23 t240.length co23)) (fun _ hk => hk.1.2)⟩,⟨by (with_reducible repeat (first | refine blk_drewN ?_ _ | refine blk_drew ?_ | refine blk_alloc ?_ _));refine blk_far ?_ NB213_245.out _;(with_reducible repeat (first | refine blk_drewN ?_ _ | refine blk_drew ?_ | refine blk_alloc ?_ _));refine blk_far ?_ NB213_245.out _;(with_reducible repeat (first | refine blk_drewN ?_ _ | refine blk_drew ?_ | refine blk_alloc ?_ _));refine blk_far ?_ NB213_245.out _;(with_reducible repeat (first | refine blk_drewN ?_ _ | refine blk_drew ?_ | refine blk_alloc ?_ _));refine blk_far ?_ NB213_245.out _;(with_reducible repeat (first | refine blk_drewN ?_ _ | refine blk_drew ?_ | refine blk_alloc ?_ _));exact BK213.out⟩,⟨by (with_reducible repeat (first | refine blk_drewN ?_ _ | refine blk_drew ?_ | refine blk_alloc ?_ _));apply blkf_4_0_3;(with_reducible repeat (first | refine blk_drewN ?_ _ | refine blk_drew ?_ | refine blk_alloc ?_ _));exact BK245.out⟩,⟨by repeat (first | (with_reducible first | exact HB.out | apply below_alloc | apply pw_below_drewN | apply below_drew1 | refine below_set ?_ GE213.out | refine below_set ?_ GE245.out) | exact HB.out)⟩⟩
          case rest =>
           clear HC16
           try clear c1
           try clear c2
           try clear p2
           try clear q2
           try clear hx2
           try clear c3
           try clear p6
           try clear c11
           try clear c11b0
           try clear c13
           try clear c13b0
           try clear c14
           try clear c14b0
           try clear c21
           try clear p23
           try clear q23
           try clear hx23
           try clear c24
           try clear c24b0
           try clear c24b1
           try clear c24b2
           try clear c25
           try clear c25b0
           try clear c25b1
           try clear hcz17_0
           try clear hcz17_1
           try clear hcz17_2
           try clear hcz17_3
           try clear hcz22_0
           try clear hcz22_1
           try clear hcz22_2
           try clear hcz22_3
           try clear hcz7_0
           try clear hcz7_1
           try clear hcz7_2
           try clear hcz7_3
           try clear hfz17_0
           try clear hfz17_1
           try clear hfz17_2
           try clear hfz17_3
           try clear hfz22_0
           try clear hfz22_1
           try clear hfz22_2
           try clear hfz22_3
           try clear hfz7_0
           try clear hfz7_1
           try clear hfz7_2
           try clear hfz7_3
           try clear hx236_0
           try clear p2
           try clear p236
           try clear p6
           try clear q236
           obtain ⟨kq,x56_15,rfl,HA,HJ15,HO_6,HO_214003,HO_246003,BK213,BK245,HB⟩:=hcut
           cases kq with
           | zero => exact absurd HA.out (by simp [humuslaw11_TableFull.j4])
           | succ kj15 =>
            have H:=HA.out
            clear HA
            simp only [humuslaw11_TableFull.j4] at H
            by_cases c26 : x56_15 = true
            ·subst c26
             have H1 : (none) = some r:=by rw [if_pos rfl] at H;exact H
             clear H
             have H:=H1
             clear H1
             exact absurd H (by simp)
            ·replace c26:=Bool.eq_false_iff.mpr c26
             subst c26
             have H1 : (if x6_2.length < 17592186044416 then (humuslaw11_TableFull.l0 kj15 l0 a1 (x6_2 ++ [(wrap64 (x8_11 + (wrap64 (Int.tmod (rd l0 x7_2) 20))))]) (wrap64 (x7_2 + 1)) t237 t238 t239 t240) else (none)) = some r:=by rw [if_neg (show ¬ (false = true) by decide)] at H;exact H
             clear H
             have H:=H1
             clear H1
             by_cases c27 : x6_2.length < 17592186044416
             ·rw [if_pos c27] at H
              have LMc27:=Aside0.mk c27
              clear c27
              obtain ⟨y246,hy246⟩ : ∃ y_ : List Int,y_ = (x6_2 ++ [(wrap64 (x8_11 + (wrap64 (Int.tmod (rd l0 x7_2) 20))))]):=⟨_,rfl⟩
              replace H : (humuslaw11_TableFull.l0 kj15 l0 a1 y246 (wrap64 (x7_2 + 1)) t237 t238 t239 t240) = some r:=by first | (rw [hy246];with_reducible exact H) | (have H2_:=(Option.bind_some _ _).symm.trans H;rw [hy246];with_reducible exact H2_) | (have H2_:=(Option.bind_some _ _).symm.trans H;with_reducible exact H2_) | with_reducible exact H | (rw [hy246];exact H) | exact H
              have Ny246:=Aside0.mk hy246
              clear hy246
              have H':=Aside0.mk H
              clear H
              have hnb28:=NB245_213.out
              have hnc28:=NB213_245.out
              obtain ⟨hcz29_0,hcz29_1,hcz29_2,hcz29_3⟩:=blkc_4 BK245.out
              obtain ⟨hfz29_0,hfz29_1,hfz29_2,hfz29_3⟩:=blkz_4 BK245.out
              obtain ⟨hcz30_0,hcz30_1,hcz30_2,hcz30_3⟩:=blkc_4 BK213.out
              obtain ⟨hfz30_0,hfz30_1,hfz30_2,hfz30_3⟩:=blkz_4 BK213.out
              go_wp2_with (first | ((with_reducible refine gate_builtin (b:=.append) (xs:=#[.tmp 58,.tmp 60]) rfl ?_);at_builtin;refine Kd.R_append (Kd.int .i64) (w0:=w) w.heap.size rfl (.tmp 58) (.tmp 60) 24 3 (.int .i64 0) 8 rfl Try.underlying24 info3 rfl (by decide) (by omega) u6 x6_2 (wrap64 (x8_11 + (wrap64 (Int.tmod (rd l0 x7_2) 20)))) [.int .i64 (wrap64 (x8_11 + (wrap64 (Int.tmod (rd l0 x7_2) 20))))] (fun _ => True) (fun _ => False) rfl (by first | (go_simp;done) | (go_simp;rfl)) ?aP (fun _ hk => hk.elim) ?aF ?aO ?aB ?aS ?aL ?_;(case aP => exact rfl);(case aB => exact (by repeat (first | (with_reducible first | exact HB.out | apply below_alloc | apply pw_below_drewN | apply below_drew1 | refine below_set ?_ GE213.out | refine below_set ?_ GE245.out) | exact HB.out)));(case aF => exact (fun _ _ => trivial));(case aO => exact (by (with_reducible repeat (first | apply Kd.R_alloc | apply Kd.R_drewN | apply Kd.R_drew));exact Kd.R_mono (Kd.R_far (p:=⟨gb213,3,none⟩) (Kd.R_far (p:=⟨gb213,2,none⟩) (Kd.R_far (p:=⟨gb213,1,none⟩) (Kd.R_far (p:=⟨gb213,0,none⟩) (Kd.R_types HO_6.out BK213.out (by decide)) (fun _ hk => hk.2) (.int .i64 t237)) (fun _ hk => hk.2) (.int .i64 t238)) (fun _ hk => hk.2) (.int .i64 t239)) (fun _ hk => hk.2) (.slice Ao23 t240.length co23)) (fun _ hk => trivial)));(case aS => exact (below_size (by repeat (first | (with_reducible first | exact HB.out | apply below_alloc | apply pw_below_drewN | apply below_drew1 | refine below_set ?_ GE213.out | refine below_set ?_ GE245.out) | exact HB.out))));(case aL => have:=LMc27.out;omega);intro v247 w31 ho hb hg hat;rw [← Ny246.out] at ho;have n0_:=Aside0.mk (Kd.R_over' (by (with_reducible repeat (first | apply Kd.R_alloc | apply Kd.R_drewN | apply Kd.R_drew));exact (Kd.R_mono (Kd.R_far (p:=⟨gb213,3,none⟩) (Kd.R_far (p:=⟨gb213,2,none⟩) (Kd.R_far (p:=⟨gb213,1,none⟩) (Kd.R_far (p:=⟨gb213,0,none⟩) (Kd.R_types HO_214003.out BK213.out (by decide)) (fun _ hk => hk.2) (.int .i64 t237)) (fun _ hk => hk.2) (.int .i64 t238)) (fun _ hk => hk.2) (.int .i64 t239)) (fun _ hk => hk.2) (.slice Ao23 t240.length co23)) (fun _ h_ => h_.1))) (Kd.R_typed (by (with_reducible repeat (first | apply Kd.R_alloc | apply Kd.R_drewN | apply Kd.R_drew));exact (Kd.R_mono (Kd.R_far (p:=⟨gb213,3,none⟩) (Kd.R_far (p:=⟨gb213,2,none⟩) (Kd.R_far (p:=⟨gb213,1,none⟩) (Kd.R_far (p:=⟨gb213,0,none⟩) (Kd.R_types HO_6.out BK213.out (by decide)) (fun _ hk => hk.2) (.int .i64 t237)) (fun _ hk => hk.2) (.int .i64 t238)) (fun _ hk => hk.2) (.int .i64 t239)) (fun _ hk => hk.2) (.slice Ao23 t240.length co23)) (fun _ h_ => h_.1)))) (by decide) hg);have n1_:=Aside0.mk (Kd.R_over' (by (with_reducible repeat (first | apply Kd.R_alloc | apply Kd.R_drewN | apply Kd.R_drew));exact (Kd.R_mono (Kd.R_far (p:=⟨gb213,3,none⟩) (Kd.R_far (p:=⟨gb213,2,none⟩) (Kd.R_far (p:=⟨gb213,1,none⟩) (Kd.R_far (p:=⟨gb213,0,none⟩) (Kd.R_types HO_246003.out BK213.out (by decide)) (fun _ hk => hk.2) (.int .i64 t237)) (fun _ hk => hk.2) (.int .i64 t238)) (fun _ hk => hk.2) (.int .i64 t239)) (fun _ hk => hk.2) (.slice Ao23 t240.length co23)) (fun _ h_ => h_.1))) (Kd.R_typed (by (with_reducible repeat (first | apply Kd.R_alloc | apply Kd.R_drewN | apply Kd.R_drew));exact (Kd.R_mono (Kd.R_far (p:=⟨gb213,3,none⟩) (Kd.R_far (p:=⟨gb213,2,none⟩) (Kd.R_far (p:=⟨gb213,1,none⟩) (Kd.R_far (p:=⟨gb213,0,none⟩) (Kd.R_types HO_6.out BK213.out (by decide)) (fun _ hk => hk.2) (.int .i64 t237)) (fun _ hk => hk.2) (.int .i64 t238)) (fun _ hk => hk.2) (.int .i64 t239)) (fun _ hk => hk.2) (.slice Ao23 t240.length co23)) (fun _ h_ => h_.1)))) (by decide) hg);have n2_:=Aside0.mk (blk_grown (g:=gb213) (o:=.cells #[.int .i64 t237,.int .i64 t238,.int .i64 t239,.slice Ao23 t240.length co23] 69 (0,0)) (by (with_reducible repeat (first | refine blk_drewN ?_ _ | refine blk_drew ?_ | refine blk_alloc ?_ _));apply blkf_4_0_3;(with_reducible repeat (first | refine blk_drewN ?_ _ | refine blk_drew ?_ | refine blk_alloc ?_ _));exact BK213.out) hg (Kd.R_ne HO_6.out BK213.out (by decide)));have n3_:=Aside0.mk (blk_grown (g:=gb245) (o:=.cells #[.int .i64 t237,.int .i64 t238,.int .i64 t239,.slice Ao23 t240.length co23] 69 (0,0)) (by (with_reducible repeat (first | refine blk_drewN ?_ _ | refine blk_drew ?_ | refine blk_alloc ?_ _));refine blk_far ?_ NB245_213.out _;(with_reducible repeat (first | refine blk_drewN ?_ _ | refine blk_drew ?_ | refine blk_alloc ?_ _));refine blk_far ?_ NB245_213.out _;(with_reducible repeat (first | refine blk_drewN ?_ _ | refine blk_drew ?_ | refine blk_alloc ?_ _));refine blk_far ?_ NB245_213.out _;(with_reducible repeat (first | refine blk_drewN ?_ _ | refine blk_drew ?_ | refine blk_alloc ?_ _));refine blk_far ?_ NB245_213.out _;(with_reducible repeat (first | refine blk_drewN ?_ _ | refine blk_drew ?_ | refine blk_alloc ?_ _));exact BK245.out) hg (Kd.R_ne HO_6.out BK245.out (by decide)));have n4_:=Aside0.mk (hb);have n5_:=Aside0.mk (ho);clear HO_214003;clear HO_246003;clear BK213;clear BK245;clear HB;clear HO_6;have HO_214003:=n0_;have HO_246003:=n1_;have BK213:=n2_;have BK245:=n3_;have HB:=n4_;have HO248:=n5_;clear n0_ n1_ n2_ n3_ n4_ n5_;clear ho hb hg hat))
              go_roundg kj15
              case measure => have:=HJ3.out;have:=HK2.out;have:=HJ11.out;have:=HJ15.out;omega
              case rel => exact ⟨(y246),(wrap64 (x7_2 + 1)),(t237),(t238),(t239),(t240),(.slice Ao23 t240.length co23),(by first | rfl | (simp;done) | (simp [*];done)),H',⟨by have:=HJ3.out;have:=HK2.out;have:=HJ11.out;have:=HJ15.out;omega⟩,⟨by (with_reducible repeat (first | apply Kd.R_alloc | apply Kd.R_drewN | apply Kd.R_drew));exact HO248.out⟩,⟨by (with_reducible repeat (first | apply Kd.R_alloc | apply Kd.R_drewN | apply Kd.R_drew));exact Kd.R_mono HO_246003.out (fun _ hk => trivial)⟩,⟨by (with_reducible repeat (first | refine blk_drewN ?_ _ | refine blk_drew ?_ | refine blk_alloc ?_ _));exact BK213.out⟩,⟨by repeat (first | (with_reducible first | exact HB.out | apply below_alloc | apply pw_below_drewN | apply below_drew1 | refine below_set ?_ GE213.out | refine below_set ?_ GE245.out) | exact HB.out)⟩⟩
             ·rw [if_neg c27] at H
              exact absurd H (by simp)
         ·rw [if_neg c14] at H
          exact absurd H (by simp)
        ·rw [if_neg c13] at H
         have c13b0 : decide (x7_2 < (l0.length : Int)) = false:=decide_eq_false c13
         clear c13
         replace H:=Option.bind_eq_some_iff.mp H
         obtain ⟨⟨t249,t250,t251,t252,t255,t256⟩,A320,H⟩:=H
         replace H : (if ((t256 == 0) != (decide (x7_2 < 12))) = true then (humuslaw11_TableFull.j5 kj11 l0 a1 x6_2 x7_2 x8_11 true t249 t250 t251 t252) else (if x7_2 = 12 then (humuslaw11_TableFull.j5 kj11 l0 a1 x6_2 x7_2 x8_11 (t256 != 12) t249 t250 t251 t252) else (humuslaw11_TableFull.j5 kj11 l0 a1 x6_2 x7_2 x8_11 false t249 t250 t251 t252))) = some r:=H
         have A32:=Aside0.mk A320
         clear A320
         have HC33:=Aside0.mk H
         clear H
         obtain ⟨hcz34_0,hcz34_1,hcz34_2,hcz34_3⟩:=blkc_4 BK213.out
         obtain ⟨hfz34_0,hfz34_1,hfz34_2,hfz34_3⟩:=blkz_4 BK213.out
         obtain ⟨Ao35,co35,eo35⟩:=Kd.R_slice HO_214003.out
         subst eo35
         go_upto_region 10 with (first | ((with_reducible refine gate_callee (f:=37) rfl ?_);refine goesL_ (some 40) rfl rfl Try.func37 (by kernel_rfl) rfl #[.agg #[.int .i64 x214000_2,.int .i64 x214001_2,.int .i64 x214002_2,.slice Ao35 x214003_2.length co35],.int .i64 x8_11] rfl (by (try simp only [List.map_toArray,List.map_cons,List.map_nil]);first | done | rfl | (simp only [List.length_drop,List.length_take];rfl)) ?_;(with_reducible refine (table_Enter.calls kj11 x214000_2 x214001_2 x214002_2 _ _ x214003_2 x8_11 t249 t250 t251 t252 t255 t256 _ ?side1 ?side2 A32.out).mono ?_);(case side1 => repeat (first | exact (Kd.R_reads' HO_214003.out).2.2 | (with_reducible refine Kd.C_alloc ?_ _) | (with_reducible refine Kd.C_drewN ?_ _) | (with_reducible refine Kd.C_drew ?_)));(case side2 => exact (Kd.R_reads' HO_214003.out).2.1);rintro e w36 ⟨v253,rfl,ho0,hb⟩;refine ⟨_,rfl,?_⟩;have n0_:=Aside0.mk (Kd.R_below (by (with_reducible repeat (first | apply Kd.R_alloc | apply Kd.R_drewN | apply Kd.R_drew));exact HO_6.out) hb);have n1_:=Aside0.mk (Kd.R_elder' (by (with_reducible repeat (first | apply Kd.R_alloc | apply Kd.R_drewN | apply Kd.R_drew));exact HO_214003.out) (Kd.R_base ho0) hb);have n2_:=Aside0.mk (Kd.R_lower (Kd.R_new' ho0 (Kd.R_lt (by (with_reducible repeat (first | apply Kd.R_alloc | apply Kd.R_drewN | apply Kd.R_drew));exact HO_214003.out))) (below_size (by repeat (first | (with_reducible first | exact HB.out | apply below_alloc | apply pw_below_drewN | apply below_drew1 | refine below_set ?_ GE213.out) | exact HB.out))));have n3_:=Aside0.mk (blk_below (g:=gb213) (o:=.cells #[.int .i64 x214000_2,.int .i64 x214001_2,.int .i64 x214002_2,.slice Ao35 x214003_2.length co35] 69 (0,0)) (by (with_reducible repeat (first | refine blk_drewN ?_ _ | refine blk_drew ?_ | refine blk_alloc ?_ _));exact BK213.out) hb);have n4_:=Aside0.mk (below_step (by repeat (first | (with_reducible first | exact HB.out | apply below_alloc | apply pw_below_drewN | apply below_drew1 | refine below_set ?_ GE213.out) | exact HB.out)) hb);clear HO_6;clear HO_214003;clear BK213;clear HB;have HO_6:=n0_;have HO_214003:=n1_;have HO254:=n2_;have BK213:=n3_;have HB:=n4_;clear n0_ n1_ n2_ n3_ n4_;(try clear hb);(try clear hb2);(try clear hk);(try clear hi);(try clear ho0)) | ((with_reducible refine gate_dst (N:=9) rfl ?_);refine box_event ?hg (N:=9) ?hd (cs:=#[.int .i64 0,.int .i64 0,.int .i64 0,.slice none 0 0]) (t:=69) ?hr ?_;(case hd => rfl);(case hg => rfl);(case hr => first | (go_simp;done) | (go_simp;rfl));intro gb257 hg w37 hbox hb;have n0_:=Aside0.mk (Kd.R_below (by (with_reducible repeat (first | apply Kd.R_alloc | apply Kd.R_drewN | apply Kd.R_drew));exact HO_6.out) hb);have n1_:=Aside0.mk (Kd.R_below (by (with_reducible repeat (first | apply Kd.R_alloc | apply Kd.R_drewN | apply Kd.R_drew));exact HO_214003.out) hb);have n2_:=Aside0.mk (Kd.R_below (by (with_reducible repeat (first | apply Kd.R_alloc | apply Kd.R_drewN | apply Kd.R_drew));exact HO254.out) hb);have n3_:=Aside0.mk (blk_below (g:=gb213) (o:=.cells #[.int .i64 x214000_2,.int .i64 x214001_2,.int .i64 x214002_2,.slice Ao35 x214003_2.length co35] 69 (0,0)) (by (with_reducible repeat (first | refine blk_drewN ?_ _ | refine blk_drew ?_ | refine blk_alloc ?_ _));exact BK213.out) hb);have n4_:=Aside0.mk (below_step (by repeat (first | (with_reducible first | exact HB.out | apply below_alloc | apply pw_below_drewN | apply below_drew1 | refine below_set ?_ GE213.out) | exact HB.out)) hb);have n5_:=Aside0.mk (hbox);have n6_:=Aside0.mk ((by rw [hg];exact (below_size (by repeat (first | (with_reducible first | exact HB.out | apply below_alloc | apply pw_below_drewN | apply below_drew1 | refine below_set ?_ GE213.out) | exact HB.out))) : w.heap.size ≤ gb257));have n7_:=Aside0.mk ((by rw [hg];exact (below_size (by repeat (first | (with_reducible first | exact HB.out | apply below_alloc | apply pw_below_drewN | apply below_drew1 | refine below_set ?_ GE213.out) | exact HB.out))) : w.heap.size ≤ gb257));have n8_:=Aside0.mk ((by rw [hg];exact Nat.ne_of_lt (blk_lt (g:=gb213) (o:=.cells #[.int .i64 x214000_2,.int .i64 x214001_2,.int .i64 x214002_2,.slice Ao35 x214003_2.length co35] 69 (0,0)) (by (with_reducible repeat (first | refine blk_drewN ?_ _ | refine blk_drew ?_ | refine blk_alloc ?_ _));exact BK213.out)) : gb213 ≠ gb257));have n9_:=Aside0.mk ((by rw [hg];exact Nat.ne_of_gt (blk_lt (g:=gb213) (o:=.cells #[.int .i64 x214000_2,.int .i64 x214001_2,.int .i64 x214002_2,.slice Ao35 x214003_2.length co35] 69 (0,0)) (by (with_reducible repeat (first | refine blk_drewN ?_ _ | refine blk_drew ?_ | refine blk_alloc ?_ _));exact BK213.out)) : gb257 ≠ gb213));clear HO_6;clear HO_214003;clear HO254;clear BK213;clear HB;have HO_6:=n0_;have HO_214003:=n1_;have HO254:=n2_;have BK213:=n3_;have HB:=n4_;have BK257:=n5_;have GW257:=n6_;have GE257:=n7_;have NB213_257:=n8_;have NB257_213:=n9_;clear n0_ n1_ n2_ n3_ n4_ n5_ n6_ n7_ n8_ n9_;clear hb hbox hg;have hnb38:=NB257_213.out;have hnc38:=NB213_257.out;obtain ⟨hcz39_0,hcz39_1,hcz39_2,hcz39_3⟩:=blkc_4 BK257.out;obtain ⟨hfz39_0,hfz39_1,hfz39_2,hfz39_3⟩:=blkz_4 BK257.out;obtain ⟨Ao40,co40,eo40⟩:=Kd.R_slice HO254.out;subst eo40))
         (try simp only [Act.put,List.setIfInBounds_toArray,List.set_cons_zero,List.set_cons_succ])
         go_cut [56] (fun v56 wc => ∃ (kq : Nat) (x56_32 : Bool),v56 = .bool x56_32 ∧ Aside0 (humuslaw11_TableFull.j5 kq l0 a1 x6_2 x7_2 x8_11 x56_32 t249 t250 t251 t252 = some r) ∧ Aside0 (kq ≤ kj11) ∧ Aside0 (Kd.R (Kd.int .i64) 3 wc w.heap.size (fun _ => True) u6 x6_2) ∧ Aside0 (Kd.R k112 112 wc w.heap.size (fun k_ => some k_ ≠ ((.slice Ao40 t252.length co40) : Value).ownBlock) (.slice Ao35 x214003_2.length co35) x214003_2) ∧ Aside0 (Kd.R k112 112 wc w.heap.size (fun k_ => some k_ ≠ ((.slice Ao35 x214003_2.length co35) : Value).ownBlock) (.slice Ao40 t252.length co40) t252) ∧ Aside0 (wc.heap[gb213]? = some (.cells #[.int .i64 x214000_2,.int .i64 x214001_2,.int .i64 x214002_2,(.slice Ao35 x214003_2.length co35)] 69 (0,0))) ∧ Aside0 (wc.heap[gb257]? = some (.cells #[.int .i64 t249,.int .i64 t250,.int .i64 t251,(.slice Ao40 t252.length co40)] 69 (0,0))) ∧ Aside0 (Below w.heap.size w wc))
         case first =>
          have H:=HC33.out
          clear HC33
          by_cases c41 : ((t256 == 0) != (decide (x7_2 < 12))) = true
          ·rw [if_pos c41] at H
           have c41b0 : ((t256 == 0) != (decide (x7_2 < 12))) = true:=c41
           (try (have c41b1 : decide ((t256 == 0) = (decide (x7_2 < 12))) = false:=by simpa using c41))
           (try (have c41b2 : ((t256 == 0) == (decide (x7_2 < 12))) = false:=by simpa using c41))
           (try (have c41b3 : ¬ ((t256 == 0) = (decide (x7_2 < 12))):=by simpa using c41))
           clear c41
           (first | rw [c41b0] | (simp only [i64_w,i32_w];rw [c41b0]) | skip)
           have H':=Aside0.mk H
           clear H
           go_wp2
           go_meet
           case rel => exact ⟨_,(true),(by first | rfl | (simp;done) | (simp [*];done)),H',⟨by have:=HJ3.out;have:=HK2.out;have:=HJ11.out;first | omega | exact Nat.le_refl _⟩,⟨by (with_reducible repeat (first | apply Kd.R_alloc | apply Kd.R_drewN | apply Kd.R_drew));exact Kd.R_mono (Kd.R_far (p:=⟨gb257,3,none⟩) (Kd.R_far (p:=⟨gb257,2,none⟩) (Kd.R_far (p:=⟨gb257,1,none⟩) (Kd.R_far (p:=⟨gb257,0,none⟩) (Kd.R_types HO_6.out BK257.out (by decide)) (fun _ hk => hk.2) (.int .i64 t249)) (fun _ hk => hk.2) (.int .i64 t250)) (fun _ hk => hk.2) (.int .i64 t251)) (fun _ hk => hk.2) (.slice Ao40 t252.length co40)) (fun _ hk => trivial)⟩,⟨by (with_reducible repeat (first | apply Kd.R_alloc | apply Kd.R_drewN | apply Kd.R_drew));exact Kd.R_mono (Kd.R_far (p:=⟨gb257,3,none⟩) (Kd.R_far (p:=⟨gb257,2,none⟩) (Kd.R_far (p:=⟨gb257,1,none⟩) (Kd.R_far (p:=⟨gb257,0,none⟩) (Kd.R_types HO_214003.out BK257.out (by decide)) (fun _ hk => hk.2) (.int .i64 t249)) (fun _ hk => hk.2) (.int .i64 t250)) (fun _ hk => hk.2) (.int .i64 t251)) (fun _ hk => hk.2) (.slice Ao40 t252.length co40)) (fun _ hk => hk.1.2)⟩,⟨by (with_reducible repeat (first | apply Kd.R_alloc | apply Kd.R_drewN | apply Kd.R_drew));exact Kd.R_mono (Kd.R_far (p:=⟨gb257,3,none⟩) (Kd.R_far (p:=⟨gb257,2,none⟩) (Kd.R_far (p:=⟨gb257,1,none⟩) (Kd.R_far (p:=⟨gb257,0,none⟩) (Kd.R_types HO254.out BK257.out (by decide)) (fun _ hk => hk.2) (.int .i64 t249)) (fun _ hk => hk.2) (.int .i64 t250)) (fun _ hk => hk.2) (.int .i64 t251)) (fun _ hk => hk.2) (.slice Ao40 t252.length co40)) (fun _ hk => hk.1.2)⟩,⟨by (with_reducible repeat (first | refine blk_drewN ?_ _ | refine blk_drew ?_ | refine blk_alloc ?_ _));refine blk_far ?_ NB213_257.out _;(with_reducible repeat (first | refine blk_drewN ?_ _ | refine blk_drew ?_ | refine blk_alloc ?_ _));refine blk_far ?_ NB213_257.out _;(with_reducible repeat (first | refine blk_drewN ?_ _ | refine blk_drew ?_ | refine blk_alloc ?_ _));refine blk_far ?_ NB213_257.out _;(with_reducible repeat (first | refine blk_drewN ?_ _ | refine blk_drew ?_ | refine blk_alloc ?_ _));refine blk_far ?_ NB213_257.out _;(with_reducible repeat (first | refine blk_drewN ?_ _ | refine blk_drew ?_ | refine blk_alloc ?_ _));exact BK213.out⟩,⟨by (with_reducible repeat (first | refine blk_drewN ?_ _ | refine blk_drew ?_ | refine blk_alloc ?_ _));apply blkf_4_0_3;(with_reducible repeat (first | refine blk_drewN ?_ _ | refine blk_drew ?_ | refine blk_alloc ?_ _));exact BK257.out⟩,⟨by repeat (first | (with_reducible first | exact HB.out | apply below_alloc | apply pw_below_drewN | apply below_drew1 | refine below_set ?_ GE213.out | refine below_set ?_ GE257.out) | exact HB.out)⟩⟩
          ·rw [if_neg c41] at H
           have c41b0 : ((t256 == 0) != (decide (x7_2 < 12))) = false:=by simpa using c41
           (try (have c41b1 : decide ((t256 == 0) = (decide (x7_2 < 12))) = true:=by simpa using c41))
           (try (have c41b2 : ((t256 == 0) == (decide (x7_2 < 12))) = true:=by simpa using c41))
           clear c41
           (first | rw [c41b0] | (simp only [i64_w,i32_w];rw [c41b0]) | skip)
           by_cases c42 : x7_2 = 12
           ·rw [if_pos c42] at H
            have c42b0 : (x7_2 == 12) = true:=beq_iff_eq.mpr c42
            have c42b1 : (x7_2 != 12) = false:=bne_eq_false_iff_eq.mpr c42
            clear c42
            have H':=Aside0.mk H
            clear H
            go_wp2
            go_meet
            case rel => exact ⟨_,((t256 != 12)),(by first | rfl | (simp;done) | (simp [*];done)),H',⟨by have:=HJ3.out;have:=HK2.out;have:=HJ11.out;first | omega | exact Nat.le_refl _⟩,⟨by (with_reducible repeat (first | apply Kd.R_alloc | apply Kd.R_drewN | apply Kd.R_drew));exact Kd.R_mono (Kd.R_far (p:=⟨gb257,3,none⟩) (Kd.R_far (p:=⟨gb257,2,none⟩) (Kd.R_far (p:=⟨gb257,1,none⟩) (Kd.R_far (p:=⟨gb257,0,none⟩) (Kd.R_types HO_6.out BK257.out (by decide)) (fun _ hk => hk.2) (.int .i64 t249)) (fun _ hk => hk.2) (.int .i64 t250)) (fun _ hk => hk.2) (.int .i64 t251)) (fun _ hk => hk.2) (.slice Ao40 t252.length co40)) (fun _ hk => trivial)⟩,⟨by (with_reducible repeat (first | apply Kd.R_alloc | apply Kd.R_drewN | apply Kd.R_drew));exact Kd.R_mono (Kd.R_far (p:=⟨gb257,3,none⟩) (Kd.R_far (p:=⟨gb257,2,none⟩) (Kd.R_far (p:=⟨gb257,1,none⟩) (Kd.R_far (p:=⟨gb257,0,none⟩) (Kd.R_types HO_214003.out BK257.out (by decide)) (fun _ hk => hk.2) (.int .i64 t249)) (fun _ hk => hk.2) (.int .i64 t250)) (fun _ hk => hk.2) (.int .i64 t251)) (fun _ hk => hk.2) (.slice Ao40 t252.length co40)) (fun _ hk => hk.1.2)⟩,⟨by (with_reducible repeat (first | apply Kd.R_alloc | apply Kd.R_drewN | apply Kd.R_drew));exact Kd.R_mono (Kd.R_far (p:=⟨gb257,3,none⟩) (Kd.R_far (p:=⟨gb257,2,none⟩) (Kd.R_far (p:=⟨gb257,1,none⟩) (Kd.R_far (p:=⟨gb257,0,none⟩) (Kd.R_types HO254.out BK257.out (by decide)) (fun _ hk => hk.2) (.int .i64 t249)) (fun _ hk => hk.2) (.int .i64 t250)) (fun _ hk => hk.2) (.int .i64 t251)) (fun _ hk => hk.2) (.slice Ao40 t252.length co40)) (fun _ hk => hk.1.2)⟩,⟨by (with_reducible repeat (first | refine blk_drewN ?_ _ | refine blk_drew ?_ | refine blk_alloc ?_ _));refine blk_far ?_ NB213_257.out _;(with_reducible repeat (first | refine blk_drewN ?_ _ | refine blk_drew ?_ | refine blk_alloc ?_ _));refine blk_far ?_ NB213_257.out _;(with_reducible repeat (first | refine blk_drewN ?_ _ | refine blk_drew ?_ | refine blk_alloc ?_ _));refine blk_far ?_ NB213_257.out _;(with_reducible repeat (first | refine blk_drewN ?_ _ | refine blk_drew ?_ | refine blk_alloc ?_ _));refine blk_far ?_ NB213_257.out _;(with_reducible repeat (first | refine blk_drewN ?_ _ | refine blk_drew ?_ | refine blk_alloc ?_ _));exact BK213.out⟩,⟨by (with_reducible repeat (first | refine blk_drewN ?_ _ | refine blk_drew ?_ | refine blk_alloc ?_ _));apply blkf_4_0_3;(with_reducible repeat (first | refine blk_drewN ?_ _ | refine blk_drew ?_ | refine blk_alloc ?_ _));exact BK257.out⟩,⟨by repeat (first | (with_reducible first | exact HB.out | apply below_alloc | apply pw_below_drewN | apply below_drew1 | refine below_set ?_ GE213.out | refine below_set ?_ GE257.out) | exact HB.out)⟩⟩
           ·rw [if_neg c42] at H
            have c42b0 : (x7_2 == 12) = false:=beq_eq_false_iff_ne.mpr c42
            have c42b1 : (x7_2 != 12) = true:=bne_iff_ne.mpr c42
            have H':=Aside0.mk H
            clear H
            go_wp2
            go_meet
            case rel => exact ⟨_,(false),(by first | rfl | (simp;done) | (simp [*];done)),H',⟨by have:=HJ3.out;have:=HK2.out;have:=HJ11.out;first | omega | exact Nat.le_refl _⟩,⟨by (with_reducible repeat (first | apply Kd.R_alloc | apply Kd.R_drewN | apply Kd.R_drew));exact Kd.R_mono (Kd.R_far (p:=⟨gb257,3,none⟩) (Kd.R_far (p:=⟨gb257,2,none⟩) (Kd.R_far (p:=⟨gb257,1,none⟩) (Kd.R_far (p:=⟨gb257,0,none⟩) (Kd.R_types HO_6.out BK257.out (by decide)) (fun _ hk => hk.2) (.int .i64 t249)) (fun _ hk => hk.2) (.int .i64 t250)) (fun _ hk => hk.2) (.int .i64 t251)) (fun _ hk => hk.2) (.slice Ao40 t252.length co40)) (fun _ hk => trivial)⟩,⟨by (with_reducible repeat (first | apply Kd.R_alloc | apply Kd.R_drewN | apply Kd.R_drew));exact Kd.R_mono (Kd.R_far (p:=⟨gb257,3,none⟩) (Kd.R_far (p:=⟨gb257,2,none⟩) (Kd.R_far (p:=⟨gb257,1,none⟩) (Kd.R_far (p:=⟨gb257,0,none⟩) (Kd.R_types HO_214003.out BK257.out (by decide)) (fun _ hk => hk.2) (.int .i64 t249)) (fun _ hk => hk.2) (.int .i64 t250)) (fun _ hk => hk.2) (.int .i64 t251)) (fun _ hk => hk.2) (.slice Ao40 t252.length co40)) (fun _ hk => hk.1.2)⟩,⟨by (with_reducible repeat (first | apply Kd.R_alloc | apply Kd.R_drewN | apply Kd.R_drew));exact Kd.R_mono (Kd.R_far (p:=⟨gb257,3,none⟩) (Kd.R_far (p:=⟨gb257,2,none⟩) (Kd.R_far (p:=⟨gb257,1,none⟩) (Kd.R_far (p:=⟨gb257,0,none⟩) (Kd.R_types HO254.out BK257.out (by decide)) (fun _ hk => hk.2) (.int .i64 t249)) (fun _ hk => hk.2) (.int .i64 t250)) (fun _ hk => hk.2) (.int .i64 t251)) (fun _ hk => hk.2) (.slice Ao40 t252.length co40)) (fun _ hk => hk.1.2)⟩,⟨by (with_reducible repeat (first | refine blk_drewN ?_ _ | refine blk_drew ?_ | refine blk_alloc ?_ _));refine blk_far ?_ NB213_257.out _;(with_reducible repeat (first | refine blk_drewN ?_ _ | refine blk_drew ?_ | refine blk_alloc ?_ _));refine blk_far ?_ NB213_257.out _;(with_reducible repeat (first | refine blk_drewN ?_ _ | refine blk_drew ?_ | refine blk_alloc ?_ _));refine blk_far ?_ NB213_257.out _;(with_reducible repeat (first | refine blk_drewN ?_ _ | refine blk_drew ?_ | refine blk_alloc ?_ _));refine blk_far ?_ NB213_257.out _;(with_reducible repeat (first | refine blk_drewN ?_ _ | refine blk_drew ?_ | refine blk_alloc ?_ _));exact BK213.out⟩,⟨by (with_reducible repeat (first | refine blk_drewN ?_ _ | refine blk_drew ?_ | refine blk_alloc ?_ _));apply blkf_4_0_3;(with_reducible repeat (first | refine blk_drewN ?_ _ | refine blk_drew ?_ | refine blk_alloc ?_ _));exact BK257.out⟩,⟨by repeat (first | (with_reducible first | exact HB.out | apply below_alloc | apply pw_below_drewN | apply below_drew1 | refine below_set ?_ GE213.out | refine below_set ?_ GE257.out) | exact HB.out)⟩⟩
         case rest =>
          clear HC33
          try clear c1
          try clear c2
          try clear p2
          try clear q2
          try clear hx2
          try clear c3
          try clear c4
          try clear p6
          try clear c11
          try clear c11b0
          try clear c13
          try clear c13b0
          try clear c14
          try clear c14b0
          try clear c21
          try clear p23
          try clear q23
          try clear hx23
          try clear c24
          try clear c24b0
          try clear c24b1
          try clear c24b2
          try clear c25
          try clear c25b0
          try clear c25b1
          try clear c26
          try clear c27
          try clear c28
          try clear c36
          try clear c37
          try clear c38
          try clear c41
          try clear c41b0
          try clear c41b1
          try clear c41b2
          try clear c42
          try clear c42b0
          try clear c42b1
          try clear hcz17_0
          try clear hcz17_1
          try clear hcz17_2
          try clear hcz17_3
          try clear hcz22_0
          try clear hcz22_1
          try clear hcz22_2
          try clear hcz22_3
          try clear hcz29_0
          try clear hcz29_1
          try clear hcz29_2
          try clear hcz29_3
          try clear hcz30_0
          try clear hcz30_1
          try clear hcz30_2
          try clear hcz30_3
          try clear hcz34_0
          try clear hcz34_1
          try clear hcz34_2
          try clear hcz34_3
          try clear hcz39_0
          try clear hcz39_1
          try clear hcz39_2
          try clear hcz39_3
          try clear hcz7_0
          try clear hcz7_1
          try clear hcz7_2
          try clear hcz7_3
          try clear hfz17_0
          try clear hfz17_1
          try clear hfz17_2
          try clear hfz17_3
          try clear hfz22_0
          try clear hfz22_1
          try clear hfz22_2
          try clear hfz22_3
          try clear hfz29_0
          try clear hfz29_1
          try clear hfz29_2
          try clear hfz29_3
          try clear hfz30_0
          try clear hfz30_1
          try clear hfz30_2
          try clear hfz30_3
          try clear hfz34_0
          try clear hfz34_1
          try clear hfz34_2
          try clear hfz34_3
          try clear hfz39_0
          try clear hfz39_1
          try clear hfz39_2
          try clear hfz39_3
          try clear hfz7_0
          try clear hfz7_1
          try clear hfz7_2
          try clear hfz7_3
          try clear hx236_0
          try clear p2
          try clear p23
          try clear p236
          try clear p6
          try clear q2
          try clear q23
          try clear q236
          obtain ⟨kq,x56_32,rfl,HA,HJ32,HO_6,HO_214003,HO_258003,BK213,BK257,HB⟩:=hcut
          cases kq with
          | zero => exact absurd HA.out (by simp [humuslaw11_TableFull.j5])
          | succ kj32 =>
           have H:=HA.out
           clear HA
           simp only [humuslaw11_TableFull.j5] at H
           by_cases c43 : x56_32 = true
           ·subst c43
            have H1 : (none) = some r:=by rw [if_pos rfl] at H;exact H
            clear H
            have H:=H1
            clear H1
            exact absurd H (by simp)
           ·replace c43:=Bool.eq_false_iff.mpr c43
            subst c43
            have H1 : (if x6_2.length < 17592186044416 then (humuslaw11_TableFull.l0 kj32 l0 a1 (x6_2 ++ [x8_11]) (wrap64 (x7_2 + 1)) t249 t250 t251 t252) else (none)) = some r:=by rw [if_neg (show ¬ (false = true) by decide)] at H;exact H
            clear H
            have H:=H1
            clear H1
            by_cases c44 : x6_2.length < 17592186044416
            ·rw [if_pos c44] at H
             have LMc44:=Aside0.mk c44
             clear c44
             obtain ⟨y258,hy258⟩ : ∃ y_ : List Int,y_ = (x6_2 ++ [x8_11]):=⟨_,rfl⟩
             replace H : (humuslaw11_TableFull.l0 kj32 l0 a1 y258 (wrap64 (x7_2 + 1)) t249 t250 t251 t252) = some r:=by first | (rw [hy258];with_reducible exact H) | (have H2_:=(Option.bind_some _ _).symm.trans H;rw [hy258];with_reducible exact H2_) | (have H2_:=(Option.bind_some _ _).symm.trans H;with_reducible exact H2_) | with_reducible exact H | (rw [hy258];exact H) | exact H
             have Ny258:=Aside0.mk hy258
             clear hy258
             have H':=Aside0.mk H
             clear H
             have hnb45:=NB257_213.out
             have hnc45:=NB213_257.out
             obtain ⟨hcz46_0,hcz46_1,hcz46_2,hcz46_3⟩:=blkc_4 BK257.out
             obtain ⟨hfz46_0,hfz46_1,hfz46_2,hfz46_3⟩:=blkz_4 BK257.out
             obtain ⟨hcz47_0,hcz47_1,hcz47_2,hcz47_3⟩:=blkc_4 BK213.out
             obtain ⟨hfz47_0,hfz47_1,hfz47_2,hfz47_3⟩:=blkz_4 BK213.out
             go_wp2_with (first | ((with_reducible refine gate_builtin (b:=.append) (xs:=#[.tmp 58,.tmp 60]) rfl ?_);at_builtin;refine Kd.R_append (Kd.int .i64) (w0:=w) w.heap.size rfl (.tmp 58) (.tmp 60) 24 3 (.int .i64 0) 8 rfl Try.underlying24 info3 rfl (by decide) (by omega) u6 x6_2 x8_11 [.int .i64 x8_11] (fun _ => True) (fun _ => False) rfl (by first | (go_simp;done) | (go_simp;rfl)) ?aP (fun _ hk => hk.elim) ?aF ?aO ?aB ?aS ?aL ?_;(case aP => exact rfl);(case aB => exact (by repeat (first | (with_reducible first | exact HB.out | apply below_alloc | apply pw_below_drewN | apply below_drew1 | refine below_set ?_ GE213.out | refine below_set ?_ GE257.out) | exact HB.out)));(case aF => exact (fun _ _ => trivial));(case aO => exact (by (with_reducible repeat (first | apply Kd.R_alloc | apply Kd.R_drewN | apply Kd.R_drew));exact Kd.R_mono (Kd.R_far (p:=⟨gb213,3,none⟩) (Kd.R_far (p:=⟨gb213,2,none⟩) (Kd.R_far (p:=⟨gb213,1,none⟩) (Kd.R_far (p:=⟨gb213,0,none⟩) (Kd.R_types HO_6.out BK213.out (by decide)) (fun _ hk => hk.2) (.int .i64 t249)) (fun _ hk => hk.2) (.int .i64 t250)) (fun _ hk => hk.2) (.int .i64 t251)) (fun _ hk => hk.2) (.slice Ao40 t252.length co40)) (fun _ hk => trivial)));(case aS => exact (below_size (by repeat (first | (with_reducible first | exact HB.out | apply below_alloc | apply pw_below_drewN | apply below_drew1 | refine below_set ?_ GE213.out | refine below_set ?_ GE257.out) | exact HB.out))));(case aL => have:=LMc44.out;omega);intro v259 w48 ho hb hg hat;rw [← Ny258.out] at ho;have n0_:=Aside0.mk (Kd.R_over' (by (with_reducible repeat (first | apply Kd.R_alloc | apply Kd.R_drewN | apply Kd.R_drew));exact (Kd.R_mono (Kd.R_far (p:=⟨gb213,3,none⟩) (Kd.R_far (p:=⟨gb213,2,none⟩) (Kd.R_far (p:=⟨gb213,1,none⟩) (Kd.R_far (p:=⟨gb213,0,none⟩) (Kd.R_types HO_214003.out BK213.out (by decide)) (fun _ hk => hk.2) (.int .i64 t249)) (fun _ hk => hk.2) (.int .i64 t250)) (fun _ hk => hk.2) (.int .i64 t251)) (fun _ hk => hk.2) (.slice Ao40 t252.length co40)) (fun _ h_ => h_.1))) (Kd.R_typed (by (with_reducible repeat (first | apply Kd.R_alloc | apply Kd.R_drewN | apply Kd.R_drew));exact (Kd.R_mono (Kd.R_far (p:=⟨gb213,3,none⟩) (Kd.R_far (p:=⟨gb213,2,none⟩) (Kd.R_far (p:=⟨gb213,1,none⟩) (Kd.R_far (p:=⟨gb213,0,none⟩) (Kd.R_types HO_6.out BK213.out (by decide)) (fun _ hk => hk.2) (.int .i64 t249)) (fun _ hk => hk.2) (.int .i64 t250)) (fun _ hk => hk.2) (.int .i64 t251)) (fun _ hk => hk.2) (.slice Ao40 t252.length co40)) (fun _ h_ => h_.1)))) (by decide) hg);have n1_:=Aside0.mk (Kd.R_over' (by (with_reducible repeat (first | apply Kd.R_alloc | apply Kd.R_drewN | apply Kd.R_drew));exact (Kd.R_mono (Kd.R_far (p:=⟨gb213,3,none⟩) (Kd.R_far (p:=⟨gb213,2,none⟩) (Kd.R_far (p:=⟨gb213,1,none⟩) (Kd.R_far (p:=⟨gb213,0,none⟩) (Kd.R_types HO_258003.out BK213.out (by decide)) (fun _ hk => hk.2) (.int .i64 t249)) (fun _ hk => hk.2) (.int .i64 t250)) (fun _ hk => hk.2) (.int .i64 t251)) (fun _ hk => hk.2) (.slice Ao40 t252.length co40)) (fun _ h_ => h_.1))) (Kd.R_typed (by (with_reducible repeat (first | apply Kd.R_alloc | apply Kd.R_drewN | apply Kd.R_drew));exact (Kd.R_mono (Kd.R_far (p:=⟨gb213,3,none⟩) (Kd.R_far (p:=⟨gb213,2,none⟩) (Kd.R_far (p:=⟨gb213,1,none⟩) (Kd.R_far (p:=⟨gb213,0,none⟩) (Kd.R_types HO_6.out BK213.out (by decide)) (fun _ hk => hk.2) (.int .i64 t249)) (fun _ hk => hk.2) (.int .i64 t250)) (fun _ hk => hk.2) (.int .i64 t251)) (fun _ hk => hk.2) (.slice Ao40 t252.length co40)) (fun _ h_ => h_.1)))) (by decide) hg);have n2_:=Aside0.mk (blk_grown (g:=gb213) (o:=.cells #[.int .i64 t249,.int .i64 t250,.int .i64 t251,.slice Ao40 t252.length co40] 69 (0,0)) (by (with_reducible repeat (first | refine blk_drewN ?_ _ | refine blk_drew ?_ | refine blk_alloc ?_ _));apply blkf_4_0_3;(with_reducible repeat (first | refine blk_drewN ?_ _ | refine blk_drew ?_ | refine blk_alloc ?_ _));exact BK213.out) hg (Kd.R_ne HO_6.out BK213.out (by decide)));have n3_:=Aside0.mk (blk_grown (g:=gb257) (o:=.cells #[.int .i64 t249,.int .i64 t250,.int .i64 t251,.slice Ao40 t252.length co40] 69 (0,0)) (by (with_reducible repeat (first | refine blk_drewN ?_ _ | refine blk_drew ?_ | refine blk_alloc ?_ _));refine blk_far ?_ NB257_213.out _;(with_reducible repeat (first | refine blk_drewN ?_ _ | refine blk_drew ?_ | refine blk_alloc ?_ _));refine blk_far ?_ NB257_213.out _;(with_reducible repeat (first | refine blk_drewN ?_ _ | refine blk_drew ?_ | refine blk_alloc ?_ _));refine blk_far ?_ NB257_213.out _;(with_reducible repeat (first | refine blk_drewN ?_ _ | refine blk_drew ?_ | refine blk_alloc ?_ _));refine blk_far ?_ NB257_213.out _;(with_reducible repeat (first | refine blk_drewN ?_ _ | refine blk_drew ?_ | refine blk_alloc ?_ _));exact BK257.out) hg (Kd.R_ne HO_6.out BK257.out (by decide)));have n4_:=Aside0.mk (hb);have n5_:=Aside0.mk (ho);clear HO_214003;clear HO_258003;clear BK213;clear BK257;clear HB;clear HO_6;have HO_214003:=n0_;have HO_258003:=n1_;have BK213:=n2_;have BK257:=n3_;have HB:=n4_;have HO260:=n5_;clear n0_ n1_ n2_ n3_ n4_ n5_;clear ho hb hg hat))
             go_roundg kj32
             case measure => have:=HJ3.out;have:=HK2.out;have:=HJ11.out;have:=HJ32.out;omega
             case rel => exact ⟨(y258),(wrap64 (x7_2 + 1)),(t249),(t250),(t251),(t252),(.slice Ao40 t252.length co40),(by first | rfl | (simp;done) | (simp [*];done)),H',⟨by have:=HJ3.out;have:=HK2.out;have:=HJ11.out;have:=HJ32.out;omega⟩,⟨by (with_reducible repeat (first | apply Kd.R_alloc | apply Kd.R_drewN | apply Kd.R_drew));exact HO260.out⟩,⟨by (with_reducible repeat (first | apply Kd.R_alloc | apply Kd.R_drewN | apply Kd.R_drew));exact Kd.R_mono HO_258003.out (fun _ hk => trivial)⟩,⟨by (with_reducible repeat (first | refine blk_drewN ?_ _ | refine blk_drew ?_ | refine blk_alloc ?_ _));exact BK213.out⟩,⟨by repeat (first | (with_reducible first | exact HB.out | apply below_alloc | apply pw_below_drewN | apply below_drew1 | refine below_set ?_ GE213.out | refine below_set ?_ GE257.out) | exact HB.out)⟩⟩
            ·rw [if_neg c44] at H
             exact absurd H (by simp)
     ·rw [if_neg c11] at H
      have c11b0 : decide (x7_2 < 13) = false:=decide_eq_false c11
      clear c11
      obtain ⟨ji49,hji49⟩ : ∃ j_ : Int,(Int.tmod (wrap64 (a1)) 12) = j_:=⟨_,rfl⟩
      replace H : (if 0 ≤ (ji49) then (if (ji49) < (x6_2.length : Int) then ((table_Leave.f k2 x214000_2 x214001_2 x214002_2 x214003_2 (rd x6_2 (ji49))).bind fun bt218 => (if 12 < (x6_2.length : Int) then ((table_Enter.f k2 bt218.1 bt218.2.1 bt218.2.2.1 bt218.2.2.2.1 (rd x6_2 12)).bind fun bt226 => (if bt218.2.2.2.2 = 0 then (if bt226.2.2.2.2.2 = 0 then (if bt226.2.2.2.2.1 = (ji49) then ((humuslaw11_awake.f k2).bind fun t235 => (humuslaw11_TableFull.j2 k2 t235)) else (none)) else (none)) else (none))) else (none))) else (none)) else (none)) = some r:=by first | (rw [hji49] at H;exact H) | (simp only [hji49] at H ⊢;exact H)
      by_cases c50 : 0 ≤ (ji49)
      ·rw [if_pos c50] at H
       have c50b0 : decide (0 ≤ (ji49)) = true:=decide_eq_true c50
       clear c50
       by_cases c51 : (ji49) < (x6_2.length : Int)
       ·rw [if_pos c51] at H
        have c51b0 : decide ((ji49) < (x6_2.length : Int)) = true:=decide_eq_true c51
        clear c51
        replace H:=Option.bind_eq_some_iff.mp H
        obtain ⟨⟨t218,t219,t220,t221,t224⟩,A520,H⟩:=H
        replace H : (if 12 < (x6_2.length : Int) then ((table_Enter.f k2 t218 t219 t220 t221 (rd x6_2 12)).bind fun bt226 => (if t224 = 0 then (if bt226.2.2.2.2.2 = 0 then (if bt226.2.2.2.2.1 = (ji49) then ((humuslaw11_awake.f k2).bind fun t235 => (humuslaw11_TableFull.j2 k2 t235)) else (none)) else (none)) else (none))) else (none)) = some r:=H
        have A52:=Aside0.mk A520
        clear A520
        by_cases c53 : 12 < (x6_2.length : Int)
        ·rw [if_pos c53] at H
         have c53b0 : decide (12 < (x6_2.length : Int)) = true:=decide_eq_true c53
         have c53b1 : decide (12 < x6_2.length) = true:=decide_eq_true (by omega)
         clear c53
         replace H:=Option.bind_eq_some_iff.mp H
         obtain ⟨⟨t226,t227,t228,t229,t232,t233⟩,A540,H⟩:=H
         replace H : (if t224 = 0 then (if t233 = 0 then (if t232 = (ji49) then ((humuslaw11_awake.f k2).bind fun t235 => (humuslaw11_TableFull.j2 k2 t235)) else (none)) else (none)) else (none)) = some r:=H
         have A54:=Aside0.mk A540
         clear A540
         have HC55:=Aside0.mk H
         clear H
         try go_wp2
         have n0_:=Aside0.mk (Kd.R_drew HO_6.out)
         have n1_:=Aside0.mk (Kd.R_drew HO_214003.out)
         have n2_:=Aside0.mk (blk_drew BK213.out)
         have n3_:=Aside0.mk (below_drew1 HB.out)
         clear HO_6
         clear HO_214003
         clear BK213
         clear HB
         have HO_6:=n0_
         have HO_214003:=n1_
         have BK213:=n2_
         have HB:=n3_
         clear n0_ n1_ n2_ n3_
         obtain ⟨Ao57,co57,eo57⟩:=Kd.R_slice HO_6.out
         (first | subst eo57 | (injection eo57 with f1_ f2_ f3_;have f4_:=f1_.symm;have f5_:=f3_.symm;clear f1_ f2_ f3_;subst f4_;subst f5_))
         have p217 : 0 ≤ ((ji49) : Int):=of_decide_eq_true (by first | (with_reducible assumption) | assumption)
         have q217 : (ji49) < (x6_2.length : Int):=of_decide_eq_true (by first | (with_reducible assumption) | assumption)
         obtain ⟨ad217,e217,hx217_0⟩:=Kd.at_int (Kd.R_reads' HO_6.out).2.2 (ji49) p217 q217
         cases e217
         replace p217:=eq_true p217
         replace q217:=eq_true q217
         obtain ⟨Ao58,co58,eo58⟩:=Kd.R_slice HO_214003.out
         (first | subst eo58 | (injection eo58 with f1_ f2_ f3_;have f4_:=f1_.symm;have f5_:=f3_.symm;clear f1_ f2_ f3_;subst f4_;subst f5_))
         refine start_ (n:=13) (S:=fun w' => w'.cell? ⟨gb213,0,none⟩ = some (.int .i64 x214000_2) ∧ w'.cell? ⟨gb213,1,none⟩ = some (.int .i64 x214001_2) ∧ w'.cell? ⟨gb213,2,none⟩ = some (.int .i64 x214002_2) ∧ w'.cell? ⟨gb213,3,none⟩ = some (.slice Ao58 x214003_2.length co58) ∧ w'.cell? (ad217.add ((ji49)).toNat) = some (.int .i64 (rd x6_2 (ji49)))) (ds:=[11]) #[ff,ff,ff,ff,ff,ff,ff,ff,ff,ff,ff,ff,ff] (by kernel_rfl) rfl rfl ⟨(blk_cell BK213.out 0).trans rfl,(blk_cell BK213.out 1).trans rfl,(blk_cell BK213.out 2).trans rfl,(blk_cell BK213.out 3).trans rfl,hx217_0⟩ (fun hHeld => ?_);refine with_tabW humuslaw11_TableFull.tab14 humuslaw11_TableFull.bits14 (fun HT_ HW_ => ?_)
         generalize wr.drew = w56 at HO_6 HO_214003 BK213 HB hx217_0 hHeld ⊢
         refine pure_ (i:=1) (N:=some 64) (v:=?_) (a':=?_) #[ff,tt,ff,ff,ff,ff,ff,ff,ff,ff,ff,ff,ff] rfl rfl (any_of HT_.out (by kernel_rfl)) (fun _ _ _ h => h) (Or.inl ⟨by rfl,?_⟩) ?_ ?_
         rotate_left
         ·intro w'
          go_simp
          with_reducible rfl
         rotate_left
         ·simp only [Act.put,q1_,q2_,q3_,i64_w,i32_w]
          rfl
         refine pure_ (i:=2) (N:=some 65) (v:=?_) (a':=?_) #[ff,tt,tt,ff,ff,ff,ff,ff,ff,ff,ff,ff,ff] rfl rfl (any_of HT_.out (by kernel_rfl)) (fun _ _ _ h => h) (Or.inl ⟨by rfl,?_⟩) ?_ ?_
         rotate_left
         ·intro w'
          go_simp
          with_reducible rfl
         rotate_left
         ·simp only [Act.put,q1_,q2_,q3_,i64_w,i32_w]
          rfl
         refine pure_ (i:=3) (N:=some 66) (v:=?_) (a':=?_) #[ff,tt,tt,tt,ff,ff,ff,ff,ff,ff,ff,ff,ff] rfl rfl (any_of HT_.out (by kernel_rfl)) (fun _ _ _ h => h) (Or.inl ⟨by rfl,?_⟩) ?_ ?_
         rotate_left
         ·intro w'
          go_simp
          with_reducible rfl
         rotate_left
         ·simp only [Act.put,q1_,q2_,q3_,i64_w,i32_w]
          rfl
         refine pure_ (i:=4) (N:=some 67) (v:=?_) (a':=?_) #[ff,tt,tt,tt,tt,ff,ff,ff,ff,ff,ff,ff,ff] rfl rfl (any_of HT_.out (by kernel_rfl)) (fun _ _ _ h => h) (Or.inl ⟨by rfl,?_⟩) ?_ ?_
         rotate_left
         ·intro w'
          go_simp
          with_reducible rfl
         rotate_left
         ·simp only [Act.put,q1_,q2_,q3_,i64_w,i32_w]
          rfl
         refine pure_ (i:=5) (N:=some 68) (v:=?_) (a':=?_) #[ff,tt,tt,tt,tt,tt,ff,ff,ff,ff,ff,ff,ff] rfl rfl (any_of HT_.out (by kernel_rfl)) (fun _ _ _ h => h) (Or.inl ⟨by rfl,?_⟩) ?_ ?_
         rotate_left
         ·intro w'
          go_simp
          with_reducible rfl
         rotate_left
         ·simp only [Act.put,q1_,q2_,q3_,i64_w,i32_w]
          rfl
         refine take_ (i:=0) (N:=some 63) (v:=?_) (a':=?_) #[tt,tt,tt,tt,tt,tt,ff,ff,ff,ff,ff,ff,ff] rfl rfl (take_ofW HT_.out HW_.out (by kernel_rfl)) (fun _ _ _ h => h) (Or.inl ⟨by rfl,?_⟩) hHeld ?_ ?_
         rotate_left
         ·rintro w' ⟨s0,s1,s2,s3,s4⟩
          go_simp
          with_reducible rfl
         rotate_left
         ·simp only [Act.put,q1_,q2_,q3_,i64_w,i32_w]
          rfl
         refine take_ (i:=6) (N:=some 69) (v:=?_) (a':=?_) #[tt,tt,tt,tt,tt,tt,tt,ff,ff,ff,ff,ff,ff] rfl rfl (take_ofW HT_.out HW_.out (by kernel_rfl)) (fun _ _ _ h => h) (Or.inl ⟨by rfl,?_⟩) hHeld ?_ ?_
         rotate_left
         ·rintro w' ⟨s0,s1,s2,s3,s4⟩
          go_simp
          with_reducible rfl
         rotate_left
         ·simp only [Act.put,q1_,q2_,q3_,i64_w,i32_w]
          rfl
         refine one_ (i:=7) (N:=some 70) #[tt,tt,tt,tt,tt,tt,tt,tt,ff,ff,ff,ff,ff] rfl rfl (one_of HT_.out (by kernel_rfl)) (by decide) (fun K hK => ?_)
         refine goes_ Try.func38 (by kernel_rfl) rfl #[.agg #[.int .i64 x214000_2,.int .i64 x214001_2,.int .i64 x214002_2,.slice Ao58 x214003_2.length co58],.int .i64 (rd x6_2 (ji49))] (by rfl) rfl rfl (by (try simp only [List.map_toArray,List.map_cons,List.map_nil]);first | done | (simp only [hji49];rfl) | rfl | (simp only [List.length_drop,List.length_take];rfl)) ?_
         with_reducible refine (table_Leave.calls k2 x214000_2 x214001_2 x214002_2 _ _ x214003_2 (rd x6_2 (ji49)) t218 t219 t220 t221 t224 _ ?side1 ?side2 A52.out).mono ?_
         (case side1 => repeat (first | exact (Kd.R_reads' HO_214003.out).2.2 | (with_reducible refine Kd.C_alloc ?_ _) | (with_reducible refine Kd.C_drewN ?_ _) | (with_reducible refine Kd.C_drew ?_)))
         (case side2 => exact (Kd.R_reads' HO_214003.out).2.1)
         rintro e w59 ⟨v222,rfl,ho0,hb⟩
         have HS4_:=(hb.cell (World.block_lt_of_cell? _ _ (hHeld.2.2.2.2))).trans (hHeld.2.2.2.2)
         refine ⟨_,rfl,?_⟩
         have n0_:=Aside0.mk (Kd.R_below (by (with_reducible repeat (first | apply Kd.R_alloc | apply Kd.R_drewN | apply Kd.R_drew));exact HO_6.out) hb)
         have n1_:=Aside0.mk (Kd.R_elder' (by (with_reducible repeat (first | apply Kd.R_alloc | apply Kd.R_drewN | apply Kd.R_drew));exact HO_214003.out) (Kd.R_base ho0) hb)
         have n2_:=Aside0.mk (Kd.R_lower (Kd.R_new' ho0 (Kd.R_lt (by (with_reducible repeat (first | apply Kd.R_alloc | apply Kd.R_drewN | apply Kd.R_drew));exact HO_214003.out))) (below_size (by repeat (first | (with_reducible first | exact HB.out | apply below_alloc | apply pw_below_drewN | apply below_drew1 | refine below_set ?_ GE213.out) | exact HB.out))))
         have n3_:=Aside0.mk (blk_below (g:=gb213) (o:=.cells #[.int .i64 x214000_2,.int .i64 x214001_2,.int .i64 x214002_2,.slice Ao58 x214003_2.length co58] 69 (0,0)) (by (with_reducible repeat (first | refine blk_drewN ?_ _ | refine blk_drew ?_ | refine blk_alloc ?_ _));exact BK213.out) hb)
         have n4_:=Aside0.mk (below_step (by repeat (first | (with_reducible first | exact HB.out | apply below_alloc | apply pw_below_drewN | apply below_drew1 | refine below_set ?_ GE213.out) | exact HB.out)) hb)
         clear HO_6
         clear HO_214003
         clear BK213
         clear HB
         have HO_6:=n0_
         have HO_214003:=n1_
         have HO223:=n2_
         have BK213:=n3_
         have HB:=n4_
         clear n0_ n1_ n2_ n3_ n4_
         (try clear hb)
         (try clear hb2)
         (try clear hk)
         (try clear hi)
         (try clear ho0)
         obtain ⟨Ao63,co63,eo63⟩:=Kd.R_slice HO223.out
         (first | subst eo63 | (injection eo63 with f1_ f2_ f3_;have f4_:=f1_.symm;have f5_:=f3_.symm;clear f1_ f2_ f3_;subst f4_;subst f5_))
         refine hK.out _ _ ⟨(blk_cell BK213.out 0).trans rfl,(blk_cell BK213.out 1).trans rfl,(blk_cell BK213.out 2).trans rfl,(blk_cell BK213.out 3).trans rfl,HS4_⟩ (fun hHeld => ?_)
         clear hK K
         refine norm_ (a':=?_) ?_ ?_
         rotate_left
         ·show Act.put _ (some 70) _ = _
          simp only [Act.put,q1_,q2_,q3_,i64_w,i32_w]
          rfl
         refine pure_ (i:=8) (N:=some 62) (v:=?_) (a':=?_) #[tt,tt,tt,tt,tt,tt,tt,tt,tt,ff,ff,ff,ff] rfl rfl (any_of HT_.out (by kernel_rfl)) (fun _ _ _ h => h) (Or.inl ⟨by rfl,?_⟩) ?_ ?_
         rotate_left
         ·intro w'
          go_simp
          with_reducible rfl
         rotate_left
         ·simp only [Act.put,q1_,q2_,q3_,i64_w,i32_w]
          rfl
         refine pure_ (i:=9) (N:=some 71) (v:=?_) (a':=?_) #[tt,tt,tt,tt,tt,tt,tt,tt,tt,tt,ff,ff,ff] rfl rfl (any_of HT_.out (by kernel_rfl)) (fun _ _ _ h => h) (Or.inl ⟨by rfl,?_⟩) ?_ ?_
         rotate_left
         ·intro w'
          go_simp
          with_reducible rfl
         rotate_left
         ·simp only [Act.put,q1_,q2_,q3_,i64_w,i32_w]
          rfl
         refine pure_ (i:=10) (N:=some 72) (v:=?_) (a':=?_) #[tt,tt,tt,tt,tt,tt,tt,tt,tt,tt,tt,ff,ff] rfl rfl (any_of HT_.out (by kernel_rfl)) (fun _ _ _ h => h) (Or.inl ⟨by rfl,?_⟩) ?_ ?_
         rotate_left
         ·intro w'
          go_simp
          with_reducible rfl
         rotate_left
         ·simp only [Act.put,q1_,q2_,q3_,i64_w,i32_w]
          rfl
         refine last_ (i:=11) (N:=none) #[tt,tt,tt,tt,tt,tt,tt,tt,tt,tt,tt,tt,ff] rfl rfl (one_of HT_.out (by kernel_rfl)) (by decide) (fun K hK => ?_)
         have hs60 : w59.cell? ⟨gb213,0,none⟩ = some (.int .i64 x214000_2):=(blk_cell BK213.out 0).trans rfl
         have hfs60:=blk_frozen BK213.out 0
         have hs61 : w59.cell? ⟨gb213,1,none⟩ = some (.int .i64 x214001_2):=(blk_cell BK213.out 1).trans rfl
         have hfs61:=blk_frozen BK213.out 1
         have hs62 : w59.cell? ⟨gb213,2,none⟩ = some (.int .i64 x214002_2):=(blk_cell BK213.out 2).trans rfl
         have hfs62:=blk_frozen BK213.out 2
         have hs64 : w59.cell? ⟨gb213,3,none⟩ = some (.slice Ao58 x214003_2.length co58):=(blk_cell BK213.out 3).trans rfl
         have hfs64:=blk_frozen BK213.out 3
         refine skip_ (w1:=?_) (by rfl) rfl ?_ ?_
         rotate_left
         ·go_simp
          rfl
         refine hK.out _ _ ?_
         clear hK K
         refine pure_ (i:=12) (N:=some 12) (v:=?_) (a':=?_) #[tt,tt,tt,tt,tt,tt,tt,tt,tt,tt,tt,tt,tt] rfl rfl (any_of HT_.out (by kernel_rfl)) (fun _ _ _ h => h) (Or.inl ⟨by rfl,?_⟩) ?_ ?_
         rotate_left
         ·intro w'
          go_simp
          with_reducible rfl
         rotate_left
         ·simp only [Act.put,q1_,q2_,q3_,i64_w,i32_w]
          rfl
         refine done_ (done_of HT_.out (by kernel_rfl)) ?_
         try go_wp2
         have n0_ : Aside0 (Kd.R (Kd.int .i64) 3 ((((w59.setCell ⟨gb213,0,none⟩ (.int .i64 t218)).setCell ⟨gb213,1,none⟩ (.int .i64 t219)).setCell ⟨gb213,2,none⟩ (.int .i64 t220)).setCell ⟨gb213,3,none⟩ (.slice Ao63 t221.length co63)) w.heap.size (fun _ => True) (.slice (some ad217) x6_2.length co57) x6_2):=⟨by (with_reducible repeat (first | apply Kd.R_alloc | apply Kd.R_drewN | apply Kd.R_drew));exact Kd.R_mono (Kd.R_far (p:=⟨gb213,3,none⟩) (Kd.R_far (p:=⟨gb213,2,none⟩) (Kd.R_far (p:=⟨gb213,1,none⟩) (Kd.R_far (p:=⟨gb213,0,none⟩) (Kd.R_types HO_6.out BK213.out (by decide)) (fun _ hk => hk.2) (.int .i64 t218)) (fun _ hk => hk.2) (.int .i64 t219)) (fun _ hk => hk.2) (.int .i64 t220)) (fun _ hk => hk.2) (.slice Ao63 t221.length co63)) (fun _ hk => trivial)⟩
         have n1_ : Aside0 (Kd.R k112 112 ((((w59.setCell ⟨gb213,0,none⟩ (.int .i64 t218)).setCell ⟨gb213,1,none⟩ (.int .i64 t219)).setCell ⟨gb213,2,none⟩ (.int .i64 t220)).setCell ⟨gb213,3,none⟩ (.slice Ao63 t221.length co63)) w.heap.size (fun k_ => some k_ ≠ (.slice Ao63 t221.length co63 : Value).ownBlock) (.slice Ao58 x214003_2.length co58) x214003_2):=⟨by (with_reducible repeat (first | apply Kd.R_alloc | apply Kd.R_drewN | apply Kd.R_drew));exact Kd.R_mono (Kd.R_far (p:=⟨gb213,3,none⟩) (Kd.R_far (p:=⟨gb213,2,none⟩) (Kd.R_far (p:=⟨gb213,1,none⟩) (Kd.R_far (p:=⟨gb213,0,none⟩) (Kd.R_types HO_214003.out BK213.out (by decide)) (fun _ hk => hk.2) (.int .i64 t218)) (fun _ hk => hk.2) (.int .i64 t219)) (fun _ hk => hk.2) (.int .i64 t220)) (fun _ hk => hk.2) (.slice Ao63 t221.length co63)) (fun _ hk => hk.1.2)⟩
         have n2_ : Aside0 (Kd.R k112 112 ((((w59.setCell ⟨gb213,0,none⟩ (.int .i64 t218)).setCell ⟨gb213,1,none⟩ (.int .i64 t219)).setCell ⟨gb213,2,none⟩ (.int .i64 t220)).setCell ⟨gb213,3,none⟩ (.slice Ao63 t221.length co63)) w.heap.size (fun k_ => some k_ ≠ (.slice Ao58 x214003_2.length co58 : Value).ownBlock) (.slice Ao63 t221.length co63) t221):=⟨by (with_reducible repeat (first | apply Kd.R_alloc | apply Kd.R_drewN | apply Kd.R_drew));exact Kd.R_mono (Kd.R_far (p:=⟨gb213,3,none⟩) (Kd.R_far (p:=⟨gb213,2,none⟩) (Kd.R_far (p:=⟨gb213,1,none⟩) (Kd.R_far (p:=⟨gb213,0,none⟩) (Kd.R_types HO223.out BK213.out (by decide)) (fun _ hk => hk.2) (.int .i64 t218)) (fun _ hk => hk.2) (.int .i64 t219)) (fun _ hk => hk.2) (.int .i64 t220)) (fun _ hk => hk.2) (.slice Ao63 t221.length co63)) (fun _ hk => hk.1.2)⟩
         have n3_ : Aside0 (((((w59.setCell ⟨gb213,0,none⟩ (.int .i64 t218)).setCell ⟨gb213,1,none⟩ (.int .i64 t219)).setCell ⟨gb213,2,none⟩ (.int .i64 t220)).setCell ⟨gb213,3,none⟩ (.slice Ao63 t221.length co63)).heap[gb213]? = some (.cells #[.int .i64 t218,.int .i64 t219,.int .i64 t220,.slice Ao63 t221.length co63] 69 (0,0))):=⟨by (with_reducible repeat (first | refine blk_drewN ?_ _ | refine blk_drew ?_ | refine blk_alloc ?_ _));apply blkf_4_0_3;(with_reducible repeat (first | refine blk_drewN ?_ _ | refine blk_drew ?_ | refine blk_alloc ?_ _));exact BK213.out⟩
         have n4_ : Aside0 (Below w.heap.size w ((((w59.setCell ⟨gb213,0,none⟩ (.int .i64 t218)).setCell ⟨gb213,1,none⟩ (.int .i64 t219)).setCell ⟨gb213,2,none⟩ (.int .i64 t220)).setCell ⟨gb213,3,none⟩ (.slice Ao63 t221.length co63))):=⟨by repeat (first | (with_reducible first | exact HB.out | apply below_alloc | apply pw_below_drewN | apply below_drew1 | refine below_set ?_ GE213.out) | exact HB.out)⟩
         (try clear HO_6)
         (try clear HO_214003)
         (try clear HO223)
         (try clear BK213)
         (try clear HB)
         generalize ((((w59.setCell ⟨gb213,0,none⟩ (.int .i64 t218)).setCell ⟨gb213,1,none⟩ (.int .i64 t219)).setCell ⟨gb213,2,none⟩ (.int .i64 t220)).setCell ⟨gb213,3,none⟩ (.slice Ao63 t221.length co63)) = w65 at n0_ n1_ n2_ n3_ n4_ ⊢
         have HO_6:=n0_
         have HO_214003:=n1_
         have HO223:=n2_
         have BK213:=n3_
         have HB:=n4_
         clear n0_ n1_ n2_ n3_ n4_
         have n0_:=Aside0.mk (Kd.R_drew HO_6.out)
         have n1_:=Aside0.mk (Kd.R_drew HO_214003.out)
         have n2_:=Aside0.mk (Kd.R_drew HO223.out)
         have n3_:=Aside0.mk (blk_drew BK213.out)
         have n4_:=Aside0.mk (below_drew1 HB.out)
         clear HO_6
         clear HO_214003
         clear HO223
         clear BK213
         clear HB
         have HO_6:=n0_
         have HO_214003:=n1_
         have HO223:=n2_
         have BK213:=n3_
         have HB:=n4_
         clear n0_ n1_ n2_ n3_ n4_
         have p225 : 0 ≤ (12 : Int):=(by omega)
         have q225 : 12 < (x6_2.length : Int):=of_decide_eq_true (by first | (with_reducible assumption) | assumption)
         obtain ⟨ad225,e225,hx225_0⟩:=Kd.at_int (Kd.R_reads' HO_6.out).2.2 12 p225 q225
         obtain rfl : ad217 = ad225:=(by injection e225)
         (try simp only [show (12 : Int).toNat = 12 from rfl,Nat.reduceMul,Nat.reduceEqDiff,Go.Addr.add,↓reduceIte] at hx225_0)
         have qi225 : (12 < x6_2.length) = True:=eq_true (by omega)
         (try rw [show ((12 : Int)).toNat = 12 from rfl] at hx225_0)
         replace p225:=eq_true p225
         replace q225:=eq_true q225
         refine start_ (n:=13) (S:=fun w' => w'.cell? ⟨gb213,0,none⟩ = some (.int .i64 t218) ∧ w'.cell? ⟨gb213,1,none⟩ = some (.int .i64 t219) ∧ w'.cell? ⟨gb213,2,none⟩ = some (.int .i64 t220) ∧ w'.cell? ⟨gb213,3,none⟩ = some (.slice Ao63 t221.length co63) ∧ w'.cell? ⟨ad217.block,ad217.off + 12,none⟩ = some (.int .i64 (rd x6_2 12))) (ds:=[]) #[ff,ff,ff,ff,ff,ff,ff,ff,ff,ff,ff,ff,ff] (by kernel_rfl) rfl rfl ⟨(blk_cell BK213.out 0).trans rfl,(blk_cell BK213.out 1).trans rfl,(blk_cell BK213.out 2).trans rfl,(blk_cell BK213.out 3).trans rfl,hx225_0⟩ (fun hHeld => ?_);refine with_tabW humuslaw11_TableFull.tab15 humuslaw11_TableFull.bits15 (fun HT_ HW_ => ?_)
         generalize w65.drew = w66 at HO_6 HO_214003 HO223 BK213 HB hx225_0 hHeld ⊢
         refine pure_ (i:=1) (N:=some 75) (v:=?_) (a':=?_) #[ff,tt,ff,ff,ff,ff,ff,ff,ff,ff,ff,ff,ff] rfl rfl (any_of HT_.out (by kernel_rfl)) (fun _ _ _ h => h) (Or.inl ⟨by rfl,?_⟩) ?_ ?_
         rotate_left
         ·intro w'
          go_simp
          with_reducible rfl
         rotate_left
         ·simp only [Act.put,q1_,q2_,q3_,i64_w,i32_w]
          rfl
         refine pure_ (i:=2) (N:=some 76) (v:=?_) (a':=?_) #[ff,tt,tt,ff,ff,ff,ff,ff,ff,ff,ff,ff,ff] rfl rfl (any_of HT_.out (by kernel_rfl)) (fun _ _ _ h => h) (Or.inl ⟨by rfl,?_⟩) ?_ ?_
         rotate_left
         ·intro w'
          go_simp
          with_reducible rfl
         rotate_left
         ·simp only [Act.put,q1_,q2_,q3_,i64_w,i32_w]
          rfl
         refine take_ (i:=0) (N:=some 74) (v:=?_) (a':=?_) #[tt,tt,tt,ff,ff,ff,ff,ff,ff,ff,ff,ff,ff] rfl rfl (take_ofW HT_.out HW_.out (by kernel_rfl)) (fun _ _ _ h => h) (Or.inl ⟨by rfl,?_⟩) hHeld ?_ ?_
         rotate_left
         ·rintro w' ⟨s0,s1,s2,s3,s4⟩
          go_simp
          with_reducible rfl
         rotate_left
         ·simp only [Act.put,q1_,q2_,q3_,i64_w,i32_w]
          rfl
         refine take_ (i:=3) (N:=some 77) (v:=?_) (a':=?_) #[tt,tt,tt,tt,ff,ff,ff,ff,ff,ff,ff,ff,ff] rfl rfl (take_ofW HT_.out HW_.out (by kernel_rfl)) (fun _ _ _ h => h) (Or.inl ⟨by rfl,?_⟩) hHeld ?_ ?_
         rotate_left
         ·rintro w' ⟨s0,s1,s2,s3,s4⟩
          go_simp
          with_reducible rfl
         rotate_left
         ·simp only [Act.put,q1_,q2_,q3_,i64_w,i32_w]
          rfl
         refine join_ (σ:=Value × Nat) 3 #[tt,tt,tt,tt,tt,tt,tt,tt,tt,tt,ff,ff,ff] (fun s_ => [(78,.tuple #[.agg #[.int .i64 t226,.int .i64 t227,.int .i64 t228,s_.1],.int .i64 t232,.int .i64 t233]),(13,.pointer (some ⟨s_.2,0,none⟩)),(73,.tuple #[.agg #[.int .i64 t226,.int .i64 t227,.int .i64 t228,s_.1],.int .i64 t232,.int .i64 t233]),(79,.agg #[.int .i64 t226,.int .i64 t227,.int .i64 t228,s_.1]),(80,.int .i64 t232),(81,.int .i64 t233)]) (fun s_ w' => (w'.cell? ⟨gb213,0,none⟩ = some (.int .i64 t218) ∧ w'.cell? ⟨gb213,1,none⟩ = some (.int .i64 t219) ∧ w'.cell? ⟨gb213,2,none⟩ = some (.int .i64 t220) ∧ w'.cell? ⟨gb213,3,none⟩ = some (.slice Ao63 t221.length co63) ∧ w'.cell? ⟨ad217.block,ad217.off + 12,none⟩ = some (.int .i64 (rd x6_2 12))) ∧ (Kd.R k112 112 w' w.heap.size (fun k_ => some k_ ≠ (s_.1 : Value).ownBlock ∧ some k_ ≠ (.slice Ao58 x214003_2.length co58 : Value).ownBlock) (.slice Ao63 t221.length co63) t221) ∧ (Kd.R k112 112 w' w.heap.size (fun k_ => some k_ ≠ (.slice Ao63 t221.length co63 : Value).ownBlock ∧ some k_ ≠ (.slice Ao58 x214003_2.length co58 : Value).ownBlock) s_.1 t229) ∧ (Kd.R k112 112 w' w.heap.size (fun k_ => some k_ ≠ (.slice Ao63 t221.length co63 : Value).ownBlock ∧ some k_ ≠ (s_.1 : Value).ownBlock) (.slice Ao58 x214003_2.length co58) x214003_2) ∧ (Kd.R (Kd.int .i64) 3 w' w.heap.size (fun _ => True) (.slice (some ad217) x6_2.length co57) x6_2) ∧ (w'.heap[gb213]? = some (.cells #[.int .i64 t218,.int .i64 t219,.int .i64 t220,.slice Ao63 t221.length co63] 69 (0,0))) ∧ (w'.heap[s_.2]? = some (.cells #[.int .i64 0,.int .i64 0,.int .i64 0,.slice none 0 0] 69 (0,0))) ∧ (w.heap.size ≤ s_.2) ∧ (w.heap.size ≤ s_.2) ∧ (gb213 ≠ s_.2) ∧ (s_.2 ≠ gb213) ∧ (Below w.heap.size w w')) ?_ ?_
         rotate_left
         ·intro hCont
          refine two_ (i:=4) (j:=9) (Ni:=some 78) (Nj:=some 13) #[tt,tt,tt,tt,tt,ff,ff,ff,ff,ff,ff,ff,ff] #[tt,tt,tt,tt,ff,ff,ff,ff,ff,tt,ff,ff,ff] rfl rfl rfl rfl (two_of HT_.out (by kernel_rfl)) (by decide) (by decide) (fun K hK => ?_) (fun K hK => ?_)
          ·skip
           refine goes_ Try.func37 (by kernel_rfl) rfl #[.agg #[.int .i64 t218,.int .i64 t219,.int .i64 t220,.slice Ao63 t221.length co63],.int .i64 (rd x6_2 12)] (by rfl) rfl rfl (by (try simp only [List.map_toArray,List.map_cons,List.map_nil]);first | done | rfl | (simp only [List.length_drop,List.length_take];rfl)) ?_
           with_reducible refine (table_Enter.calls k2 t218 t219 t220 _ _ t221 (rd x6_2 12) t226 t227 t228 t229 t232 t233 _ ?side1 ?side2 A54.out).mono ?_
           (case side1 => repeat (first | exact (Kd.R_reads' HO223.out).2.2 | (with_reducible refine Kd.C_alloc ?_ _) | (with_reducible refine Kd.C_drewN ?_ _) | (with_reducible refine Kd.C_drew ?_)))
           (case side2 => exact (Kd.R_reads' HO223.out).2.1)
           rintro e w67 ⟨v230,rfl,ho0,hb⟩
           have HS4_:=(hb.cell (World.block_lt_of_cell? _ _ (hHeld.2.2.2.2))).trans (hHeld.2.2.2.2)
           refine ⟨_,rfl,?_⟩
           have n0_:=Aside0.mk (Kd.R_below (by (with_reducible repeat (first | apply Kd.R_alloc | apply Kd.R_drewN | apply Kd.R_drew));exact HO_6.out) hb)
           have n1_:=Aside0.mk (Kd.R_elder' (by (with_reducible repeat (first | apply Kd.R_alloc | apply Kd.R_drewN | apply Kd.R_drew));exact HO_214003.out) (Kd.R_base ho0) hb)
           have n2_:=Aside0.mk (Kd.R_elder' (by (with_reducible repeat (first | apply Kd.R_alloc | apply Kd.R_drewN | apply Kd.R_drew));exact HO223.out) (Kd.R_base ho0) hb)
           have n3_:=Aside0.mk (Kd.R_lower (Kd.R_new' (Kd.R_new' ho0 (Kd.R_lt (by (with_reducible repeat (first | apply Kd.R_alloc | apply Kd.R_drewN | apply Kd.R_drew));exact HO_214003.out))) (Kd.R_lt (by (with_reducible repeat (first | apply Kd.R_alloc | apply Kd.R_drewN | apply Kd.R_drew));exact HO223.out))) (below_size (by repeat (first | (with_reducible first | exact HB.out | apply below_alloc | apply pw_below_drewN | apply below_drew1 | refine below_set ?_ GE213.out) | exact HB.out))))
           have n4_:=Aside0.mk (blk_below (g:=gb213) (o:=.cells #[.int .i64 t218,.int .i64 t219,.int .i64 t220,.slice Ao63 t221.length co63] 69 (0,0)) (by (with_reducible repeat (first | refine blk_drewN ?_ _ | refine blk_drew ?_ | refine blk_alloc ?_ _));exact BK213.out) hb)
           have n5_:=Aside0.mk (below_step (by repeat (first | (with_reducible first | exact HB.out | apply below_alloc | apply pw_below_drewN | apply below_drew1 | refine below_set ?_ GE213.out) | exact HB.out)) hb)
           clear HO_6
           clear HO_214003
           clear HO223
           clear BK213
           clear HB
           have HO_6:=n0_
           have HO_214003:=n1_
           have HO223:=n2_
           have HO231:=n3_
           have BK213:=n4_
           have HB:=n5_
           clear n0_ n1_ n2_ n3_ n4_ n5_
           (try clear hb)
           (try clear hb2)
           (try clear hk)
           (try clear hi)
           (try clear ho0)
           refine hK.out _ _ ⟨(blk_cell BK213.out 0).trans rfl,(blk_cell BK213.out 1).trans rfl,(blk_cell BK213.out 2).trans rfl,(blk_cell BK213.out 3).trans rfl,HS4_⟩ (fun hHeld => ?_)
           clear hK K
           refine norm_ (a':=?_) ?_ ?_
           rotate_left
           ·show Act.put _ (some 78) _ = _
            simp only [Act.put,q1_,q2_,q3_,i64_w,i32_w]
            rfl
           refine pure_ (i:=5) (N:=some 73) (v:=?_) (a':=?_) #[tt,tt,tt,tt,tt,tt,ff,ff,ff,ff,ff,ff,ff] rfl rfl (any_of HT_.out (by kernel_rfl)) (fun _ _ _ h => h) (Or.inl ⟨by rfl,?_⟩) ?_ ?_
           rotate_left
           ·intro w'
            go_simp
            with_reducible rfl
           rotate_left
           ·simp only [Act.put,q1_,q2_,q3_,i64_w,i32_w]
            rfl
           refine pure_ (i:=6) (N:=some 79) (v:=?_) (a':=?_) #[tt,tt,tt,tt,tt,tt,tt,ff,ff,ff,ff,ff,ff] rfl rfl (any_of HT_.out (by kernel_rfl)) (fun _ _ _ h => h) (Or.inl ⟨by rfl,?_⟩) ?_ ?_
           rotate_left
           ·intro w'
            go_simp
            with_reducible rfl
           rotate_left
           ·simp only [Act.put,q1_,q2_,q3_,i64_w,i32_w]
            rfl
           refine pure_ (i:=7) (N:=some 80) (v:=?_) (a':=?_) #[tt,tt,tt,tt,tt,tt,tt,tt,ff,ff,ff,ff,ff] rfl rfl (any_of HT_.out (by kernel_rfl)) (fun _ _ _ h => h) (Or.inl ⟨by rfl,?_⟩) ?_ ?_
           rotate_left
           ·intro w'
            go_simp
            with_reducible rfl
           rotate_left
           ·simp only [Act.put,q1_,q2_,q3_,i64_w,i32_w]
            rfl
           refine pure_ (i:=8) (N:=some 81) (v:=?_) (a':=?_) #[tt,tt,tt,tt,tt,tt,tt,tt,tt,ff,ff,ff,ff] rfl rfl (any_of HT_.out (by kernel_rfl)) (fun _ _ _ h => h) (Or.inl ⟨by rfl,?_⟩) ?_ ?_
           rotate_left
           ·intro w'
            go_simp
            with_reducible rfl
           rotate_left
           ·simp only [Act.put,q1_,q2_,q3_,i64_w,i32_w]
            rfl
           refine one_ (i:=9) (N:=some 13) #[tt,tt,tt,tt,tt,tt,tt,tt,tt,tt,ff,ff,ff] rfl rfl (one_of HT_.out (by kernel_rfl)) (by decide) (fun K hK => ?_)
           refine box_step ?hg (N:=13) ?hd (cs:=#[.int .i64 0,.int .i64 0,.int .i64 0,.slice none 0 0]) (t:=69) ?hr ?_;(case hd => rfl);(case hg => rfl);(case hr => first | (go_simp;done) | (go_simp;rfl))
           intro gb234 hg w68 hbox hb
           have HS4_:=(hb.cell (World.block_lt_of_cell? _ _ (hHeld.2.2.2.2))).trans (hHeld.2.2.2.2)
           have n0_:=Aside0.mk (Kd.R_below (by (with_reducible repeat (first | apply Kd.R_alloc | apply Kd.R_drewN | apply Kd.R_drew));exact HO_6.out) hb)
           have n1_:=Aside0.mk (Kd.R_below (by (with_reducible repeat (first | apply Kd.R_alloc | apply Kd.R_drewN | apply Kd.R_drew));exact HO_214003.out) hb)
           have n2_:=Aside0.mk (Kd.R_below (by (with_reducible repeat (first | apply Kd.R_alloc | apply Kd.R_drewN | apply Kd.R_drew));exact HO223.out) hb)
           have n3_:=Aside0.mk (Kd.R_below (by (with_reducible repeat (first | apply Kd.R_alloc | apply Kd.R_drewN | apply Kd.R_drew));exact HO231.out) hb)
           have n4_:=Aside0.mk (blk_below (g:=gb213) (o:=.cells #[.int .i64 t218,.int .i64 t219,.int .i64 t220,.slice Ao63 t221.length co63] 69 (0,0)) (by (with_reducible repeat (first | refine blk_drewN ?_ _ | refine blk_drew ?_ | refine blk_alloc ?_ _));exact BK213.out) hb)
           have n5_:=Aside0.mk (below_step (by repeat (first | (with_reducible first | exact HB.out | apply below_alloc | apply pw_below_drewN | apply below_drew1 | refine below_set ?_ GE213.out) | exact HB.out)) hb)
           have n6_:=Aside0.mk (hbox)
           have n7_:=Aside0.mk ((by rw [hg];exact (below_size (by repeat (first | (with_reducible first | exact HB.out | apply below_alloc | apply pw_below_drewN | apply below_drew1 | refine below_set ?_ GE213.out) | exact HB.out))) : w.heap.size ≤ gb234))
           have n8_:=Aside0.mk ((by rw [hg];exact (below_size (by repeat (first | (with_reducible first | exact HB.out | apply below_alloc | apply pw_below_drewN | apply below_drew1 | refine below_set ?_ GE213.out) | exact HB.out))) : w.heap.size ≤ gb234))
           have n9_:=Aside0.mk ((by rw [hg];exact Nat.ne_of_lt (blk_lt (g:=gb213) (o:=.cells #[.int .i64 t218,.int .i64 t219,.int .i64 t220,.slice Ao63 t221.length co63] 69 (0,0)) (by (with_reducible repeat (first | refine blk_drewN ?_ _ | refine blk_drew ?_ | refine blk_alloc ?_ _));exact BK213.out)) : gb213 ≠ gb234))
           have n10_:=Aside0.mk ((by rw [hg];exact Nat.ne_of_gt (blk_lt (g:=gb213) (o:=.cells #[.int .i64 t218,.int .i64 t219,.int .i64 t220,.slice Ao63 t221.length co63] 69 (0,0)) (by (with_reducible repeat (first | refine blk_drewN ?_ _ | refine blk_drew ?_ | refine blk_alloc ?_ _));exact BK213.out)) : gb234 ≠ gb213))
           clear HO_6
           clear HO_214003
           clear HO223
           clear HO231
           clear BK213
           clear HB
           have HO_6:=n0_
           have HO_214003:=n1_
           have HO223:=n2_
           have HO231:=n3_
           have BK213:=n4_
           have HB:=n5_
           have BK234:=n6_
           have GW234:=n7_
           have GE234:=n8_
           have NB213_234:=n9_
           have NB234_213:=n10_
           clear n0_ n1_ n2_ n3_ n4_ n5_ n6_ n7_ n8_ n9_ n10_
           clear hb hbox hg
           refine hK.out _ _ ⟨(blk_cell BK213.out 0).trans rfl,(blk_cell BK213.out 1).trans rfl,(blk_cell BK213.out 2).trans rfl,(blk_cell BK213.out 3).trans rfl,HS4_⟩ (fun hHeld => ?_)
           clear hK K
           refine norm_ (a':=?_) ?_ ?_
           rotate_left
           ·show Act.put _ (some 13) _ = _
            simp only [Act.put,q1_,q2_,q3_,i64_w,i32_w]
            rfl
           exact norm_ (by simp only [putAll,Act.put,List.setIfInBounds_toArray,List.set_cons_zero,List.set_cons_succ]) (hCont (v230,gb234) _ ⟨hHeld,(by (with_reducible repeat (first | apply Kd.R_alloc | apply Kd.R_drewN | apply Kd.R_drew));exact Kd.R_mono HO223.out (fun _ hk => ⟨hk.2,hk.1⟩)),(by (with_reducible repeat (first | apply Kd.R_alloc | apply Kd.R_drewN | apply Kd.R_drew));exact Kd.R_mono HO231.out (fun _ hk => ⟨hk.2,hk.1.2⟩)),(by (with_reducible repeat (first | apply Kd.R_alloc | apply Kd.R_drewN | apply Kd.R_drew));exact HO_214003.out),(by (with_reducible repeat (first | apply Kd.R_alloc | apply Kd.R_drewN | apply Kd.R_drew));exact HO_6.out),(by (with_reducible repeat (first | refine blk_drewN ?_ _ | refine blk_drew ?_ | refine blk_alloc ?_ _));exact BK213.out),(by (with_reducible repeat (first | refine blk_drewN ?_ _ | refine blk_drew ?_ | refine blk_alloc ?_ _));exact BK234.out),GW234.out,GE234.out,NB213_234.out,NB234_213.out,(by repeat (first | (with_reducible first | exact HB.out | apply below_alloc | apply pw_below_drewN | apply below_drew1 | refine below_set ?_ GE213.out | refine below_set ?_ GE234.out) | exact HB.out))⟩)
          ·skip
           refine box_step ?hg (N:=13) ?hd (cs:=#[.int .i64 0,.int .i64 0,.int .i64 0,.slice none 0 0]) (t:=69) ?hr ?_;(case hd => rfl);(case hg => rfl);(case hr => first | (go_simp;done) | (go_simp;rfl))
           intro gb234 hg w67 hbox hb
           have HS4_:=(hb.cell (World.block_lt_of_cell? _ _ (hHeld.2.2.2.2))).trans (hHeld.2.2.2.2)
           have n0_:=Aside0.mk (Kd.R_below (by (with_reducible repeat (first | apply Kd.R_alloc | apply Kd.R_drewN | apply Kd.R_drew));exact HO_6.out) hb)
           have n1_:=Aside0.mk (Kd.R_below (by (with_reducible repeat (first | apply Kd.R_alloc | apply Kd.R_drewN | apply Kd.R_drew));exact HO_214003.out) hb)
           have n2_:=Aside0.mk (Kd.R_below (by (with_reducible repeat (first | apply Kd.R_alloc | apply Kd.R_drewN | apply Kd.R_drew));exact HO223.out) hb)
           have n3_:=Aside0.mk (blk_below (g:=gb213) (o:=.cells #[.int .i64 t218,.int .i64 t219,.int .i64 t220,.slice Ao63 t221.length co63] 69 (0,0)) (by (with_reducible repeat (first | refine blk_drewN ?_ _ | refine blk_drew ?_ | refine blk_alloc ?_ _));exact BK213.out) hb)
           have n4_:=Aside0.mk (below_step (by repeat (first | (with_reducible first | exact HB.out | apply below_alloc | apply pw_below_drewN | apply below_drew1 | refine below_set ?_ GE213.out) | exact HB.out)) hb)
           have n5_:=Aside0.mk (hbox)
           have n6_:=Aside0.mk ((by rw [hg];exact (below_size (by repeat (first | (with_reducible first | exact HB.out | apply below_alloc | apply pw_below_drewN | apply below_drew1 | refine below_set ?_ GE213.out) | exact HB.out))) : w.heap.size ≤ gb234))
           have n7_:=Aside0.mk ((by rw [hg];exact (below_size (by repeat (first | (with_reducible first | exact HB.out | apply below_alloc | apply pw_below_drewN | apply below_drew1 | refine below_set ?_ GE213.out) | exact HB.out))) : w.heap.size ≤ gb234))
           have n8_:=Aside0.mk ((by rw [hg];exact Nat.ne_of_lt (blk_lt (g:=gb213) (o:=.cells #[.int .i64 t218,.int .i64 t219,.int .i64 t220,.slice Ao63 t221.length co63] 69 (0,0)) (by (with_reducible repeat (first | refine blk_drewN ?_ _ | refine blk_drew ?_ | refine blk_alloc ?_ _));exact BK213.out)) : gb213 ≠ gb234))
           have n9_:=Aside0.mk ((by rw [hg];exact Nat.ne_of_gt (blk_lt (g:=gb213) (o:=.cells #[.int .i64 t218,.int .i64 t219,.int .i64 t220,.slice Ao63 t221.length co63] 69 (0,0)) (by (with_reducible repeat (first | refine blk_drewN ?_ _ | refine blk_drew ?_ | refine blk_alloc ?_ _));exact BK213.out)) : gb234 ≠ gb213))
           clear HO_6
           clear HO_214003
           clear HO223
           clear BK213
           clear HB
           have HO_6:=n0_
           have HO_214003:=n1_
           have HO223:=n2_
           have BK213:=n3_
           have HB:=n4_
           have BK234:=n5_
           have GW234:=n6_
           have GE234:=n7_
           have NB213_234:=n8_
           have NB234_213:=n9_
           clear n0_ n1_ n2_ n3_ n4_ n5_ n6_ n7_ n8_ n9_
           clear hb hbox hg
           refine hK.out _ _ ⟨(blk_cell BK213.out 0).trans rfl,(blk_cell BK213.out 1).trans rfl,(blk_cell BK213.out 2).trans rfl,(blk_cell BK213.out 3).trans rfl,HS4_⟩ (fun hHeld => ?_)
           clear hK K
           refine norm_ (a':=?_) ?_ ?_
           rotate_left
           ·show Act.put _ (some 13) _ = _
            simp only [Act.put,q1_,q2_,q3_,i64_w,i32_w]
            rfl
           refine one_ (i:=4) (N:=some 78) #[tt,tt,tt,tt,tt,ff,ff,ff,ff,tt,ff,ff,ff] rfl rfl (one_of HT_.out (by kernel_rfl)) (by decide) (fun K hK => ?_)
           refine goes_ Try.func37 (by kernel_rfl) rfl #[.agg #[.int .i64 t218,.int .i64 t219,.int .i64 t220,.slice Ao63 t221.length co63],.int .i64 (rd x6_2 12)] (by rfl) rfl rfl (by (try simp only [List.map_toArray,List.map_cons,List.map_nil]);first | done | rfl | (simp only [List.length_drop,List.length_take];rfl)) ?_
           with_reducible refine (table_Enter.calls k2 t218 t219 t220 _ _ t221 (rd x6_2 12) t226 t227 t228 t229 t232 t233 _ ?side1 ?side2 A54.out).mono ?_
           (case side1 => repeat (first | exact (Kd.R_reads' HO223.out).2.2 | (with_reducible refine Kd.C_alloc ?_ _) | (with_reducible refine Kd.C_drewN ?_ _) | (with_reducible refine Kd.C_drew ?_)))
           (case side2 => exact (Kd.R_reads' HO223.out).2.1)
           rintro e w68 ⟨v230,rfl,ho0,hb⟩
           have HS4_:=(hb.cell (World.block_lt_of_cell? _ _ (hHeld.2.2.2.2))).trans (hHeld.2.2.2.2)
           refine ⟨_,rfl,?_⟩
           have n0_:=Aside0.mk (Kd.R_below (by (with_reducible repeat (first | apply Kd.R_alloc | apply Kd.R_drewN | apply Kd.R_drew));exact HO_6.out) hb)
           have n1_:=Aside0.mk (Kd.R_elder' (by (with_reducible repeat (first | apply Kd.R_alloc | apply Kd.R_drewN | apply Kd.R_drew));exact HO_214003.out) (Kd.R_base ho0) hb)
           have n2_:=Aside0.mk (Kd.R_elder' (by (with_reducible repeat (first | apply Kd.R_alloc | apply Kd.R_drewN | apply Kd.R_drew));exact HO223.out) (Kd.R_base ho0) hb)
           have n3_:=Aside0.mk (Kd.R_lower (Kd.R_new' (Kd.R_new' ho0 (Kd.R_lt (by (with_reducible repeat (first | apply Kd.R_alloc | apply Kd.R_drewN | apply Kd.R_drew));exact HO_214003.out))) (Kd.R_lt (by (with_reducible repeat (first | apply Kd.R_alloc | apply Kd.R_drewN | apply Kd.R_drew));exact HO223.out))) (below_size (by repeat (first | (with_reducible first | exact HB.out | apply below_alloc | apply pw_below_drewN | apply below_drew1 | refine below_set ?_ GE213.out | refine below_set ?_ GE234.out) | exact HB.out))))
           have n4_:=Aside0.mk (blk_below (g:=gb213) (o:=.cells #[.int .i64 t218,.int .i64 t219,.int .i64 t220,.slice Ao63 t221.length co63] 69 (0,0)) (by (with_reducible repeat (first | refine blk_drewN ?_ _ | refine blk_drew ?_ | refine blk_alloc ?_ _));exact BK213.out) hb)
           have n5_:=Aside0.mk (blk_below (g:=gb234) (o:=.cells #[.int .i64 0,.int .i64 0,.int .i64 0,.slice none 0 0] 69 (0,0)) (by (with_reducible repeat (first | refine blk_drewN ?_ _ | refine blk_drew ?_ | refine blk_alloc ?_ _));exact BK234.out) hb)
           have n6_:=Aside0.mk (below_step (by repeat (first | (with_reducible first | exact HB.out | apply below_alloc | apply pw_below_drewN | apply below_drew1 | refine below_set ?_ GE213.out | refine below_set ?_ GE234.out) | exact HB.out)) hb)
           clear HO_6
           clear HO_214003
           clear HO223
           clear BK213
           clear BK234
           clear HB
           have HO_6:=n0_
           have HO_214003:=n1_
           have HO223:=n2_
           have HO231:=n3_
           have BK213:=n4_
           have BK234:=n5_
           have HB:=n6_
           clear n0_ n1_ n2_ n3_ n4_ n5_ n6_
           (try clear hb)
           (try clear hb2)
           (try clear hk)
           (try clear hi)
           (try clear ho0)
           refine hK.out _ _ ⟨(blk_cell BK213.out 0).trans rfl,(blk_cell BK213.out 1).trans rfl,(blk_cell BK213.out 2).trans rfl,(blk_cell BK213.out 3).trans rfl,HS4_⟩ (fun hHeld => ?_)
           clear hK K
           refine norm_ (a':=?_) ?_ ?_
           rotate_left
           ·show Act.put _ (some 78) _ = _
            simp only [Act.put,q1_,q2_,q3_,i64_w,i32_w]
            rfl
           refine pure_ (i:=5) (N:=some 73) (v:=?_) (a':=?_) #[tt,tt,tt,tt,tt,tt,ff,ff,ff,tt,ff,ff,ff] rfl rfl (any_of HT_.out (by kernel_rfl)) (fun _ _ _ h => h) (Or.inl ⟨by rfl,?_⟩) ?_ ?_
           rotate_left
           ·intro w'
            go_simp
            with_reducible rfl
           rotate_left
           ·simp only [Act.put,q1_,q2_,q3_,i64_w,i32_w]
            rfl
           refine pure_ (i:=6) (N:=some 79) (v:=?_) (a':=?_) #[tt,tt,tt,tt,tt,tt,tt,ff,ff,tt,ff,ff,ff] rfl rfl (any_of HT_.out (by kernel_rfl)) (fun _ _ _ h => h) (Or.inl ⟨by rfl,?_⟩) ?_ ?_
           rotate_left
           ·intro w'
            go_simp
            with_reducible rfl
           rotate_left
           ·simp only [Act.put,q1_,q2_,q3_,i64_w,i32_w]
            rfl
           refine pure_ (i:=7) (N:=some 80) (v:=?_) (a':=?_) #[tt,tt,tt,tt,tt,tt,tt,tt,ff,tt,ff,ff,ff] rfl rfl (any_of HT_.out (by kernel_rfl)) (fun _ _ _ h => h) (Or.inl ⟨by rfl,?_⟩) ?_ ?_
           rotate_left
           ·intro w'
            go_simp
            with_reducible rfl
           rotate_left
           ·simp only [Act.put,q1_,q2_,q3_,i64_w,i32_w]
            rfl
           refine pure_ (i:=8) (N:=some 81) (v:=?_) (a':=?_) #[tt,tt,tt,tt,tt,tt,tt,tt,tt,tt,ff,ff,ff] rfl rfl (any_of HT_.out (by kernel_rfl)) (fun _ _ _ h => h) (Or.inl ⟨by rfl,?_⟩) ?_ ?_
           rotate_left
           ·intro w'
            go_simp
            with_reducible rfl
           rotate_left
           ·simp only [Act.put,q1_,q2_,q3_,i64_w,i32_w]
            rfl
           exact norm_ (by simp only [putAll,Act.put,List.setIfInBounds_toArray,List.set_cons_zero,List.set_cons_succ]) (hCont (v230,gb234) _ ⟨hHeld,(by (with_reducible repeat (first | apply Kd.R_alloc | apply Kd.R_drewN | apply Kd.R_drew));exact Kd.R_mono HO223.out (fun _ hk => ⟨hk.2,hk.1⟩)),(by (with_reducible repeat (first | apply Kd.R_alloc | apply Kd.R_drewN | apply Kd.R_drew));exact Kd.R_mono HO231.out (fun _ hk => ⟨hk.2,hk.1.2⟩)),(by (with_reducible repeat (first | apply Kd.R_alloc | apply Kd.R_drewN | apply Kd.R_drew));exact HO_214003.out),(by (with_reducible repeat (first | apply Kd.R_alloc | apply Kd.R_drewN | apply Kd.R_drew));exact HO_6.out),(by (with_reducible repeat (first | refine blk_drewN ?_ _ | refine blk_drew ?_ | refine blk_alloc ?_ _));exact BK213.out),(by (with_reducible repeat (first | refine blk_drewN ?_ _ | refine blk_drew ?_ | refine blk_alloc ?_ _));exact BK234.out),GW234.out,GE234.out,NB213_234.out,NB234_213.out,(by repeat (first | (with_reducible first | exact HB.out | apply below_alloc | apply pw_below_drewN | apply below_drew1 | refine below_set ?_ GE213.out | refine below_set ?_ GE234.out) | exact HB.out))⟩)
         rintro ⟨v230,gb234⟩ w69 ⟨hS_,h0_,h1_,h2_,h3_,h4_,h5_,h6_,h7_,h8_,h9_,h10_⟩
         have n0_ : Aside0 (Kd.R k112 112 w69 w.heap.size (fun k_ => some k_ ≠ (v230 : Value).ownBlock ∧ some k_ ≠ (.slice Ao58 x214003_2.length co58 : Value).ownBlock) (.slice Ao63 t221.length co63) t221):=⟨h0_⟩
         have n1_ : Aside0 (Kd.R k112 112 w69 w.heap.size (fun k_ => some k_ ≠ (.slice Ao63 t221.length co63 : Value).ownBlock ∧ some k_ ≠ (.slice Ao58 x214003_2.length co58 : Value).ownBlock) v230 t229):=⟨h1_⟩
         have n2_ : Aside0 (Kd.R k112 112 w69 w.heap.size (fun k_ => some k_ ≠ (.slice Ao63 t221.length co63 : Value).ownBlock ∧ some k_ ≠ (v230 : Value).ownBlock) (.slice Ao58 x214003_2.length co58) x214003_2):=⟨h2_⟩
         have n3_ : Aside0 (Kd.R (Kd.int .i64) 3 w69 w.heap.size (fun _ => True) (.slice (some ad217) x6_2.length co57) x6_2):=⟨h3_⟩
         have n4_ : Aside0 (w69.heap[gb213]? = some (.cells #[.int .i64 t218,.int .i64 t219,.int .i64 t220,.slice Ao63 t221.length co63] 69 (0,0))):=⟨h4_⟩
         have n5_ : Aside0 (w69.heap[gb234]? = some (.cells #[.int .i64 0,.int .i64 0,.int .i64 0,.slice none 0 0] 69 (0,0))):=⟨h5_⟩
         have n6_ : Aside0 (w.heap.size ≤ gb234):=⟨h6_⟩
         have n7_ : Aside0 (w.heap.size ≤ gb234):=⟨h7_⟩
         have n8_ : Aside0 (gb213 ≠ gb234):=⟨h8_⟩
         have n9_ : Aside0 (gb234 ≠ gb213):=⟨h9_⟩
         have n10_ : Aside0 (Below w.heap.size w w69):=⟨h10_⟩
         clear HO_6
         clear HO_214003
         clear HO223
         clear BK213
         clear HB
         clear h0_ h1_ h2_ h3_ h4_ h5_ h6_ h7_ h8_ h9_ h10_
         have HO223:=n0_
         have HO231:=n1_
         have HO_214003:=n2_
         have HO_6:=n3_
         have BK213:=n4_
         have BK234:=n5_
         have GW234:=n6_
         have GE234:=n7_
         have NB213_234:=n8_
         have NB234_213:=n9_
         have HB:=n10_
         clear n0_ n1_ n2_ n3_ n4_ n5_ n6_ n7_ n8_ n9_ n10_
         have hHeld : w69.cell? ⟨gb213,0,none⟩ = some (.int .i64 t218) ∧ w69.cell? ⟨gb213,1,none⟩ = some (.int .i64 t219) ∧ w69.cell? ⟨gb213,2,none⟩ = some (.int .i64 t220) ∧ w69.cell? ⟨gb213,3,none⟩ = some (.slice Ao63 t221.length co63) ∧ w69.cell? ⟨ad217.block,ad217.off + 12,none⟩ = some (.int .i64 (rd x6_2 12)):=hS_
         obtain ⟨Ao73,co73,eo73⟩:=Kd.R_slice HO231.out
         (first | subst eo73 | (injection eo73 with f1_ f2_ f3_;have f4_:=f1_.symm;have f5_:=f3_.symm;clear f1_ f2_ f3_;subst f4_;subst f5_))
         refine norm_ (a':=?_) ?_ ?_
         rotate_left
         ·simp only [putAll,Act.put,List.setIfInBounds_toArray,List.set_cons_zero,List.set_cons_succ]
          rfl
         refine one_ (i:=10) (N:=none) #[tt,tt,tt,tt,tt,tt,tt,tt,tt,tt,tt,ff,ff] rfl rfl (one_of HT_.out (by kernel_rfl)) (by decide) (fun K hK => ?_)
         have hs70 : w69.cell? ⟨gb234,0,none⟩ = some (.int .i64 0):=(blk_cell BK234.out 0).trans rfl
         have hfs70:=blk_frozen BK234.out 0
         have hns70_0:=NB213_234.out
         have hms70_0:=NB234_213.out
         have hs71 : w69.cell? ⟨gb234,1,none⟩ = some (.int .i64 0):=(blk_cell BK234.out 1).trans rfl
         have hfs71:=blk_frozen BK234.out 1
         have hns71_0:=NB213_234.out
         have hms71_0:=NB234_213.out
         have hs72 : w69.cell? ⟨gb234,2,none⟩ = some (.int .i64 0):=(blk_cell BK234.out 2).trans rfl
         have hfs72:=blk_frozen BK234.out 2
         have hns72_0:=NB213_234.out
         have hms72_0:=NB234_213.out
         have hs74 : w69.cell? ⟨gb234,3,none⟩ = some (.slice none 0 0):=(blk_cell BK234.out 3).trans rfl
         have hfs74:=blk_frozen BK234.out 3
         have hns74_0:=NB213_234.out
         have hms74_0:=NB234_213.out
         refine skip_ (w1:=?_) (by rfl) rfl ?_ ?_
         rotate_left
         ·go_simp
          rfl
         refine hK.out _ _ ⟨((cell_far (p:=⟨gb234,_,none⟩) NB213_234.out _).trans (((cell_far (p:=⟨gb234,_,none⟩) NB213_234.out _).trans (((cell_far (p:=⟨gb234,_,none⟩) NB213_234.out _).trans (((cell_far (p:=⟨gb234,_,none⟩) NB213_234.out _).trans (hHeld.1)))))))),((cell_far (p:=⟨gb234,_,none⟩) NB213_234.out _).trans (((cell_far (p:=⟨gb234,_,none⟩) NB213_234.out _).trans (((cell_far (p:=⟨gb234,_,none⟩) NB213_234.out _).trans (((cell_far (p:=⟨gb234,_,none⟩) NB213_234.out _).trans (hHeld.2.1)))))))),((cell_far (p:=⟨gb234,_,none⟩) NB213_234.out _).trans (((cell_far (p:=⟨gb234,_,none⟩) NB213_234.out _).trans (((cell_far (p:=⟨gb234,_,none⟩) NB213_234.out _).trans (((cell_far (p:=⟨gb234,_,none⟩) NB213_234.out _).trans (hHeld.2.2.1)))))))),((cell_far (p:=⟨gb234,_,none⟩) NB213_234.out _).trans (((cell_far (p:=⟨gb234,_,none⟩) NB213_234.out _).trans (((cell_far (p:=⟨gb234,_,none⟩) NB213_234.out _).trans (((cell_far (p:=⟨gb234,_,none⟩) NB213_234.out _).trans (hHeld.2.2.2.1)))))))),((cell_far (p:=⟨gb234,_,none⟩) (by first | exact Kd.own_blk (Kd.R_ne HO_6.out BK234.out (by decide)) | (rw [add_block];exact Kd.own_blk (Kd.R_ne HO_6.out BK234.out (by decide))) | (show (Addr.add _ _).block ≠ _;rw [add_block];exact Kd.own_blk (Kd.R_ne HO_6.out BK234.out (by decide))) | (dsimp only;exact Kd.own_blk (Kd.R_ne HO_6.out BK234.out (by decide)))) _).trans (((cell_far (p:=⟨gb234,_,none⟩) (by first | exact Kd.own_blk (Kd.R_ne HO_6.out BK234.out (by decide)) | (rw [add_block];exact Kd.own_blk (Kd.R_ne HO_6.out BK234.out (by decide))) | (show (Addr.add _ _).block ≠ _;rw [add_block];exact Kd.own_blk (Kd.R_ne HO_6.out BK234.out (by decide))) | (dsimp only;exact Kd.own_blk (Kd.R_ne HO_6.out BK234.out (by decide)))) _).trans (((cell_far (p:=⟨gb234,_,none⟩) (by first | exact Kd.own_blk (Kd.R_ne HO_6.out BK234.out (by decide)) | (rw [add_block];exact Kd.own_blk (Kd.R_ne HO_6.out BK234.out (by decide))) | (show (Addr.add _ _).block ≠ _;rw [add_block];exact Kd.own_blk (Kd.R_ne HO_6.out BK234.out (by decide))) | (dsimp only;exact Kd.own_blk (Kd.R_ne HO_6.out BK234.out (by decide)))) _).trans (((cell_far (p:=⟨gb234,_,none⟩) (by first | exact Kd.own_blk (Kd.R_ne HO_6.out BK234.out (by decide)) | (rw [add_block];exact Kd.own_blk (Kd.R_ne HO_6.out BK234.out (by decide))) | (show (Addr.add _ _).block ≠ _;rw [add_block];exact Kd.own_blk (Kd.R_ne HO_6.out BK234.out (by decide))) | (dsimp only;exact Kd.own_blk (Kd.R_ne HO_6.out BK234.out (by decide)))) _).trans (hHeld.2.2.2.2))))))))⟩ (fun hHeld => ?_)
         clear hK K
         refine pure_ (i:=11) (N:=some 14) (v:=?_) (a':=?_) #[tt,tt,tt,tt,tt,tt,tt,tt,tt,tt,tt,tt,ff] rfl rfl (any_of HT_.out (by kernel_rfl)) (fun _ _ _ h => h) (Or.inl ⟨by rfl,?_⟩) ?_ ?_
         rotate_left
         ·intro w'
          go_simp
          with_reducible rfl
         rotate_left
         ·simp only [Act.put,q1_,q2_,q3_,i64_w,i32_w]
          rfl
         refine pure_ (i:=12) (N:=some 15) (v:=?_) (a':=?_) #[tt,tt,tt,tt,tt,tt,tt,tt,tt,tt,tt,tt,tt] rfl rfl (any_of HT_.out (by kernel_rfl)) (fun _ _ _ h => h) (Or.inl ⟨by rfl,?_⟩) ?_ ?_
         rotate_left
         ·intro w'
          go_simp
          with_reducible rfl
         rotate_left
         ·simp only [Act.put,q1_,q2_,q3_,i64_w,i32_w]
          rfl
         refine done_ (done_of HT_.out (by kernel_rfl)) ?_
         go_upto_region 16 with (fail)
         go_cut [4] (fun v4 wc => ∃ (kq : Nat) (x4_54 : Bool),v4 = .bool x4_54 ∧ Aside0 (humuslaw11_TableFull.j2 kq x4_54 = some r) ∧ Aside0 (kq ≤ k2) ∧ Aside0 (Kd.R k112 112 wc w.heap.size (fun k_ => some k_ ≠ ((.slice Ao73 t229.length co73) : Value).ownBlock) (.slice Ao63 t221.length co63) t221) ∧ Aside0 (Kd.R k112 112 wc w.heap.size (fun k_ => some k_ ≠ ((.slice Ao63 t221.length co63) : Value).ownBlock) (.slice Ao73 t229.length co73) t229) ∧ Aside0 (wc.heap[gb213]? = some (.cells #[.int .i64 t218,.int .i64 t219,.int .i64 t220,(.slice Ao63 t221.length co63)] 69 (0,0))) ∧ Aside0 (wc.heap[gb234]? = some (.cells #[.int .i64 t226,.int .i64 t227,.int .i64 t228,(.slice Ao73 t229.length co73)] 69 (0,0))) ∧ Aside0 (Below w.heap.size w wc))
         case first =>
          have H:=HC55.out
          clear HC55
          by_cases c75 : t224 = 0
          ·rw [if_pos c75] at H
           have c75b0 : (t224 == 0) = true:=beq_iff_eq.mpr c75
           have c75b1 : (t224 != 0) = false:=bne_eq_false_iff_eq.mpr c75
           clear c75
           (first | rw [c75b0] | (simp only [i64_w,i32_w];rw [c75b0]) | skip)
           by_cases c76 : t233 = 0
           ·rw [if_pos c76] at H
            have c76b0 : (t233 == 0) = true:=beq_iff_eq.mpr c76
            have c76b1 : (t233 != 0) = false:=bne_eq_false_iff_eq.mpr c76
            clear c76
            by_cases c77 : t232 = (ji49)
            ·rw [if_pos c77] at H
             have c77b0 : (t232 == (ji49)) = true:=beq_iff_eq.mpr c77
             have c77b1 : (t232 != (ji49)) = false:=bne_eq_false_iff_eq.mpr c77
             clear c77
             replace H:=Option.bind_eq_some_iff.mp H
             obtain ⟨t235,A780,H⟩:=H
             replace H : (humuslaw11_TableFull.j2 k2 t235) = some r:=H
             have A78:=Aside0.mk A780
             clear A780
             have H':=Aside0.mk H
             clear H
             go_wp2_with (first | (go_at_call 39;(with_reducible refine (humuslaw11_awake.calls k2  t235 _ A78.out).mono ?_);rintro e w79 ⟨rfl,hb⟩;have n0_:=Aside0.mk (Kd.R_below (by (with_reducible repeat (first | apply Kd.R_alloc | apply Kd.R_drewN | apply Kd.R_drew));exact (Kd.R_mono (Kd.R_far (p:=⟨gb234,3,none⟩) (Kd.R_far (p:=⟨gb234,2,none⟩) (Kd.R_far (p:=⟨gb234,1,none⟩) (Kd.R_far (p:=⟨gb234,0,none⟩) (Kd.R_types HO_6.out BK234.out (by decide)) (fun _ hk => hk.2) (.int .i64 t226)) (fun _ hk => hk.2) (.int .i64 t227)) (fun _ hk => hk.2) (.int .i64 t228)) (fun _ hk => hk.2) (.slice Ao73 t229.length co73)) (fun _ h_ => h_.1))) hb);have n1_:=Aside0.mk (Kd.R_below (by (with_reducible repeat (first | apply Kd.R_alloc | apply Kd.R_drewN | apply Kd.R_drew));exact (Kd.R_mono (Kd.R_far (p:=⟨gb234,3,none⟩) (Kd.R_far (p:=⟨gb234,2,none⟩) (Kd.R_far (p:=⟨gb234,1,none⟩) (Kd.R_far (p:=⟨gb234,0,none⟩) (Kd.R_types HO_214003.out BK234.out (by decide)) (fun _ hk => hk.2) (.int .i64 t226)) (fun _ hk => hk.2) (.int .i64 t227)) (fun _ hk => hk.2) (.int .i64 t228)) (fun _ hk => hk.2) (.slice Ao73 t229.length co73)) (fun _ h_ => h_.1))) hb);have n2_:=Aside0.mk (Kd.R_below (by (with_reducible repeat (first | apply Kd.R_alloc | apply Kd.R_drewN | apply Kd.R_drew));exact (Kd.R_mono (Kd.R_far (p:=⟨gb234,3,none⟩) (Kd.R_far (p:=⟨gb234,2,none⟩) (Kd.R_far (p:=⟨gb234,1,none⟩) (Kd.R_far (p:=⟨gb234,0,none⟩) (Kd.R_types HO223.out BK234.out (by decide)) (fun _ hk => hk.2) (.int .i64 t226)) (fun _ hk => hk.2) (.int .i64 t227)) (fun _ hk => hk.2) (.int .i64 t228)) (fun _ hk => hk.2) (.slice Ao73 t229.length co73)) (fun _ h_ => h_.1))) hb);have n3_:=Aside0.mk (Kd.R_below (by (with_reducible repeat (first | apply Kd.R_alloc | apply Kd.R_drewN | apply Kd.R_drew));exact (Kd.R_mono (Kd.R_far (p:=⟨gb234,3,none⟩) (Kd.R_far (p:=⟨gb234,2,none⟩) (Kd.R_far (p:=⟨gb234,1,none⟩) (Kd.R_far (p:=⟨gb234,0,none⟩) (Kd.R_types HO231.out BK234.out (by decide)) (fun _ hk => hk.2) (.int .i64 t226)) (fun _ hk => hk.2) (.int .i64 t227)) (fun _ hk => hk.2) (.int .i64 t228)) (fun _ hk => hk.2) (.slice Ao73 t229.length co73)) (fun _ h_ => h_.1))) hb);have n4_:=Aside0.mk (blk_below (g:=gb213) (o:=.cells #[.int .i64 t218,.int .i64 t219,.int .i64 t220,.slice Ao63 t221.length co63] 69 (0,0)) (by (with_reducible repeat (first | refine blk_drewN ?_ _ | refine blk_drew ?_ | refine blk_alloc ?_ _));refine blk_far ?_ NB213_234.out _;(with_reducible repeat (first | refine blk_drewN ?_ _ | refine blk_drew ?_ | refine blk_alloc ?_ _));refine blk_far ?_ NB213_234.out _;(with_reducible repeat (first | refine blk_drewN ?_ _ | refine blk_drew ?_ | refine blk_alloc ?_ _));refine blk_far ?_ NB213_234.out _;(with_reducible repeat (first | refine blk_drewN ?_ _ | refine blk_drew ?_ | refine blk_alloc ?_ _));refine blk_far ?_ NB213_234.out _;(with_reducible repeat (first | refine blk_drewN ?_ _ | refine blk_drew ?_ | refine blk_alloc ?_ _));exact BK213.out) hb);have n5_:=Aside0.mk (blk_below (g:=gb234) (o:=.cells #[.int .i64 t226,.int .i64 t227,.int .i64 t228,.slice Ao73 t229.length co73] 69 (0,0)) (by (with_reducible repeat (first | refine blk_drewN ?_ _ | refine blk_drew ?_ | refine blk_alloc ?_ _));apply blkf_4_0_3;(with_reducible repeat (first | refine blk_drewN ?_ _ | refine blk_drew ?_ | refine blk_alloc ?_ _));exact BK234.out) hb);have n6_:=Aside0.mk (below_step (by repeat (first | (with_reducible first | exact HB.out | apply below_alloc | apply pw_below_drewN | apply below_drew1 | refine below_set ?_ GE213.out | refine below_set ?_ GE234.out) | exact HB.out)) hb);clear HO_6;clear HO_214003;clear HO223;clear HO231;clear BK213;clear BK234;clear HB;have HO_6:=n0_;have HO_214003:=n1_;have HO223:=n2_;have HO231:=n3_;have BK213:=n4_;have BK234:=n5_;have HB:=n6_;clear n0_ n1_ n2_ n3_ n4_ n5_ n6_;(try clear hb);(try clear hb2);(try clear hk);(try clear hi)))
             go_meet
             case rel => exact ⟨_,(t235),(by first | rfl | (simp;done) | (simp [*];done)),H',⟨by have:=HJ3.out;have:=HK2.out;first | omega | exact Nat.le_refl _⟩,⟨by (with_reducible repeat (first | apply Kd.R_alloc | apply Kd.R_drewN | apply Kd.R_drew));exact Kd.R_mono HO223.out (fun _ hk => hk.1)⟩,⟨by (with_reducible repeat (first | apply Kd.R_alloc | apply Kd.R_drewN | apply Kd.R_drew));exact Kd.R_mono HO231.out (fun _ hk => hk.1)⟩,⟨by (with_reducible repeat (first | refine blk_drewN ?_ _ | refine blk_drew ?_ | refine blk_alloc ?_ _));exact BK213.out⟩,⟨by (with_reducible repeat (first | refine blk_drewN ?_ _ | refine blk_drew ?_ | refine blk_alloc ?_ _));exact BK234.out⟩,⟨by repeat (first | (with_reducible first | exact HB.out | apply below_alloc | apply pw_below_drewN | apply below_drew1 | refine below_set ?_ GE213.out | refine below_set ?_ GE234.out) | exact HB.out)⟩⟩
            ·rw [if_neg c77] at H
             exact absurd H (by simp)
           ·rw [if_neg c76] at H
            exact absurd H (by simp)
          ·rw [if_neg c75] at H
           exact absurd H (by simp)
         case rest =>
          clear HC55
          try clear p2
          try clear q2
          try clear hx2
          try clear qi2
          try clear c3
          try clear c5
          try clear c7
          try clear p21
          try clear q21
          try clear hx21
          try clear p22
          try clear q22
          try clear hx22
          try clear qi22
          try clear c37
          try clear c38
          try clear c53
          try clear c53b0
          try clear c53b1
          try clear c75
          try clear c75b0
          try clear c75b1
          try clear c76
          try clear c76b0
          try clear c76b1
          try clear c77
          try clear c77b0
          try clear c77b1
          try clear hx217_0
          try clear hx225_0
          try clear p217
          try clear p225
          try clear q217
          try clear q225
          obtain ⟨kq,x4_54,rfl,HA,HJ54,HO_214003,HO_235003,BK213,BK234,HB⟩:=hcut
          cases kq with
          | zero => exact absurd HA.out (by simp [humuslaw11_TableFull.j2])
          | succ kj54 =>
           have H:=HA.out
           clear HA
           simp only [humuslaw11_TableFull.j2] at H
           obtain rfl:=Option.some.inj H
           go_wp2
           go_ret
           exact ⟨by first | rfl | (simp [errW_none,errW_some] <;> rfl) | (simp only [← hji49];first | rfl | (simp [errW_none,errW_some] <;> rfl)) | (simp [*,errW_none,errW_some] <;> rfl),by repeat (first | (with_reducible first | exact HB.out | apply below_alloc | apply pw_below_drewN | apply below_drew1 | refine below_set ?_ GE213.out | refine below_set ?_ GE234.out) | exact HB.out)⟩
        ·rw [if_neg c53] at H
         exact absurd H (by simp)
       ·rw [if_neg c51] at H
        exact absurd H (by simp)
      ·rw [if_neg c50] at H
       exact absurd H (by simp)
def humuslaw11_TableFull.Pure : Prop:=∀ (l0 : List Int) (a1 : Int),l0.length ≤ maxLen → l0.length * 1 ≤ 140737488351232 → (∀ x ∈ l0,(Lit.int .u8 x).wf = true) → (Lit.int .u8 a1).wf = true → ∃ k,humuslaw11_TableFull.f k l0 a1 = some true
theorem humuslaw11_TableFull.walk (P : humuslaw11_TableFull.Pure) (a0 : Option Addr) (len0 cap0 : Nat) (z0 : List Int) (a1 : Int) (w : World) (w0 : (a0 = none ∧ len0 = 0 ∧ cap0 = 0 ∧ z0 = []) ∨ ∃ x,a0 = some x ∧ len0 ≤ cap0 ∧ cap0 ≤ maxLen ∧ z0.length = cap0 ∧ (∀ i,i < z0.length → w.cell? (x.add i) = some (.int .u8 (z0.getD i 0))) ∧ ∀ n ∈ z0,(Lit.int .u8 n).wf = true) (y0 : len0 * 1 ≤ 140737488351232) (w1 : (Lit.int .u8 a1).wf = true) :
  Calls Try.prog 11 #[.slice a0 len0 cap0,.int .u8 a1] w fun e w' => e = .returned (.bool true) ∧ Below w.heap.size w w':=by
 obtain ⟨l0,rfl,hr0,hm0,hw0,hc0⟩:=ReadsInt.ofRowC w0
 obtain ⟨k,h⟩:=P l0 a1 hm0 y0 hw0 w1
 refine (humuslaw11_TableFull.calls k _ _ l0 a1 true w (Kd.C_of_reads (d:=(0 : Int)) (h1:=fun _ => rfl) hr0) hc0 h).mono ?_
 rintro e w' ⟨rfl,hd⟩
 exact ⟨rfl,hd⟩
end Go.Proofs.Ytbmcbhpkefjhbaa.P
set_option linter.unusedVariables false
set_option linter.unusedSimpArgs false
namespace Go.Proofs.Ytbmcbhpkefjhbaa.P
open Go.RowKit Go.Proofs.Ytbmcbhpkefjhbaa Go.Proofs.Ytbmcbhpkefjhbaa.Mem Go.Proofs.YtbmcbhpkefjhbaaW.PrintWords Go.Proofs.YtbmcbhpkefjhbaaW.PrintLast Go.Proofs.YtbmcbhpkefjhbaaW.PrintMore
theorem in_ev (a lo hi : Int) : table_in.f a lo hi = some (decide (lo ≤ a) && decide (a ≤ hi)) := by
  unfold table_in.f
  by_cases h : a ≥ lo
  · rw [if_pos h, decide_eq_true h]; simp
  · rw [if_neg h, decide_eq_false h]; simp
def OkE (nt cm : Int) (e : Ent) : Prop :=
  e = ⟨0, 0, 0, 0⟩ ∨ (e.f1 = 1 ∧ e.f3 = 0 ∧ 1 ≤ e.f0 ∧ e.f0 ≤ nt - 1 ∧ 0 ≤ e.f2 ∧ e.f2 ≤ 65535) ∨ (e.f1 = 2 ∧ 1 ≤ e.f3 ∧ e.f3 ≤ cm ∧ 1 ≤ e.f0 ∧ e.f0 ≤ nt - 1 ∧ 0 ≤ e.f2 ∧ e.f2 ≤ 65535)
structure Good (nt nn cm : Int) (l : List Ent) : Prop where
  nt1 : 1 ≤ nt
  nt2 : nt ≤ 2147483647
  nn1 : 1 ≤ nn
  nn2 : nn ≤ 2147483647
  cm1 : 0 ≤ cm
  cm2 : cm ≤ 2147483647
  len : l.length = 12
  ent : ∀ e ∈ l, OkE nt cm e
  dis : ∀ (i j : Nat) (e x : Ent), l[i]? = some e → l[j]? = some x → i ≠ j → (0 < e.f0 → x.f0 ≠ e.f0) ∧ (0 < e.f3 → x.f3 ≠ e.f3)
theorem entry_ev {k : Nat} {nt nn cm : Int} {l : List Ent} {e : Ent} (hk : 2 ≤ k) (h1 : 1 ≤ nt) (h2 : nt ≤ 2147483647) (h : OkE nt cm e) : table_entry.f k nt nn cm l e.f0 e.f1 e.f2 e.f3 = some true := by
  have hw : wrap64 (nt - 1) = nt - 1 := by unfold wrap64; omega
  obtain ⟨k, rfl⟩ : ∃ m, k = m + 2 := ⟨k - 2, by omega⟩
  unfold table_entry.f
  rcases h with rfl | ⟨h1, h3, a, b, c, d⟩ | ⟨h1, h3, h4, a, b, c, d⟩
  · rfl
  · rw [if_neg (by omega), if_pos h1, if_pos h3, in_ev, hw, decide_eq_true a, decide_eq_true b]
    simp only [Option.bind_some, Bool.and_self, if_true, in_ev, decide_eq_true c, decide_eq_true d]
  · rw [if_neg (by omega), if_neg (by omega), show (e.f1 == 2) = true from beq_iff_eq.mpr h1]
    simp only [table_entry.j0, if_true, in_ev, hw, decide_eq_true a, decide_eq_true b, decide_eq_true c, decide_eq_true d, decide_eq_true h3, decide_eq_true h4, Option.bind_some, Bool.and_self]
theorem Check_l0 {nt nn cm : Int} {l : List Ent} (h : Good nt nn cm l) : ∀ (d i k : Nat), d = 12 - i → i ≤ 12 → 2 * d + 4 ≤ k → table_Check.l0 k l (l.length : Int) (i : Int) nt nn cm l = some 0 := by
  intro d
  induction d with
  | zero =>
    intro i k hd hi hk
    obtain ⟨k, rfl⟩ : ∃ m, k = m + 1 := ⟨k - 1, by omega⟩
    have := h.len
    rw [table_Check.l0, if_neg (by omega)]
  | succ d ih =>
    intro i k hd hi hk
    obtain ⟨k, rfl⟩ : ∃ m, k = m + 2 := ⟨k - 2, by omega⟩
    have hl := h.len
    have hlt : i < l.length := by omega
    have hw : wrap64 ((i : Int) + 1) = ((i + 1 : Nat) : Int) := by unfold wrap64; omega
    have hm := rdE_at hlt
    have hno : (l.take i).any (twiceE (rd_T112 l (i : Int)).f0 (rd_T112 l (i : Int)).f3) = false := by
      rw [List.any_eq_false]
      intro x hx
      obtain ⟨j, hj, he⟩ := List.mem_iff_getElem.1 hx
      rw [List.length_take] at hj
      have hj' : l[j]? = some x := by
        rw [List.getElem?_eq_getElem (by omega)]
        rw [List.getElem_take] at he
        rw [he]
      have := h.dis i j _ x hm hj' (by omega)
      unfold twiceE
      simp only [Bool.or_eq_true, Bool.and_eq_true, decide_eq_true_eq, beq_iff_eq, not_or, not_and]
      exact this
    rw [table_Check.l0, if_pos (by omega), if_pos (by omega), if_pos (by omega), if_pos (by omega), Int.toNat_natCast]
    unfold containsFunc_table_Check_1.f
    rw [if_pos (by rw [List.length_take]; omega), hno]
    rw [Option.bind_some, if_neg (show ¬ (false = true) by decide), entry_ev (by omega) h.nt1 h.nt2 (h.ent _ (List.mem_of_getElem? hm)), Option.bind_some]
    rw [table_Check.j3, if_neg (show ¬ ((!true) = true) by decide), hw]
    exact ih (i + 1) k (by omega) (by omega) (by omega)
theorem Check_ev {k : Nat} {nt nn cm : Int} {l : List Ent} (hk : 40 ≤ k) (h : Good nt nn cm l) : table_Check.f k nt nn cm l = some 0 := by
  obtain ⟨k, rfl⟩ : ∃ m, k = m + 1 := ⟨k - 1, by omega⟩
  unfold table_Check.f
  have hl := h.len
  rw [in_ev, decide_eq_true h.nt1, decide_eq_true h.nt2, Option.bind_some, if_pos (by rfl), in_ev, decide_eq_true h.nn1, decide_eq_true h.nn2, Option.bind_some, if_pos (by rfl), in_ev, decide_eq_true h.cm1, decide_eq_true h.cm2, Option.bind_some, if_pos (by rfl)]
  rw [show ((l.length : Int) != 12) = false from by rw [hl]; rfl, table_Check.j0, if_neg (show ¬ (false = true) by decide)]
  exact Check_l0 h 12 0 k (by omega) (by omega) (by omega)
def isZ (e : Ent) : Bool := (0 : Int) == e.f0 && ((0 : Int) == e.f1 && ((0 : Int) == e.f2 && ((0 : Int) == e.f3)))
theorem isZ_iff {e : Ent} : isZ e = true ↔ e = ⟨0, 0, 0, 0⟩ := by
  obtain ⟨a, b, c, d⟩ := e
  simp only [isZ, Bool.and_eq_true, beq_iff_eq]
  constructor
  · rintro ⟨rfl, rfl, rfl, rfl⟩; rfl
  · intro h; injection h with h1 h2 h3 h4; exact ⟨h1.symm, h2.symm, h3.symm, h4.symm⟩
theorem Index_l0 {l : List Ent} (hl : l.length ≤ 1000000) : ∀ (d i k : Nat), d = l.length - i → i ≤ l.length → d + 1 ≤ k → (∀ (j : Nat) (e : Ent), j < i → l[j]? = some e → isZ e = false) → slices_Index_api_Entry_api_Entry.l0 k l (l.length : Int) (i : Int) 0 0 0 0 = some (ixOf (l.findIdx? isZ)) := by
  intro d
  induction d with
  | zero =>
    intro i k hd hi hk hN
    obtain ⟨k, rfl⟩ : ∃ m, k = m + 1 := ⟨k - 1, by omega⟩
    rw [slices_Index_api_Entry_api_Entry.l0, if_neg (by omega)]
    have : l.findIdx? isZ = none := by
      rw [List.findIdx?_eq_none_iff]
      intro e he
      obtain ⟨j, hj⟩ := List.mem_iff_getElem?.1 he
      have := (List.getElem?_eq_some_iff.1 hj).1
      exact hN j e (by omega) hj
    rw [this]; rfl
  | succ d ih =>
    intro i k hd hi hk hN
    obtain ⟨k, rfl⟩ : ∃ m, k = m + 1 := ⟨k - 1, by omega⟩
    have hlt : i < l.length := by omega
    have hw : wrap64 ((i : Int) + 1) = ((i + 1 : Nat) : Int) := by unfold wrap64; omega
    have hm := rdE_at hlt
    rw [slices_Index_api_Entry_api_Entry.l0, if_pos (by omega), if_pos (by omega), if_pos (by omega), hw]
    change (if isZ (rd_T112 l (i : Int)) = true then _ else _) = _
    cases hz : isZ (rd_T112 l (i : Int)) with
    | true =>
      rw [if_pos rfl]
      have : l.findIdx? isZ = some i := by
        rw [List.findIdx?_eq_some_iff_getElem]
        refine ⟨hlt, ?_, fun j hj => ?_⟩
        · rw [List.getElem?_eq_getElem hlt] at hm
          injection hm with hm
          rw [hm]; exact hz
        · rw [hN j _ hj (List.getElem?_eq_getElem (by omega))]; decide
      rw [this]; rfl
    | false =>
      rw [if_neg (by decide)]
      refine ih (i + 1) k (by omega) (by omega) (by omega) (fun j e hj he => ?_)
      by_cases h : j = i
      · subst h
        have := he.symm.trans hm
        injection this with this
        rw [this]; exact hz
      · exact hN j e (by omega) he
theorem Index_ev {k : Nat} {l : List Ent} (hl : l.length ≤ 1000000) (hk : l.length + 1 ≤ k) : slices_Index_api_Entry_api_Entry.f k l 0 0 0 0 = some (ixOf (l.findIdx? isZ)) := by
  unfold slices_Index_api_Entry_api_Entry.f
  exact Index_l0 hl l.length 0 k (by omega) (by omega) (by omega) (fun j e h => absurd h (Nat.not_lt_zero _))
theorem own_ev {nt nn cm : Int} {l : List Ent} (hl : l.length ≤ 1000000) : table_own.f nt nn cm l = some (nt, nn, cm, l) := by
  unfold table_own.f slices_Clone_api_Entry_api_Entry.f
  rw [Option.bind_some, if_pos (by simp only [List.length_nil]; omega)]; rfl
def findT (l : List Ent) (tx : Int) : Option Nat := if tx < 1 then none else l.findIdx? fun x => x.f0 == tx
theorem Find_ev {k : Nat} {nt nn cm : Int} {l : List Ent} (hk : 40 ≤ k) (h : Good nt nn cm l) (tx : Int) : table_Find.f k nt nn cm l tx = some (ixOf (findT l tx)) := by
  unfold table_Find.f findT
  rw [Check_ev hk h, Option.bind_some, if_pos rfl]
  by_cases h1 : tx < 1
  · rw [if_pos h1, if_pos h1]; rfl
  · rw [if_neg h1, if_neg h1]
    unfold indexFunc_table_Find_1.f
    rw [if_pos (by rw [h.len]; omega)]; rfl
def enterT (nt nn cm : Int) (l : List Ent) (tx : Int) : Int × Int × Int × List Ent × Int × Int :=
  if 1 ≤ tx ∧ tx ≤ 2147483646 then
    match findT l tx with
    | some _ => (nt, nn, cm, l, -1, 2)
    | none => match l.findIdx? isZ with
      | none => (nt, nn, cm, l, -1, 12)
      | some i => (mx nt (tx + 1), nn, cm, l.set i ⟨tx, 1, 0, 0⟩, i, 0)
  else (nt, nn, cm, l, -1, 1)
theorem findIdx_lt {α : Type} {l : List α} {q : α → Bool} {i : Nat} (h : l.findIdx? q = some i) : i < l.length := (List.findIdx?_eq_some_iff_getElem.1 h).1
theorem Enter_ev {k : Nat} {nt nn cm : Int} {l : List Ent} (hk : 40 ≤ k) (h : Good nt nn cm l) (tx : Int) : table_Enter.f k nt nn cm l tx = some (enterT nt nn cm l tx) := by
  have hl := h.len
  unfold table_Enter.f enterT
  rw [Check_ev hk h, Option.bind_some, if_pos rfl, Index_ev (by omega) (by omega), Option.bind_some, own_ev (by omega), Option.bind_some, in_ev, Option.bind_some]
  by_cases h1 : 1 ≤ tx ∧ tx ≤ 2147483646
  · have hw : wrap64 (tx + 1) = tx + 1 := by unfold wrap64; omega
    rw [if_pos h1, decide_eq_true h1.1, decide_eq_true h1.2, if_pos (by rfl), Find_ev hk h tx, Option.bind_some]
    cases findT l tx with
    | some i => rw [if_pos (by show ((i : Nat) : Int) ≥ 0; omega)]
    | none =>
      rw [if_neg (by decide)]
      cases hz : l.findIdx? isZ with
      | none => rw [if_pos (by decide)]
      | some i =>
        have := findIdx_lt hz
        rw [show ixOf (some i) = (i : Int) from rfl]
        rw [if_neg (by omega), if_pos (by omega), if_pos (by show (i : Int) < (l.length : Int); omega), hw, Int.toNat_natCast]
  · rw [if_neg h1, if_neg (by intro hh; rw [Bool.and_eq_true, decide_eq_true_eq, decide_eq_true_eq] at hh; exact h1 hh)]
def leaveT (nt nn cm : Int) (l : List Ent) (tx : Int) : Int × Int × Int × List Ent × Int :=
  match findT l tx with
  | none => (nt, nn, cm, l, 3)
  | some i => (nt, nn, cm, l.set i ⟨0, 0, 0, 0⟩, 0)
theorem findT_lt {l : List Ent} {tx : Int} {i : Nat} (h : findT l tx = some i) : i < l.length := by
  unfold findT at h
  split at h
  · cases h
  · exact findIdx_lt h
theorem Leave_ev {k : Nat} {nt nn cm : Int} {l : List Ent} (hk : 40 ≤ k) (h : Good nt nn cm l) (tx : Int) : table_Leave.f k nt nn cm l tx = some (leaveT nt nn cm l tx) := by
  have hl := h.len
  unfold table_Leave.f leaveT
  rw [Check_ev hk h, Option.bind_some, if_pos rfl, own_ev (by omega), Option.bind_some, Find_ev hk h tx, Option.bind_some]
  cases hf : findT l tx with
  | none => rw [if_pos (by decide)]
  | some i =>
    have := findT_lt hf
    rw [show ixOf (some i) = (i : Int) from rfl]
    rw [if_neg (by omega), if_pos (by omega), if_pos (by show (i : Int) < (l.length : Int); omega), Int.toNat_natCast]
end Go.Proofs.Ytbmcbhpkefjhbaa.P
set_option linter.unusedVariables false
set_option linter.unusedSimpArgs false
namespace Go.Proofs.Ytbmcbhpkefjhbaa.P
open Go.RowKit Go.Proofs.Ytbmcbhpkefjhbaa Go.Proofs.Ytbmcbhpkefjhbaa.Mem Go.Proofs.YtbmcbhpkefjhbaaW.PrintWords Go.Proofs.YtbmcbhpkefjhbaaW.PrintLast Go.Proofs.YtbmcbhpkefjhbaaW.PrintMore
theorem awake11_at : humuslaw11_awake.f 60 = some true := by kernel_rfl
theorem awake11_ev : ∀ {k : Nat}, 60 ≤ k → humuslaw11_awake.f k = some true := by
  intro k hk
  obtain ⟨d, rfl⟩ : ∃ d, k = 60 + d := ⟨k - 60, by omega⟩
  clear hk
  induction d with
  | zero => exact awake11_at
  | succ d ih => exact humuslaw11_awake.mono (60 + d) _ ih
def cellT : Option Int → Ent
  | none => ⟨0, 0, 0, 0⟩
  | some t => ⟨t, 1, 0, 0⟩
def TabC (c : Nat → Option Int) (l : List Ent) : Prop := l.length = 12 ∧ ∀ j, j < 12 → l[j]? = some (cellT (c j))
theorem TabC.of {c : Nat → Option Int} {l : List Ent} (h : TabC c l) {j : Nat} {e : Ent} (he : l[j]? = some e) : j < 12 ∧ e = cellT (c j) := by
  have hj := (List.getElem?_eq_some_iff.1 he).1
  rw [h.1] at hj
  have := (h.2 j hj).symm.trans he
  injection this with this
  exact ⟨hj, this.symm⟩
theorem TabC.set {c : Nat → Option Int} {l : List Ent} (h : TabC c l) (i : Nat) (v : Option Int) : TabC (fun j => if j = i then v else c j) (l.set i (cellT v)) := by
  refine ⟨by rw [List.length_set]; exact h.1, fun j hj => ?_⟩
  by_cases e : j = i
  · subst e
    rw [List.getElem?_set_self (by rw [h.1]; exact hj)]
    simp only [if_true]
  · rw [List.getElem?_set_ne (fun hh => e hh.symm)]
    simp only [e, if_false]
    exact h.2 j hj
def RngC (c : Nat → Option Int) : Prop := ∀ j t, j < 12 → c j = some t → 20 * (j : Int) + 1 ≤ t ∧ t ≤ 20 * (j : Int) + 20
theorem good_of {c : Nat → Option Int} {l : List Ent} {nt : Int} (hT : TabC c l) (hR : RngC c) (h1 : 1 ≤ nt) (h2 : nt ≤ 2147483647) (ht : ∀ j t, j < 12 → c j = some t → t + 1 ≤ nt) : Good nt 1 0 l where
  nt1 := h1
  nt2 := h2
  nn1 := by decide
  nn2 := by decide
  cm1 := by decide
  cm2 := by decide
  len := hT.1
  ent := by
    intro e he
    obtain ⟨j, hj0⟩ := List.mem_iff_getElem?.1 he
    obtain ⟨hj, rfl⟩ := hT.of hj0
    cases hc : c j with
    | none => exact Or.inl rfl
    | some t =>
      have := hR j t (hT.of hj0).1 hc
      have := ht j t (hT.of hj0).1 hc
      exact Or.inr (Or.inl ⟨rfl, rfl, by show 1 ≤ t; omega, by show t ≤ nt - 1; omega, by show (0 : Int) ≤ 0; omega, by show (0 : Int) ≤ 65535; omega⟩)
  dis := by
    intro i j e x he hx hne
    obtain ⟨hi, rfl⟩ := hT.of he
    obtain ⟨hj, rfl⟩ := hT.of hx
    refine ⟨fun h => ?_, fun h => ?_⟩
    · cases hc : c i with
      | none => rw [hc] at h; exact absurd h (by show ¬ ((0 : Int) < 0); omega)
      | some t =>
        have a := hR i t hi hc
        cases hd : c j with
        | none => show (0 : Int) ≠ t; omega
        | some s =>
          have b := hR j s hj hd
          show s ≠ t
          omega
    · cases hc : c i with
      | none => rw [hc] at h; exact absurd h (by show ¬ ((0 : Int) < 0); omega)
      | some t => rw [hc] at h; exact absurd h (by show ¬ ((0 : Int) < 0); omega)
theorem findT_no {c : Nat → Option Int} {l : List Ent} (hT : TabC c l) {tx : Int} (h1 : 1 ≤ tx) (h : ∀ j, j < 12 → c j ≠ some tx) : findT l tx = none := by
  unfold findT
  rw [if_neg (by omega), List.findIdx?_eq_none_iff]
  intro e he
  obtain ⟨j, hj0⟩ := List.mem_iff_getElem?.1 he
  obtain ⟨hj, rfl⟩ := hT.of hj0
  have := h j (hT.of hj0).1
  cases hc : c j with
  | none => exact beq_eq_false_iff_ne.mpr (by show (0 : Int) ≠ tx; omega)
  | some t => exact beq_eq_false_iff_ne.mpr (by show t ≠ tx; intro e; subst e; exact this hc)
theorem get_of {c : Nat → Option Int} {l : List Ent} (hT : TabC c l) {j : Nat} (h : j < l.length) : l[j] = cellT (c j) := (hT.of (List.getElem?_eq_getElem h)).2
theorem findT_at {c : Nat → Option Int} {l : List Ent} (hT : TabC c l) (hR : RngC c) {tx : Int} {i : Nat} (hi : i < 12) (h : c i = some tx) : findT l tx = some i := by
  have hr := hR i tx hi h
  unfold findT
  rw [if_neg (by omega), List.findIdx?_eq_some_iff_getElem]
  refine ⟨by rw [hT.1]; exact hi, ?_, fun j hj => ?_⟩
  · rw [get_of hT, h]; exact beq_iff_eq.mpr rfl
  · rw [get_of hT]
    intro hh
    rw [beq_iff_eq] at hh
    cases hc : c j with
    | none => rw [hc] at hh; have : (0 : Int) = tx := hh; omega
    | some t => rw [hc] at hh; have e : t = tx := hh; have := hR j t (by omega) hc; omega
theorem isZ_none : isZ (cellT none) = true := by decide
theorem isZ_some {t : Int} : isZ (cellT (some t)) = false := by
  cases h : isZ (cellT (some t)) with
  | false => rfl
  | true => rw [isZ_iff] at h; injection h with _ h; exact absurd h (by decide)
theorem free_no {c : Nat → Option Int} {l : List Ent} (hT : TabC c l) (h : ∀ j, j < 12 → c j ≠ none) : l.findIdx? isZ = none := by
  rw [List.findIdx?_eq_none_iff]
  intro e he
  obtain ⟨j, hj0⟩ := List.mem_iff_getElem?.1 he
  obtain ⟨hj, rfl⟩ := hT.of hj0
  cases hc : c j with
  | none => exact absurd hc (h j (hT.of hj0).1)
  | some t => exact isZ_some
theorem free_at {c : Nat → Option Int} {l : List Ent} (hT : TabC c l) {i : Nat} (hi : i < 12) (h : c i = none) (hb : ∀ j, j < i → c j ≠ none) : l.findIdx? isZ = some i := by
  rw [List.findIdx?_eq_some_iff_getElem]
  refine ⟨by rw [hT.1]; exact hi, ?_, fun j hj => ?_⟩
  · rw [get_of hT, h]; exact isZ_none
  · rw [get_of hT]
    cases hc : c j with
    | none => exact absurd hc (hb j hj)
    | some t => rw [isZ_some]; decide
structure InvF (ins : List Int) (nt : Int) (l : List Ent) : Prop where
  rng : ∀ (j : Nat) (t : Int), ins[j]? = some t → 20 * (j : Int) + 1 ≤ t ∧ t ≤ 20 * (j : Int) + 20
  nt1 : 1 ≤ nt
  nt2 : nt ≤ 241
  top : ∀ (j : Nat) (t : Int), j < 12 → ins[j]? = some t → t + 1 ≤ nt
  tab : TabC (fun j => ins[j]?) l
theorem InvF.good {ins : List Int} {nt : Int} {l : List Ent} (h : InvF ins nt l) : Good nt 1 0 l := good_of h.tab (fun j t _ he => h.rng j t he) h.nt1 (by have := h.nt2; omega) h.top
theorem rng_app {ins : List Int} {tx : Int} (h : ∀ (j : Nat) (t : Int), ins[j]? = some t → 20 * (j : Int) + 1 ≤ t ∧ t ≤ 20 * (j : Int) + 20) (h1 : 20 * (ins.length : Int) + 1 ≤ tx) (h2 : tx ≤ 20 * (ins.length : Int) + 20) : ∀ (j : Nat) (t : Int), (ins ++ [tx])[j]? = some t → 20 * (j : Int) + 1 ≤ t ∧ t ≤ 20 * (j : Int) + 20 := by
  intro j t he
  by_cases hj : j < ins.length
  · rw [List.getElem?_append_left hj] at he; exact h j t he
  · rw [List.getElem?_append_right (by omega)] at he
    obtain ⟨d, hd⟩ : ∃ d, j - ins.length = d := ⟨_, rfl⟩
    rw [hd] at he
    cases d with
    | zero =>
      injection he with he
      subst he
      have : j = ins.length := by omega
      subst this
      exact ⟨h1, h2⟩
    | succ d => cases he
theorem InvF.enter {ins : List Int} {nt : Int} {l : List Ent} (h : InvF ins nt l) {tx : Int} (hi : ins.length < 12) (h1 : 20 * (ins.length : Int) + 1 ≤ tx) (h2 : tx ≤ 20 * (ins.length : Int) + 20) :
    enterT nt 1 0 l tx = (mx nt (tx + 1), 1, 0, l.set ins.length ⟨tx, 1, 0, 0⟩, ((ins.length : Nat) : Int), 0) ∧ InvF (ins ++ [tx]) (mx nt (tx + 1)) (l.set ins.length ⟨tx, 1, 0, 0⟩) := by
  have hz : ∀ j, j < ins.length → ins[j]? ≠ none := fun j hj hh => by rw [List.getElem?_eq_getElem hj] at hh; cases hh
  have hm : mx nt (tx + 1) = if nt < tx + 1 then tx + 1 else nt := rfl
  refine ⟨?_, ?_⟩
  · unfold enterT
    rw [if_pos ⟨by omega, by omega⟩, findT_no h.tab (by omega) (fun j hj he => by
      have a := h.rng j tx he
      have b := (List.getElem?_eq_some_iff.1 he).1
      omega), free_at h.tab hi (List.getElem?_eq_none (Nat.le_refl _)) hz]
  · have ht : TabC (fun j => (ins ++ [tx])[j]?) (l.set ins.length ⟨tx, 1, 0, 0⟩) := by
      have := h.tab.set ins.length (some tx)
      refine ⟨this.1, fun j hj => (this.2 j hj).trans ?_⟩
      by_cases e : j = ins.length
      · subst e
        simp only [if_true]
        rw [List.getElem?_append_right (Nat.le_refl _), Nat.sub_self]; rfl
      · simp only [e, if_false]
        by_cases hj' : j < ins.length
        · rw [List.getElem?_append_left hj']
        · rw [List.getElem?_eq_none (by omega : ins.length ≤ j), List.getElem?_eq_none (by rw [List.length_append, List.length_singleton]; omega)]
    refine ⟨rng_app h.rng h1 h2, ?_, ?_, ?_, ht⟩
    · have := h.nt1; rw [hm]; split <;> omega
    · have := h.nt2; rw [hm]; split <;> omega
    · intro j t hj he
      by_cases hj' : j < ins.length
      · rw [List.getElem?_append_left hj'] at he
        have := h.top j t hj he
        rw [hm]; split <;> omega
      · have a := rng_app h.rng h1 h2 j t he
        have b := (List.getElem?_eq_some_iff.1 he).1
        rw [List.length_append, List.length_singleton] at b
        have : j = ins.length := by omega
        subst this
        rw [List.getElem?_append_right (Nat.le_refl _), Nat.sub_self] at he
        injection he with he
        subst he
        rw [hm]; split <;> omega
theorem InvF.full {ins : List Int} {nt : Int} {l : List Ent} (h : InvF ins nt l) {tx : Int} (hi : ins.length = 12) (h1 : 20 * (ins.length : Int) + 1 ≤ tx) (h2 : tx ≤ 20 * (ins.length : Int) + 20) : enterT nt 1 0 l tx = (nt, 1, 0, l, -1, 12) := by
  unfold enterT
  rw [if_pos ⟨by omega, by omega⟩, findT_no h.tab (by omega) (fun j hj he => by have a := h.rng j tx he; omega), free_no h.tab (fun j hj hh => by rw [List.getElem?_eq_getElem (by omega : j < ins.length)] at hh; cases hh)]
def txAt (x0 : List Int) (i : Nat) : Int := if (i : Int) < (x0.length : Int) then 20 * (i : Int) + 1 + Int.tmod (rd x0 (i : Int)) 20 else 20 * (i : Int) + 1
theorem rd_u8 {x0 : List Int} (hx : ∀ x ∈ x0, 0 ≤ x ∧ x ≤ 255) (i : Int) : 0 ≤ rd x0 i ∧ rd x0 i ≤ 255 := by
  unfold rd
  rw [List.getD_eq_getElem?_getD]
  cases h : x0[i.toNat]? with
  | none => exact ⟨by decide, by decide⟩
  | some a => exact hx a (List.mem_of_getElem? h)
theorem txAt_rng {x0 : List Int} (hx : ∀ x ∈ x0, 0 ≤ x ∧ x ≤ 255) (i : Nat) : 20 * (i : Int) + 1 ≤ txAt x0 i ∧ txAt x0 i ≤ 20 * (i : Int) + 20 := by
  have h := rd_u8 hx (i : Int)
  unfold txAt
  split
  · rw [Int.tmod_eq_emod_of_nonneg h.1]; omega
  · omega
theorem full_end {x0 : List Int} {a1 : Int} (ha : 0 ≤ a1) (ha2 : a1 ≤ 255) {k : Nat} (hk : 70 ≤ k) {ins : List Int} {tx nt : Int} {l : List Ent} (h : InvF ins nt l) (hi : ins.length = 12) (h1 : 241 ≤ tx) (h2 : tx ≤ 260) :
    humuslaw11_TableFull.l0 k x0 a1 (ins ++ [tx]) 13 nt 1 0 l = some true := by
  obtain ⟨k, rfl⟩ : ∃ m, k = m + 2 := ⟨k - 2, by omega⟩
  have hw : wrap64 a1 = a1 := by unfold wrap64; omega
  have hl : ((ins ++ [tx]).length : Int) = 13 := by rw [List.length_append, List.length_singleton, hi]; rfl
  obtain ⟨o, ho, ho12⟩ : ∃ o : Nat, Int.tmod a1 12 = (o : Int) ∧ o < 12 := by
    refine ⟨(Int.tmod a1 12).toNat, ?_, ?_⟩
    · rw [Int.tmod_eq_emod_of_nonneg ha]; omega
    · rw [Int.tmod_eq_emod_of_nonneg ha]; omega
  obtain ⟨t, ht⟩ : ∃ t, ins[o]? = some t := ⟨_, List.getElem?_eq_getElem (by omega)⟩
  have hrd : rd (ins ++ [tx]) (o : Int) = t := by
    unfold rd
    rw [Int.toNat_natCast, List.getD_eq_getElem?_getD, List.getElem?_append_left (by omega), ht]; rfl
  have hrd2 : rd (ins ++ [tx]) 12 = tx := by
    unfold rd
    rw [show ((12 : Int)).toNat = ins.length from by rw [hi]; rfl, List.getD_eq_getElem?_getD, List.getElem?_append_right (Nat.le_refl _), Nat.sub_self]; rfl
  have hR : RngC (fun j => ins[j]?) := fun j t _ he => h.rng j t he
  have hT2 : TabC (fun j => if j = o then none else ins[j]?) (l.set o ⟨0, 0, 0, 0⟩) := h.tab.set o none
  have hR2 : RngC (fun j => if j = o then none else ins[j]?) := fun j t hj he => by
    by_cases e : j = o
    · simp only [e, if_true] at he; cases he
    · simp only [e, if_false] at he; exact h.rng j t he
  have hG2 : Good nt 1 0 (l.set o ⟨0, 0, 0, 0⟩) := good_of hT2 hR2 h.nt1 (by have := h.nt2; omega) (fun j t hj he => by
    by_cases e : j = o
    · simp only [e, if_true] at he; cases he
    · simp only [e, if_false] at he; exact h.top j t hj he)
  have hLv : leaveT nt 1 0 l t = (nt, 1, 0, l.set o ⟨0, 0, 0, 0⟩, 0) := by
    unfold leaveT
    rw [findT_at h.tab hR ho12 ht]
  have hEn : enterT nt 1 0 (l.set o ⟨0, 0, 0, 0⟩) tx = (mx nt (tx + 1), 1, 0, (l.set o ⟨0, 0, 0, 0⟩).set o ⟨tx, 1, 0, 0⟩, (o : Int), 0) := by
    unfold enterT
    rw [if_pos ⟨by omega, by omega⟩, findT_no hT2 (tx := tx) (by omega) (fun j hj he => by have := hR2 j tx hj he; omega), free_at hT2 ho12 (if_pos rfl) (fun j hj hh => by
      simp only [show ¬ (j = o) by omega, if_false] at hh
      rw [List.getElem?_eq_getElem (by omega : j < ins.length)] at hh; cases hh)]
  rw [humuslaw11_TableFull.l0, if_neg (by decide), hw, ho, hl, if_pos (by omega), if_pos (by omega), hrd, Leave_ev (by omega) h.good, hLv, Option.bind_some, if_pos (by decide), hrd2]
  rw [Enter_ev (by omega) hG2, hEn, Option.bind_some, if_pos rfl, if_pos rfl, if_pos rfl, awake11_ev (by omega), Option.bind_some]
  rfl
theorem full_l0 {x0 : List Int} {a1 : Int} (hx : ∀ x ∈ x0, 0 ≤ x ∧ x ≤ 255) (ha : 0 ≤ a1) (ha2 : a1 ≤ 255) : ∀ (d : Nat) (ins : List Int) (k : Nat) (nt : Int) (l : List Ent), d = 12 - ins.length → ins.length ≤ 12 → 3 * d + 80 ≤ k → InvF ins nt l →
    humuslaw11_TableFull.l0 k x0 a1 ins (ins.length : Int) nt 1 0 l = some true := by
  intro d
  induction d with
  | zero =>
    intro ins k nt l hd hi hk h
    obtain ⟨k, rfl⟩ : ∃ m, k = m + 3 := ⟨k - 3, by omega⟩
    have hi : ins.length = 12 := by omega
    have hr := txAt_rng hx 12
    have h8 : wrap64 (wrap64 (20 * (ins.length : Int)) + 1) = 241 := by rw [hi]; unfold wrap64; omega
    have hw : wrap64 ((ins.length : Int) + 1) = 13 := by rw [hi]; unfold wrap64; omega
    have hrd := rd_u8 hx (ins.length : Int)
    have hb : (((12 : Int) == 0) != decide ((ins.length : Int) < 12)) = false := by rw [hi]; rfl
    rw [humuslaw11_TableFull.l0, if_pos (by omega), h8, humuslaw11_TableFull.j3]
    by_cases hlt : (ins.length : Int) < (x0.length : Int)
    · have htx : wrap64 (241 + wrap64 (Int.tmod (rd x0 (ins.length : Int)) 20)) = txAt x0 12 := by
        unfold txAt
        rw [hi] at hlt hrd ⊢
        rw [if_pos hlt, Int.tmod_eq_emod_of_nonneg hrd.1]
        unfold wrap64; omega
      rw [if_pos hlt, if_pos (by omega), htx, Enter_ev (by omega) h.good, h.full hi (by rw [hi]; exact hr.1) (by rw [hi]; exact hr.2), Option.bind_some]
      simp only [hb]
      rw [if_neg (by decide), if_pos (by omega), humuslaw11_TableFull.j4, if_neg (by decide), if_pos (by omega), hw]
      exact full_end ha ha2 (by omega) h hi (by omega) (by omega)
    · rw [if_neg hlt, Enter_ev (by omega) h.good, h.full hi (by omega) (by omega), Option.bind_some]
      simp only [hb]
      rw [if_neg (by decide), if_pos (by omega), humuslaw11_TableFull.j5, if_neg (by decide), if_pos (by omega), hw]
      exact full_end ha ha2 (by omega) h hi (by omega) (by omega)
  | succ d ih =>
    intro ins k nt l hd hi hk h
    obtain ⟨k, rfl⟩ : ∃ m, k = m + 3 := ⟨k - 3, by omega⟩
    have hi : ins.length < 12 := by omega
    have hr := txAt_rng hx ins.length
    have h8 : wrap64 (wrap64 (20 * (ins.length : Int)) + 1) = 20 * (ins.length : Int) + 1 := by unfold wrap64; omega
    have hw : wrap64 ((ins.length : Int) + 1) = ((ins.length + 1 : Nat) : Int) := by unfold wrap64; omega
    have hrd := rd_u8 hx (ins.length : Int)
    have hb : (((0 : Int) == 0) != decide ((ins.length : Int) < 12)) = false := by rw [decide_eq_true (by omega)]; rfl
    rw [humuslaw11_TableFull.l0, if_pos (by omega), h8, humuslaw11_TableFull.j3]
    by_cases hlt : (ins.length : Int) < (x0.length : Int)
    · have htx : wrap64 (20 * (ins.length : Int) + 1 + wrap64 (Int.tmod (rd x0 (ins.length : Int)) 20)) = txAt x0 ins.length := by
        unfold txAt
        rw [if_pos hlt, Int.tmod_eq_emod_of_nonneg hrd.1]
        unfold wrap64; omega
      obtain ⟨hE, hI⟩ := h.enter hi hr.1 hr.2
      rw [if_pos hlt, if_pos (by omega), htx, Enter_ev (by omega) h.good, hE, Option.bind_some]
      simp only [hb]
      rw [if_neg (by decide), if_neg (by omega), humuslaw11_TableFull.j4, if_neg (by decide), if_pos (by omega), hw]
      have := ih (ins ++ [txAt x0 ins.length]) k _ _ (by rw [List.length_append, List.length_singleton]; omega) (by rw [List.length_append, List.length_singleton]; omega) (by omega) hI
      rw [List.length_append, List.length_singleton] at this
      exact this
    · obtain ⟨hE, hI⟩ := h.enter (tx := 20 * (ins.length : Int) + 1) hi (by omega) (by omega)
      rw [if_neg hlt, Enter_ev (by omega) h.good, hE, Option.bind_some]
      simp only [hb]
      rw [if_neg (by decide), if_neg (by omega), humuslaw11_TableFull.j5, if_neg (by decide), if_pos (by omega), hw]
      have := ih (ins ++ [20 * (ins.length : Int) + 1]) k _ _ (by rw [List.length_append, List.length_singleton]; omega) (by rw [List.length_append, List.length_singleton]; omega) (by omega) hI
      rw [List.length_append, List.length_singleton] at this
      exact this
end Go.Proofs.Ytbmcbhpkefjhbaa.P
namespace Go.Proofs.Ytbmcbhpkefjhbaa.Pure
open Go.RowKit Go.Proofs.Ytbmcbhpkefjhbaa.P Go.Proofs.YtbmcbhpkefjhbaaW.PrintWords Go.Proofs.YtbmcbhpkefjhbaaW.PrintLast
theorem TableFull : humuslaw11_TableFull.Pure := by
  intro l0 a1 _ _ hx ha
  have hx' : ∀ x ∈ l0, 0 ≤ x ∧ x ≤ 255 := fun x h => by
    have := hx x h
    simp [Lit.wf] at this
    rw [show IntKind.u8.min = 0 from rfl, show IntKind.u8.max = 255 from rfl] at this
    omega
  have ha' : 0 ≤ a1 ∧ a1 ≤ 255 := by
    simp [Lit.wf] at ha
    rw [show IntKind.u8.min = 0 from rfl, show IntKind.u8.max = 255 from rfl] at ha
    omega
  refine ⟨200, ?_⟩
  unfold humuslaw11_TableFull.f table_First.f
  rw [if_pos (by decide), Option.bind_some, humuslaw11_TableFull.j0]
  exact full_l0 hx' ha'.1 ha'.2 12 [] 199 1 (List.replicate 12 z112) rfl (by decide) (by decide) ⟨fun j t h => (by simp at h), (by decide), (by decide), fun j t _ h => (by simp at h), rfl, fun j hj => (by rw [List.getElem?_replicate, if_pos hj]; rfl)⟩
end Go.Proofs.Ytbmcbhpkefjhbaa.Pure
