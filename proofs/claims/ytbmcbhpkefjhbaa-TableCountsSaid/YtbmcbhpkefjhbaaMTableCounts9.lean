/- Put together by wip/prune.py out of this claim's texts. -/
import Derived.Test.YtbmcbhpkefjhbaaMTableCounts5
import Derived.Test.YtbmcbhpkefjhbaaMTableCounts7
import Derived.Test.YtbmcbhpkefjhbaaMTableCounts8
namespace Go.Proofs.Ytbmcbhpkefjhbaa.P
open Go.RowKit Go.Proofs.YtbmcbhpkefjhbaaW.PrintWords Go.Proofs.YtbmcbhpkefjhbaaW.PrintLast Go.Proofs.YtbmcbhpkefjhbaaW.PrintMore
attribute [local go_sem] max2_int min2_int max_two min_two max_three min_three max_four min_four   -- for this text's walks alone
attribute [local go_sem] run_store_float
set_option linter.unusedVariables false
set_option linter.unusedSimpArgs false
def table_Commit.j0 : Nat → Int → Bool → Int → Int → Int → List (S112) → Option (Int × Int × Int × (List (S112)) × Int × Int)
 | 0,_,_,_,_,_,_ => none
 | k + 1,x8,x24,x166000,x166001,x166002,x166003 => if x24 = true then (some (x166000,x166001,x166002,x166003,0,2)) else (if 0 ≤ x8 then (if x8 < (x166003.length : Int) then ((some (x166003.set (x8 : Int).toNat (⟨(rd_T112 x166003 x8).f0,2,(rd_T112 x166003 x8).f2,(rd_T112 x166003 x8).f3⟩ : S112) : List (S112))).bind fun y176 => (some (x166000,x166001,wrap64 (x166002 + 1),(y176.set (x8 : Int).toNat (⟨(rd_T112 y176 x8).f0,(rd_T112 y176 x8).f1,(rd_T112 y176 x8).f2,wrap64 (x166002 + 1)⟩ : S112)),wrap64 (x166002 + 1),0))) else (none)) else (none))
def table_Commit.f (k : Nat) (a0_0 : Int) (a0_1 : Int) (a0_2 : Int) (l0_3 : List (S112)) (a1 : Int) : Option (Int × Int × Int × (List (S112)) × Int × Int):=(table_Check.f k a0_0 a0_1 a0_2 l0_3).bind fun t167 => (if t167 = 0 then ((table_own.f a0_0 a0_1 a0_2 l0_3).bind fun bt168 => ((table_Find.f k bt168.1 bt168.2.1 bt168.2.2.1 bt168.2.2.2 a1).bind fun t174 => (if t174 < 0 then (some (bt168.1,bt168.2.1,bt168.2.2.1,bt168.2.2.2,0,3)) else (if 0 ≤ t174 then (if t174 < (bt168.2.2.2.length : Int) then (if ((rd_T112 bt168.2.2.2 t174).f1) = 1 then (table_Commit.j0 k t174 (bt168.2.2.1 == 2147483647) bt168.1 bt168.2.1 bt168.2.2.1 bt168.2.2.2) else (table_Commit.j0 k t174 true bt168.1 bt168.2.1 bt168.2.2.1 bt168.2.2.2)) else (none)) else (none))))) else (some (0,0,0,([] : List (S112)),0,t167)))
theorem table_Commit.mono_l : ∀ k,(∀ y0 y1 y2 y3 y4 y5,LeO (table_Commit.j0 k y0 y1 y2 y3 y4 y5) (table_Commit.j0 (k + 1) y0 y1 y2 y3 y4 y5))
 | 0 => fun _ _ _ _ _ _ r h => by simp [table_Commit.j0] at h
 | k + 1 => by
  have ih0:=table_Commit.mono_l k
  ·intro y0 y1 y2 y3 y4 y5
   unfold table_Commit.j0
   repeat' first
   | (with_reducible exact ih0 _ _ _ _ _ _)
   | (with_reducible exact table_Check.mono _ _ _ _ _)
   | (with_reducible exact table_Find.mono _ _ _ _ _ _)
   | (with_reducible exact LeO.refl _)
   | (with_reducible exact LeO.none _)
   | (with_reducible refine LeO.ite ?_ ?_)
   | (with_reducible refine LeO.bind ?_ (fun _ => ?_))
   | exact ih0 _ _ _ _ _ _
   | exact table_Check.mono _ _ _ _ _
   | exact table_Find.mono _ _ _ _ _ _
   | exact LeO.none _
   | refine LeO.ite ?_ ?_
   | refine LeO.bind ?_ (fun _ => ?_)
theorem table_Commit.mono : ∀ a0 a1 a2 a3 a4 k,LeO (table_Commit.f k a0 a1 a2 a3 a4) (table_Commit.f (k + 1) a0 a1 a2 a3 a4):=by
 intro a0 a1 a2 a3 a4 k
 have ih0:=table_Commit.mono_l k
 unfold table_Commit.f
 repeat' first
   | (with_reducible exact ih0 _ _ _ _ _ _)
   | (with_reducible exact table_Check.mono _ _ _ _ _)
   | (with_reducible exact table_Find.mono _ _ _ _ _ _)
   | (with_reducible exact LeO.refl _)
   | (with_reducible exact LeO.none _)
   | (with_reducible refine LeO.ite ?_ ?_)
   | (with_reducible refine LeO.bind ?_ (fun _ => ?_))
   | exact ih0 _ _ _ _ _ _
   | exact table_Check.mono _ _ _ _ _
   | exact table_Find.mono _ _ _ _ _ _
   | exact LeO.none _
   | refine LeO.ite ?_ ?_
   | refine LeO.bind ?_ (fun _ => ?_)
def table_Commit.T11 : Bool × List (List Nat × List Nat):=(true,[([],[]),([0],[0]),([],[]),([],[]),([3],[3]),([],[]),([],[]),([6],[6]),([1,2,0,1,2],[1,2]),([8,0,1,2],[8]),([9,0,1,2],[9]),([4,5,0,1,2,3,4,5,6,7,8,9,10],[4,5]),([11,0,1,2,3,4,5,6,7,8,9,10],[11]),([12,7,10,0,1,2,3,4,5,6,7,8,9,10],[7,12])])
def table_Commit.B11 : List Nat:=[0,1,0,0,8,0,0,64,7,263,775,2047,4095,8191]
theorem table_Commit.tab11 : rtab .any (opsOf Try.f41 11) = table_Commit.T11:=by kernel_rfl
theorem table_Commit.bits11 : waitsOk table_Commit.T11.2 table_Commit.B11 = true:=by kernel_rfl
set_option maxHeartbeats 8000000 in
set_option maxRecDepth 100000 in
theorem table_Commit.calls (k : Nat) (a0_0 : Int) (a0_1 : Int) (a0_2 : Int) (A0_3 : Option Addr) (c0_3 : Nat) (l0_3 : List (S112)) (a1 : Int) (r1 : Int) (r2 : Int) (r3 : Int) (r4 : List (S112)) (r5 : Int) (r6 : Int) (w : World) (hr0_3 : Kd.C k112 w A0_3 l0_3.length l0_3) (hc0_3 : l0_3.length ≤ c0_3) (h : table_Commit.f k a0_0 a0_1 a0_2 l0_3 a1 = some (r1,r2,r3,r4,r5,r6)) :
  Calls Try.prog 41 #[.agg #[.int .i64 a0_0,.int .i64 a0_1,.int .i64 a0_2,.slice A0_3 l0_3.length c0_3],.int .i64 a1] w fun e w' => ∃ v3_ : Value,e = .returned (.tuple #[.agg #[.int .i64 r1,.int .i64 r2,.int .i64 r3,v3_],.int .i64 r5,.int .i64 r6]) ∧ Kd.R k112 112 w' w.heap.size (fun _ => True) v3_ r4 ∧ Below w.heap.size w w':=by
 have hu69:=Try.underlying69
 have HR0_3:=Aside0.mk hr0_3
 have HC0_3:=Aside0.mk hc0_3
 clear hr0_3 hc0_3
 have HB:=Aside0.mk (Below.refl w.heap.size w)
 have H : ((table_Check.f k a0_0 a0_1 a0_2 l0_3).bind fun t167 => (if t167 = 0 then ((table_own.f a0_0 a0_1 a0_2 l0_3).bind fun bt168 => ((table_Find.f k bt168.1 bt168.2.1 bt168.2.2.1 bt168.2.2.2 a1).bind fun t174 => (if t174 < 0 then (some (bt168.1,bt168.2.1,bt168.2.2.1,bt168.2.2.2,0,3)) else (if 0 ≤ t174 then (if t174 < (bt168.2.2.2.length : Int) then (if ((rd_T112 bt168.2.2.2 t174).f1) = 1 then (table_Commit.j0 k t174 (bt168.2.2.1 == 2147483647) bt168.1 bt168.2.1 bt168.2.2.1 bt168.2.2.2) else (table_Commit.j0 k t174 true bt168.1 bt168.2.1 bt168.2.2.1 bt168.2.2.2)) else (none)) else (none))))) else (some (0,0,0,([] : List (S112)),0,t167)))) = some (r1,r2,r3,r4,r5,r6):=h
 clear h
 replace H:=Option.bind_eq_some_iff.mp H
 obtain ⟨t167,A30,H⟩:=H
 replace H : (if t167 = 0 then ((table_own.f a0_0 a0_1 a0_2 l0_3).bind fun bt168 => ((table_Find.f k bt168.1 bt168.2.1 bt168.2.2.1 bt168.2.2.2 a1).bind fun t174 => (if t174 < 0 then (some (bt168.1,bt168.2.1,bt168.2.2.1,bt168.2.2.2,0,3)) else (if 0 ≤ t174 then (if t174 < (bt168.2.2.2.length : Int) then (if ((rd_T112 bt168.2.2.2 t174).f1) = 1 then (table_Commit.j0 k t174 (bt168.2.2.1 == 2147483647) bt168.1 bt168.2.1 bt168.2.2.1 bt168.2.2.2) else (table_Commit.j0 k t174 true bt168.1 bt168.2.1 bt168.2.2.1 bt168.2.2.2)) else (none)) else (none))))) else (some (0,0,0,([] : List (S112)),0,t167))) = some (r1,r2,r3,r4,r5,r6):=H
 have A3:=Aside0.mk A30
 clear A30
 by_cases c4 : t167 = 0
 ·rw [if_pos c4] at H
  have c4b0 : (t167 == 0) = true:=beq_iff_eq.mpr c4
  have c4b1 : (t167 != 0) = false:=bne_eq_false_iff_eq.mpr c4
  clear c4
  replace H:=Option.bind_eq_some_iff.mp H
  obtain ⟨⟨t168,t169,t170,t171⟩,A50,H⟩:=H
  replace H : ((table_Find.f k t168 t169 t170 t171 a1).bind fun t174 => (if t174 < 0 then (some (t168,t169,t170,t171,0,3)) else (if 0 ≤ t174 then (if t174 < (t171.length : Int) then (if ((rd_T112 t171 t174).f1) = 1 then (table_Commit.j0 k t174 (t170 == 2147483647) t168 t169 t170 t171) else (table_Commit.j0 k t174 true t168 t169 t170 t171)) else (none)) else (none)))) = some (r1,r2,r3,r4,r5,r6):=H
  have A5:=Aside0.mk A50
  clear A50
  replace H:=Option.bind_eq_some_iff.mp H
  obtain ⟨t174,A60,H⟩:=H
  replace H : (if t174 < 0 then (some (t168,t169,t170,t171,0,3)) else (if 0 ≤ t174 then (if t174 < (t171.length : Int) then (if ((rd_T112 t171 t174).f1) = 1 then (table_Commit.j0 k t174 (t170 == 2147483647) t168 t169 t170 t171) else (table_Commit.j0 k t174 true t168 t169 t170 t171)) else (none)) else (none))) = some (r1,r2,r3,r4,r5,r6):=H
  have A6:=Aside0.mk A60
  clear A60
  by_cases c7 : t174 < 0
  ·rw [if_pos c7] at H
   have c7b0 : decide (t174 < 0) = true:=decide_eq_true c7
   clear c7
   simp only [Option.some.injEq,Prod.mk.injEq] at H
   obtain ⟨rfl,rfl,rfl,rfl,rfl,rfl⟩:=H
   go_enter Try.func41,Try.ntmps41
   go_wp2_with (first | ((with_reducible refine gate_dst (N:=2) rfl ?_);refine box_event ?hg (N:=2) ?hd (cs:=#[.int .i64 a0_0,.int .i64 a0_1,.int .i64 a0_2,.slice A0_3 l0_3.length c0_3]) (t:=69) ?hr ?_;(case hd => rfl);(case hg => rfl);(case hr => first | (go_simp;done) | (go_simp;rfl));intro gb165 hg w8 hbox hb;have n0_:=Aside0.mk (below_step (by repeat (first | (with_reducible first | exact HB.out | apply below_alloc | apply pw_below_drewN | apply below_drew1) | exact HB.out)) hb);have n1_:=Aside0.mk (hbox);have n2_:=Aside0.mk ((by rw [hg];exact (below_size (by repeat (first | (with_reducible first | exact HB.out | apply below_alloc | apply pw_below_drewN | apply below_drew1) | exact HB.out))) : w.heap.size ≤ gb165));have n3_:=Aside0.mk ((by rw [hg];exact (below_size (by repeat (first | (with_reducible first | exact HB.out | apply below_alloc | apply pw_below_drewN | apply below_drew1) | exact HB.out))) : w.heap.size ≤ gb165));clear HB;have HB:=n0_;have BK165:=n1_;have GW165:=n2_;have GE165:=n3_;clear n0_ n1_ n2_ n3_;clear hb hbox hg) | ((with_reducible refine gate_dst (N:=4) rfl ?_);refine box_event ?hg (N:=4) ?hd (cs:=#[.int .i64 0,.int .i64 0,.int .i64 0,.slice none 0 0]) (t:=69) ?hr ?_;(case hd => rfl);(case hg => rfl);(case hr => first | (go_simp;done) | (go_simp;rfl));intro gb166 hg w9 hbox hb;have n0_:=Aside0.mk (blk_below (g:=gb165) (o:=.cells #[.int .i64 a0_0,.int .i64 a0_1,.int .i64 a0_2,.slice A0_3 l0_3.length c0_3] 69 (0,0)) (by (with_reducible repeat (first | refine blk_drewN ?_ _ | refine blk_drew ?_ | refine blk_alloc ?_ _));exact BK165.out) hb);have n1_:=Aside0.mk (below_step (by repeat (first | (with_reducible first | exact HB.out | apply below_alloc | apply pw_below_drewN | apply below_drew1 | refine below_set ?_ GE165.out) | exact HB.out)) hb);have n2_:=Aside0.mk (hbox);have n3_:=Aside0.mk ((by rw [hg];exact (below_size (by repeat (first | (with_reducible first | exact HB.out | apply below_alloc | apply pw_below_drewN | apply below_drew1 | refine below_set ?_ GE165.out) | exact HB.out))) : w.heap.size ≤ gb166));have n4_:=Aside0.mk ((by rw [hg];exact (below_size (by repeat (first | (with_reducible first | exact HB.out | apply below_alloc | apply pw_below_drewN | apply below_drew1 | refine below_set ?_ GE165.out) | exact HB.out))) : w.heap.size ≤ gb166));have n5_:=Aside0.mk ((by rw [hg];exact Nat.ne_of_lt (blk_lt (g:=gb165) (o:=.cells #[.int .i64 a0_0,.int .i64 a0_1,.int .i64 a0_2,.slice A0_3 l0_3.length c0_3] 69 (0,0)) (by (with_reducible repeat (first | refine blk_drewN ?_ _ | refine blk_drew ?_ | refine blk_alloc ?_ _));exact BK165.out)) : gb165 ≠ gb166));have n6_:=Aside0.mk ((by rw [hg];exact Nat.ne_of_gt (blk_lt (g:=gb165) (o:=.cells #[.int .i64 a0_0,.int .i64 a0_1,.int .i64 a0_2,.slice A0_3 l0_3.length c0_3] 69 (0,0)) (by (with_reducible repeat (first | refine blk_drewN ?_ _ | refine blk_drew ?_ | refine blk_alloc ?_ _));exact BK165.out)) : gb166 ≠ gb165));clear BK165;clear HB;have BK165:=n0_;have HB:=n1_;have BK166:=n2_;have GW166:=n3_;have GE166:=n4_;have NB165_166:=n5_;have NB166_165:=n6_;clear n0_ n1_ n2_ n3_ n4_ n5_ n6_;clear hb hbox hg;have hnb10:=NB165_166.out;have hnc10:=NB166_165.out;obtain ⟨hcz11_0,hcz11_1,hcz11_2,hcz11_3⟩:=blkc_4 BK165.out;obtain ⟨hfz11_0,hfz11_1,hfz11_2⟩:=blkz_3 BK165.out;have hfz11_3:=blk_frozen BK165.out 3) | ((with_reducible refine gate_callee (f:=64) rfl ?_);refine goesL_ (some 10) rfl rfl Try.func64 (by kernel_rfl) rfl #[.agg #[.int .i64 a0_0,.int .i64 a0_1,.int .i64 a0_2,.slice A0_3 l0_3.length c0_3]] rfl (by (try simp only [List.map_toArray,List.map_cons,List.map_nil]);first | done | rfl | (simp only [List.length_drop,List.length_take];rfl)) ?_;(with_reducible refine (table_Check.calls k a0_0 a0_1 a0_2 _ _ l0_3 t167 _ ?side1 ?side2 A3.out).mono ?_);(case side1 => repeat (first | exact (Kd.C_below HR0_3.out HB.out) | (with_reducible refine Kd.C_alloc ?_ _) | (with_reducible refine Kd.C_drewN ?_ _) | (with_reducible refine Kd.C_drew ?_)));(case side2 => exact HC0_3.out);rintro e w12 ⟨rfl,hb⟩;refine ⟨_,rfl,?_⟩;have n0_:=Aside0.mk (blk_below (g:=gb165) (o:=.cells #[.int .i64 a0_0,.int .i64 a0_1,.int .i64 a0_2,.slice A0_3 l0_3.length c0_3] 69 (0,0)) (by (with_reducible repeat (first | refine blk_drewN ?_ _ | refine blk_drew ?_ | refine blk_alloc ?_ _));exact BK165.out) hb);have n1_:=Aside0.mk (blk_below (g:=gb166) (o:=.cells #[.int .i64 0,.int .i64 0,.int .i64 0,.slice none 0 0] 69 (0,0)) (by (with_reducible repeat (first | refine blk_drewN ?_ _ | refine blk_drew ?_ | refine blk_alloc ?_ _));exact BK166.out) hb);have n2_:=Aside0.mk (below_step (by repeat (first | (with_reducible first | exact HB.out | apply below_alloc | apply pw_below_drewN | apply below_drew1 | refine below_set ?_ GE165.out | refine below_set ?_ GE166.out) | exact HB.out)) hb);clear BK165;clear BK166;clear HB;have BK165:=n0_;have BK166:=n1_;have HB:=n2_;clear n0_ n1_ n2_;(try clear hb);(try clear hb2);(try clear hk);(try clear hi);obtain ⟨hcz13_0,hcz13_1,hcz13_2,hcz13_3⟩:=blkc_4 BK165.out;obtain ⟨hfz13_0,hfz13_1,hfz13_2⟩:=blkz_3 BK165.out;have hfz13_3:=blk_frozen BK165.out 3) | ((with_reducible refine gate_callee (f:=66) rfl ?_);refine goesL_ (some 16) rfl rfl Try.func66 (by kernel_rfl) rfl #[.agg #[.int .i64 a0_0,.int .i64 a0_1,.int .i64 a0_2,.slice A0_3 l0_3.length c0_3]] rfl (by (try simp only [List.map_toArray,List.map_cons,List.map_nil]);first | done | rfl | (simp only [List.length_drop,List.length_take];rfl)) ?_;(with_reducible refine (table_own.calls a0_0 a0_1 a0_2 _ _ l0_3 t168 t169 t170 t171 _ ?side1 ?side2 A5.out).mono ?_);(case side1 => repeat (first | exact (Kd.C_below HR0_3.out HB.out) | (with_reducible refine Kd.C_alloc ?_ _) | (with_reducible refine Kd.C_drewN ?_ _) | (with_reducible refine Kd.C_drew ?_)));(case side2 => exact HC0_3.out);rintro e w14 ⟨v172,rfl,ho0,hb⟩;refine ⟨_,rfl,?_⟩;have n0_:=Aside0.mk (Kd.R_lower ho0 (below_size (by repeat (first | (with_reducible first | exact HB.out | apply below_alloc | apply pw_below_drewN | apply below_drew1 | refine below_set ?_ GE165.out | refine below_set ?_ GE166.out) | exact HB.out))));have n1_:=Aside0.mk (blk_below (g:=gb165) (o:=.cells #[.int .i64 a0_0,.int .i64 a0_1,.int .i64 a0_2,.slice A0_3 l0_3.length c0_3] 69 (0,0)) (by (with_reducible repeat (first | refine blk_drewN ?_ _ | refine blk_drew ?_ | refine blk_alloc ?_ _));exact BK165.out) hb);have n2_:=Aside0.mk (blk_below (g:=gb166) (o:=.cells #[.int .i64 0,.int .i64 0,.int .i64 0,.slice none 0 0] 69 (0,0)) (by (with_reducible repeat (first | refine blk_drewN ?_ _ | refine blk_drew ?_ | refine blk_alloc ?_ _));exact BK166.out) hb);have n3_:=Aside0.mk (below_step (by repeat (first | (with_reducible first | exact HB.out | apply below_alloc | apply pw_below_drewN | apply below_drew1 | refine below_set ?_ GE165.out | refine below_set ?_ GE166.out) | exact HB.out)) hb);clear BK165;clear BK166;clear HB;have HO173:=n0_;have BK165:=n1_;have BK166:=n2_;have HB:=n3_;clear n0_ n1_ n2_ n3_;(try clear hb);(try clear hb2);(try clear hk);(try clear hi);(try clear ho0);obtain ⟨hcz15_0,hcz15_1,hcz15_2,hcz15_3⟩:=blkc_4 BK165.out;obtain ⟨hfz15_0,hfz15_1,hfz15_2,hfz15_3⟩:=blkz_4 BK165.out;obtain ⟨Ao16,co16,eo16⟩:=Kd.R_slice HO173.out;subst eo16) | ((with_reducible refine gate_callee (f:=68) rfl ?_);refine goesL_ (some 19) rfl rfl Try.func68 (by kernel_rfl) rfl #[.agg #[.int .i64 t168,.int .i64 t169,.int .i64 t170,.slice Ao16 t171.length co16],.int .i64 a1] rfl (by (try simp only [List.map_toArray,List.map_cons,List.map_nil]);first | done | rfl | (simp only [List.length_drop,List.length_take];rfl)) ?_;(with_reducible refine (table_Find.calls k t168 t169 t170 _ _ t171 a1 t174 _ ?side1 ?side2 A6.out).mono ?_);(case side1 => refine (Kd.R_reads' (e:=112) (base:=w.heap.size) (ok:=fun k_ => True) (n:=t171.length) (c:=co16) ?_).2.2;exact (by (with_reducible repeat (first | apply Kd.R_alloc | apply Kd.R_drewN | apply Kd.R_drew));exact (Kd.R_mono (Kd.R_far (p:=⟨gb165,3,none⟩) (Kd.R_far (p:=⟨gb165,2,none⟩) (Kd.R_far (p:=⟨gb165,1,none⟩) (Kd.R_far (p:=⟨gb165,0,none⟩) (Kd.R_types HO173.out BK165.out (by decide)) (fun _ hk => hk.2) (.int .i64 t168)) (fun _ hk => hk.2) (.int .i64 t169)) (fun _ hk => hk.2) (.int .i64 t170)) (fun _ hk => hk.2) (.slice Ao16 t171.length co16)) (fun _ h_ => h_.1))));(case side2 => exact (Kd.R_reads' HO173.out).2.1);rintro e w17 ⟨rfl,hb⟩;refine ⟨_,rfl,?_⟩;have n0_:=Aside0.mk (Kd.R_below (by (with_reducible repeat (first | apply Kd.R_alloc | apply Kd.R_drewN | apply Kd.R_drew));exact (Kd.R_mono (Kd.R_far (p:=⟨gb165,3,none⟩) (Kd.R_far (p:=⟨gb165,2,none⟩) (Kd.R_far (p:=⟨gb165,1,none⟩) (Kd.R_far (p:=⟨gb165,0,none⟩) (Kd.R_types HO173.out BK165.out (by decide)) (fun _ hk => hk.2) (.int .i64 t168)) (fun _ hk => hk.2) (.int .i64 t169)) (fun _ hk => hk.2) (.int .i64 t170)) (fun _ hk => hk.2) (.slice Ao16 t171.length co16)) (fun _ h_ => h_.1))) hb);have n1_:=Aside0.mk (blk_below (g:=gb165) (o:=.cells #[.int .i64 t168,.int .i64 t169,.int .i64 t170,.slice Ao16 t171.length co16] 69 (0,0)) (by (with_reducible repeat (first | refine blk_drewN ?_ _ | refine blk_drew ?_ | refine blk_alloc ?_ _));apply blkf_4_0_3;(with_reducible repeat (first | refine blk_drewN ?_ _ | refine blk_drew ?_ | refine blk_alloc ?_ _));exact BK165.out) hb);have n2_:=Aside0.mk (blk_below (g:=gb166) (o:=.cells #[.int .i64 0,.int .i64 0,.int .i64 0,.slice none 0 0] 69 (0,0)) (by (with_reducible repeat (first | refine blk_drewN ?_ _ | refine blk_drew ?_ | refine blk_alloc ?_ _));refine blk_far ?_ NB166_165.out _;(with_reducible repeat (first | refine blk_drewN ?_ _ | refine blk_drew ?_ | refine blk_alloc ?_ _));refine blk_far ?_ NB166_165.out _;(with_reducible repeat (first | refine blk_drewN ?_ _ | refine blk_drew ?_ | refine blk_alloc ?_ _));refine blk_far ?_ NB166_165.out _;(with_reducible repeat (first | refine blk_drewN ?_ _ | refine blk_drew ?_ | refine blk_alloc ?_ _));refine blk_far ?_ NB166_165.out _;(with_reducible repeat (first | refine blk_drewN ?_ _ | refine blk_drew ?_ | refine blk_alloc ?_ _));exact BK166.out) hb);have n3_:=Aside0.mk (below_step (by repeat (first | (with_reducible first | exact HB.out | apply below_alloc | apply pw_below_drewN | apply below_drew1 | refine below_set ?_ GE165.out | refine below_set ?_ GE166.out) | exact HB.out)) hb);clear HO173;clear BK165;clear BK166;clear HB;have HO173:=n0_;have BK165:=n1_;have BK166:=n2_;have HB:=n3_;clear n0_ n1_ n2_ n3_;(try clear hb);(try clear hb2);(try clear hk);(try clear hi);obtain ⟨hcz18_0,hcz18_1,hcz18_2,hcz18_3⟩:=blkc_4 BK165.out;obtain ⟨hfz18_0,hfz18_1,hfz18_2,hfz18_3⟩:=blkz_4 BK165.out;obtain ⟨hcz19_0,hcz19_1,hcz19_2,hcz19_3⟩:=blkc_4 BK166.out;obtain ⟨hfz19_0,hfz19_1,hfz19_2⟩:=blkz_3 BK166.out;have hfz19_3:=blk_frozen BK166.out 3))
   refine bodyPost_ret (results_ctt rfl _ _ gb166 69 #[.int .i64 t168,.int .i64 t169,.int .i64 t170,.slice Ao16 t171.length co16] (0,0) _ rfl (by (with_reducible repeat (first | refine blk_drewN ?_ _ | refine blk_drew ?_ | refine blk_alloc ?_ _));apply blkf_4_0_3;(with_reducible repeat (first | refine blk_drewN ?_ _ | refine blk_drew ?_ | refine blk_alloc ?_ _));exact BK166.out) Try.underlying69 rfl (by kernel_rfl)) rfl ?_
   exact ⟨_,by first | rfl | (simp [errW_none,errW_some] <;> rfl) | (simp [*,errW_none,errW_some] <;> rfl),by (with_reducible repeat (first | apply Kd.R_alloc | apply Kd.R_drewN | apply Kd.R_drew));exact Kd.R_mono (Kd.R_far (p:=⟨gb166,3,none⟩) (Kd.R_far (p:=⟨gb166,2,none⟩) (Kd.R_far (p:=⟨gb166,1,none⟩) (Kd.R_far (p:=⟨gb166,0,none⟩) (Kd.R_types HO173.out BK166.out (by decide)) (fun _ hk => hk.2) (.int .i64 t168)) (fun _ hk => hk.2) (.int .i64 t169)) (fun _ hk => hk.2) (.int .i64 t170)) (fun _ hk => hk.2) (.slice Ao16 t171.length co16)) (fun _ hk => trivial),by repeat (first | (with_reducible first | exact HB.out | apply below_alloc | apply pw_below_drewN | apply below_drew1 | refine below_set ?_ GE165.out | refine below_set ?_ GE166.out) | exact HB.out)⟩
  ·rw [if_neg c7] at H
   have c7b0 : decide (t174 < 0) = false:=decide_eq_false c7
   clear c7
   have HC20:=Aside0.mk H
   clear H
   go_enter Try.func41,Try.ntmps41
   go_upto_region 8 with (first | ((with_reducible refine gate_dst (N:=2) rfl ?_);refine box_event ?hg (N:=2) ?hd (cs:=#[.int .i64 a0_0,.int .i64 a0_1,.int .i64 a0_2,.slice A0_3 l0_3.length c0_3]) (t:=69) ?hr ?_;(case hd => rfl);(case hg => rfl);(case hr => first | (go_simp;done) | (go_simp;rfl));intro gb165 hg w21 hbox hb;have n0_:=Aside0.mk (below_step (by repeat (first | (with_reducible first | exact HB.out | apply below_alloc | apply pw_below_drewN | apply below_drew1) | exact HB.out)) hb);have n1_:=Aside0.mk (hbox);have n2_:=Aside0.mk ((by rw [hg];exact (below_size (by repeat (first | (with_reducible first | exact HB.out | apply below_alloc | apply pw_below_drewN | apply below_drew1) | exact HB.out))) : w.heap.size ≤ gb165));have n3_:=Aside0.mk ((by rw [hg];exact (below_size (by repeat (first | (with_reducible first | exact HB.out | apply below_alloc | apply pw_below_drewN | apply below_drew1) | exact HB.out))) : w.heap.size ≤ gb165));clear HB;have HB:=n0_;have BK165:=n1_;have GW165:=n2_;have GE165:=n3_;clear n0_ n1_ n2_ n3_;clear hb hbox hg) | ((with_reducible refine gate_dst (N:=4) rfl ?_);refine box_event ?hg (N:=4) ?hd (cs:=#[.int .i64 0,.int .i64 0,.int .i64 0,.slice none 0 0]) (t:=69) ?hr ?_;(case hd => rfl);(case hg => rfl);(case hr => first | (go_simp;done) | (go_simp;rfl));intro gb166 hg w22 hbox hb;have n0_:=Aside0.mk (blk_below (g:=gb165) (o:=.cells #[.int .i64 a0_0,.int .i64 a0_1,.int .i64 a0_2,.slice A0_3 l0_3.length c0_3] 69 (0,0)) (by (with_reducible repeat (first | refine blk_drewN ?_ _ | refine blk_drew ?_ | refine blk_alloc ?_ _));exact BK165.out) hb);have n1_:=Aside0.mk (below_step (by repeat (first | (with_reducible first | exact HB.out | apply below_alloc | apply pw_below_drewN | apply below_drew1 | refine below_set ?_ GE165.out) | exact HB.out)) hb);have n2_:=Aside0.mk (hbox);have n3_:=Aside0.mk ((by rw [hg];exact (below_size (by repeat (first | (with_reducible first | exact HB.out | apply below_alloc | apply pw_below_drewN | apply below_drew1 | refine below_set ?_ GE165.out) | exact HB.out))) : w.heap.size ≤ gb166));have n4_:=Aside0.mk ((by rw [hg];exact (below_size (by repeat (first | (with_reducible first | exact HB.out | apply below_alloc | apply pw_below_drewN | apply below_drew1 | refine below_set ?_ GE165.out) | exact HB.out))) : w.heap.size ≤ gb166));have n5_:=Aside0.mk ((by rw [hg];exact Nat.ne_of_lt (blk_lt (g:=gb165) (o:=.cells #[.int .i64 a0_0,.int .i64 a0_1,.int .i64 a0_2,.slice A0_3 l0_3.length c0_3] 69 (0,0)) (by (with_reducible repeat (first | refine blk_drewN ?_ _ | refine blk_drew ?_ | refine blk_alloc ?_ _));exact BK165.out)) : gb165 ≠ gb166));have n6_:=Aside0.mk ((by rw [hg];exact Nat.ne_of_gt (blk_lt (g:=gb165) (o:=.cells #[.int .i64 a0_0,.int .i64 a0_1,.int .i64 a0_2,.slice A0_3 l0_3.length c0_3] 69 (0,0)) (by (with_reducible repeat (first | refine blk_drewN ?_ _ | refine blk_drew ?_ | refine blk_alloc ?_ _));exact BK165.out)) : gb166 ≠ gb165));clear BK165;clear HB;have BK165:=n0_;have HB:=n1_;have BK166:=n2_;have GW166:=n3_;have GE166:=n4_;have NB165_166:=n5_;have NB166_165:=n6_;clear n0_ n1_ n2_ n3_ n4_ n5_ n6_;clear hb hbox hg;have hnb23:=NB165_166.out;have hnc23:=NB166_165.out;obtain ⟨hcz24_0,hcz24_1,hcz24_2,hcz24_3⟩:=blkc_4 BK165.out;obtain ⟨hfz24_0,hfz24_1,hfz24_2⟩:=blkz_3 BK165.out;have hfz24_3:=blk_frozen BK165.out 3) | ((with_reducible refine gate_callee (f:=64) rfl ?_);refine goesL_ (some 10) rfl rfl Try.func64 (by kernel_rfl) rfl #[.agg #[.int .i64 a0_0,.int .i64 a0_1,.int .i64 a0_2,.slice A0_3 l0_3.length c0_3]] rfl (by (try simp only [List.map_toArray,List.map_cons,List.map_nil]);first | done | rfl | (simp only [List.length_drop,List.length_take];rfl)) ?_;(with_reducible refine (table_Check.calls k a0_0 a0_1 a0_2 _ _ l0_3 t167 _ ?side1 ?side2 A3.out).mono ?_);(case side1 => repeat (first | exact (Kd.C_below HR0_3.out HB.out) | (with_reducible refine Kd.C_alloc ?_ _) | (with_reducible refine Kd.C_drewN ?_ _) | (with_reducible refine Kd.C_drew ?_)));(case side2 => exact HC0_3.out);rintro e w25 ⟨rfl,hb⟩;refine ⟨_,rfl,?_⟩;have n0_:=Aside0.mk (blk_below (g:=gb165) (o:=.cells #[.int .i64 a0_0,.int .i64 a0_1,.int .i64 a0_2,.slice A0_3 l0_3.length c0_3] 69 (0,0)) (by (with_reducible repeat (first | refine blk_drewN ?_ _ | refine blk_drew ?_ | refine blk_alloc ?_ _));exact BK165.out) hb);have n1_:=Aside0.mk (blk_below (g:=gb166) (o:=.cells #[.int .i64 0,.int .i64 0,.int .i64 0,.slice none 0 0] 69 (0,0)) (by (with_reducible repeat (first | refine blk_drewN ?_ _ | refine blk_drew ?_ | refine blk_alloc ?_ _));exact BK166.out) hb);have n2_:=Aside0.mk (below_step (by repeat (first | (with_reducible first | exact HB.out | apply below_alloc | apply pw_below_drewN | apply below_drew1 | refine below_set ?_ GE165.out | refine below_set ?_ GE166.out) | exact HB.out)) hb);clear BK165;clear BK166;clear HB;have BK165:=n0_;have BK166:=n1_;have HB:=n2_;clear n0_ n1_ n2_;(try clear hb);(try clear hb2);(try clear hk);(try clear hi);obtain ⟨hcz26_0,hcz26_1,hcz26_2,hcz26_3⟩:=blkc_4 BK165.out;obtain ⟨hfz26_0,hfz26_1,hfz26_2⟩:=blkz_3 BK165.out;have hfz26_3:=blk_frozen BK165.out 3) | ((with_reducible refine gate_callee (f:=66) rfl ?_);refine goesL_ (some 16) rfl rfl Try.func66 (by kernel_rfl) rfl #[.agg #[.int .i64 a0_0,.int .i64 a0_1,.int .i64 a0_2,.slice A0_3 l0_3.length c0_3]] rfl (by (try simp only [List.map_toArray,List.map_cons,List.map_nil]);first | done | rfl | (simp only [List.length_drop,List.length_take];rfl)) ?_;(with_reducible refine (table_own.calls a0_0 a0_1 a0_2 _ _ l0_3 t168 t169 t170 t171 _ ?side1 ?side2 A5.out).mono ?_);(case side1 => repeat (first | exact (Kd.C_below HR0_3.out HB.out) | (with_reducible refine Kd.C_alloc ?_ _) | (with_reducible refine Kd.C_drewN ?_ _) | (with_reducible refine Kd.C_drew ?_)));(case side2 => exact HC0_3.out);rintro e w27 ⟨v172,rfl,ho0,hb⟩;refine ⟨_,rfl,?_⟩;have n0_:=Aside0.mk (Kd.R_lower ho0 (below_size (by repeat (first | (with_reducible first | exact HB.out | apply below_alloc | apply pw_below_drewN | apply below_drew1 | refine below_set ?_ GE165.out | refine below_set ?_ GE166.out) | exact HB.out))));have n1_:=Aside0.mk (blk_below (g:=gb165) (o:=.cells #[.int .i64 a0_0,.int .i64 a0_1,.int .i64 a0_2,.slice A0_3 l0_3.length c0_3] 69 (0,0)) (by (with_reducible repeat (first | refine blk_drewN ?_ _ | refine blk_drew ?_ | refine blk_alloc ?_ _));exact BK165.out) hb);have n2_:=Aside0.mk (blk_below (g:=gb166) (o:=.cells #[.int .i64 0,.int .i64 0,.int .i64 0,.slice none 0 0] 69 (0,0)) (by (with_reducible repeat (first | refine blk_drewN ?_ _ | refine blk_drew ?_ | refine blk_alloc ?_ _));exact BK166.out) hb);have n3_:=Aside0.mk (below_step (by repeat (first | (with_reducible first | exact HB.out | apply below_alloc | apply pw_below_drewN | apply below_drew1 | refine below_set ?_ GE165.out | refine below_set ?_ GE166.out) | exact HB.out)) hb);clear BK165;clear BK166;clear HB;have HO173:=n0_;have BK165:=n1_;have BK166:=n2_;have HB:=n3_;clear n0_ n1_ n2_ n3_;(try clear hb);(try clear hb2);(try clear hk);(try clear hi);(try clear ho0);obtain ⟨hcz28_0,hcz28_1,hcz28_2,hcz28_3⟩:=blkc_4 BK165.out;obtain ⟨hfz28_0,hfz28_1,hfz28_2,hfz28_3⟩:=blkz_4 BK165.out;obtain ⟨Ao29,co29,eo29⟩:=Kd.R_slice HO173.out;subst eo29) | ((with_reducible refine gate_callee (f:=68) rfl ?_);refine goesL_ (some 19) rfl rfl Try.func68 (by kernel_rfl) rfl #[.agg #[.int .i64 t168,.int .i64 t169,.int .i64 t170,.slice Ao29 t171.length co29],.int .i64 a1] rfl (by (try simp only [List.map_toArray,List.map_cons,List.map_nil]);first | done | rfl | (simp only [List.length_drop,List.length_take];rfl)) ?_;(with_reducible refine (table_Find.calls k t168 t169 t170 _ _ t171 a1 t174 _ ?side1 ?side2 A6.out).mono ?_);(case side1 => refine (Kd.R_reads' (e:=112) (base:=w.heap.size) (ok:=fun k_ => True) (n:=t171.length) (c:=co29) ?_).2.2;exact (by (with_reducible repeat (first | apply Kd.R_alloc | apply Kd.R_drewN | apply Kd.R_drew));exact (Kd.R_mono (Kd.R_far (p:=⟨gb165,3,none⟩) (Kd.R_far (p:=⟨gb165,2,none⟩) (Kd.R_far (p:=⟨gb165,1,none⟩) (Kd.R_far (p:=⟨gb165,0,none⟩) (Kd.R_types HO173.out BK165.out (by decide)) (fun _ hk => hk.2) (.int .i64 t168)) (fun _ hk => hk.2) (.int .i64 t169)) (fun _ hk => hk.2) (.int .i64 t170)) (fun _ hk => hk.2) (.slice Ao29 t171.length co29)) (fun _ h_ => h_.1))));(case side2 => exact (Kd.R_reads' HO173.out).2.1);rintro e w30 ⟨rfl,hb⟩;refine ⟨_,rfl,?_⟩;have n0_:=Aside0.mk (Kd.R_below (by (with_reducible repeat (first | apply Kd.R_alloc | apply Kd.R_drewN | apply Kd.R_drew));exact (Kd.R_mono (Kd.R_far (p:=⟨gb165,3,none⟩) (Kd.R_far (p:=⟨gb165,2,none⟩) (Kd.R_far (p:=⟨gb165,1,none⟩) (Kd.R_far (p:=⟨gb165,0,none⟩) (Kd.R_types HO173.out BK165.out (by decide)) (fun _ hk => hk.2) (.int .i64 t168)) (fun _ hk => hk.2) (.int .i64 t169)) (fun _ hk => hk.2) (.int .i64 t170)) (fun _ hk => hk.2) (.slice Ao29 t171.length co29)) (fun _ h_ => h_.1))) hb);have n1_:=Aside0.mk (blk_below (g:=gb165) (o:=.cells #[.int .i64 t168,.int .i64 t169,.int .i64 t170,.slice Ao29 t171.length co29] 69 (0,0)) (by (with_reducible repeat (first | refine blk_drewN ?_ _ | refine blk_drew ?_ | refine blk_alloc ?_ _));apply blkf_4_0_3;(with_reducible repeat (first | refine blk_drewN ?_ _ | refine blk_drew ?_ | refine blk_alloc ?_ _));exact BK165.out) hb);have n2_:=Aside0.mk (blk_below (g:=gb166) (o:=.cells #[.int .i64 0,.int .i64 0,.int .i64 0,.slice none 0 0] 69 (0,0)) (by (with_reducible repeat (first | refine blk_drewN ?_ _ | refine blk_drew ?_ | refine blk_alloc ?_ _));refine blk_far ?_ NB166_165.out _;(with_reducible repeat (first | refine blk_drewN ?_ _ | refine blk_drew ?_ | refine blk_alloc ?_ _));refine blk_far ?_ NB166_165.out _;(with_reducible repeat (first | refine blk_drewN ?_ _ | refine blk_drew ?_ | refine blk_alloc ?_ _));refine blk_far ?_ NB166_165.out _;(with_reducible repeat (first | refine blk_drewN ?_ _ | refine blk_drew ?_ | refine blk_alloc ?_ _));refine blk_far ?_ NB166_165.out _;(with_reducible repeat (first | refine blk_drewN ?_ _ | refine blk_drew ?_ | refine blk_alloc ?_ _));exact BK166.out) hb);have n3_:=Aside0.mk (below_step (by repeat (first | (with_reducible first | exact HB.out | apply below_alloc | apply pw_below_drewN | apply below_drew1 | refine below_set ?_ GE165.out | refine below_set ?_ GE166.out) | exact HB.out)) hb);clear HO173;clear BK165;clear BK166;clear HB;have HO173:=n0_;have BK165:=n1_;have BK166:=n2_;have HB:=n3_;clear n0_ n1_ n2_ n3_;(try clear hb);(try clear hb2);(try clear hk);(try clear hi)))
   (try simp only [Act.put,List.setIfInBounds_toArray,List.set_cons_zero,List.set_cons_succ])
   go_cut [24] (fun v24 wc => ∃ (kq : Nat) (x24_19 : Bool),v24 = .bool x24_19 ∧ Aside0 (table_Commit.j0 kq t174 x24_19 t168 t169 t170 t171 = some (r1,r2,r3,r4,r5,r6)) ∧ Aside0 (kq ≤ k) ∧ Aside0 (Kd.R k112 112 wc w.heap.size (fun _ => True) (.slice Ao29 t171.length co29) t171) ∧ Aside0 (wc.heap[gb165]? = some (.cells #[.int .i64 t168,.int .i64 t169,.int .i64 t170,(.slice Ao29 t171.length co29)] 69 (0,0))) ∧ Aside0 (wc.heap[gb166]? = some (.cells #[.int .i64 0,.int .i64 0,.int .i64 0,(.slice none 0 0)] 69 (0,0))) ∧ Aside0 (Below w.heap.size w wc))
   case first =>
    have H:=HC20.out
    clear HC20
    by_cases c31 : 0 ≤ t174
    ·rw [if_pos c31] at H
     have c31b0 : decide (0 ≤ t174) = true:=decide_eq_true c31
     clear c31
     (first | rw [c31b0] | (simp only [i64_w,i32_w];rw [c31b0]) | skip)
     by_cases c32 : t174 < (t171.length : Int)
     ·rw [if_pos c32] at H
      have c32b0 : decide (t174 < (t171.length : Int)) = true:=decide_eq_true c32
      clear c32
      by_cases c33 : ((rd_T112 t171 t174).f1) = 1
      ·rw [if_pos c33] at H
       have c33b0 : (((rd_T112 t171 t174).f1) == 1) = true:=beq_iff_eq.mpr c33
       have c33b1 : (((rd_T112 t171 t174).f1) != 1) = false:=bne_eq_false_iff_eq.mpr c33
       clear c33
       have H':=Aside0.mk H
       clear H
       have hnb34:=NB165_166.out
       have hnc34:=NB166_165.out
       obtain ⟨hcz35_0,hcz35_1,hcz35_2,hcz35_3⟩:=blkc_4 BK165.out
       obtain ⟨hfz35_0,hfz35_1,hfz35_2,hfz35_3⟩:=blkz_4 BK165.out
       have p175 : 0 ≤ (t174 : Int):=of_decide_eq_true (by first | (with_reducible assumption) | assumption)
       have q175 : t174 < (t171.length : Int):=of_decide_eq_true (by first | (with_reducible assumption) | assumption)
       obtain ⟨ad175,e175,hx175_0,hx175_1,hx175_2,hx175_3⟩:=at_T112 (Kd.R_reads' HO173.out).2.2 t174 p175 q175
       cases e175
       replace p175:=eq_true p175
       replace q175:=eq_true q175
       go_wp2
       go_meet
       case rel => exact ⟨_,((t170 == 2147483647)),(by first | rfl | (simp;done) | (simp [*];done)),H',⟨by first | omega | exact Nat.le_refl _⟩,⟨by (with_reducible repeat (first | apply Kd.R_alloc | apply Kd.R_drewN | apply Kd.R_drew));exact HO173.out⟩,⟨by (with_reducible repeat (first | refine blk_drewN ?_ _ | refine blk_drew ?_ | refine blk_alloc ?_ _));exact BK165.out⟩,⟨by (with_reducible repeat (first | refine blk_drewN ?_ _ | refine blk_drew ?_ | refine blk_alloc ?_ _));exact BK166.out⟩,⟨by repeat (first | (with_reducible first | exact HB.out | apply below_alloc | apply pw_below_drewN | apply below_drew1 | refine below_set ?_ GE165.out | refine below_set ?_ GE166.out) | exact HB.out)⟩⟩
      ·rw [if_neg c33] at H
       have c33b0 : (((rd_T112 t171 t174).f1) == 1) = false:=beq_eq_false_iff_ne.mpr c33
       have c33b1 : (((rd_T112 t171 t174).f1) != 1) = true:=bne_iff_ne.mpr c33
       have H':=Aside0.mk H
       clear H
       have hnb36:=NB165_166.out
       have hnc36:=NB166_165.out
       obtain ⟨hcz37_0,hcz37_1,hcz37_2,hcz37_3⟩:=blkc_4 BK165.out
       obtain ⟨hfz37_0,hfz37_1,hfz37_2,hfz37_3⟩:=blkz_4 BK165.out
       have p175 : 0 ≤ (t174 : Int):=of_decide_eq_true (by first | (with_reducible assumption) | assumption)
       have q175 : t174 < (t171.length : Int):=of_decide_eq_true (by first | (with_reducible assumption) | assumption)
       obtain ⟨ad175,e175,hx175_0,hx175_1,hx175_2,hx175_3⟩:=at_T112 (Kd.R_reads' HO173.out).2.2 t174 p175 q175
       cases e175
       replace p175:=eq_true p175
       replace q175:=eq_true q175
       go_wp2
       go_meet
       case rel => exact ⟨_,(true),(by first | rfl | (simp;done) | (simp [*];done)),H',⟨by first | omega | exact Nat.le_refl _⟩,⟨by (with_reducible repeat (first | apply Kd.R_alloc | apply Kd.R_drewN | apply Kd.R_drew));exact HO173.out⟩,⟨by (with_reducible repeat (first | refine blk_drewN ?_ _ | refine blk_drew ?_ | refine blk_alloc ?_ _));exact BK165.out⟩,⟨by (with_reducible repeat (first | refine blk_drewN ?_ _ | refine blk_drew ?_ | refine blk_alloc ?_ _));exact BK166.out⟩,⟨by repeat (first | (with_reducible first | exact HB.out | apply below_alloc | apply pw_below_drewN | apply below_drew1 | refine below_set ?_ GE165.out | refine below_set ?_ GE166.out) | exact HB.out)⟩⟩
     ·rw [if_neg c32] at H
      exact absurd H (by simp)
    ·rw [if_neg c31] at H
     exact absurd H (by simp)
   case rest =>
    clear HC20
    try clear c1
    try clear p1
    try clear q1
    try clear hx1
    try clear c2
    try clear p2
    try clear c3
    try clear c4
    try clear c4b0
    try clear c4b1
    try clear c6
    try clear c7
    try clear c7b0
    try clear c10
    try clear p17
    try clear q17
    try clear hx17
    try clear c23
    try clear c31
    try clear c31b0
    try clear c32
    try clear c32b0
    try clear c33
    try clear c33b0
    try clear c33b1
    try clear c34
    try clear c36
    try clear hcz11_0
    try clear hcz11_1
    try clear hcz11_2
    try clear hcz11_3
    try clear hcz13_0
    try clear hcz13_1
    try clear hcz13_2
    try clear hcz13_3
    try clear hcz15_0
    try clear hcz15_1
    try clear hcz15_2
    try clear hcz15_3
    try clear hcz18_0
    try clear hcz18_1
    try clear hcz18_2
    try clear hcz18_3
    try clear hcz19_0
    try clear hcz19_1
    try clear hcz19_2
    try clear hcz19_3
    try clear hcz24_0
    try clear hcz24_1
    try clear hcz24_2
    try clear hcz24_3
    try clear hcz26_0
    try clear hcz26_1
    try clear hcz26_2
    try clear hcz26_3
    try clear hcz28_0
    try clear hcz28_1
    try clear hcz28_2
    try clear hcz28_3
    try clear hcz35_0
    try clear hcz35_1
    try clear hcz35_2
    try clear hcz35_3
    try clear hcz37_0
    try clear hcz37_1
    try clear hcz37_2
    try clear hcz37_3
    try clear hfz11_0
    try clear hfz11_1
    try clear hfz11_2
    try clear hfz11_3
    try clear hfz13_0
    try clear hfz13_1
    try clear hfz13_2
    try clear hfz13_3
    try clear hfz15_0
    try clear hfz15_1
    try clear hfz15_2
    try clear hfz15_3
    try clear hfz18_0
    try clear hfz18_1
    try clear hfz18_2
    try clear hfz18_3
    try clear hfz19_0
    try clear hfz19_1
    try clear hfz19_2
    try clear hfz19_3
    try clear hfz24_0
    try clear hfz24_1
    try clear hfz24_2
    try clear hfz24_3
    try clear hfz26_0
    try clear hfz26_1
    try clear hfz26_2
    try clear hfz26_3
    try clear hfz28_0
    try clear hfz28_1
    try clear hfz28_2
    try clear hfz28_3
    try clear hfz35_0
    try clear hfz35_1
    try clear hfz35_2
    try clear hfz35_3
    try clear hfz37_0
    try clear hfz37_1
    try clear hfz37_2
    try clear hfz37_3
    try clear hx175_0
    try clear hx175_1
    try clear hx175_2
    try clear hx175_3
    try clear p175
    try clear q175
    obtain ⟨kq,x24_19,rfl,HA,HJ19,HO_166003,BK165,BK166,HB⟩:=hcut
    cases kq with
    | zero => exact absurd HA.out (by simp [table_Commit.j0])
    | succ kj19 =>
     have H:=HA.out
     clear HA
     simp only [table_Commit.j0] at H
     by_cases c38 : x24_19 = true
     ·subst c38
      have H1 : (some (t168,t169,t170,t171,0,2)) = some (r1,r2,r3,r4,r5,r6):=by rw [if_pos rfl] at H;exact H
      clear H
      have H:=H1
      clear H1
      simp only [Option.some.injEq,Prod.mk.injEq] at H
      obtain ⟨rfl,rfl,rfl,rfl,rfl,rfl⟩:=H
      have hnb39:=NB165_166.out
      have hnc39:=NB166_165.out
      obtain ⟨hcz40_0,hcz40_1,hcz40_2,hcz40_3⟩:=blkc_4 BK165.out
      obtain ⟨hfz40_0,hfz40_1,hfz40_2,hfz40_3⟩:=blkz_4 BK165.out
      obtain ⟨hcz41_0,hcz41_1,hcz41_2,hcz41_3⟩:=blkc_4 BK166.out
      obtain ⟨hfz41_0,hfz41_1,hfz41_2,hfz41_3⟩:=blkz_4 BK166.out
      go_wp2
      refine bodyPost_ret (results_ctt rfl _ _ gb166 69 #[.int .i64 t168,.int .i64 t169,.int .i64 t170,.slice Ao29 t171.length co29] (0,0) _ rfl (by (with_reducible repeat (first | refine blk_drewN ?_ _ | refine blk_drew ?_ | refine blk_alloc ?_ _));apply blkf_4_0_3;(with_reducible repeat (first | refine blk_drewN ?_ _ | refine blk_drew ?_ | refine blk_alloc ?_ _));exact BK166.out) Try.underlying69 rfl (by kernel_rfl)) rfl ?_
      exact ⟨_,by first | rfl | (simp [errW_none,errW_some] <;> rfl) | (simp [*,errW_none,errW_some] <;> rfl),by (with_reducible repeat (first | apply Kd.R_alloc | apply Kd.R_drewN | apply Kd.R_drew));exact Kd.R_mono (Kd.R_far (p:=⟨gb166,3,none⟩) (Kd.R_far (p:=⟨gb166,2,none⟩) (Kd.R_far (p:=⟨gb166,1,none⟩) (Kd.R_far (p:=⟨gb166,0,none⟩) (Kd.R_types HO_166003.out BK166.out (by decide)) (fun _ hk => hk.2) (.int .i64 t168)) (fun _ hk => hk.2) (.int .i64 t169)) (fun _ hk => hk.2) (.int .i64 t170)) (fun _ hk => hk.2) (.slice Ao29 t171.length co29)) (fun _ hk => trivial),by repeat (first | (with_reducible first | exact HB.out | apply below_alloc | apply pw_below_drewN | apply below_drew1 | refine below_set ?_ GE165.out | refine below_set ?_ GE166.out) | exact HB.out)⟩
     ·replace c38:=Bool.eq_false_iff.mpr c38
      subst c38
      have H1 : (if 0 ≤ t174 then (if t174 < (t171.length : Int) then ((some (t171.set (t174 : Int).toNat (⟨(rd_T112 t171 t174).f0,2,(rd_T112 t171 t174).f2,(rd_T112 t171 t174).f3⟩ : S112) : List (S112))).bind fun y176 => (some (t168,t169,wrap64 (t170 + 1),(y176.set (t174 : Int).toNat (⟨(rd_T112 y176 t174).f0,(rd_T112 y176 t174).f1,(rd_T112 y176 t174).f2,wrap64 (t170 + 1)⟩ : S112)),wrap64 (t170 + 1),0))) else (none)) else (none)) = some (r1,r2,r3,r4,r5,r6):=by rw [if_neg (show ¬ (false = true) by decide)] at H;exact H
      clear H
      have H:=H1
      clear H1
      by_cases c42 : 0 ≤ t174
      ·rw [if_pos c42] at H
       have c42b0 : decide (0 ≤ t174) = true:=decide_eq_true c42
       clear c42
       by_cases c43 : t174 < (t171.length : Int)
       ·rw [if_pos c43] at H
        have c43b0 : decide (t174 < (t171.length : Int)) = true:=decide_eq_true c43
        clear c43
        obtain ⟨y176,hy176⟩ : ∃ y_ : List (S112),y_ = (t171.set (t174 : Int).toNat (⟨(rd_T112 t171 t174).f0,2,(rd_T112 t171 t174).f2,(rd_T112 t171 t174).f3⟩ : S112)):=⟨_,rfl⟩
        replace H : (some (t168,t169,wrap64 (t170 + 1),(y176.set (t174 : Int).toNat (⟨(rd_T112 y176 t174).f0,(rd_T112 y176 t174).f1,(rd_T112 y176 t174).f2,wrap64 (t170 + 1)⟩ : S112)),wrap64 (t170 + 1),0)) = some (r1,r2,r3,r4,r5,r6):=by first | (rw [hy176];with_reducible exact H) | (have H2_:=(Option.bind_some _ _).symm.trans H;rw [hy176];with_reducible exact H2_) | (have H2_:=(Option.bind_some _ _).symm.trans H;with_reducible exact H2_) | with_reducible exact H | (rw [hy176];exact H) | exact H
        have Ny176:=Aside0.mk hy176
        clear hy176
        obtain ⟨y177,hy177⟩ : ∃ y_ : List (S112),y_ = (y176.set (t174 : Int).toNat (⟨(rd_T112 y176 t174).f0,(rd_T112 y176 t174).f1,(rd_T112 y176 t174).f2,wrap64 (t170 + 1)⟩ : S112)):=⟨_,rfl⟩
        replace H : (some (t168,t169,wrap64 (t170 + 1),y177,wrap64 (t170 + 1),0)) = some (r1,r2,r3,r4,r5,r6):=by first | (rw [hy177];with_reducible exact H) | (have H2_:=(Option.bind_some _ _).symm.trans H;rw [hy177];with_reducible exact H2_) | (have H2_:=(Option.bind_some _ _).symm.trans H;with_reducible exact H2_) | with_reducible exact H | (rw [hy177];exact H) | exact H
        have Ny177:=Aside0.mk hy177
        clear hy177
        simp only [Option.some.injEq,Prod.mk.injEq] at H
        obtain ⟨rfl,rfl,rfl,rfl,rfl,rfl⟩:=H
        have hnb46:=NB165_166.out
        have hnc46:=NB166_165.out
        obtain ⟨hcz47_0,hcz47_1,hcz47_2,hcz47_3⟩:=blkc_4 BK165.out
        obtain ⟨hfz47_0,hfz47_1,hfz47_2,hfz47_3⟩:=blkz_4 BK165.out
        try go_wp2
        have n0_ : Aside0 (Kd.R k112 112 (wc.setCell ⟨gb165,2,none⟩ (.int .i64 (wrap64 (t170 + 1)))) w.heap.size (fun _ => True) (.slice Ao29 t171.length co29) t171):=⟨by (with_reducible repeat (first | apply Kd.R_alloc | apply Kd.R_drewN | apply Kd.R_drew));exact Kd.R_mono (Kd.R_far (p:=⟨gb165,2,none⟩) (Kd.R_types HO_166003.out BK165.out (by decide)) (fun _ hk => hk.2) (.int .i64 (wrap64 (t170 + 1)))) (fun _ hk => trivial)⟩
        have n1_ : Aside0 ((wc.setCell ⟨gb165,2,none⟩ (.int .i64 (wrap64 (t170 + 1)))).heap[gb165]? = some (.cells #[.int .i64 t168,.int .i64 t169,.int .i64 (wrap64 (t170 + 1)),.slice Ao29 t171.length co29] 69 (0,0))):=⟨by (with_reducible repeat (first | refine blk_drewN ?_ _ | refine blk_drew ?_ | refine blk_alloc ?_ _));refine blk_put (cs:=#[.int .i64 t168,.int .i64 t169,.int .i64 t170,.slice Ao29 t171.length co29]) ?_ 2 _ rfl;(with_reducible repeat (first | refine blk_drewN ?_ _ | refine blk_drew ?_ | refine blk_alloc ?_ _));exact BK165.out⟩
        have n2_ : Aside0 ((wc.setCell ⟨gb165,2,none⟩ (.int .i64 (wrap64 (t170 + 1)))).heap[gb166]? = some (.cells #[.int .i64 0,.int .i64 0,.int .i64 0,.slice none 0 0] 69 (0,0))):=⟨by (with_reducible repeat (first | refine blk_drewN ?_ _ | refine blk_drew ?_ | refine blk_alloc ?_ _));refine blk_far ?_ NB166_165.out _;(with_reducible repeat (first | refine blk_drewN ?_ _ | refine blk_drew ?_ | refine blk_alloc ?_ _));exact BK166.out⟩
        have n3_ : Aside0 (Below w.heap.size w (wc.setCell ⟨gb165,2,none⟩ (.int .i64 (wrap64 (t170 + 1))))):=⟨by repeat (first | (with_reducible first | exact HB.out | apply below_alloc | apply pw_below_drewN | apply below_drew1 | refine below_set ?_ GE165.out | refine below_set ?_ GE166.out) | exact HB.out)⟩
        (try clear HO_166003)
        (try clear BK165)
        (try clear BK166)
        (try clear HB)
        generalize (wc.setCell ⟨gb165,2,none⟩ (.int .i64 (wrap64 (t170 + 1)))) = w48 at n0_ n1_ n2_ n3_ ⊢
        have HO_166003:=n0_
        have BK165:=n1_
        have BK166:=n2_
        have HB:=n3_
        clear n0_ n1_ n2_ n3_
        have n0_:=Aside0.mk (Kd.R_drew HO_166003.out)
        have n1_:=Aside0.mk (blk_drew BK165.out)
        have n2_:=Aside0.mk (blk_drew BK166.out)
        have n3_:=Aside0.mk (below_drew1 HB.out)
        clear HO_166003
        clear BK165
        clear BK166
        clear HB
        have HO_166003:=n0_
        have BK165:=n1_
        have BK166:=n2_
        have HB:=n3_
        clear n0_ n1_ n2_ n3_
        have p44 : 0 ≤ (t174 : Int):=of_decide_eq_true (by first | (with_reducible assumption) | assumption)
        have q44 : (t174 : Int) < ((t171.length : Int) : Int):=of_decide_eq_true (by first | (with_reducible assumption) | assumption)
        obtain ⟨go44,co44,eo44,gb44,gl44,cl44,HG44⟩:=Kd.R_form HO_166003.out (by omega)
        (first | cases eo44 | (injection eo44 with ea_ en_ ec_;(first | subst ea_ | (injection ea_ with ea_;subst ea_));subst ec_;clear en_))
        have GB44:=Aside0.mk gb44
        have GG44:=Aside0.mk HG44
        clear gb44 gl44 HG44
        obtain ⟨ce44,hcl44,hM44,hcc44,hfr44⟩:=Kd.R_elem HO_166003.out z112 (t174 : Int) p44 q44
        obtain rfl:=k112_openM hM44
        have hx44_0 : World.cell? _ ⟨go44,(t174 : Int).toNat * 4,none⟩ = some (.int .i64 ((rd_T112 t171 t174).f0)):=hcc44 0 _ rfl
        have hx44_1 : World.cell? _ ⟨go44,(t174 : Int).toNat * 4 + 1,none⟩ = some (.int .i64 ((rd_T112 t171 t174).f1)):=hcc44 1 _ rfl
        have hx44_2 : World.cell? _ ⟨go44,(t174 : Int).toNat * 4 + 2,none⟩ = some (.int .i64 ((rd_T112 t171 t174).f2)):=hcc44 2 _ rfl
        have hx44_3 : World.cell? _ ⟨go44,(t174 : Int).toNat * 4 + 3,none⟩ = some (.int .i64 ((rd_T112 t171 t174).f3)):=hcc44 3 _ rfl
        have hf44_0 : World.frozen? _ ⟨go44,(t174 : Int).toNat * 4,none⟩ = false:=hfr44 0
        have hf44_1 : World.frozen? _ ⟨go44,(t174 : Int).toNat * 4 + 1,none⟩ = false:=hfr44 1
        have hf44_2 : World.frozen? _ ⟨go44,(t174 : Int).toNat * 4 + 2,none⟩ = false:=hfr44 2
        have hf44_3 : World.frozen? _ ⟨go44,(t174 : Int).toNat * 4 + 3,none⟩ = false:=hfr44 3
        clear hcl44 hcc44 hfr44 hM44
        replace p44:=eq_true p44
        replace q44:=eq_true q44
        obtain ⟨ce50,hcl50,hM50,hcc50,hfr50⟩:=Kd.R_elem HO_166003.out z112 (t174 : Int) (of_decide_eq_true (by first | (with_reducible assumption) | assumption)) (by have h_ : (t174 : Int) < ((t171.length : Int) : Int):=of_decide_eq_true (by first | (with_reducible assumption) | assumption);first | exact h_ | (have e_:=(Kd.R_reads' HO_166003.out).1;omega) | simpa using h_)
        obtain rfl:=k112_openM hM50
        have HP50:=(Kd.R_seg HO_166003.out (t174 : Int) (of_decide_eq_true (by first | (with_reducible assumption) | assumption)) (by have h_ : (t174 : Int) < ((t171.length : Int) : Int):=of_decide_eq_true (by first | (with_reducible assumption) | assumption);first | exact h_ | (have e_:=(Kd.R_reads' HO_166003.out).1;omega) | simpa using h_) (seg:=[.int .i64 2]) (j:=1) hcl50 hcc50 (show 2 ≤ 4 from by decide) (x':=(⟨(rd_T112 t171 t174).f0,2,(rd_T112 t171 t174).f2,(rd_T112 t171 t174).f3⟩ : S112)) (k112_mkM _ _ _ (⟨(rd_T112 t171 t174).f0,2,(rd_T112 t171 t174).f2,(rd_T112 t171 t174).f3⟩ : S112) ) (fun _ hk => hk)).1
        rw [← Ny176.out] at HP50
        have HQ50:=Aside0.mk HP50
        clear hcl50 hcc50 hfr50 hM50 HP50
        have p45 : 0 ≤ (t174 : Int):=of_decide_eq_true (by first | (with_reducible assumption) | assumption)
        have q45 : (t174 : Int) < ((t171.length : Int) : Int):=of_decide_eq_true (by first | (with_reducible assumption) | assumption)
        replace p45:=eq_true p45
        replace q45:=eq_true q45
        obtain ⟨ce51,hcl51,hM51,hcc51,hfr51⟩:=Kd.R_elem HQ50.out z112 (t174 : Int) (of_decide_eq_true (by first | (with_reducible assumption) | assumption)) (by have h_ : (t174 : Int) < ((t171.length : Int) : Int):=of_decide_eq_true (by first | (with_reducible assumption) | assumption);first | exact h_ | (have e_:=(Kd.R_reads' HO_166003.out).1;omega) | simpa using h_)
        obtain rfl:=k112_openM hM51
        have HP51:=(Kd.R_seg HQ50.out (t174 : Int) (of_decide_eq_true (by first | (with_reducible assumption) | assumption)) (by have h_ : (t174 : Int) < ((t171.length : Int) : Int):=of_decide_eq_true (by first | (with_reducible assumption) | assumption);first | exact h_ | (have e_:=(Kd.R_reads' HO_166003.out).1;omega) | simpa using h_) (seg:=[.int .i64 (wrap64 (t170 + 1))]) (j:=3) hcl51 hcc51 (show 4 ≤ 4 from by decide) (x':=(⟨(rd_T112 y176 t174).f0,(rd_T112 y176 t174).f1,(rd_T112 y176 t174).f2,wrap64 (t170 + 1)⟩ : S112)) (k112_mkM _ _ _ (⟨(rd_T112 y176 t174).f0,(rd_T112 y176 t174).f1,(rd_T112 y176 t174).f2,wrap64 (t170 + 1)⟩ : S112) ) (fun _ hk => hk)).1
        rw [← Ny177.out] at HP51
        have HQ51:=Aside0.mk HP51
        clear hcl51 hcc51 hfr51 hM51 HP51
        refine start_ (n:=14) (S:=fun w' => w'.cell? ⟨gb165,0,none⟩ = some (.int .i64 t168) ∧ w'.cell? ⟨gb165,1,none⟩ = some (.int .i64 t169) ∧ w'.cell? ⟨gb165,2,none⟩ = some (.int .i64 (wrap64 (t170 + 1))) ∧ w'.cell? ⟨gb165,3,none⟩ = some (.slice (some ⟨go44,0,none⟩) t171.length co29)) (ds:=[13]) #[ff,ff,ff,ff,ff,ff,ff,ff,ff,ff,ff,ff,ff,ff] (by kernel_rfl) rfl rfl ⟨(blk_cell BK165.out 0).trans rfl,(blk_cell BK165.out 1).trans rfl,(blk_cell BK165.out 2).trans rfl,(blk_cell BK165.out 3).trans rfl⟩ (fun hHeld => ?_);refine with_tabW table_Commit.tab11 table_Commit.bits11 (fun HT_ HW_ => ?_)
        generalize w48.drew = w49 at HO_166003 BK165 BK166 HB GG44 HQ50 HQ51 hf44_0 hf44_1 hf44_2 hf44_3 hx44_0 hx44_1 hx44_2 hx44_3 hHeld ⊢
        refine pure_ (i:=0) (N:=some 42) (v:=?_) (a':=?_) #[tt,ff,ff,ff,ff,ff,ff,ff,ff,ff,ff,ff,ff,ff] rfl rfl (any_of HT_.out (by kernel_rfl)) (fun _ _ _ h => h) (Or.inl ⟨by rfl,?_⟩) ?_ ?_
        rotate_left
        ·intro w'
         go_simp
         with_reducible rfl
        rotate_left
        ·simp only [Act.put,q1_,q2_,q3_,i64_w,i32_w]
         rfl
        refine pure_ (i:=2) (N:=some 44) (v:=?_) (a':=?_) #[tt,ff,tt,ff,ff,ff,ff,ff,ff,ff,ff,ff,ff,ff] rfl rfl (any_of HT_.out (by kernel_rfl)) (fun _ _ _ h => h) (Or.inl ⟨by rfl,?_⟩) ?_ ?_
        rotate_left
        ·intro w'
         go_simp
         with_reducible rfl
        rotate_left
        ·simp only [Act.put,q1_,q2_,q3_,i64_w,i32_w]
         rfl
        refine pure_ (i:=3) (N:=some 45) (v:=?_) (a':=?_) #[tt,ff,tt,tt,ff,ff,ff,ff,ff,ff,ff,ff,ff,ff] rfl rfl (any_of HT_.out (by kernel_rfl)) (fun _ _ _ h => h) (Or.inl ⟨by rfl,?_⟩) ?_ ?_
        rotate_left
        ·intro w'
         go_simp
         with_reducible rfl
        rotate_left
        ·simp only [Act.put,q1_,q2_,q3_,i64_w,i32_w]
         rfl
        refine pure_ (i:=5) (N:=some 47) (v:=?_) (a':=?_) #[tt,ff,tt,tt,ff,tt,ff,ff,ff,ff,ff,ff,ff,ff] rfl rfl (any_of HT_.out (by kernel_rfl)) (fun _ _ _ h => h) (Or.inl ⟨by rfl,?_⟩) ?_ ?_
        rotate_left
        ·intro w'
         go_simp
         with_reducible rfl
        rotate_left
        ·simp only [Act.put,q1_,q2_,q3_,i64_w,i32_w]
         rfl
        refine pure_ (i:=6) (N:=some 48) (v:=?_) (a':=?_) #[tt,ff,tt,tt,ff,tt,tt,ff,ff,ff,ff,ff,ff,ff] rfl rfl (any_of HT_.out (by kernel_rfl)) (fun _ _ _ h => h) (Or.inl ⟨by rfl,?_⟩) ?_ ?_
        rotate_left
        ·intro w'
         go_simp
         with_reducible rfl
        rotate_left
        ·simp only [Act.put,q1_,q2_,q3_,i64_w,i32_w]
         rfl
        refine take_ (i:=1) (N:=some 43) (v:=?_) (a':=?_) #[tt,tt,tt,tt,ff,tt,tt,ff,ff,ff,ff,ff,ff,ff] rfl rfl (take_ofW HT_.out HW_.out (by kernel_rfl)) (fun _ _ _ h => h) (Or.inl ⟨by rfl,?_⟩) hHeld ?_ ?_
        rotate_left
        ·rintro w' ⟨s0,s1,s2,s3⟩
         go_simp
         with_reducible rfl
        rotate_left
        ·simp only [Act.put,q1_,q2_,q3_,i64_w,i32_w]
         rfl
        refine pure_ (i:=8) (N:=some 50) (v:=?_) (a':=?_) #[tt,tt,tt,tt,ff,tt,tt,ff,tt,ff,ff,ff,ff,ff] rfl rfl (any_of HT_.out (by kernel_rfl)) (fun _ _ _ h => h) (Or.inl ⟨by rfl,?_⟩) ?_ ?_
        rotate_left
        ·intro w'
         go_simp
         with_reducible rfl
        rotate_left
        ·simp only [Act.put,q1_,q2_,q3_,i64_w,i32_w]
         rfl
        refine pure_ (i:=9) (N:=some 51) (v:=?_) (a':=?_) #[tt,tt,tt,tt,ff,tt,tt,ff,tt,tt,ff,ff,ff,ff] rfl rfl (any_of HT_.out (by kernel_rfl)) (fun _ _ _ h => h) (Or.inl ⟨by rfl,?_⟩) ?_ ?_
        rotate_left
        ·intro w'
         go_simp
         with_reducible rfl
        rotate_left
        ·simp only [Act.put,q1_,q2_,q3_,i64_w,i32_w]
         rfl
        refine take_ (i:=4) (N:=some 46) (v:=?_) (a':=?_) #[tt,tt,tt,tt,tt,tt,tt,ff,tt,tt,ff,ff,ff,ff] rfl rfl (take_ofW HT_.out HW_.out (by kernel_rfl)) (fun _ _ _ h => h) (Or.inl ⟨by rfl,?_⟩) hHeld ?_ ?_
        rotate_left
        ·rintro w' ⟨s0,s1,s2,s3⟩
         go_simp
         with_reducible rfl
        rotate_left
        ·simp only [Act.put,q1_,q2_,q3_,i64_w,i32_w]
         rfl
        refine take_ (i:=7) (N:=some 49) (v:=?_) (a':=?_) #[tt,tt,tt,tt,tt,tt,tt,tt,tt,tt,ff,ff,ff,ff] rfl rfl (take_ofW HT_.out HW_.out (by kernel_rfl)) (fun _ _ _ h => h) (Or.inl ⟨by rfl,?_⟩) hHeld ?_ ?_
        rotate_left
        ·rintro w' ⟨s0,s1,s2,s3⟩
         go_simp
         with_reducible rfl
        rotate_left
        ·simp only [Act.put,q1_,q2_,q3_,i64_w,i32_w]
         rfl
        refine one_ (i:=10) (N:=none) #[tt,tt,tt,tt,tt,tt,tt,tt,tt,tt,tt,ff,ff,ff] rfl rfl (one_of HT_.out (by kernel_rfl)) (by decide) (fun K hK => ?_)
        refine skip_ (w1:=?_) (by rfl) rfl ?_ ?_
        rotate_left
        ·go_simp
         rfl
        refine hK.out _ _ ⟨((cell_far (p:=⟨go44,_,none⟩) (by have h_:=Kd.R_ne HO_166003.out BK165.out (by decide);intro e_;exact h_ (congrArg some e_)) _).trans (hHeld.1)),((cell_far (p:=⟨go44,_,none⟩) (by have h_:=Kd.R_ne HO_166003.out BK165.out (by decide);intro e_;exact h_ (congrArg some e_)) _).trans (hHeld.2.1)),((cell_far (p:=⟨go44,_,none⟩) (by have h_:=Kd.R_ne HO_166003.out BK165.out (by decide);intro e_;exact h_ (congrArg some e_)) _).trans (hHeld.2.2.1)),((cell_far (p:=⟨go44,_,none⟩) (by have h_:=Kd.R_ne HO_166003.out BK165.out (by decide);intro e_;exact h_ (congrArg some e_)) _).trans (hHeld.2.2.2))⟩ (fun hHeld => ?_)
        clear hK K
        refine pure_ (i:=11) (N:=some 52) (v:=?_) (a':=?_) #[tt,tt,tt,tt,tt,tt,tt,tt,tt,tt,tt,tt,ff,ff] rfl rfl (any_of HT_.out (by kernel_rfl)) (fun _ _ _ h => h) (Or.inl ⟨by rfl,?_⟩) ?_ ?_
        rotate_left
        ·intro w'
         go_simp
         with_reducible rfl
        rotate_left
        ·simp only [Act.put,q1_,q2_,q3_,i64_w,i32_w]
         rfl
        refine pure_ (i:=12) (N:=some 53) (v:=?_) (a':=?_) #[tt,tt,tt,tt,tt,tt,tt,tt,tt,tt,tt,tt,tt,ff] rfl rfl (any_of HT_.out (by kernel_rfl)) (fun _ _ _ h => h) (Or.inl ⟨by rfl,?_⟩) ?_ ?_
        rotate_left
        ·intro w'
         go_simp
         with_reducible rfl
        rotate_left
        ·simp only [Act.put,q1_,q2_,q3_,i64_w,i32_w]
         rfl
        refine last_ (i:=13) (N:=none) #[tt,tt,tt,tt,tt,tt,tt,tt,tt,tt,tt,tt,tt,tt] rfl rfl (one_of HT_.out (by kernel_rfl)) (by decide) (fun K hK => ?_)
        refine skip_ (w1:=?_) (by rfl) rfl ?_ ?_
        rotate_left
        ·go_simp
         rfl
        refine hK.out _ _ ?_
        clear hK K
        refine done_ (done_of HT_.out (by kernel_rfl)) ?_
        have n0_ : Aside0 (Kd.R k112 112 ((w49.setCell ⟨go44,(t174 : Int).toNat * 4 + 1,none⟩ (.int .i64 2)).setCell ⟨go44,(t174 : Int).toNat * 4 + 3,none⟩ (.int .i64 (wrap64 (t170 + 1)))) w.heap.size (fun _ => True) (.slice (some ⟨go44,0,none⟩) t171.length co29) y177):=⟨by (with_reducible repeat (first | apply Kd.R_alloc | apply Kd.R_drewN | apply Kd.R_drew));exact HQ51.out⟩
        have n1_ : Aside0 (((w49.setCell ⟨go44,(t174 : Int).toNat * 4 + 1,none⟩ (.int .i64 2)).setCell ⟨go44,(t174 : Int).toNat * 4 + 3,none⟩ (.int .i64 (wrap64 (t170 + 1)))).heap[gb165]? = some (.cells #[.int .i64 t168,.int .i64 t169,.int .i64 (wrap64 (t170 + 1)),.slice (some ⟨go44,0,none⟩) t171.length co29] 69 (0,0))):=⟨by (with_reducible repeat (first | refine blk_drewN ?_ _ | refine blk_drew ?_ | refine blk_alloc ?_ _));refine blk_far ?_ (by have h_:=Kd.R_ne HO_166003.out BK165.out (by decide);intro e_;exact h_ (by rw [e_];rfl)) _;(with_reducible repeat (first | refine blk_drewN ?_ _ | refine blk_drew ?_ | refine blk_alloc ?_ _));refine blk_far ?_ (by have h_:=Kd.R_ne HO_166003.out BK165.out (by decide);intro e_;exact h_ (by rw [e_];rfl)) _;(with_reducible repeat (first | refine blk_drewN ?_ _ | refine blk_drew ?_ | refine blk_alloc ?_ _));exact BK165.out⟩
        have n2_ : Aside0 (((w49.setCell ⟨go44,(t174 : Int).toNat * 4 + 1,none⟩ (.int .i64 2)).setCell ⟨go44,(t174 : Int).toNat * 4 + 3,none⟩ (.int .i64 (wrap64 (t170 + 1)))).heap[gb166]? = some (.cells #[.int .i64 0,.int .i64 0,.int .i64 0,.slice none 0 0] 69 (0,0))):=⟨by (with_reducible repeat (first | refine blk_drewN ?_ _ | refine blk_drew ?_ | refine blk_alloc ?_ _));refine blk_far ?_ (by have h_:=Kd.R_ne HO_166003.out BK166.out (by decide);intro e_;exact h_ (by rw [e_];rfl)) _;(with_reducible repeat (first | refine blk_drewN ?_ _ | refine blk_drew ?_ | refine blk_alloc ?_ _));refine blk_far ?_ (by have h_:=Kd.R_ne HO_166003.out BK166.out (by decide);intro e_;exact h_ (by rw [e_];rfl)) _;(with_reducible repeat (first | refine blk_drewN ?_ _ | refine blk_drew ?_ | refine blk_alloc ?_ _));exact BK166.out⟩
        have n3_ : Aside0 (Below w.heap.size w ((w49.setCell ⟨go44,(t174 : Int).toNat * 4 + 1,none⟩ (.int .i64 2)).setCell ⟨go44,(t174 : Int).toNat * 4 + 3,none⟩ (.int .i64 (wrap64 (t170 + 1))))):=⟨by repeat (first | (with_reducible first | exact HB.out | apply below_alloc | apply pw_below_drewN | apply below_drew1 | refine below_set ?_ GB44.out | refine below_set ?_ GB44.out | refine below_set ?_ GE165.out | refine below_set ?_ GE166.out) | exact HB.out)⟩
        (try clear HO_166003)
        (try clear BK165)
        (try clear BK166)
        (try clear HB)
        generalize ((w49.setCell ⟨go44,(t174 : Int).toNat * 4 + 1,none⟩ (.int .i64 2)).setCell ⟨go44,(t174 : Int).toNat * 4 + 3,none⟩ (.int .i64 (wrap64 (t170 + 1)))) = w52 at n0_ n1_ n2_ n3_ ⊢
        have HO_166003:=n0_
        have BK165:=n1_
        have BK166:=n2_
        have HB:=n3_
        clear n0_ n1_ n2_ n3_
        try go_wp2
        have n0_:=Aside0.mk (Kd.R_drew HO_166003.out)
        have n1_:=Aside0.mk (blk_drew BK165.out)
        have n2_:=Aside0.mk (blk_drew BK166.out)
        have n3_:=Aside0.mk (below_drew1 HB.out)
        clear HO_166003
        clear BK165
        clear BK166
        clear HB
        have HO_166003:=n0_
        have BK165:=n1_
        have BK166:=n2_
        have HB:=n3_
        clear n0_ n1_ n2_ n3_
        refine start_ (n:=6) (S:=fun w' => w'.cell? ⟨gb165,0,none⟩ = some (.int .i64 t168) ∧ w'.cell? ⟨gb165,1,none⟩ = some (.int .i64 t169) ∧ w'.cell? ⟨gb165,2,none⟩ = some (.int .i64 (wrap64 (t170 + 1))) ∧ w'.cell? ⟨gb165,3,none⟩ = some (.slice (some ⟨go44,0,none⟩) t171.length co29)) (ds:=[]) #[ff,ff,ff,ff,ff,ff] (by kernel_rfl) rfl rfl ⟨(blk_cell BK165.out 0).trans rfl,(blk_cell BK165.out 1).trans rfl,(blk_cell BK165.out 2).trans rfl,(blk_cell BK165.out 3).trans rfl⟩ (fun hHeld => ?_)
        generalize w52.drew = w53 at HO_166003 BK165 BK166 HB hHeld ⊢
        refine pure_ (i:=1) (N:=some 55) (v:=?_) (a':=?_) #[ff,tt,ff,ff,ff,ff] rfl rfl (by kernel_rfl) (fun _ _ _ h => h) (Or.inl ⟨by rfl,?_⟩) ?_ ?_
        rotate_left
        ·intro w'
         go_simp
         with_reducible rfl
        rotate_left
        ·simp only [Act.put,q1_,q2_,q3_,i64_w,i32_w]
         rfl
        refine take_ (i:=0) (N:=some 54) (v:=?_) (a':=?_) #[tt,tt,ff,ff,ff,ff] rfl rfl (by kernel_rfl) (fun _ _ _ h => h) (Or.inl ⟨by rfl,?_⟩) hHeld ?_ ?_
        rotate_left
        ·rintro w' ⟨s0,s1,s2,s3⟩
         go_simp
         with_reducible rfl
        rotate_left
        ·simp only [Act.put,q1_,q2_,q3_,i64_w,i32_w]
         rfl
        refine take_ (i:=2) (N:=some 56) (v:=?_) (a':=?_) #[tt,tt,tt,ff,ff,ff] rfl rfl (by kernel_rfl) (fun _ _ _ h => h) (Or.inl ⟨by rfl,?_⟩) hHeld ?_ ?_
        rotate_left
        ·rintro w' ⟨s0,s1,s2,s3⟩
         go_simp
         with_reducible rfl
        rotate_left
        ·simp only [Act.put,q1_,q2_,q3_,i64_w,i32_w]
         rfl
        refine one_ (i:=3) (N:=none) #[tt,tt,tt,tt,ff,ff] rfl rfl (by kernel_rfl) (by decide) (fun K hK => ?_)
        have hs54 : w53.cell? ⟨gb166,0,none⟩ = some (.int .i64 0):=(blk_cell BK166.out 0).trans rfl
        have hfs54:=blk_frozen BK166.out 0
        have hns54_0:=NB165_166.out
        have hms54_0:=NB166_165.out
        have hs55 : w53.cell? ⟨gb166,1,none⟩ = some (.int .i64 0):=(blk_cell BK166.out 1).trans rfl
        have hfs55:=blk_frozen BK166.out 1
        have hns55_0:=NB165_166.out
        have hms55_0:=NB166_165.out
        have hs56 : w53.cell? ⟨gb166,2,none⟩ = some (.int .i64 0):=(blk_cell BK166.out 2).trans rfl
        have hfs56:=blk_frozen BK166.out 2
        have hns56_0:=NB165_166.out
        have hms56_0:=NB166_165.out
        have hs57 : w53.cell? ⟨gb166,3,none⟩ = some (.slice none 0 0):=(blk_cell BK166.out 3).trans rfl
        have hfs57:=blk_frozen BK166.out 3
        have hns57_0:=NB165_166.out
        have hms57_0:=NB166_165.out
        refine skip_ (w1:=?_) (by rfl) rfl ?_ ?_
        rotate_left
        ·go_simp
         rfl
        refine hK.out _ _ ⟨((cell_far (p:=⟨gb166,_,none⟩) NB165_166.out _).trans (((cell_far (p:=⟨gb166,_,none⟩) NB165_166.out _).trans (((cell_far (p:=⟨gb166,_,none⟩) NB165_166.out _).trans (((cell_far (p:=⟨gb166,_,none⟩) NB165_166.out _).trans (hHeld.1)))))))),((cell_far (p:=⟨gb166,_,none⟩) NB165_166.out _).trans (((cell_far (p:=⟨gb166,_,none⟩) NB165_166.out _).trans (((cell_far (p:=⟨gb166,_,none⟩) NB165_166.out _).trans (((cell_far (p:=⟨gb166,_,none⟩) NB165_166.out _).trans (hHeld.2.1)))))))),((cell_far (p:=⟨gb166,_,none⟩) NB165_166.out _).trans (((cell_far (p:=⟨gb166,_,none⟩) NB165_166.out _).trans (((cell_far (p:=⟨gb166,_,none⟩) NB165_166.out _).trans (((cell_far (p:=⟨gb166,_,none⟩) NB165_166.out _).trans (hHeld.2.2.1)))))))),((cell_far (p:=⟨gb166,_,none⟩) NB165_166.out _).trans (((cell_far (p:=⟨gb166,_,none⟩) NB165_166.out _).trans (((cell_far (p:=⟨gb166,_,none⟩) NB165_166.out _).trans (((cell_far (p:=⟨gb166,_,none⟩) NB165_166.out _).trans (hHeld.2.2.2))))))))⟩ (fun hHeld => ?_)
        clear hK K
        refine pure_ (i:=4) (N:=some 5) (v:=?_) (a':=?_) #[tt,tt,tt,tt,tt,ff] rfl rfl (by kernel_rfl) (fun _ _ _ h => h) (Or.inl ⟨by rfl,?_⟩) ?_ ?_
        rotate_left
        ·intro w'
         go_simp
         with_reducible rfl
        rotate_left
        ·simp only [Act.put,q1_,q2_,q3_,i64_w,i32_w]
         rfl
        refine pure_ (i:=5) (N:=some 6) (v:=?_) (a':=?_) #[tt,tt,tt,tt,tt,tt] rfl rfl (by kernel_rfl) (fun _ _ _ h => h) (Or.inl ⟨by rfl,?_⟩) ?_ ?_
        rotate_left
        ·intro w'
         go_simp
         with_reducible rfl
        rotate_left
        ·simp only [Act.put,q1_,q2_,q3_,i64_w,i32_w]
         rfl
        refine done_ (by kernel_rfl) ?_
        try go_wp2
        refine bodyPost_ret (results_ctt rfl _ _ gb166 69 #[.int .i64 t168,.int .i64 t169,.int .i64 (wrap64 (t170 + 1)),.slice (some ⟨go44,0,none⟩) t171.length co29] (0,0) _ rfl (by (with_reducible repeat (first | refine blk_drewN ?_ _ | refine blk_drew ?_ | refine blk_alloc ?_ _));apply blkf_4_0_3;(with_reducible repeat (first | refine blk_drewN ?_ _ | refine blk_drew ?_ | refine blk_alloc ?_ _));exact BK166.out) Try.underlying69 rfl (by kernel_rfl)) rfl ?_
        exact ⟨_,by first | rfl | (simp [errW_none,errW_some] <;> rfl) | (simp [*,errW_none,errW_some] <;> rfl),by (with_reducible repeat (first | apply Kd.R_alloc | apply Kd.R_drewN | apply Kd.R_drew));exact Kd.R_mono (Kd.R_far (p:=⟨gb166,3,none⟩) (Kd.R_far (p:=⟨gb166,2,none⟩) (Kd.R_far (p:=⟨gb166,1,none⟩) (Kd.R_far (p:=⟨gb166,0,none⟩) (Kd.R_types HO_166003.out BK166.out (by decide)) (fun _ hk => hk.2) (.int .i64 t168)) (fun _ hk => hk.2) (.int .i64 t169)) (fun _ hk => hk.2) (.int .i64 (wrap64 (t170 + 1)))) (fun _ hk => hk.2) (.slice (some ⟨go44,0,none⟩) t171.length co29)) (fun _ hk => trivial),by repeat (first | (with_reducible first | exact HB.out | apply below_alloc | apply pw_below_drewN | apply below_drew1 | refine below_set ?_ GE165.out | refine below_set ?_ GE166.out) | exact HB.out)⟩
       ·rw [if_neg c43] at H
        exact absurd H (by simp)
      ·rw [if_neg c42] at H
       exact absurd H (by simp)
 ·rw [if_neg c4] at H
  have c4b0 : (t167 == 0) = false:=beq_eq_false_iff_ne.mpr c4
  have c4b1 : (t167 != 0) = true:=bne_iff_ne.mpr c4
  simp only [Option.some.injEq,Prod.mk.injEq] at H
  obtain ⟨rfl,rfl,rfl,rfl,rfl,rfl⟩:=H
  go_enter Try.func41,Try.ntmps41
  go_wp2_with (first | ((with_reducible refine gate_dst (N:=2) rfl ?_);refine box_event ?hg (N:=2) ?hd (cs:=#[.int .i64 a0_0,.int .i64 a0_1,.int .i64 a0_2,.slice A0_3 l0_3.length c0_3]) (t:=69) ?hr ?_;(case hd => rfl);(case hg => rfl);(case hr => first | (go_simp;done) | (go_simp;rfl));intro gb165 hg w58 hbox hb;have n0_:=Aside0.mk (below_step (by repeat (first | (with_reducible first | exact HB.out | apply below_alloc | apply pw_below_drewN | apply below_drew1) | exact HB.out)) hb);have n1_:=Aside0.mk (hbox);have n2_:=Aside0.mk ((by rw [hg];exact (below_size (by repeat (first | (with_reducible first | exact HB.out | apply below_alloc | apply pw_below_drewN | apply below_drew1) | exact HB.out))) : w.heap.size ≤ gb165));have n3_:=Aside0.mk ((by rw [hg];exact (below_size (by repeat (first | (with_reducible first | exact HB.out | apply below_alloc | apply pw_below_drewN | apply below_drew1) | exact HB.out))) : w.heap.size ≤ gb165));clear HB;have HB:=n0_;have BK165:=n1_;have GW165:=n2_;have GE165:=n3_;clear n0_ n1_ n2_ n3_;clear hb hbox hg) | ((with_reducible refine gate_dst (N:=4) rfl ?_);refine box_event ?hg (N:=4) ?hd (cs:=#[.int .i64 0,.int .i64 0,.int .i64 0,.slice none 0 0]) (t:=69) ?hr ?_;(case hd => rfl);(case hg => rfl);(case hr => first | (go_simp;done) | (go_simp;rfl));intro gb166 hg w59 hbox hb;have n0_:=Aside0.mk (blk_below (g:=gb165) (o:=.cells #[.int .i64 a0_0,.int .i64 a0_1,.int .i64 a0_2,.slice A0_3 l0_3.length c0_3] 69 (0,0)) (by (with_reducible repeat (first | refine blk_drewN ?_ _ | refine blk_drew ?_ | refine blk_alloc ?_ _));exact BK165.out) hb);have n1_:=Aside0.mk (below_step (by repeat (first | (with_reducible first | exact HB.out | apply below_alloc | apply pw_below_drewN | apply below_drew1 | refine below_set ?_ GE165.out) | exact HB.out)) hb);have n2_:=Aside0.mk (hbox);have n3_:=Aside0.mk ((by rw [hg];exact (below_size (by repeat (first | (with_reducible first | exact HB.out | apply below_alloc | apply pw_below_drewN | apply below_drew1 | refine below_set ?_ GE165.out) | exact HB.out))) : w.heap.size ≤ gb166));have n4_:=Aside0.mk ((by rw [hg];exact (below_size (by repeat (first | (with_reducible first | exact HB.out | apply below_alloc | apply pw_below_drewN | apply below_drew1 | refine below_set ?_ GE165.out) | exact HB.out))) : w.heap.size ≤ gb166));have n5_:=Aside0.mk ((by rw [hg];exact Nat.ne_of_lt (blk_lt (g:=gb165) (o:=.cells #[.int .i64 a0_0,.int .i64 a0_1,.int .i64 a0_2,.slice A0_3 l0_3.length c0_3] 69 (0,0)) (by (with_reducible repeat (first | refine blk_drewN ?_ _ | refine blk_drew ?_ | refine blk_alloc ?_ _));exact BK165.out)) : gb165 ≠ gb166));have n6_:=Aside0.mk ((by rw [hg];exact Nat.ne_of_gt (blk_lt (g:=gb165) (o:=.cells #[.int .i64 a0_0,.int .i64 a0_1,.int .i64 a0_2,.slice A0_3 l0_3.length c0_3] 69 (0,0)) (by (with_reducible repeat (first | refine blk_drewN ?_ _ | refine blk_drew ?_ | refine blk_alloc ?_ _));exact BK165.out)) : gb166 ≠ gb165));clear BK165;clear HB;have BK165:=n0_;have HB:=n1_;have BK166:=n2_;have GW166:=n3_;have GE166:=n4_;have NB165_166:=n5_;have NB166_165:=n6_;clear n0_ n1_ n2_ n3_ n4_ n5_ n6_;clear hb hbox hg;have hnb60:=NB165_166.out;have hnc60:=NB166_165.out;obtain ⟨hcz61_0,hcz61_1,hcz61_2,hcz61_3⟩:=blkc_4 BK165.out;obtain ⟨hfz61_0,hfz61_1,hfz61_2⟩:=blkz_3 BK165.out;have hfz61_3:=blk_frozen BK165.out 3) | ((with_reducible refine gate_callee (f:=64) rfl ?_);refine goesL_ (some 10) rfl rfl Try.func64 (by kernel_rfl) rfl #[.agg #[.int .i64 a0_0,.int .i64 a0_1,.int .i64 a0_2,.slice A0_3 l0_3.length c0_3]] rfl (by (try simp only [List.map_toArray,List.map_cons,List.map_nil]);first | done | rfl | (simp only [List.length_drop,List.length_take];rfl)) ?_;(with_reducible refine (table_Check.calls k a0_0 a0_1 a0_2 _ _ l0_3 t167 _ ?side1 ?side2 A3.out).mono ?_);(case side1 => repeat (first | exact (Kd.C_below HR0_3.out HB.out) | (with_reducible refine Kd.C_alloc ?_ _) | (with_reducible refine Kd.C_drewN ?_ _) | (with_reducible refine Kd.C_drew ?_)));(case side2 => exact HC0_3.out);rintro e w62 ⟨rfl,hb⟩;refine ⟨_,rfl,?_⟩;have n0_:=Aside0.mk (blk_below (g:=gb165) (o:=.cells #[.int .i64 a0_0,.int .i64 a0_1,.int .i64 a0_2,.slice A0_3 l0_3.length c0_3] 69 (0,0)) (by (with_reducible repeat (first | refine blk_drewN ?_ _ | refine blk_drew ?_ | refine blk_alloc ?_ _));exact BK165.out) hb);have n1_:=Aside0.mk (blk_below (g:=gb166) (o:=.cells #[.int .i64 0,.int .i64 0,.int .i64 0,.slice none 0 0] 69 (0,0)) (by (with_reducible repeat (first | refine blk_drewN ?_ _ | refine blk_drew ?_ | refine blk_alloc ?_ _));exact BK166.out) hb);have n2_:=Aside0.mk (below_step (by repeat (first | (with_reducible first | exact HB.out | apply below_alloc | apply pw_below_drewN | apply below_drew1 | refine below_set ?_ GE165.out | refine below_set ?_ GE166.out) | exact HB.out)) hb);clear BK165;clear BK166;clear HB;have BK165:=n0_;have BK166:=n1_;have HB:=n2_;clear n0_ n1_ n2_;(try clear hb);(try clear hb2);(try clear hk);(try clear hi);obtain ⟨hcz63_0,hcz63_1,hcz63_2,hcz63_3⟩:=blkc_4 BK166.out;obtain ⟨hfz63_0,hfz63_1,hfz63_2⟩:=blkz_3 BK166.out;have hfz63_3:=blk_frozen BK166.out 3))
  refine bodyPost_ret (results_ctt rfl _ _ gb166 69 #[.int .i64 0,.int .i64 0,.int .i64 0,.slice none 0 0] (0,0) _ rfl (by (with_reducible repeat (first | refine blk_drewN ?_ _ | refine blk_drew ?_ | refine blk_alloc ?_ _));apply blkf_4_0_3;(with_reducible repeat (first | refine blk_drewN ?_ _ | refine blk_drew ?_ | refine blk_alloc ?_ _));exact BK166.out) Try.underlying69 rfl (by kernel_rfl)) rfl ?_
  exact ⟨_,by first | rfl | (simp [errW_none,errW_some] <;> rfl) | (simp [*,errW_none,errW_some] <;> rfl),by first | exact Kd.R_nil _ _ _ _ _ | exact Kd.N_nil _ _ _ _ _ | exact Kd.V_nil _ _ _ _ _ | exact Kd.Q_nil _ _ _ _ _ | exact Kd.S_nil _ _ _ _ _,by repeat (first | (with_reducible first | exact HB.out | apply below_alloc | apply pw_below_drewN | apply below_drew1 | refine below_set ?_ GE165.out | refine below_set ?_ GE166.out) | exact HB.out)⟩
end Go.Proofs.Ytbmcbhpkefjhbaa.P
namespace Go.Proofs.Ytbmcbhpkefjhbaa.P
open Go.RowKit Go.Proofs.YtbmcbhpkefjhbaaW.PrintWords Go.Proofs.YtbmcbhpkefjhbaaW.PrintLast Go.Proofs.YtbmcbhpkefjhbaaW.PrintMore
attribute [local go_sem] max2_int min2_int max_two min_two max_three min_three max_four min_four   -- for this text's walks alone
attribute [local go_sem] run_store_float
set_option linter.unusedVariables false
set_option linter.unusedSimpArgs false
mutual
def table_Eldest.l0 : Nat → List (S112) → Int → Int → Int → Int → Int → Int → Option (Int)
 | 0,_,_,_,_,_,_,_ => none
 | k + 1,x11,x12,x13,x181000,x181001,x181002,x181003 => if x13 < x12 then (if 0 ≤ x13 then (if x13 < (x11.length : Int) then (if ((rd_T112 x11 x13).f1) = 2 then (if x181000 = 0 then (table_Eldest.l0 k x11 x12 (wrap64 (x13 + 1)) ((rd_T112 x11 x13).f0) ((rd_T112 x11 x13).f1) ((rd_T112 x11 x13).f2) ((rd_T112 x11 x13).f3)) else (if ((rd_T112 x11 x13).f3) < x181003 then (table_Eldest.l0 k x11 x12 (wrap64 (x13 + 1)) ((rd_T112 x11 x13).f0) ((rd_T112 x11 x13).f1) ((rd_T112 x11 x13).f2) ((rd_T112 x11 x13).f3)) else (table_Eldest.l0 k x11 x12 (wrap64 (x13 + 1)) x181000 x181001 x181002 x181003))) else (table_Eldest.l0 k x11 x12 (wrap64 (x13 + 1)) x181000 x181001 x181002 x181003)) else (none)) else (none)) else (some x181000)
def table_Eldest.j0 : Nat → Int → Option (Int)
 | 0,_ => none
 | k + 1,x2 => some x2
end
def table_Eldest.f (k : Nat) (a0_0 : Int) (a0_1 : Int) (a0_2 : Int) (l0_3 : List (S112)) : Option (Int):=(table_Check.f k a0_0 a0_1 a0_2 l0_3).bind fun t179 => (if t179 = 0 then (table_Eldest.l0 k l0_3 (l0_3.length : Int) 0 0 0 0 0) else (table_Eldest.j0 k 0))
theorem table_Eldest.mono_l : ∀ k,(∀ y0 y1 y2 y3 y4 y5 y6,LeO (table_Eldest.l0 k y0 y1 y2 y3 y4 y5 y6) (table_Eldest.l0 (k + 1) y0 y1 y2 y3 y4 y5 y6)) ∧ (∀ y0,LeO (table_Eldest.j0 k y0) (table_Eldest.j0 (k + 1) y0))
 | 0 => ⟨fun _ _ _ _ _ _ _ r h => by simp [table_Eldest.l0] at h,fun _ r h => by simp [table_Eldest.j0] at h⟩
 | k + 1 => by
  obtain ⟨ih0,ih1⟩:=table_Eldest.mono_l k
  refine ⟨?_,?_⟩
  ·intro y0 y1 y2 y3 y4 y5 y6
   unfold table_Eldest.l0
   repeat' first
   | (with_reducible exact ih0 _ _ _ _ _ _ _)
   | (with_reducible exact ih1 _)
   | (with_reducible exact table_Check.mono _ _ _ _ _)
   | (with_reducible exact LeO.refl _)
   | (with_reducible exact LeO.none _)
   | (with_reducible refine LeO.ite ?_ ?_)
   | (with_reducible refine LeO.bind ?_ (fun _ => ?_))
   | exact ih0 _ _ _ _ _ _ _
   | exact ih1 _
   | exact table_Check.mono _ _ _ _ _
   | exact LeO.none _
   | refine LeO.ite ?_ ?_
   | refine LeO.bind ?_ (fun _ => ?_)
  ·intro y0
   unfold table_Eldest.j0
   repeat' first
   | (with_reducible exact ih0 _ _ _ _ _ _ _)
   | (with_reducible exact ih1 _)
   | (with_reducible exact table_Check.mono _ _ _ _ _)
   | (with_reducible exact LeO.refl _)
   | (with_reducible exact LeO.none _)
   | (with_reducible refine LeO.ite ?_ ?_)
   | (with_reducible refine LeO.bind ?_ (fun _ => ?_))
   | exact ih0 _ _ _ _ _ _ _
   | exact ih1 _
   | exact table_Check.mono _ _ _ _ _
   | exact LeO.none _
   | refine LeO.ite ?_ ?_
   | refine LeO.bind ?_ (fun _ => ?_)
theorem table_Eldest.mono : ∀ a0 a1 a2 a3 k,LeO (table_Eldest.f k a0 a1 a2 a3) (table_Eldest.f (k + 1) a0 a1 a2 a3):=by
 intro a0 a1 a2 a3 k
 obtain ⟨ih0,ih1⟩:=table_Eldest.mono_l k
 unfold table_Eldest.f
 repeat' first
   | (with_reducible exact ih0 _ _ _ _ _ _ _)
   | (with_reducible exact ih1 _)
   | (with_reducible exact table_Check.mono _ _ _ _ _)
   | (with_reducible exact LeO.refl _)
   | (with_reducible exact LeO.none _)
   | (with_reducible refine LeO.ite ?_ ?_)
   | (with_reducible refine LeO.bind ?_ (fun _ => ?_))
   | exact ih0 _ _ _ _ _ _ _
   | exact ih1 _
   | exact table_Check.mono _ _ _ _ _
   | exact LeO.none _
   | refine LeO.ite ?_ ?_
   | refine LeO.bind ?_ (fun _ => ?_)
set_option maxHeartbeats 8000000 in
set_option maxRecDepth 100000 in
theorem table_Eldest.calls (k : Nat) (a0_0 : Int) (a0_1 : Int) (a0_2 : Int) (A0_3 : Option Addr) (c0_3 : Nat) (l0_3 : List (S112)) (r : Int) (w : World) (hr0_3 : Kd.C k112 w A0_3 l0_3.length l0_3) (hc0_3 : l0_3.length ≤ c0_3) (h : table_Eldest.f k a0_0 a0_1 a0_2 l0_3 = some r) :
  Calls Try.prog 43 #[.agg #[.int .i64 a0_0,.int .i64 a0_1,.int .i64 a0_2,.slice A0_3 l0_3.length c0_3]] w fun e w' => e = .returned (.int .i64 r) ∧ Below w.heap.size w w':=by
 have hu69:=Try.underlying69
 have hu112:=Try.underlying112
 have HR0_3:=Aside0.mk hr0_3
 have HC0_3:=Aside0.mk hc0_3
 clear hr0_3 hc0_3
 have HB:=Aside0.mk (Below.refl w.heap.size w)
 have H : ((table_Check.f k a0_0 a0_1 a0_2 l0_3).bind fun t179 => (if t179 = 0 then (table_Eldest.l0 k l0_3 (l0_3.length : Int) 0 0 0 0 0) else (table_Eldest.j0 k 0))) = some r:=h
 clear h
 replace H:=Option.bind_eq_some_iff.mp H
 obtain ⟨t179,A20,H⟩:=H
 replace H : (if t179 = 0 then (table_Eldest.l0 k l0_3 (l0_3.length : Int) 0 0 0 0 0) else (table_Eldest.j0 k 0)) = some r:=H
 have A2:=Aside0.mk A20
 clear A20
 by_cases c3 : t179 = 0
 ·rw [if_pos c3] at H
  have c3b0 : (t179 == 0) = true:=beq_iff_eq.mpr c3
  have c3b1 : (t179 != 0) = false:=bne_eq_false_iff_eq.mpr c3
  clear c3
  have H':=Aside0.mk H
  clear H
  go_enter Try.func43,Try.ntmps43
  go_wp2_with (first | ((with_reducible refine gate_dst (N:=1) rfl ?_);refine box_event ?hg (N:=1) ?hd (cs:=#[.int .i64 a0_0,.int .i64 a0_1,.int .i64 a0_2,.slice A0_3 l0_3.length c0_3]) (t:=69) ?hr ?_;(case hd => rfl);(case hg => rfl);(case hr => first | (go_simp;done) | (go_simp;rfl));intro gb178 hg w4 hbox hb;have n0_:=Aside0.mk (below_step (by repeat (first | (with_reducible first | exact HB.out | apply below_alloc | apply pw_below_drewN | apply below_drew1) | exact HB.out)) hb);have n1_:=Aside0.mk (hbox);have n2_:=Aside0.mk ((by rw [hg];exact (below_size (by repeat (first | (with_reducible first | exact HB.out | apply below_alloc | apply pw_below_drewN | apply below_drew1) | exact HB.out))) : w.heap.size ≤ gb178));have n3_:=Aside0.mk ((by rw [hg];exact (below_size (by repeat (first | (with_reducible first | exact HB.out | apply below_alloc | apply pw_below_drewN | apply below_drew1) | exact HB.out))) : w.heap.size ≤ gb178));clear HB;have HB:=n0_;have BK178:=n1_;have GW178:=n2_;have GE178:=n3_;clear n0_ n1_ n2_ n3_;clear hb hbox hg;obtain ⟨hcz5_0,hcz5_1,hcz5_2,hcz5_3⟩:=blkc_4 BK178.out;obtain ⟨hfz5_0,hfz5_1,hfz5_2⟩:=blkz_3 BK178.out;have hfz5_3:=blk_frozen BK178.out 3) | ((with_reducible refine gate_callee (f:=64) rfl ?_);refine goesL_ (some 7) rfl rfl Try.func64 (by kernel_rfl) rfl #[.agg #[.int .i64 a0_0,.int .i64 a0_1,.int .i64 a0_2,.slice A0_3 l0_3.length c0_3]] rfl (by (try simp only [List.map_toArray,List.map_cons,List.map_nil]);first | done | rfl | (simp only [List.length_drop,List.length_take];rfl)) ?_;(with_reducible refine (table_Check.calls k a0_0 a0_1 a0_2 _ _ l0_3 t179 _ ?side1 ?side2 A2.out).mono ?_);(case side1 => repeat (first | exact (Kd.C_below HR0_3.out HB.out) | (with_reducible refine Kd.C_alloc ?_ _) | (with_reducible refine Kd.C_drewN ?_ _) | (with_reducible refine Kd.C_drew ?_)));(case side2 => exact HC0_3.out);rintro e w6 ⟨rfl,hb⟩;refine ⟨_,rfl,?_⟩;have n0_:=Aside0.mk (blk_below (g:=gb178) (o:=.cells #[.int .i64 a0_0,.int .i64 a0_1,.int .i64 a0_2,.slice A0_3 l0_3.length c0_3] 69 (0,0)) (by (with_reducible repeat (first | refine blk_drewN ?_ _ | refine blk_drew ?_ | refine blk_alloc ?_ _));exact BK178.out) hb);have n1_:=Aside0.mk (below_step (by repeat (first | (with_reducible first | exact HB.out | apply below_alloc | apply pw_below_drewN | apply below_drew1 | refine below_set ?_ GE178.out) | exact HB.out)) hb);clear BK178;clear HB;have BK178:=n0_;have HB:=n1_;clear n0_ n1_;(try clear hb);(try clear hb2);(try clear hk);(try clear hi)) | ((with_reducible refine gate_dst (N:=3) rfl ?_);refine box_event ?hg (N:=3) ?hd (cs:=#[.int .i64 0,.int .i64 0,.int .i64 0,.int .i64 0]) (t:=112) ?hr ?_;(case hd => rfl);(case hg => rfl);(case hr => first | (go_simp;done) | (go_simp;rfl));intro gb180 hg w7 hbox hb;have n0_:=Aside0.mk (blk_below (g:=gb178) (o:=.cells #[.int .i64 a0_0,.int .i64 a0_1,.int .i64 a0_2,.slice A0_3 l0_3.length c0_3] 69 (0,0)) (by (with_reducible repeat (first | refine blk_drewN ?_ _ | refine blk_drew ?_ | refine blk_alloc ?_ _));exact BK178.out) hb);have n1_:=Aside0.mk (below_step (by repeat (first | (with_reducible first | exact HB.out | apply below_alloc | apply pw_below_drewN | apply below_drew1 | refine below_set ?_ GE178.out) | exact HB.out)) hb);have n2_:=Aside0.mk (hbox);have n3_:=Aside0.mk ((by rw [hg];exact (below_size (by repeat (first | (with_reducible first | exact HB.out | apply below_alloc | apply pw_below_drewN | apply below_drew1 | refine below_set ?_ GE178.out) | exact HB.out))) : w.heap.size ≤ gb180));have n4_:=Aside0.mk ((by rw [hg];exact (below_size (by repeat (first | (with_reducible first | exact HB.out | apply below_alloc | apply pw_below_drewN | apply below_drew1 | refine below_set ?_ GE178.out) | exact HB.out))) : w.heap.size ≤ gb180));have n5_:=Aside0.mk ((by rw [hg];exact Nat.ne_of_lt (blk_lt (g:=gb178) (o:=.cells #[.int .i64 a0_0,.int .i64 a0_1,.int .i64 a0_2,.slice A0_3 l0_3.length c0_3] 69 (0,0)) (by (with_reducible repeat (first | refine blk_drewN ?_ _ | refine blk_drew ?_ | refine blk_alloc ?_ _));exact BK178.out)) : gb178 ≠ gb180));have n6_:=Aside0.mk ((by rw [hg];exact Nat.ne_of_gt (blk_lt (g:=gb178) (o:=.cells #[.int .i64 a0_0,.int .i64 a0_1,.int .i64 a0_2,.slice A0_3 l0_3.length c0_3] 69 (0,0)) (by (with_reducible repeat (first | refine blk_drewN ?_ _ | refine blk_drew ?_ | refine blk_alloc ?_ _));exact BK178.out)) : gb180 ≠ gb178));clear BK178;clear HB;have BK178:=n0_;have HB:=n1_;have BK180:=n2_;have GW180:=n3_;have GE180:=n4_;have NB178_180:=n5_;have NB180_178:=n6_;clear n0_ n1_ n2_ n3_ n4_ n5_ n6_;clear hb hbox hg;have hnb8:=NB180_178.out;have hnc8:=NB178_180.out;obtain ⟨hcz9_0,hcz9_1,hcz9_2,hcz9_3⟩:=blkc_4 BK180.out;obtain ⟨hfz9_0,hfz9_1,hfz9_2,hfz9_3⟩:=blkz_4 BK180.out;obtain ⟨hcz10_0,hcz10_1,hcz10_2,hcz10_3⟩:=blkc_4 BK178.out;obtain ⟨hfz10_0,hfz10_1,hfz10_2⟩:=blkz_3 BK178.out;have hfz10_3:=blk_frozen BK178.out 3))
  go_loopg [13] k (fun kq v13 w' => ∃ (x13_1 : Int) (x181000_1 : Int) (x181001_1 : Int) (x181002_1 : Int) (x181003_1 : Int),v13 = .int .i64 x13_1 ∧ Aside0 (table_Eldest.l0 kq l0_3 (l0_3.length : Int) x13_1 x181000_1 x181001_1 x181002_1 x181003_1 = some r) ∧ Aside0 (kq ≤ k) ∧ Aside0 (w'.heap[gb178]? = some (.cells #[.int .i64 a0_0,.int .i64 a0_1,.int .i64 a0_2,(.slice A0_3 l0_3.length c0_3)] 69 (0,0))) ∧ Aside0 (w'.heap[gb180]? = some (.cells #[.int .i64 x181000_1,.int .i64 x181001_1,.int .i64 x181002_1,.int .i64 x181003_1] 112 (0,0))) ∧ Aside0 (Below w.heap.size w w'))
  case atStart => exact ⟨(0),(0),(0),(0),(0),(by first | rfl | (simp;done) | (simp [*];done)),H',⟨Nat.le_refl _⟩,⟨by (with_reducible repeat (first | refine blk_drewN ?_ _ | refine blk_drew ?_ | refine blk_alloc ?_ _));refine blk_far ?_ NB178_180.out _;(with_reducible repeat (first | refine blk_drewN ?_ _ | refine blk_drew ?_ | refine blk_alloc ?_ _));refine blk_far ?_ NB178_180.out _;(with_reducible repeat (first | refine blk_drewN ?_ _ | refine blk_drew ?_ | refine blk_alloc ?_ _));refine blk_far ?_ NB178_180.out _;(with_reducible repeat (first | refine blk_drewN ?_ _ | refine blk_drew ?_ | refine blk_alloc ?_ _));refine blk_far ?_ NB178_180.out _;(with_reducible repeat (first | refine blk_drewN ?_ _ | refine blk_drew ?_ | refine blk_alloc ?_ _));exact BK178.out⟩,⟨by (with_reducible repeat (first | refine blk_drewN ?_ _ | refine blk_drew ?_ | refine blk_alloc ?_ _));apply blkf_4_0_3;(with_reducible repeat (first | refine blk_drewN ?_ _ | refine blk_drew ?_ | refine blk_alloc ?_ _));exact BK180.out⟩,⟨by repeat (first | (with_reducible first | exact HB.out | apply below_alloc | apply pw_below_drewN | apply below_drew1 | refine below_set ?_ GE178.out | refine below_set ?_ GE180.out) | exact HB.out)⟩⟩
  case round =>
   clear H'
   try clear p2
   try clear c3
   try clear c3b0
   try clear c3b1
   try clear c4
   try clear c6
   try clear c8
   try clear hcz10_0
   try clear hcz10_1
   try clear hcz10_2
   try clear hcz10_3
   try clear hcz5_0
   try clear hcz5_1
   try clear hcz5_2
   try clear hcz5_3
   try clear hcz9_0
   try clear hcz9_1
   try clear hcz9_2
   try clear hcz9_3
   try clear hfz10_0
   try clear hfz10_1
   try clear hfz10_2
   try clear hfz10_3
   try clear hfz5_0
   try clear hfz5_1
   try clear hfz5_2
   try clear hfz5_3
   try clear hfz9_0
   try clear hfz9_1
   try clear hfz9_2
   try clear hfz9_3
   obtain ⟨x13_1,x181000_1,x181001_1,x181002_1,x181003_1,rfl,HA,HK1,BK178,BK180,HB⟩:=hrel
   cases gk with
   | zero => exact absurd HA.out (by simp [table_Eldest.l0])
   | succ k1 =>
    have H:=HA.out
    clear HA
    simp only [table_Eldest.l0] at H
    by_cases c11 : x13_1 < (l0_3.length : Int)
    ·rw [if_pos c11] at H
     have c11b0 : decide (x13_1 < (l0_3.length : Int)) = true:=decide_eq_true c11
     clear c11
     by_cases c12 : 0 ≤ x13_1
     ·rw [if_pos c12] at H
      have c12b0 : decide (0 ≤ x13_1) = true:=decide_eq_true c12
      clear c12
      by_cases c13 : x13_1 < (l0_3.length : Int)
      ·rw [if_pos c13] at H
       have c13b0 : decide (x13_1 < (l0_3.length : Int)) = true:=decide_eq_true c13
       clear c13
       by_cases c14 : ((rd_T112 l0_3 x13_1).f1) = 2
       ·rw [if_pos c14] at H
        have c14b0 : (((rd_T112 l0_3 x13_1).f1) == 2) = true:=beq_iff_eq.mpr c14
        have c14b1 : (((rd_T112 l0_3 x13_1).f1) != 2) = false:=bne_eq_false_iff_eq.mpr c14
        clear c14
        by_cases c15 : x181000_1 = 0
        ·rw [if_pos c15] at H
         have c15b0 : (x181000_1 == 0) = true:=beq_iff_eq.mpr c15
         have c15b1 : (x181000_1 != 0) = false:=bne_eq_false_iff_eq.mpr c15
         clear c15
         have H':=Aside0.mk H
         clear H
         have p181 : 0 ≤ (x13_1 : Int):=of_decide_eq_true (by first | (with_reducible assumption) | assumption)
         have q181 : x13_1 < (l0_3.length : Int):=of_decide_eq_true (by first | (with_reducible assumption) | assumption)
         obtain ⟨ad181,e181,hx181_0,hx181_1,hx181_2,hx181_3⟩:=at_T112 HR0_3.out x13_1 p181 q181
         cases e181
         replace hx181_0:=(HB.out.cell (World.block_lt_of_cell? w _ hx181_0)).trans hx181_0
         replace hx181_1:=(HB.out.cell (World.block_lt_of_cell? w _ hx181_1)).trans hx181_1
         replace hx181_2:=(HB.out.cell (World.block_lt_of_cell? w _ hx181_2)).trans hx181_2
         replace hx181_3:=(HB.out.cell (World.block_lt_of_cell? w _ hx181_3)).trans hx181_3
         replace p181:=eq_true p181
         replace q181:=eq_true q181
         go_wp2_with (first | ((with_reducible refine gate_dst (N:=5) rfl ?_);refine box_event ?hg (N:=5) ?hd (cs:=#[.int .i64 0,.int .i64 0,.int .i64 0,.int .i64 0]) (t:=112) ?hr ?_;(case hd => rfl);(case hg => rfl);(case hr => first | (go_simp;done) | (go_simp;rfl));intro gb182 hg w16 hbox hb;have n0_:=Aside0.mk (blk_below (g:=gb178) (o:=.cells #[.int .i64 a0_0,.int .i64 a0_1,.int .i64 a0_2,.slice (some ad181) l0_3.length c0_3] 69 (0,0)) (by (with_reducible repeat (first | refine blk_drewN ?_ _ | refine blk_drew ?_ | refine blk_alloc ?_ _));exact BK178.out) hb);have n1_:=Aside0.mk (blk_below (g:=gb180) (o:=.cells #[.int .i64 x181000_1,.int .i64 x181001_1,.int .i64 x181002_1,.int .i64 x181003_1] 112 (0,0)) (by (with_reducible repeat (first | refine blk_drewN ?_ _ | refine blk_drew ?_ | refine blk_alloc ?_ _));exact BK180.out) hb);have n2_:=Aside0.mk (below_step (by repeat (first | (with_reducible first | exact HB.out | apply below_alloc | apply pw_below_drewN | apply below_drew1 | refine below_set ?_ GE178.out | refine below_set ?_ GE180.out) | exact HB.out)) hb);have n3_:=Aside0.mk (hbox);have n4_:=Aside0.mk ((by rw [hg];exact (below_size (by repeat (first | (with_reducible first | exact HB.out | apply below_alloc | apply pw_below_drewN | apply below_drew1 | refine below_set ?_ GE178.out | refine below_set ?_ GE180.out) | exact HB.out))) : w.heap.size ≤ gb182));have n5_:=Aside0.mk ((by rw [hg];exact (below_size (by repeat (first | (with_reducible first | exact HB.out | apply below_alloc | apply pw_below_drewN | apply below_drew1 | refine below_set ?_ GE178.out | refine below_set ?_ GE180.out) | exact HB.out))) : w.heap.size ≤ gb182));have n6_:=Aside0.mk ((by rw [hg];exact Nat.ne_of_lt (blk_lt (g:=gb178) (o:=.cells #[.int .i64 a0_0,.int .i64 a0_1,.int .i64 a0_2,.slice (some ad181) l0_3.length c0_3] 69 (0,0)) (by (with_reducible repeat (first | refine blk_drewN ?_ _ | refine blk_drew ?_ | refine blk_alloc ?_ _));exact BK178.out)) : gb178 ≠ gb182));have n7_:=Aside0.mk ((by rw [hg];exact Nat.ne_of_gt (blk_lt (g:=gb178) (o:=.cells #[.int .i64 a0_0,.int .i64 a0_1,.int .i64 a0_2,.slice (some ad181) l0_3.length c0_3] 69 (0,0)) (by (with_reducible repeat (first | refine blk_drewN ?_ _ | refine blk_drew ?_ | refine blk_alloc ?_ _));exact BK178.out)) : gb182 ≠ gb178));have n8_:=Aside0.mk ((by rw [hg];exact Nat.ne_of_lt (blk_lt (g:=gb180) (o:=.cells #[.int .i64 x181000_1,.int .i64 x181001_1,.int .i64 x181002_1,.int .i64 x181003_1] 112 (0,0)) (by (with_reducible repeat (first | refine blk_drewN ?_ _ | refine blk_drew ?_ | refine blk_alloc ?_ _));exact BK180.out)) : gb180 ≠ gb182));have n9_:=Aside0.mk ((by rw [hg];exact Nat.ne_of_gt (blk_lt (g:=gb180) (o:=.cells #[.int .i64 x181000_1,.int .i64 x181001_1,.int .i64 x181002_1,.int .i64 x181003_1] 112 (0,0)) (by (with_reducible repeat (first | refine blk_drewN ?_ _ | refine blk_drew ?_ | refine blk_alloc ?_ _));exact BK180.out)) : gb182 ≠ gb180));clear BK178;clear BK180;clear HB;have BK178:=n0_;have BK180:=n1_;have HB:=n2_;have BK182:=n3_;have GW182:=n4_;have GE182:=n5_;have NB178_182:=n6_;have NB182_178:=n7_;have NB180_182:=n8_;have NB182_180:=n9_;clear n0_ n1_ n2_ n3_ n4_ n5_ n6_ n7_ n8_ n9_;clear hb hbox hg;have hnb17:=NB182_178.out;have hnc17:=NB178_182.out;have hnb18:=NB182_180.out;have hnc18:=NB180_182.out;obtain ⟨hcz19_0,hcz19_1,hcz19_2,hcz19_3⟩:=blkc_4 BK182.out;obtain ⟨hfz19_0,hfz19_1,hfz19_2,hfz19_3⟩:=blkz_4 BK182.out;have hnb20:=NB180_178.out;have hnc20:=NB178_180.out;obtain ⟨hcz21_0,hcz21_1,hcz21_2,hcz21_3⟩:=blkc_4 BK180.out;obtain ⟨hfz21_0,hfz21_1,hfz21_2⟩:=blkz_3 BK180.out;have hfz21_3:=blk_frozen BK180.out 3))
         go_roundg k1
         case measure => have:=HK1.out;omega
         case rel => exact ⟨(wrap64 (x13_1 + 1)),((rd_T112 l0_3 x13_1).f0),((rd_T112 l0_3 x13_1).f1),((rd_T112 l0_3 x13_1).f2),((rd_T112 l0_3 x13_1).f3),(by first | rfl | (simp;done) | (simp [*];done)),H',⟨by have:=HK1.out;omega⟩,⟨by (with_reducible repeat (first | refine blk_drewN ?_ _ | refine blk_drew ?_ | refine blk_alloc ?_ _));refine blk_far ?_ NB178_180.out _;(with_reducible repeat (first | refine blk_drewN ?_ _ | refine blk_drew ?_ | refine blk_alloc ?_ _));refine blk_far ?_ NB178_180.out _;(with_reducible repeat (first | refine blk_drewN ?_ _ | refine blk_drew ?_ | refine blk_alloc ?_ _));refine blk_far ?_ NB178_180.out _;(with_reducible repeat (first | refine blk_drewN ?_ _ | refine blk_drew ?_ | refine blk_alloc ?_ _));refine blk_far ?_ NB178_180.out _;(with_reducible repeat (first | refine blk_drewN ?_ _ | refine blk_drew ?_ | refine blk_alloc ?_ _));refine blk_far ?_ NB178_182.out _;(with_reducible repeat (first | refine blk_drewN ?_ _ | refine blk_drew ?_ | refine blk_alloc ?_ _));refine blk_far ?_ NB178_182.out _;(with_reducible repeat (first | refine blk_drewN ?_ _ | refine blk_drew ?_ | refine blk_alloc ?_ _));refine blk_far ?_ NB178_182.out _;(with_reducible repeat (first | refine blk_drewN ?_ _ | refine blk_drew ?_ | refine blk_alloc ?_ _));refine blk_far ?_ NB178_182.out _;(with_reducible repeat (first | refine blk_drewN ?_ _ | refine blk_drew ?_ | refine blk_alloc ?_ _));exact BK178.out⟩,⟨by (with_reducible repeat (first | refine blk_drewN ?_ _ | refine blk_drew ?_ | refine blk_alloc ?_ _));apply blkf_4_0_3;(with_reducible repeat (first | refine blk_drewN ?_ _ | refine blk_drew ?_ | refine blk_alloc ?_ _));refine blk_far ?_ NB180_182.out _;(with_reducible repeat (first | refine blk_drewN ?_ _ | refine blk_drew ?_ | refine blk_alloc ?_ _));refine blk_far ?_ NB180_182.out _;(with_reducible repeat (first | refine blk_drewN ?_ _ | refine blk_drew ?_ | refine blk_alloc ?_ _));refine blk_far ?_ NB180_182.out _;(with_reducible repeat (first | refine blk_drewN ?_ _ | refine blk_drew ?_ | refine blk_alloc ?_ _));refine blk_far ?_ NB180_182.out _;(with_reducible repeat (first | refine blk_drewN ?_ _ | refine blk_drew ?_ | refine blk_alloc ?_ _));exact BK180.out⟩,⟨by repeat (first | (with_reducible first | exact HB.out | apply below_alloc | apply pw_below_drewN | apply below_drew1 | refine below_set ?_ GE178.out | refine below_set ?_ GE180.out | refine below_set ?_ GE182.out) | exact HB.out)⟩⟩
        ·rw [if_neg c15] at H
         have c15b0 : (x181000_1 == 0) = false:=beq_eq_false_iff_ne.mpr c15
         have c15b1 : (x181000_1 != 0) = true:=bne_iff_ne.mpr c15
         by_cases c22 : ((rd_T112 l0_3 x13_1).f3) < x181003_1
         ·rw [if_pos c22] at H
          have c22b0 : decide (((rd_T112 l0_3 x13_1).f3) < x181003_1) = true:=decide_eq_true c22
          clear c22
          have H':=Aside0.mk H
          clear H
          have p181 : 0 ≤ (x13_1 : Int):=of_decide_eq_true (by first | (with_reducible assumption) | assumption)
          have q181 : x13_1 < (l0_3.length : Int):=of_decide_eq_true (by first | (with_reducible assumption) | assumption)
          obtain ⟨ad181,e181,hx181_0,hx181_1,hx181_2,hx181_3⟩:=at_T112 HR0_3.out x13_1 p181 q181
          cases e181
          replace hx181_0:=(HB.out.cell (World.block_lt_of_cell? w _ hx181_0)).trans hx181_0
          replace hx181_1:=(HB.out.cell (World.block_lt_of_cell? w _ hx181_1)).trans hx181_1
          replace hx181_2:=(HB.out.cell (World.block_lt_of_cell? w _ hx181_2)).trans hx181_2
          replace hx181_3:=(HB.out.cell (World.block_lt_of_cell? w _ hx181_3)).trans hx181_3
          replace p181:=eq_true p181
          replace q181:=eq_true q181
          go_wp2_with (first | ((with_reducible refine gate_dst (N:=5) rfl ?_);refine box_event ?hg (N:=5) ?hd (cs:=#[.int .i64 0,.int .i64 0,.int .i64 0,.int .i64 0]) (t:=112) ?hr ?_;(case hd => rfl);(case hg => rfl);(case hr => first | (go_simp;done) | (go_simp;rfl));intro gb182 hg w23 hbox hb;have n0_:=Aside0.mk (blk_below (g:=gb178) (o:=.cells #[.int .i64 a0_0,.int .i64 a0_1,.int .i64 a0_2,.slice (some ad181) l0_3.length c0_3] 69 (0,0)) (by (with_reducible repeat (first | refine blk_drewN ?_ _ | refine blk_drew ?_ | refine blk_alloc ?_ _));exact BK178.out) hb);have n1_:=Aside0.mk (blk_below (g:=gb180) (o:=.cells #[.int .i64 x181000_1,.int .i64 x181001_1,.int .i64 x181002_1,.int .i64 x181003_1] 112 (0,0)) (by (with_reducible repeat (first | refine blk_drewN ?_ _ | refine blk_drew ?_ | refine blk_alloc ?_ _));exact BK180.out) hb);have n2_:=Aside0.mk (below_step (by repeat (first | (with_reducible first | exact HB.out | apply below_alloc | apply pw_below_drewN | apply below_drew1 | refine below_set ?_ GE178.out | refine below_set ?_ GE180.out) | exact HB.out)) hb);have n3_:=Aside0.mk (hbox);have n4_:=Aside0.mk ((by rw [hg];exact (below_size (by repeat (first | (with_reducible first | exact HB.out | apply below_alloc | apply pw_below_drewN | apply below_drew1 | refine below_set ?_ GE178.out | refine below_set ?_ GE180.out) | exact HB.out))) : w.heap.size ≤ gb182));have n5_:=Aside0.mk ((by rw [hg];exact (below_size (by repeat (first | (with_reducible first | exact HB.out | apply below_alloc | apply pw_below_drewN | apply below_drew1 | refine below_set ?_ GE178.out | refine below_set ?_ GE180.out) | exact HB.out))) : w.heap.size ≤ gb182));have n6_:=Aside0.mk ((by rw [hg];exact Nat.ne_of_lt (blk_lt (g:=gb178) (o:=.cells #[.int .i64 a0_0,.int .i64 a0_1,.int .i64 a0_2,.slice (some ad181) l0_3.length c0_3] 69 (0,0)) (by (with_reducible repeat (first | refine blk_drewN ?_ _ | refine blk_drew ?_ | refine blk_alloc ?_ _));exact BK178.out)) : gb178 ≠ gb182));have n7_:=Aside0.mk ((by rw [hg];exact Nat.ne_of_gt (blk_lt (g:=gb178) (o:=.cells #[.int .i64 a0_0,.int .i64 a0_1,.int .i64 a0_2,.slice (some ad181) l0_3.length c0_3] 69 (0,0)) (by (with_reducible repeat (first | refine blk_drewN ?_ _ | refine blk_drew ?_ | refine blk_alloc ?_ _));exact BK178.out)) : gb182 ≠ gb178));have n8_:=Aside0.mk ((by rw [hg];exact Nat.ne_of_lt (blk_lt (g:=gb180) (o:=.cells #[.int .i64 x181000_1,.int .i64 x181001_1,.int .i64 x181002_1,.int .i64 x181003_1] 112 (0,0)) (by (with_reducible repeat (first | refine blk_drewN ?_ _ | refine blk_drew ?_ | refine blk_alloc ?_ _));exact BK180.out)) : gb180 ≠ gb182));have n9_:=Aside0.mk ((by rw [hg];exact Nat.ne_of_gt (blk_lt (g:=gb180) (o:=.cells #[.int .i64 x181000_1,.int .i64 x181001_1,.int .i64 x181002_1,.int .i64 x181003_1] 112 (0,0)) (by (with_reducible repeat (first | refine blk_drewN ?_ _ | refine blk_drew ?_ | refine blk_alloc ?_ _));exact BK180.out)) : gb182 ≠ gb180));clear BK178;clear BK180;clear HB;have BK178:=n0_;have BK180:=n1_;have HB:=n2_;have BK182:=n3_;have GW182:=n4_;have GE182:=n5_;have NB178_182:=n6_;have NB182_178:=n7_;have NB180_182:=n8_;have NB182_180:=n9_;clear n0_ n1_ n2_ n3_ n4_ n5_ n6_ n7_ n8_ n9_;clear hb hbox hg;have hnb24:=NB182_178.out;have hnc24:=NB178_182.out;have hnb25:=NB182_180.out;have hnc25:=NB180_182.out;obtain ⟨hcz26_0,hcz26_1,hcz26_2,hcz26_3⟩:=blkc_4 BK182.out;obtain ⟨hfz26_0,hfz26_1,hfz26_2,hfz26_3⟩:=blkz_4 BK182.out;have hnb27:=NB180_178.out;have hnc27:=NB178_180.out;obtain ⟨hcz28_0,hcz28_1,hcz28_2,hcz28_3⟩:=blkc_4 BK180.out;obtain ⟨hfz28_0,hfz28_1,hfz28_2⟩:=blkz_3 BK180.out;have hfz28_3:=blk_frozen BK180.out 3))
          go_roundg k1
          case measure => have:=HK1.out;omega
          case rel => exact ⟨(wrap64 (x13_1 + 1)),((rd_T112 l0_3 x13_1).f0),((rd_T112 l0_3 x13_1).f1),((rd_T112 l0_3 x13_1).f2),((rd_T112 l0_3 x13_1).f3),(by first | rfl | (simp;done) | (simp [*];done)),H',⟨by have:=HK1.out;omega⟩,⟨by (with_reducible repeat (first | refine blk_drewN ?_ _ | refine blk_drew ?_ | refine blk_alloc ?_ _));refine blk_far ?_ NB178_180.out _;(with_reducible repeat (first | refine blk_drewN ?_ _ | refine blk_drew ?_ | refine blk_alloc ?_ _));refine blk_far ?_ NB178_180.out _;(with_reducible repeat (first | refine blk_drewN ?_ _ | refine blk_drew ?_ | refine blk_alloc ?_ _));refine blk_far ?_ NB178_180.out _;(with_reducible repeat (first | refine blk_drewN ?_ _ | refine blk_drew ?_ | refine blk_alloc ?_ _));refine blk_far ?_ NB178_180.out _;(with_reducible repeat (first | refine blk_drewN ?_ _ | refine blk_drew ?_ | refine blk_alloc ?_ _));refine blk_far ?_ NB178_182.out _;(with_reducible repeat (first | refine blk_drewN ?_ _ | refine blk_drew ?_ | refine blk_alloc ?_ _));refine blk_far ?_ NB178_182.out _;(with_reducible repeat (first | refine blk_drewN ?_ _ | refine blk_drew ?_ | refine blk_alloc ?_ _));refine blk_far ?_ NB178_182.out _;(with_reducible repeat (first | refine blk_drewN ?_ _ | refine blk_drew ?_ | refine blk_alloc ?_ _));refine blk_far ?_ NB178_182.out _;(with_reducible repeat (first | refine blk_drewN ?_ _ | refine blk_drew ?_ | refine blk_alloc ?_ _));exact BK178.out⟩,⟨by (with_reducible repeat (first | refine blk_drewN ?_ _ | refine blk_drew ?_ | refine blk_alloc ?_ _));apply blkf_4_0_3;(with_reducible repeat (first | refine blk_drewN ?_ _ | refine blk_drew ?_ | refine blk_alloc ?_ _));refine blk_far ?_ NB180_182.out _;(with_reducible repeat (first | refine blk_drewN ?_ _ | refine blk_drew ?_ | refine blk_alloc ?_ _));refine blk_far ?_ NB180_182.out _;(with_reducible repeat (first | refine blk_drewN ?_ _ | refine blk_drew ?_ | refine blk_alloc ?_ _));refine blk_far ?_ NB180_182.out _;(with_reducible repeat (first | refine blk_drewN ?_ _ | refine blk_drew ?_ | refine blk_alloc ?_ _));refine blk_far ?_ NB180_182.out _;(with_reducible repeat (first | refine blk_drewN ?_ _ | refine blk_drew ?_ | refine blk_alloc ?_ _));exact BK180.out⟩,⟨by repeat (first | (with_reducible first | exact HB.out | apply below_alloc | apply pw_below_drewN | apply below_drew1 | refine below_set ?_ GE178.out | refine below_set ?_ GE180.out | refine below_set ?_ GE182.out) | exact HB.out)⟩⟩
         ·rw [if_neg c22] at H
          have c22b0 : decide (((rd_T112 l0_3 x13_1).f3) < x181003_1) = false:=decide_eq_false c22
          clear c22
          have H':=Aside0.mk H
          clear H
          have p181 : 0 ≤ (x13_1 : Int):=of_decide_eq_true (by first | (with_reducible assumption) | assumption)
          have q181 : x13_1 < (l0_3.length : Int):=of_decide_eq_true (by first | (with_reducible assumption) | assumption)
          obtain ⟨ad181,e181,hx181_0,hx181_1,hx181_2,hx181_3⟩:=at_T112 HR0_3.out x13_1 p181 q181
          cases e181
          replace hx181_0:=(HB.out.cell (World.block_lt_of_cell? w _ hx181_0)).trans hx181_0
          replace hx181_1:=(HB.out.cell (World.block_lt_of_cell? w _ hx181_1)).trans hx181_1
          replace hx181_2:=(HB.out.cell (World.block_lt_of_cell? w _ hx181_2)).trans hx181_2
          replace hx181_3:=(HB.out.cell (World.block_lt_of_cell? w _ hx181_3)).trans hx181_3
          replace p181:=eq_true p181
          replace q181:=eq_true q181
          go_wp2_with (first | ((with_reducible refine gate_dst (N:=5) rfl ?_);refine box_event ?hg (N:=5) ?hd (cs:=#[.int .i64 0,.int .i64 0,.int .i64 0,.int .i64 0]) (t:=112) ?hr ?_;(case hd => rfl);(case hg => rfl);(case hr => first | (go_simp;done) | (go_simp;rfl));intro gb182 hg w29 hbox hb;have n0_:=Aside0.mk (blk_below (g:=gb178) (o:=.cells #[.int .i64 a0_0,.int .i64 a0_1,.int .i64 a0_2,.slice (some ad181) l0_3.length c0_3] 69 (0,0)) (by (with_reducible repeat (first | refine blk_drewN ?_ _ | refine blk_drew ?_ | refine blk_alloc ?_ _));exact BK178.out) hb);have n1_:=Aside0.mk (blk_below (g:=gb180) (o:=.cells #[.int .i64 x181000_1,.int .i64 x181001_1,.int .i64 x181002_1,.int .i64 x181003_1] 112 (0,0)) (by (with_reducible repeat (first | refine blk_drewN ?_ _ | refine blk_drew ?_ | refine blk_alloc ?_ _));exact BK180.out) hb);have n2_:=Aside0.mk (below_step (by repeat (first | (with_reducible first | exact HB.out | apply below_alloc | apply pw_below_drewN | apply below_drew1 | refine below_set ?_ GE178.out | refine below_set ?_ GE180.out) | exact HB.out)) hb);have n3_:=Aside0.mk (hbox);have n4_:=Aside0.mk ((by rw [hg];exact (below_size (by repeat (first | (with_reducible first | exact HB.out | apply below_alloc | apply pw_below_drewN | apply below_drew1 | refine below_set ?_ GE178.out | refine below_set ?_ GE180.out) | exact HB.out))) : w.heap.size ≤ gb182));have n5_:=Aside0.mk ((by rw [hg];exact (below_size (by repeat (first | (with_reducible first | exact HB.out | apply below_alloc | apply pw_below_drewN | apply below_drew1 | refine below_set ?_ GE178.out | refine below_set ?_ GE180.out) | exact HB.out))) : w.heap.size ≤ gb182));have n6_:=Aside0.mk ((by rw [hg];exact Nat.ne_of_lt (blk_lt (g:=gb178) (o:=.cells #[.int .i64 a0_0,.int .i64 a0_1,.int .i64 a0_2,.slice (some ad181) l0_3.length c0_3] 69 (0,0)) (by (with_reducible repeat (first | refine blk_drewN ?_ _ | refine blk_drew ?_ | refine blk_alloc ?_ _));exact BK178.out)) : gb178 ≠ gb182));have n7_:=Aside0.mk ((by rw [hg];exact Nat.ne_of_gt (blk_lt (g:=gb178) (o:=.cells #[.int .i64 a0_0,.int .i64 a0_1,.int .i64 a0_2,.slice (some ad181) l0_3.length c0_3] 69 (0,0)) (by (with_reducible repeat (first | refine blk_drewN ?_ _ | refine blk_drew ?_ | refine blk_alloc ?_ _));exact BK178.out)) : gb182 ≠ gb178));have n8_:=Aside0.mk ((by rw [hg];exact Nat.ne_of_lt (blk_lt (g:=gb180) (o:=.cells #[.int .i64 x181000_1,.int .i64 x181001_1,.int .i64 x181002_1,.int .i64 x181003_1] 112 (0,0)) (by (with_reducible repeat (first | refine blk_drewN ?_ _ | refine blk_drew ?_ | refine blk_alloc ?_ _));exact BK180.out)) : gb180 ≠ gb182));have n9_:=Aside0.mk ((by rw [hg];exact Nat.ne_of_gt (blk_lt (g:=gb180) (o:=.cells #[.int .i64 x181000_1,.int .i64 x181001_1,.int .i64 x181002_1,.int .i64 x181003_1] 112 (0,0)) (by (with_reducible repeat (first | refine blk_drewN ?_ _ | refine blk_drew ?_ | refine blk_alloc ?_ _));exact BK180.out)) : gb182 ≠ gb180));clear BK178;clear BK180;clear HB;have BK178:=n0_;have BK180:=n1_;have HB:=n2_;have BK182:=n3_;have GW182:=n4_;have GE182:=n5_;have NB178_182:=n6_;have NB182_178:=n7_;have NB180_182:=n8_;have NB182_180:=n9_;clear n0_ n1_ n2_ n3_ n4_ n5_ n6_ n7_ n8_ n9_;clear hb hbox hg;have hnb30:=NB182_178.out;have hnc30:=NB178_182.out;have hnb31:=NB182_180.out;have hnc31:=NB180_182.out;obtain ⟨hcz32_0,hcz32_1,hcz32_2,hcz32_3⟩:=blkc_4 BK182.out;obtain ⟨hfz32_0,hfz32_1,hfz32_2,hfz32_3⟩:=blkz_4 BK182.out;have hnb33:=NB180_178.out;have hnc33:=NB178_180.out;obtain ⟨hcz34_0,hcz34_1,hcz34_2,hcz34_3⟩:=blkc_4 BK180.out;obtain ⟨hfz34_0,hfz34_1,hfz34_2⟩:=blkz_3 BK180.out;have hfz34_3:=blk_frozen BK180.out 3))
          go_roundg k1
          case measure => have:=HK1.out;omega
          case rel => exact ⟨(wrap64 (x13_1 + 1)),(x181000_1),(x181001_1),(x181002_1),(x181003_1),(by first | rfl | (simp;done) | (simp [*];done)),H',⟨by have:=HK1.out;omega⟩,⟨by (with_reducible repeat (first | refine blk_drewN ?_ _ | refine blk_drew ?_ | refine blk_alloc ?_ _));refine blk_far ?_ NB178_182.out _;(with_reducible repeat (first | refine blk_drewN ?_ _ | refine blk_drew ?_ | refine blk_alloc ?_ _));refine blk_far ?_ NB178_182.out _;(with_reducible repeat (first | refine blk_drewN ?_ _ | refine blk_drew ?_ | refine blk_alloc ?_ _));refine blk_far ?_ NB178_182.out _;(with_reducible repeat (first | refine blk_drewN ?_ _ | refine blk_drew ?_ | refine blk_alloc ?_ _));refine blk_far ?_ NB178_182.out _;(with_reducible repeat (first | refine blk_drewN ?_ _ | refine blk_drew ?_ | refine blk_alloc ?_ _));exact BK178.out⟩,⟨by (with_reducible repeat (first | refine blk_drewN ?_ _ | refine blk_drew ?_ | refine blk_alloc ?_ _));refine blk_far ?_ NB180_182.out _;(with_reducible repeat (first | refine blk_drewN ?_ _ | refine blk_drew ?_ | refine blk_alloc ?_ _));refine blk_far ?_ NB180_182.out _;(with_reducible repeat (first | refine blk_drewN ?_ _ | refine blk_drew ?_ | refine blk_alloc ?_ _));refine blk_far ?_ NB180_182.out _;(with_reducible repeat (first | refine blk_drewN ?_ _ | refine blk_drew ?_ | refine blk_alloc ?_ _));refine blk_far ?_ NB180_182.out _;(with_reducible repeat (first | refine blk_drewN ?_ _ | refine blk_drew ?_ | refine blk_alloc ?_ _));exact BK180.out⟩,⟨by repeat (first | (with_reducible first | exact HB.out | apply below_alloc | apply pw_below_drewN | apply below_drew1 | refine below_set ?_ GE178.out | refine below_set ?_ GE180.out | refine below_set ?_ GE182.out) | exact HB.out)⟩⟩
       ·rw [if_neg c14] at H
        have c14b0 : (((rd_T112 l0_3 x13_1).f1) == 2) = false:=beq_eq_false_iff_ne.mpr c14
        have c14b1 : (((rd_T112 l0_3 x13_1).f1) != 2) = true:=bne_iff_ne.mpr c14
        have H':=Aside0.mk H
        clear H
        have p181 : 0 ≤ (x13_1 : Int):=of_decide_eq_true (by first | (with_reducible assumption) | assumption)
        have q181 : x13_1 < (l0_3.length : Int):=of_decide_eq_true (by first | (with_reducible assumption) | assumption)
        obtain ⟨ad181,e181,hx181_0,hx181_1,hx181_2,hx181_3⟩:=at_T112 HR0_3.out x13_1 p181 q181
        cases e181
        replace hx181_0:=(HB.out.cell (World.block_lt_of_cell? w _ hx181_0)).trans hx181_0
        replace hx181_1:=(HB.out.cell (World.block_lt_of_cell? w _ hx181_1)).trans hx181_1
        replace hx181_2:=(HB.out.cell (World.block_lt_of_cell? w _ hx181_2)).trans hx181_2
        replace hx181_3:=(HB.out.cell (World.block_lt_of_cell? w _ hx181_3)).trans hx181_3
        replace p181:=eq_true p181
        replace q181:=eq_true q181
        go_wp2_with (first | ((with_reducible refine gate_dst (N:=5) rfl ?_);refine box_event ?hg (N:=5) ?hd (cs:=#[.int .i64 0,.int .i64 0,.int .i64 0,.int .i64 0]) (t:=112) ?hr ?_;(case hd => rfl);(case hg => rfl);(case hr => first | (go_simp;done) | (go_simp;rfl));intro gb182 hg w35 hbox hb;have n0_:=Aside0.mk (blk_below (g:=gb178) (o:=.cells #[.int .i64 a0_0,.int .i64 a0_1,.int .i64 a0_2,.slice (some ad181) l0_3.length c0_3] 69 (0,0)) (by (with_reducible repeat (first | refine blk_drewN ?_ _ | refine blk_drew ?_ | refine blk_alloc ?_ _));exact BK178.out) hb);have n1_:=Aside0.mk (blk_below (g:=gb180) (o:=.cells #[.int .i64 x181000_1,.int .i64 x181001_1,.int .i64 x181002_1,.int .i64 x181003_1] 112 (0,0)) (by (with_reducible repeat (first | refine blk_drewN ?_ _ | refine blk_drew ?_ | refine blk_alloc ?_ _));exact BK180.out) hb);have n2_:=Aside0.mk (below_step (by repeat (first | (with_reducible first | exact HB.out | apply below_alloc | apply pw_below_drewN | apply below_drew1 | refine below_set ?_ GE178.out | refine below_set ?_ GE180.out) | exact HB.out)) hb);have n3_:=Aside0.mk (hbox);have n4_:=Aside0.mk ((by rw [hg];exact (below_size (by repeat (first | (with_reducible first | exact HB.out | apply below_alloc | apply pw_below_drewN | apply below_drew1 | refine below_set ?_ GE178.out | refine below_set ?_ GE180.out) | exact HB.out))) : w.heap.size ≤ gb182));have n5_:=Aside0.mk ((by rw [hg];exact (below_size (by repeat (first | (with_reducible first | exact HB.out | apply below_alloc | apply pw_below_drewN | apply below_drew1 | refine below_set ?_ GE178.out | refine below_set ?_ GE180.out) | exact HB.out))) : w.heap.size ≤ gb182));have n6_:=Aside0.mk ((by rw [hg];exact Nat.ne_of_lt (blk_lt (g:=gb178) (o:=.cells #[.int .i64 a0_0,.int .i64 a0_1,.int .i64 a0_2,.slice (some ad181) l0_3.length c0_3] 69 (0,0)) (by (with_reducible repeat (first | refine blk_drewN ?_ _ | refine blk_drew ?_ | refine blk_alloc ?_ _));exact BK178.out)) : gb178 ≠ gb182));have n7_:=Aside0.mk ((by rw [hg];exact Nat.ne_of_gt (blk_lt (g:=gb178) (o:=.cells #[.int .i64 a0_0,.int .i64 a0_1,.int .i64 a0_2,.slice (some ad181) l0_3.length c0_3] 69 (0,0)) (by (with_reducible repeat (first | refine blk_drewN ?_ _ | refine blk_drew ?_ | refine blk_alloc ?_ _));exact BK178.out)) : gb182 ≠ gb178));have n8_:=Aside0.mk ((by rw [hg];exact Nat.ne_of_lt (blk_lt (g:=gb180) (o:=.cells #[.int .i64 x181000_1,.int .i64 x181001_1,.int .i64 x181002_1,.int .i64 x181003_1] 112 (0,0)) (by (with_reducible repeat (first | refine blk_drewN ?_ _ | refine blk_drew ?_ | refine blk_alloc ?_ _));exact BK180.out)) : gb180 ≠ gb182));have n9_:=Aside0.mk ((by rw [hg];exact Nat.ne_of_gt (blk_lt (g:=gb180) (o:=.cells #[.int .i64 x181000_1,.int .i64 x181001_1,.int .i64 x181002_1,.int .i64 x181003_1] 112 (0,0)) (by (with_reducible repeat (first | refine blk_drewN ?_ _ | refine blk_drew ?_ | refine blk_alloc ?_ _));exact BK180.out)) : gb182 ≠ gb180));clear BK178;clear BK180;clear HB;have BK178:=n0_;have BK180:=n1_;have HB:=n2_;have BK182:=n3_;have GW182:=n4_;have GE182:=n5_;have NB178_182:=n6_;have NB182_178:=n7_;have NB180_182:=n8_;have NB182_180:=n9_;clear n0_ n1_ n2_ n3_ n4_ n5_ n6_ n7_ n8_ n9_;clear hb hbox hg;have hnb36:=NB182_178.out;have hnc36:=NB178_182.out;have hnb37:=NB182_180.out;have hnc37:=NB180_182.out;obtain ⟨hcz38_0,hcz38_1,hcz38_2,hcz38_3⟩:=blkc_4 BK182.out;obtain ⟨hfz38_0,hfz38_1,hfz38_2⟩:=blkz_3 BK182.out;have hfz38_3:=blk_frozen BK182.out 3))
        go_roundg k1
        case measure => have:=HK1.out;omega
        case rel => exact ⟨(wrap64 (x13_1 + 1)),(x181000_1),(x181001_1),(x181002_1),(x181003_1),(by first | rfl | (simp;done) | (simp [*];done)),H',⟨by have:=HK1.out;omega⟩,⟨by (with_reducible repeat (first | refine blk_drewN ?_ _ | refine blk_drew ?_ | refine blk_alloc ?_ _));refine blk_far ?_ NB178_182.out _;(with_reducible repeat (first | refine blk_drewN ?_ _ | refine blk_drew ?_ | refine blk_alloc ?_ _));refine blk_far ?_ NB178_182.out _;(with_reducible repeat (first | refine blk_drewN ?_ _ | refine blk_drew ?_ | refine blk_alloc ?_ _));refine blk_far ?_ NB178_182.out _;(with_reducible repeat (first | refine blk_drewN ?_ _ | refine blk_drew ?_ | refine blk_alloc ?_ _));refine blk_far ?_ NB178_182.out _;(with_reducible repeat (first | refine blk_drewN ?_ _ | refine blk_drew ?_ | refine blk_alloc ?_ _));exact BK178.out⟩,⟨by (with_reducible repeat (first | refine blk_drewN ?_ _ | refine blk_drew ?_ | refine blk_alloc ?_ _));refine blk_far ?_ NB180_182.out _;(with_reducible repeat (first | refine blk_drewN ?_ _ | refine blk_drew ?_ | refine blk_alloc ?_ _));refine blk_far ?_ NB180_182.out _;(with_reducible repeat (first | refine blk_drewN ?_ _ | refine blk_drew ?_ | refine blk_alloc ?_ _));refine blk_far ?_ NB180_182.out _;(with_reducible repeat (first | refine blk_drewN ?_ _ | refine blk_drew ?_ | refine blk_alloc ?_ _));refine blk_far ?_ NB180_182.out _;(with_reducible repeat (first | refine blk_drewN ?_ _ | refine blk_drew ?_ | refine blk_alloc ?_ _));exact BK180.out⟩,⟨by repeat (first | (with_reducible first | exact HB.out | apply below_alloc | apply pw_below_drewN | apply below_drew1 | refine below_set ?_ GE178.out | refine below_set ?_ GE180.out | refine below_set ?_ GE182.out) | exact HB.out)⟩⟩
      ·rw [if_neg c13] at H
       exact absurd H (by simp)
     ·rw [if_neg c12] at H
      exact absurd H (by simp)
    ·rw [if_neg c11] at H
     have c11b0 : decide (x13_1 < (l0_3.length : Int)) = false:=decide_eq_false c11
     clear c11
     obtain rfl:=Option.some.inj H
     have hnb39:=NB180_178.out
     have hnc39:=NB178_180.out
     obtain ⟨hcz40_0,hcz40_1,hcz40_2,hcz40_3⟩:=blkc_4 BK180.out
     obtain ⟨hfz40_0,hfz40_1,hfz40_2,hfz40_3⟩:=blkz_4 BK180.out
     go_wp2
     go_ret
     exact ⟨by first | rfl | (simp [errW_none,errW_some] <;> rfl) | (simp [*,errW_none,errW_some] <;> rfl),by repeat (first | (with_reducible first | exact HB.out | apply below_alloc | apply pw_below_drewN | apply below_drew1 | refine below_set ?_ GE178.out | refine below_set ?_ GE180.out) | exact HB.out)⟩
 ·rw [if_neg c3] at H
  have c3b0 : (t179 == 0) = false:=beq_eq_false_iff_ne.mpr c3
  have c3b1 : (t179 != 0) = true:=bne_iff_ne.mpr c3
  have HC41:=Aside0.mk H
  clear H
  go_enter Try.func43,Try.ntmps43
  go_upto_region 2 with (first | ((with_reducible refine gate_dst (N:=1) rfl ?_);refine box_event ?hg (N:=1) ?hd (cs:=#[.int .i64 a0_0,.int .i64 a0_1,.int .i64 a0_2,.slice A0_3 l0_3.length c0_3]) (t:=69) ?hr ?_;(case hd => rfl);(case hg => rfl);(case hr => first | (go_simp;done) | (go_simp;rfl));intro gb178 hg w42 hbox hb;have n0_:=Aside0.mk (below_step (by repeat (first | (with_reducible first | exact HB.out | apply below_alloc | apply pw_below_drewN | apply below_drew1) | exact HB.out)) hb);have n1_:=Aside0.mk (hbox);have n2_:=Aside0.mk ((by rw [hg];exact (below_size (by repeat (first | (with_reducible first | exact HB.out | apply below_alloc | apply pw_below_drewN | apply below_drew1) | exact HB.out))) : w.heap.size ≤ gb178));have n3_:=Aside0.mk ((by rw [hg];exact (below_size (by repeat (first | (with_reducible first | exact HB.out | apply below_alloc | apply pw_below_drewN | apply below_drew1) | exact HB.out))) : w.heap.size ≤ gb178));clear HB;have HB:=n0_;have BK178:=n1_;have GW178:=n2_;have GE178:=n3_;clear n0_ n1_ n2_ n3_;clear hb hbox hg;obtain ⟨hcz43_0,hcz43_1,hcz43_2,hcz43_3⟩:=blkc_4 BK178.out;obtain ⟨hfz43_0,hfz43_1,hfz43_2⟩:=blkz_3 BK178.out;have hfz43_3:=blk_frozen BK178.out 3) | ((with_reducible refine gate_callee (f:=64) rfl ?_);refine goesL_ (some 7) rfl rfl Try.func64 (by kernel_rfl) rfl #[.agg #[.int .i64 a0_0,.int .i64 a0_1,.int .i64 a0_2,.slice A0_3 l0_3.length c0_3]] rfl (by (try simp only [List.map_toArray,List.map_cons,List.map_nil]);first | done | rfl | (simp only [List.length_drop,List.length_take];rfl)) ?_;(with_reducible refine (table_Check.calls k a0_0 a0_1 a0_2 _ _ l0_3 t179 _ ?side1 ?side2 A2.out).mono ?_);(case side1 => repeat (first | exact (Kd.C_below HR0_3.out HB.out) | (with_reducible refine Kd.C_alloc ?_ _) | (with_reducible refine Kd.C_drewN ?_ _) | (with_reducible refine Kd.C_drew ?_)));(case side2 => exact HC0_3.out);rintro e w44 ⟨rfl,hb⟩;refine ⟨_,rfl,?_⟩;have n0_:=Aside0.mk (blk_below (g:=gb178) (o:=.cells #[.int .i64 a0_0,.int .i64 a0_1,.int .i64 a0_2,.slice A0_3 l0_3.length c0_3] 69 (0,0)) (by (with_reducible repeat (first | refine blk_drewN ?_ _ | refine blk_drew ?_ | refine blk_alloc ?_ _));exact BK178.out) hb);have n1_:=Aside0.mk (below_step (by repeat (first | (with_reducible first | exact HB.out | apply below_alloc | apply pw_below_drewN | apply below_drew1 | refine below_set ?_ GE178.out) | exact HB.out)) hb);clear BK178;clear HB;have BK178:=n0_;have HB:=n1_;clear n0_ n1_;(try clear hb);(try clear hb2);(try clear hk);(try clear hi)))
  (try simp only [Act.put,List.setIfInBounds_toArray,List.set_cons_zero,List.set_cons_succ])
  go_cut [2] (fun v2 wc => ∃ (kq : Nat) (x2_40 : Int),v2 = .int .i64 x2_40 ∧ Aside0 (table_Eldest.j0 kq x2_40 = some r) ∧ Aside0 (kq ≤ k) ∧ Aside0 (wc.heap[gb178]? = some (.cells #[.int .i64 a0_0,.int .i64 a0_1,.int .i64 a0_2,(.slice A0_3 l0_3.length c0_3)] 69 (0,0))) ∧ Aside0 (Below w.heap.size w wc))
  case first =>
   have H:=HC41.out
   clear HC41
   have H':=Aside0.mk H
   clear H
   go_wp2
   go_meet
   case rel => exact ⟨_,(0),(by first | rfl | (simp;done) | (simp [*];done)),H',⟨by first | omega | exact Nat.le_refl _⟩,⟨by (with_reducible repeat (first | refine blk_drewN ?_ _ | refine blk_drew ?_ | refine blk_alloc ?_ _));exact BK178.out⟩,⟨by repeat (first | (with_reducible first | exact HB.out | apply below_alloc | apply pw_below_drewN | apply below_drew1 | refine below_set ?_ GE178.out) | exact HB.out)⟩⟩
  case rest =>
   clear HC41
   try clear c1
   try clear p1
   try clear q1
   try clear hx1
   try clear c2
   try clear p2
   try clear c3
   try clear c3b0
   try clear c3b1
   try clear c4
   try clear c6
   try clear p6
   try clear c8
   try clear c11
   try clear c11b0
   try clear c12
   try clear c12b0
   try clear c13
   try clear c13b0
   try clear c14
   try clear c14b0
   try clear c14b1
   try clear c15
   try clear c15b0
   try clear c15b1
   try clear c17
   try clear c18
   try clear p18
   try clear q18
   try clear hx18
   try clear c20
   try clear c22
   try clear c22b0
   try clear c24
   try clear c25
   try clear c27
   try clear c30
   try clear c31
   try clear c33
   try clear c36
   try clear c37
   try clear c39
   try clear c43
   try clear hcz10_0
   try clear hcz10_1
   try clear hcz10_2
   try clear hcz10_3
   try clear hcz19_0
   try clear hcz19_1
   try clear hcz19_2
   try clear hcz19_3
   try clear hcz21_0
   try clear hcz21_1
   try clear hcz21_2
   try clear hcz21_3
   try clear hcz26_0
   try clear hcz26_1
   try clear hcz26_2
   try clear hcz26_3
   try clear hcz28_0
   try clear hcz28_1
   try clear hcz28_2
   try clear hcz28_3
   try clear hcz32_0
   try clear hcz32_1
   try clear hcz32_2
   try clear hcz32_3
   try clear hcz34_0
   try clear hcz34_1
   try clear hcz34_2
   try clear hcz34_3
   try clear hcz38_0
   try clear hcz38_1
   try clear hcz38_2
   try clear hcz38_3
   try clear hcz40_0
   try clear hcz40_1
   try clear hcz40_2
   try clear hcz40_3
   try clear hcz43_0
   try clear hcz43_1
   try clear hcz43_2
   try clear hcz43_3
   try clear hcz5_0
   try clear hcz5_1
   try clear hcz5_2
   try clear hcz5_3
   try clear hcz9_0
   try clear hcz9_1
   try clear hcz9_2
   try clear hcz9_3
   try clear hfz10_0
   try clear hfz10_1
   try clear hfz10_2
   try clear hfz10_3
   try clear hfz19_0
   try clear hfz19_1
   try clear hfz19_2
   try clear hfz19_3
   try clear hfz21_0
   try clear hfz21_1
   try clear hfz21_2
   try clear hfz21_3
   try clear hfz26_0
   try clear hfz26_1
   try clear hfz26_2
   try clear hfz26_3
   try clear hfz28_0
   try clear hfz28_1
   try clear hfz28_2
   try clear hfz28_3
   try clear hfz32_0
   try clear hfz32_1
   try clear hfz32_2
   try clear hfz32_3
   try clear hfz34_0
   try clear hfz34_1
   try clear hfz34_2
   try clear hfz34_3
   try clear hfz38_0
   try clear hfz38_1
   try clear hfz38_2
   try clear hfz38_3
   try clear hfz40_0
   try clear hfz40_1
   try clear hfz40_2
   try clear hfz40_3
   try clear hfz43_0
   try clear hfz43_1
   try clear hfz43_2
   try clear hfz43_3
   try clear hfz5_0
   try clear hfz5_1
   try clear hfz5_2
   try clear hfz5_3
   try clear hfz9_0
   try clear hfz9_1
   try clear hfz9_2
   try clear hfz9_3
   try clear hx181_0
   try clear hx181_1
   try clear hx181_2
   try clear hx181_3
   try clear p181
   try clear p2
   try clear q181
   obtain ⟨kq,x2_40,rfl,HA,HJ40,BK178,HB⟩:=hcut
   cases kq with
   | zero => exact absurd HA.out (by simp [table_Eldest.j0])
   | succ kj40 =>
    have H:=HA.out
    clear HA
    simp only [table_Eldest.j0] at H
    obtain rfl:=Option.some.inj H
    go_wp2
    go_ret
    exact ⟨by first | rfl | (simp [errW_none,errW_some] <;> rfl) | (simp [*,errW_none,errW_some] <;> rfl),by repeat (first | (with_reducible first | exact HB.out | apply below_alloc | apply pw_below_drewN | apply below_drew1 | refine below_set ?_ GE178.out) | exact HB.out)⟩
end Go.Proofs.Ytbmcbhpkefjhbaa.P
namespace Go.Proofs.Ytbmcbhpkefjhbaa.P
open Go.RowKit Go.Proofs.YtbmcbhpkefjhbaaW.PrintWords Go.Proofs.YtbmcbhpkefjhbaaW.PrintLast Go.Proofs.YtbmcbhpkefjhbaaW.PrintMore
attribute [local go_sem] max2_int min2_int max_two min_two max_three min_three max_four min_four   -- for this text's walks alone
attribute [local go_sem] run_store_float
set_option linter.unusedVariables false
set_option linter.unusedSimpArgs false
attribute [local go_sem high] eqA112
mutual
def humusref11_Same.j0 : Nat → Bool → Int → Int → Int → List (S112) → Int → Int → Int → List (S112) → Option (Bool)
 | 0,_,_,_,_,_,_,_,_,_ => none
 | k + 1,x33,x275000,x275001,x275002,x275003,x276000,x276001,x276002,x276003 => if x33 = true then (some false) else (humusref11_Same.l0 k 0 x275000 x275001 x275002 x275003 x276000 x276001 x276002 x276003)
def humusref11_Same.l0 : Nat → Int → Int → Int → Int → List (S112) → Int → Int → Int → List (S112) → Option (Bool)
 | 0,_,_,_,_,_,_,_,_,_ => none
 | k + 1,x5,x275000,x275001,x275002,x275003,x276000,x276001,x276002,x276003 => if x5 < (x275003.length : Int) then (if 0 ≤ x5 then (if x5 < (x276003.length : Int) then (if (!(((rd_T112 x275003 x5).f0) == ((rd_T112 x276003 x5).f0)) || (!(((rd_T112 x275003 x5).f1) == ((rd_T112 x276003 x5).f1)) || (!(((rd_T112 x275003 x5).f2) == ((rd_T112 x276003 x5).f2)) || (!(((rd_T112 x275003 x5).f3) == ((rd_T112 x276003 x5).f3)))))) = true then (some false) else (humusref11_Same.l0 k (wrap64 (x5 + 1)) x275000 x275001 x275002 x275003 x276000 x276001 x276002 x276003)) else (none)) else (none)) else (some true)
end
def humusref11_Same.f (k : Nat) (a0_0 : Int) (a0_1 : Int) (a0_2 : Int) (l0_3 : List (S112)) (a1_0 : Int) (a1_1 : Int) (a1_2 : Int) (l1_3 : List (S112)) : Option (Bool):=if a0_0 = a1_0 then (if a0_1 = a1_1 then (if a0_2 = a1_2 then (humusref11_Same.j0 k ((l0_3.length : Int) != (l1_3.length : Int)) a0_0 a0_1 a0_2 l0_3 a1_0 a1_1 a1_2 l1_3) else (humusref11_Same.j0 k true a0_0 a0_1 a0_2 l0_3 a1_0 a1_1 a1_2 l1_3)) else (humusref11_Same.j0 k true a0_0 a0_1 a0_2 l0_3 a1_0 a1_1 a1_2 l1_3)) else (humusref11_Same.j0 k true a0_0 a0_1 a0_2 l0_3 a1_0 a1_1 a1_2 l1_3)
set_option maxHeartbeats 8000000 in
set_option maxRecDepth 100000 in
theorem humusref11_Same.calls (k : Nat) (a0_0 : Int) (a0_1 : Int) (a0_2 : Int) (A0_3 : Option Addr) (c0_3 : Nat) (l0_3 : List (S112)) (a1_0 : Int) (a1_1 : Int) (a1_2 : Int) (A1_3 : Option Addr) (c1_3 : Nat) (l1_3 : List (S112)) (r : Bool) (w : World) (hr0_3 : Kd.C k112 w A0_3 l0_3.length l0_3) (hc0_3 : l0_3.length ≤ c0_3) (hr1_3 : Kd.C k112 w A1_3 l1_3.length l1_3) (hc1_3 : l1_3.length ≤ c1_3) (h : humusref11_Same.f k a0_0 a0_1 a0_2 l0_3 a1_0 a1_1 a1_2 l1_3 = some r) :
  Calls Try.prog 42 #[.agg #[.int .i64 a0_0,.int .i64 a0_1,.int .i64 a0_2,.slice A0_3 l0_3.length c0_3],.agg #[.int .i64 a1_0,.int .i64 a1_1,.int .i64 a1_2,.slice A1_3 l1_3.length c1_3]] w fun e w' => e = .returned (.bool r) ∧ Below w.heap.size w w':=by
 have hu69:=Try.underlying69
 have hu112:=Try.underlying112
 have HR0_3:=Aside0.mk hr0_3
 have HC0_3:=Aside0.mk hc0_3
 clear hr0_3 hc0_3
 have HR1_3:=Aside0.mk hr1_3
 have HC1_3:=Aside0.mk hc1_3
 clear hr1_3 hc1_3
 have HB:=Aside0.mk (Below.refl w.heap.size w)
 have H : (if a0_0 = a1_0 then (if a0_1 = a1_1 then (if a0_2 = a1_2 then (humusref11_Same.j0 k ((l0_3.length : Int) != (l1_3.length : Int)) a0_0 a0_1 a0_2 l0_3 a1_0 a1_1 a1_2 l1_3) else (humusref11_Same.j0 k true a0_0 a0_1 a0_2 l0_3 a1_0 a1_1 a1_2 l1_3)) else (humusref11_Same.j0 k true a0_0 a0_1 a0_2 l0_3 a1_0 a1_1 a1_2 l1_3)) else (humusref11_Same.j0 k true a0_0 a0_1 a0_2 l0_3 a1_0 a1_1 a1_2 l1_3)) = some r:=h
 clear h
 have HC3:=Aside0.mk H
 clear H
 go_enter Try.func42,Try.ntmps42
 go_upto_region 1 with (first | ((with_reducible refine gate_dst (N:=2) rfl ?_);(try (refine gate_guard (by rfl) ?_;dsimp only));refine box_event ?hg (N:=2) ?hd (cs:=#[.int .i64 a0_0,.int .i64 a0_1,.int .i64 a0_2,.slice A0_3 l0_3.length c0_3]) (t:=69) ?hr ?_;(case hd => rfl);(case hg => rfl);(case hr => first | (go_simp;done) | (go_simp;rfl));intro gb274 hg w4 hbox hb;have n0_:=Aside0.mk (below_step (by repeat (first | (with_reducible first | exact HB.out | apply below_alloc | apply pw_below_drewN | apply below_drew1) | exact HB.out)) hb);have n1_:=Aside0.mk (hbox);have n2_:=Aside0.mk ((by rw [hg];exact (below_size (by repeat (first | (with_reducible first | exact HB.out | apply below_alloc | apply pw_below_drewN | apply below_drew1) | exact HB.out))) : w.heap.size ≤ gb274));have n3_:=Aside0.mk ((by rw [hg];exact (below_size (by repeat (first | (with_reducible first | exact HB.out | apply below_alloc | apply pw_below_drewN | apply below_drew1) | exact HB.out))) : w.heap.size ≤ gb274));clear HB;have HB:=n0_;have BK274:=n1_;have GW274:=n2_;have GE274:=n3_;clear n0_ n1_ n2_ n3_;clear hb hbox hg) | ((with_reducible refine gate_dst (N:=3) rfl ?_);(try (refine gate_guard (by rfl) ?_;dsimp only));refine box_event ?hg (N:=3) ?hd (cs:=#[.int .i64 a1_0,.int .i64 a1_1,.int .i64 a1_2,.slice A1_3 l1_3.length c1_3]) (t:=69) ?hr ?_;(case hd => rfl);(case hg => rfl);(case hr => first | (go_simp;done) | (go_simp;rfl));intro gb275 hg w5 hbox hb;have n0_:=Aside0.mk (blk_below (g:=gb274) (o:=.cells #[.int .i64 a0_0,.int .i64 a0_1,.int .i64 a0_2,.slice A0_3 l0_3.length c0_3] 69 (0,0)) (by (with_reducible repeat (first | refine blk_drewN ?_ _ | refine blk_drew ?_ | refine blk_alloc ?_ _));exact BK274.out) hb);have n1_:=Aside0.mk (below_step (by repeat (first | (with_reducible first | exact HB.out | apply below_alloc | apply pw_below_drewN | apply below_drew1 | refine below_set ?_ GE274.out) | exact HB.out)) hb);have n2_:=Aside0.mk (hbox);have n3_:=Aside0.mk ((by rw [hg];exact (below_size (by repeat (first | (with_reducible first | exact HB.out | apply below_alloc | apply pw_below_drewN | apply below_drew1 | refine below_set ?_ GE274.out) | exact HB.out))) : w.heap.size ≤ gb275));have n4_:=Aside0.mk ((by rw [hg];exact (below_size (by repeat (first | (with_reducible first | exact HB.out | apply below_alloc | apply pw_below_drewN | apply below_drew1 | refine below_set ?_ GE274.out) | exact HB.out))) : w.heap.size ≤ gb275));have n5_:=Aside0.mk ((by rw [hg];exact Nat.ne_of_lt (blk_lt (g:=gb274) (o:=.cells #[.int .i64 a0_0,.int .i64 a0_1,.int .i64 a0_2,.slice A0_3 l0_3.length c0_3] 69 (0,0)) (by (with_reducible repeat (first | refine blk_drewN ?_ _ | refine blk_drew ?_ | refine blk_alloc ?_ _));exact BK274.out)) : gb274 ≠ gb275));have n6_:=Aside0.mk ((by rw [hg];exact Nat.ne_of_gt (blk_lt (g:=gb274) (o:=.cells #[.int .i64 a0_0,.int .i64 a0_1,.int .i64 a0_2,.slice A0_3 l0_3.length c0_3] 69 (0,0)) (by (with_reducible repeat (first | refine blk_drewN ?_ _ | refine blk_drew ?_ | refine blk_alloc ?_ _));exact BK274.out)) : gb275 ≠ gb274));clear BK274;clear HB;have BK274:=n0_;have HB:=n1_;have BK275:=n2_;have GW275:=n3_;have GE275:=n4_;have NB274_275:=n5_;have NB275_274:=n6_;clear n0_ n1_ n2_ n3_ n4_ n5_ n6_;clear hb hbox hg))
 repeat (go_quiet (first | ((with_reducible refine gate_dst (N:=2) rfl ?_);(try (refine gate_guard (by rfl) ?_;dsimp only));refine box_event ?hg (N:=2) ?hd (cs:=#[.int .i64 a0_0,.int .i64 a0_1,.int .i64 a0_2,.slice A0_3 l0_3.length c0_3]) (t:=69) ?hr ?_;(case hd => rfl);(case hg => rfl);(case hr => first | (go_simp;done) | (go_simp;rfl));intro gb274 hg w4 hbox hb;have n0_:=Aside0.mk (below_step (by repeat (first | (with_reducible first | exact HB.out | apply below_alloc | apply pw_below_drewN | apply below_drew1) | exact HB.out)) hb);have n1_:=Aside0.mk (hbox);have n2_:=Aside0.mk ((by rw [hg];exact (below_size (by repeat (first | (with_reducible first | exact HB.out | apply below_alloc | apply pw_below_drewN | apply below_drew1) | exact HB.out))) : w.heap.size ≤ gb274));have n3_:=Aside0.mk ((by rw [hg];exact (below_size (by repeat (first | (with_reducible first | exact HB.out | apply below_alloc | apply pw_below_drewN | apply below_drew1) | exact HB.out))) : w.heap.size ≤ gb274));clear HB;have HB:=n0_;have BK274:=n1_;have GW274:=n2_;have GE274:=n3_;clear n0_ n1_ n2_ n3_;clear hb hbox hg) | ((with_reducible refine gate_dst (N:=3) rfl ?_);(try (refine gate_guard (by rfl) ?_;dsimp only));refine box_event ?hg (N:=3) ?hd (cs:=#[.int .i64 a1_0,.int .i64 a1_1,.int .i64 a1_2,.slice A1_3 l1_3.length c1_3]) (t:=69) ?hr ?_;(case hd => rfl);(case hg => rfl);(case hr => first | (go_simp;done) | (go_simp;rfl));intro gb275 hg w5 hbox hb;have n0_:=Aside0.mk (blk_below (g:=gb274) (o:=.cells #[.int .i64 a0_0,.int .i64 a0_1,.int .i64 a0_2,.slice A0_3 l0_3.length c0_3] 69 (0,0)) (by (with_reducible repeat (first | refine blk_drewN ?_ _ | refine blk_drew ?_ | refine blk_alloc ?_ _));exact BK274.out) hb);have n1_:=Aside0.mk (below_step (by repeat (first | (with_reducible first | exact HB.out | apply below_alloc | apply pw_below_drewN | apply below_drew1 | refine below_set ?_ GE274.out) | exact HB.out)) hb);have n2_:=Aside0.mk (hbox);have n3_:=Aside0.mk ((by rw [hg];exact (below_size (by repeat (first | (with_reducible first | exact HB.out | apply below_alloc | apply pw_below_drewN | apply below_drew1 | refine below_set ?_ GE274.out) | exact HB.out))) : w.heap.size ≤ gb275));have n4_:=Aside0.mk ((by rw [hg];exact (below_size (by repeat (first | (with_reducible first | exact HB.out | apply below_alloc | apply pw_below_drewN | apply below_drew1 | refine below_set ?_ GE274.out) | exact HB.out))) : w.heap.size ≤ gb275));have n5_:=Aside0.mk ((by rw [hg];exact Nat.ne_of_lt (blk_lt (g:=gb274) (o:=.cells #[.int .i64 a0_0,.int .i64 a0_1,.int .i64 a0_2,.slice A0_3 l0_3.length c0_3] 69 (0,0)) (by (with_reducible repeat (first | refine blk_drewN ?_ _ | refine blk_drew ?_ | refine blk_alloc ?_ _));exact BK274.out)) : gb274 ≠ gb275));have n6_:=Aside0.mk ((by rw [hg];exact Nat.ne_of_gt (blk_lt (g:=gb274) (o:=.cells #[.int .i64 a0_0,.int .i64 a0_1,.int .i64 a0_2,.slice A0_3 l0_3.length c0_3] 69 (0,0)) (by (with_reducible repeat (first | refine blk_drewN ?_ _ | refine blk_drew ?_ | refine blk_alloc ?_ _));exact BK274.out)) : gb275 ≠ gb274));clear BK274;clear HB;have BK274:=n0_;have HB:=n1_;have BK275:=n2_;have GW275:=n3_;have GE275:=n4_;have NB274_275:=n5_;have NB275_274:=n6_;clear n0_ n1_ n2_ n3_ n4_ n5_ n6_;clear hb hbox hg));go_upto_region 1 with (first | ((with_reducible refine gate_dst (N:=2) rfl ?_);(try (refine gate_guard (by rfl) ?_;dsimp only));refine box_event ?hg (N:=2) ?hd (cs:=#[.int .i64 a0_0,.int .i64 a0_1,.int .i64 a0_2,.slice A0_3 l0_3.length c0_3]) (t:=69) ?hr ?_;(case hd => rfl);(case hg => rfl);(case hr => first | (go_simp;done) | (go_simp;rfl));intro gb274 hg w4 hbox hb;have n0_:=Aside0.mk (below_step (by repeat (first | (with_reducible first | exact HB.out | apply below_alloc | apply pw_below_drewN | apply below_drew1) | exact HB.out)) hb);have n1_:=Aside0.mk (hbox);have n2_:=Aside0.mk ((by rw [hg];exact (below_size (by repeat (first | (with_reducible first | exact HB.out | apply below_alloc | apply pw_below_drewN | apply below_drew1) | exact HB.out))) : w.heap.size ≤ gb274));have n3_:=Aside0.mk ((by rw [hg];exact (below_size (by repeat (first | (with_reducible first | exact HB.out | apply below_alloc | apply pw_below_drewN | apply below_drew1) | exact HB.out))) : w.heap.size ≤ gb274));clear HB;have HB:=n0_;have BK274:=n1_;have GW274:=n2_;have GE274:=n3_;clear n0_ n1_ n2_ n3_;clear hb hbox hg) | ((with_reducible refine gate_dst (N:=3) rfl ?_);(try (refine gate_guard (by rfl) ?_;dsimp only));refine box_event ?hg (N:=3) ?hd (cs:=#[.int .i64 a1_0,.int .i64 a1_1,.int .i64 a1_2,.slice A1_3 l1_3.length c1_3]) (t:=69) ?hr ?_;(case hd => rfl);(case hg => rfl);(case hr => first | (go_simp;done) | (go_simp;rfl));intro gb275 hg w5 hbox hb;have n0_:=Aside0.mk (blk_below (g:=gb274) (o:=.cells #[.int .i64 a0_0,.int .i64 a0_1,.int .i64 a0_2,.slice A0_3 l0_3.length c0_3] 69 (0,0)) (by (with_reducible repeat (first | refine blk_drewN ?_ _ | refine blk_drew ?_ | refine blk_alloc ?_ _));exact BK274.out) hb);have n1_:=Aside0.mk (below_step (by repeat (first | (with_reducible first | exact HB.out | apply below_alloc | apply pw_below_drewN | apply below_drew1 | refine below_set ?_ GE274.out) | exact HB.out)) hb);have n2_:=Aside0.mk (hbox);have n3_:=Aside0.mk ((by rw [hg];exact (below_size (by repeat (first | (with_reducible first | exact HB.out | apply below_alloc | apply pw_below_drewN | apply below_drew1 | refine below_set ?_ GE274.out) | exact HB.out))) : w.heap.size ≤ gb275));have n4_:=Aside0.mk ((by rw [hg];exact (below_size (by repeat (first | (with_reducible first | exact HB.out | apply below_alloc | apply pw_below_drewN | apply below_drew1 | refine below_set ?_ GE274.out) | exact HB.out))) : w.heap.size ≤ gb275));have n5_:=Aside0.mk ((by rw [hg];exact Nat.ne_of_lt (blk_lt (g:=gb274) (o:=.cells #[.int .i64 a0_0,.int .i64 a0_1,.int .i64 a0_2,.slice A0_3 l0_3.length c0_3] 69 (0,0)) (by (with_reducible repeat (first | refine blk_drewN ?_ _ | refine blk_drew ?_ | refine blk_alloc ?_ _));exact BK274.out)) : gb274 ≠ gb275));have n6_:=Aside0.mk ((by rw [hg];exact Nat.ne_of_gt (blk_lt (g:=gb274) (o:=.cells #[.int .i64 a0_0,.int .i64 a0_1,.int .i64 a0_2,.slice A0_3 l0_3.length c0_3] 69 (0,0)) (by (with_reducible repeat (first | refine blk_drewN ?_ _ | refine blk_drew ?_ | refine blk_alloc ?_ _));exact BK274.out)) : gb275 ≠ gb274));clear BK274;clear HB;have BK274:=n0_;have HB:=n1_;have BK275:=n2_;have GW275:=n3_;have GE275:=n4_;have NB274_275:=n5_;have NB275_274:=n6_;clear n0_ n1_ n2_ n3_ n4_ n5_ n6_;clear hb hbox hg)))
 (try simp only [Act.put,List.setIfInBounds_toArray,List.set_cons_zero,List.set_cons_succ])
 go_cut [33] (fun v33 wc => ∃ (kq : Nat) (x33_2 : Bool),v33 = .bool x33_2 ∧ Aside0 (humusref11_Same.j0 kq x33_2 a0_0 a0_1 a0_2 l0_3 a1_0 a1_1 a1_2 l1_3 = some r) ∧ Aside0 (kq ≤ k) ∧ Aside0 (wc.heap[gb274]? = some (.cells #[.int .i64 a0_0,.int .i64 a0_1,.int .i64 a0_2,(.slice A0_3 l0_3.length c0_3)] 69 (0,0))) ∧ Aside0 (wc.heap[gb275]? = some (.cells #[.int .i64 a1_0,.int .i64 a1_1,.int .i64 a1_2,(.slice A1_3 l1_3.length c1_3)] 69 (0,0))) ∧ Aside0 (Below w.heap.size w wc))
 case first =>
  have H:=HC3.out
  clear HC3
  by_cases c6 : a0_0 = a1_0
  ·rw [if_pos c6] at H
   have c6b0 : (a0_0 == a1_0) = true:=beq_iff_eq.mpr c6
   have c6b1 : (a0_0 != a1_0) = false:=bne_eq_false_iff_eq.mpr c6
   clear c6
   (first | rw [c6b0] | (simp only [i64_w,i32_w];rw [c6b0]) | skip)
   by_cases c7 : a0_1 = a1_1
   ·rw [if_pos c7] at H
    have c7b0 : (a0_1 == a1_1) = true:=beq_iff_eq.mpr c7
    have c7b1 : (a0_1 != a1_1) = false:=bne_eq_false_iff_eq.mpr c7
    clear c7
    by_cases c8 : a0_2 = a1_2
    ·rw [if_pos c8] at H
     have c8b0 : (a0_2 == a1_2) = true:=beq_iff_eq.mpr c8
     have c8b1 : (a0_2 != a1_2) = false:=bne_eq_false_iff_eq.mpr c8
     clear c8
     have H':=Aside0.mk H
     clear H
     have hnb9:=NB274_275.out
     have hnc9:=NB275_274.out
     obtain ⟨hcz10_0,hcz10_1,hcz10_2,hcz10_3⟩:=blkc_4 BK274.out
     obtain ⟨hfz10_0,hfz10_1,hfz10_2,hfz10_3⟩:=blkz_4 BK274.out
     obtain ⟨hcz11_0,hcz11_1,hcz11_2,hcz11_3⟩:=blkc_4 BK275.out
     obtain ⟨hfz11_0,hfz11_1,hfz11_2,hfz11_3⟩:=blkz_4 BK275.out
     go_wp2
     repeat (go_quiet (fail);try go_wp2)
     go_meet
     case rel => exact ⟨_,(((l0_3.length : Int) != (l1_3.length : Int))),(by first | rfl | (simp;done) | (simp [*];done)),H',⟨by first | omega | exact Nat.le_refl _⟩,⟨by (with_reducible repeat (first | refine blk_drewN ?_ _ | refine blk_drew ?_ | refine blk_alloc ?_ _));exact BK274.out⟩,⟨by (with_reducible repeat (first | refine blk_drewN ?_ _ | refine blk_drew ?_ | refine blk_alloc ?_ _));exact BK275.out⟩,⟨by repeat (first | (with_reducible first | exact HB.out | apply below_alloc | apply pw_below_drewN | apply below_drew1 | refine below_set ?_ GE274.out | refine below_set ?_ GE275.out) | exact HB.out)⟩⟩
    ·rw [if_neg c8] at H
     have c8b0 : (a0_2 == a1_2) = false:=beq_eq_false_iff_ne.mpr c8
     have c8b1 : (a0_2 != a1_2) = true:=bne_iff_ne.mpr c8
     have H':=Aside0.mk H
     clear H
     have hnb12:=NB274_275.out
     have hnc12:=NB275_274.out
     obtain ⟨hcz13_0,hcz13_1,hcz13_2,hcz13_3⟩:=blkc_4 BK274.out
     obtain ⟨hfz13_0,hfz13_1,hfz13_2,hfz13_3⟩:=blkz_4 BK274.out
     obtain ⟨hcz14_0,hcz14_1,hcz14_2,hcz14_3⟩:=blkc_4 BK275.out
     obtain ⟨hfz14_0,hfz14_1,hfz14_2,hfz14_3⟩:=blkz_4 BK275.out
     go_wp2
     repeat (go_quiet (fail);try go_wp2)
     go_meet
     case rel => exact ⟨_,(true),(by first | rfl | (simp;done) | (simp [*];done)),H',⟨by first | omega | exact Nat.le_refl _⟩,⟨by (with_reducible repeat (first | refine blk_drewN ?_ _ | refine blk_drew ?_ | refine blk_alloc ?_ _));exact BK274.out⟩,⟨by (with_reducible repeat (first | refine blk_drewN ?_ _ | refine blk_drew ?_ | refine blk_alloc ?_ _));exact BK275.out⟩,⟨by repeat (first | (with_reducible first | exact HB.out | apply below_alloc | apply pw_below_drewN | apply below_drew1 | refine below_set ?_ GE274.out | refine below_set ?_ GE275.out) | exact HB.out)⟩⟩
   ·rw [if_neg c7] at H
    have c7b0 : (a0_1 == a1_1) = false:=beq_eq_false_iff_ne.mpr c7
    have c7b1 : (a0_1 != a1_1) = true:=bne_iff_ne.mpr c7
    have H':=Aside0.mk H
    clear H
    have hnb15:=NB274_275.out
    have hnc15:=NB275_274.out
    obtain ⟨hcz16_0,hcz16_1,hcz16_2,hcz16_3⟩:=blkc_4 BK274.out
    obtain ⟨hfz16_0,hfz16_1,hfz16_2,hfz16_3⟩:=blkz_4 BK274.out
    obtain ⟨hcz17_0,hcz17_1,hcz17_2,hcz17_3⟩:=blkc_4 BK275.out
    obtain ⟨hfz17_0,hfz17_1,hfz17_2,hfz17_3⟩:=blkz_4 BK275.out
    go_wp2
    repeat (go_quiet (fail);try go_wp2)
    go_meet
    case rel => exact ⟨_,(true),(by first | rfl | (simp;done) | (simp [*];done)),H',⟨by first | omega | exact Nat.le_refl _⟩,⟨by (with_reducible repeat (first | refine blk_drewN ?_ _ | refine blk_drew ?_ | refine blk_alloc ?_ _));exact BK274.out⟩,⟨by (with_reducible repeat (first | refine blk_drewN ?_ _ | refine blk_drew ?_ | refine blk_alloc ?_ _));exact BK275.out⟩,⟨by repeat (first | (with_reducible first | exact HB.out | apply below_alloc | apply pw_below_drewN | apply below_drew1 | refine below_set ?_ GE274.out | refine below_set ?_ GE275.out) | exact HB.out)⟩⟩
  ·rw [if_neg c6] at H
   have c6b0 : (a0_0 == a1_0) = false:=beq_eq_false_iff_ne.mpr c6
   have c6b1 : (a0_0 != a1_0) = true:=bne_iff_ne.mpr c6
   (first | rw [c6b0] | (simp only [i64_w,i32_w];rw [c6b0]) | skip)
   have H':=Aside0.mk H
   clear H
   have hnb18:=NB274_275.out
   have hnc18:=NB275_274.out
   obtain ⟨hcz19_0,hcz19_1,hcz19_2,hcz19_3⟩:=blkc_4 BK274.out
   obtain ⟨hfz19_0,hfz19_1,hfz19_2,hfz19_3⟩:=blkz_4 BK274.out
   obtain ⟨hcz20_0,hcz20_1,hcz20_2,hcz20_3⟩:=blkc_4 BK275.out
   obtain ⟨hfz20_0,hfz20_1,hfz20_2,hfz20_3⟩:=blkz_4 BK275.out
   go_wp2
   repeat (go_quiet (fail);try go_wp2)
   go_meet
   case rel => exact ⟨_,(true),(by first | rfl | (simp;done) | (simp [*];done)),H',⟨by first | omega | exact Nat.le_refl _⟩,⟨by (with_reducible repeat (first | refine blk_drewN ?_ _ | refine blk_drew ?_ | refine blk_alloc ?_ _));exact BK274.out⟩,⟨by (with_reducible repeat (first | refine blk_drewN ?_ _ | refine blk_drew ?_ | refine blk_alloc ?_ _));exact BK275.out⟩,⟨by repeat (first | (with_reducible first | exact HB.out | apply below_alloc | apply pw_below_drewN | apply below_drew1 | refine below_set ?_ GE274.out | refine below_set ?_ GE275.out) | exact HB.out)⟩⟩
 case rest =>
  clear HC3
  try clear c1
  try clear p2
  try clear c4
  try clear c6
  try clear c6b0
  try clear c6b1
  try clear c7
  try clear c7b0
  try clear c7b1
  try clear c8
  try clear c8b0
  try clear c8b1
  try clear c9
  try clear c12
  try clear c15
  try clear c18
  try clear hcz10_0
  try clear hcz10_1
  try clear hcz10_2
  try clear hcz10_3
  try clear hcz11_0
  try clear hcz11_1
  try clear hcz11_2
  try clear hcz11_3
  try clear hcz13_0
  try clear hcz13_1
  try clear hcz13_2
  try clear hcz13_3
  try clear hcz14_0
  try clear hcz14_1
  try clear hcz14_2
  try clear hcz14_3
  try clear hcz16_0
  try clear hcz16_1
  try clear hcz16_2
  try clear hcz16_3
  try clear hcz17_0
  try clear hcz17_1
  try clear hcz17_2
  try clear hcz17_3
  try clear hcz19_0
  try clear hcz19_1
  try clear hcz19_2
  try clear hcz19_3
  try clear hcz20_0
  try clear hcz20_1
  try clear hcz20_2
  try clear hcz20_3
  try clear hfz10_0
  try clear hfz10_1
  try clear hfz10_2
  try clear hfz10_3
  try clear hfz11_0
  try clear hfz11_1
  try clear hfz11_2
  try clear hfz11_3
  try clear hfz13_0
  try clear hfz13_1
  try clear hfz13_2
  try clear hfz13_3
  try clear hfz14_0
  try clear hfz14_1
  try clear hfz14_2
  try clear hfz14_3
  try clear hfz16_0
  try clear hfz16_1
  try clear hfz16_2
  try clear hfz16_3
  try clear hfz17_0
  try clear hfz17_1
  try clear hfz17_2
  try clear hfz17_3
  try clear hfz19_0
  try clear hfz19_1
  try clear hfz19_2
  try clear hfz19_3
  try clear hfz20_0
  try clear hfz20_1
  try clear hfz20_2
  try clear hfz20_3
  obtain ⟨kq,x33_2,rfl,HA,HJ2,BK274,BK275,HB⟩:=hcut
  cases kq with
  | zero => exact absurd HA.out (by simp [humusref11_Same.j0])
  | succ kj2 =>
   have H:=HA.out
   clear HA
   simp only [humusref11_Same.j0] at H
   by_cases c21 : x33_2 = true
   ·subst c21
    have H1 : (some false) = some r:=by rw [if_pos rfl] at H;exact H
    clear H
    have H:=H1
    clear H1
    obtain rfl:=Option.some.inj H
    go_wp2
    repeat (go_quiet (fail);try go_wp2)
    go_ret
    exact ⟨by first | rfl | (simp [errW_none,errW_some] <;> rfl) | (simp [*,errW_none,errW_some] <;> rfl),by repeat (first | (with_reducible first | exact HB.out | apply below_alloc | apply pw_below_drewN | apply below_drew1 | refine below_set ?_ GE274.out | refine below_set ?_ GE275.out) | exact HB.out)⟩
   ·replace c21:=Bool.eq_false_iff.mpr c21
    subst c21
    have H1 : (humusref11_Same.l0 kj2 0 a0_0 a0_1 a0_2 l0_3 a1_0 a1_1 a1_2 l1_3) = some r:=by rw [if_neg (show ¬ (false = true) by decide)] at H;exact H
    clear H
    have H:=H1
    clear H1
    have H':=Aside0.mk H
    clear H
    go_wp2
    repeat (go_quiet (fail);try go_wp2)
    go_loopg [5] kj2 (fun kq v5 w' => ∃ (x5_2 : Int),v5 = .int .i64 x5_2 ∧ Aside0 (humusref11_Same.l0 kq x5_2 a0_0 a0_1 a0_2 l0_3 a1_0 a1_1 a1_2 l1_3 = some r) ∧ Aside0 (kq ≤ kj2) ∧ Aside0 (w'.heap[gb274]? = some (.cells #[.int .i64 a0_0,.int .i64 a0_1,.int .i64 a0_2,(.slice A0_3 l0_3.length c0_3)] 69 (0,0))) ∧ Aside0 (w'.heap[gb275]? = some (.cells #[.int .i64 a1_0,.int .i64 a1_1,.int .i64 a1_2,(.slice A1_3 l1_3.length c1_3)] 69 (0,0))) ∧ Aside0 (Below w.heap.size w w'))
    case atStart => exact ⟨(0),(by first | rfl | (simp;done) | (simp [*];done)),H',⟨Nat.le_refl _⟩,⟨by (with_reducible repeat (first | refine blk_drewN ?_ _ | refine blk_drew ?_ | refine blk_alloc ?_ _));exact BK274.out⟩,⟨by (with_reducible repeat (first | refine blk_drewN ?_ _ | refine blk_drew ?_ | refine blk_alloc ?_ _));exact BK275.out⟩,⟨by repeat (first | (with_reducible first | exact HB.out | apply below_alloc | apply pw_below_drewN | apply below_drew1 | refine below_set ?_ GE274.out | refine below_set ?_ GE275.out) | exact HB.out)⟩⟩
    case round =>
     clear H'
     try clear c1
     try clear c2
     try clear p2
     try clear c4
     try clear c6
     try clear c6b0
     try clear c6b1
     try clear c7
     try clear c7b0
     try clear c7b1
     try clear c8
     try clear c8b0
     try clear c8b1
     try clear c9
     try clear c12
     try clear c15
     try clear c18
     try clear c21
     try clear hcz10_0
     try clear hcz10_1
     try clear hcz10_2
     try clear hcz10_3
     try clear hcz11_0
     try clear hcz11_1
     try clear hcz11_2
     try clear hcz11_3
     try clear hcz13_0
     try clear hcz13_1
     try clear hcz13_2
     try clear hcz13_3
     try clear hcz14_0
     try clear hcz14_1
     try clear hcz14_2
     try clear hcz14_3
     try clear hcz16_0
     try clear hcz16_1
     try clear hcz16_2
     try clear hcz16_3
     try clear hcz17_0
     try clear hcz17_1
     try clear hcz17_2
     try clear hcz17_3
     try clear hcz19_0
     try clear hcz19_1
     try clear hcz19_2
     try clear hcz19_3
     try clear hcz20_0
     try clear hcz20_1
     try clear hcz20_2
     try clear hcz20_3
     try clear hfz10_0
     try clear hfz10_1
     try clear hfz10_2
     try clear hfz10_3
     try clear hfz11_0
     try clear hfz11_1
     try clear hfz11_2
     try clear hfz11_3
     try clear hfz13_0
     try clear hfz13_1
     try clear hfz13_2
     try clear hfz13_3
     try clear hfz14_0
     try clear hfz14_1
     try clear hfz14_2
     try clear hfz14_3
     try clear hfz16_0
     try clear hfz16_1
     try clear hfz16_2
     try clear hfz16_3
     try clear hfz17_0
     try clear hfz17_1
     try clear hfz17_2
     try clear hfz17_3
     try clear hfz19_0
     try clear hfz19_1
     try clear hfz19_2
     try clear hfz19_3
     try clear hfz20_0
     try clear hfz20_1
     try clear hfz20_2
     try clear hfz20_3
     try clear p2
     obtain ⟨x5_2,rfl,HA,HK2,BK274,BK275,HB⟩:=hrel
     cases gk with
     | zero => exact absurd HA.out (by simp [humusref11_Same.l0])
     | succ k2 =>
      have H:=HA.out
      clear HA
      simp only [humusref11_Same.l0] at H
      by_cases c22 : x5_2 < (l0_3.length : Int)
      ·rw [if_pos c22] at H
       have c22b0 : decide (x5_2 < (l0_3.length : Int)) = true:=decide_eq_true c22
       clear c22
       by_cases c23 : 0 ≤ x5_2
       ·rw [if_pos c23] at H
        have c23b0 : decide (0 ≤ x5_2) = true:=decide_eq_true c23
        clear c23
        by_cases c24 : x5_2 < (l1_3.length : Int)
        ·rw [if_pos c24] at H
         have c24b0 : decide (x5_2 < (l1_3.length : Int)) = true:=decide_eq_true c24
         clear c24
         by_cases c25 : (!(((rd_T112 l0_3 x5_2).f0) == ((rd_T112 l1_3 x5_2).f0)) || (!(((rd_T112 l0_3 x5_2).f1) == ((rd_T112 l1_3 x5_2).f1)) || (!(((rd_T112 l0_3 x5_2).f2) == ((rd_T112 l1_3 x5_2).f2)) || (!(((rd_T112 l0_3 x5_2).f3) == ((rd_T112 l1_3 x5_2).f3)))))) = true
         ·rw [if_pos c25] at H
          have c25b0 : (!(((rd_T112 l0_3 x5_2).f0) == ((rd_T112 l1_3 x5_2).f0)) || (!(((rd_T112 l0_3 x5_2).f1) == ((rd_T112 l1_3 x5_2).f1)) || (!(((rd_T112 l0_3 x5_2).f2) == ((rd_T112 l1_3 x5_2).f2)) || (!(((rd_T112 l0_3 x5_2).f3) == ((rd_T112 l1_3 x5_2).f3)))))) = true:=c25
          clear c25
          obtain rfl:=Option.some.inj H
          have hnb26:=NB274_275.out
          have hnc26:=NB275_274.out
          obtain ⟨hcz27_0,hcz27_1,hcz27_2,hcz27_3⟩:=blkc_4 BK274.out
          obtain ⟨hfz27_0,hfz27_1,hfz27_2,hfz27_3⟩:=blkz_4 BK274.out
          have p276 : 0 ≤ (x5_2 : Int):=of_decide_eq_true (by first | (with_reducible assumption) | assumption)
          have q276 : x5_2 < (l0_3.length : Int):=of_decide_eq_true (by first | (with_reducible assumption) | assumption)
          obtain ⟨ad276,e276,hx276_0,hx276_1,hx276_2,hx276_3⟩:=at_T112 HR0_3.out x5_2 p276 q276
          cases e276
          replace hx276_0:=(HB.out.cell (World.block_lt_of_cell? w _ hx276_0)).trans hx276_0
          replace hx276_1:=(HB.out.cell (World.block_lt_of_cell? w _ hx276_1)).trans hx276_1
          replace hx276_2:=(HB.out.cell (World.block_lt_of_cell? w _ hx276_2)).trans hx276_2
          replace hx276_3:=(HB.out.cell (World.block_lt_of_cell? w _ hx276_3)).trans hx276_3
          replace p276:=eq_true p276
          replace q276:=eq_true q276
          obtain ⟨hcz28_0,hcz28_1,hcz28_2,hcz28_3⟩:=blkc_4 BK275.out
          obtain ⟨hfz28_0,hfz28_1,hfz28_2,hfz28_3⟩:=blkz_4 BK275.out
          have p277 : 0 ≤ (x5_2 : Int):=of_decide_eq_true (by first | (with_reducible assumption) | assumption)
          have q277 : x5_2 < (l1_3.length : Int):=of_decide_eq_true (by first | (with_reducible assumption) | assumption)
          obtain ⟨ad277,e277,hx277_0,hx277_1,hx277_2,hx277_3⟩:=at_T112 HR1_3.out x5_2 p277 q277
          cases e277
          replace hx277_0:=(HB.out.cell (World.block_lt_of_cell? w _ hx277_0)).trans hx277_0
          replace hx277_1:=(HB.out.cell (World.block_lt_of_cell? w _ hx277_1)).trans hx277_1
          replace hx277_2:=(HB.out.cell (World.block_lt_of_cell? w _ hx277_2)).trans hx277_2
          replace hx277_3:=(HB.out.cell (World.block_lt_of_cell? w _ hx277_3)).trans hx277_3
          replace p277:=eq_true p277
          replace q277:=eq_true q277
          go_wp2
          repeat (go_quiet (fail);try go_wp2)
          go_ret
          exact ⟨by first | rfl | (simp [errW_none,errW_some] <;> rfl) | (simp [*,errW_none,errW_some] <;> rfl),by repeat (first | (with_reducible first | exact HB.out | apply below_alloc | apply pw_below_drewN | apply below_drew1 | refine below_set ?_ GE274.out | refine below_set ?_ GE275.out) | exact HB.out)⟩
         ·rw [if_neg c25] at H
          have c25b0 : (!(((rd_T112 l0_3 x5_2).f0) == ((rd_T112 l1_3 x5_2).f0)) || (!(((rd_T112 l0_3 x5_2).f1) == ((rd_T112 l1_3 x5_2).f1)) || (!(((rd_T112 l0_3 x5_2).f2) == ((rd_T112 l1_3 x5_2).f2)) || (!(((rd_T112 l0_3 x5_2).f3) == ((rd_T112 l1_3 x5_2).f3)))))) = false:=by simpa using c25
          clear c25
          have H':=Aside0.mk H
          clear H
          have hnb29:=NB274_275.out
          have hnc29:=NB275_274.out
          obtain ⟨hcz30_0,hcz30_1,hcz30_2,hcz30_3⟩:=blkc_4 BK274.out
          obtain ⟨hfz30_0,hfz30_1,hfz30_2,hfz30_3⟩:=blkz_4 BK274.out
          have p276 : 0 ≤ (x5_2 : Int):=of_decide_eq_true (by first | (with_reducible assumption) | assumption)
          have q276 : x5_2 < (l0_3.length : Int):=of_decide_eq_true (by first | (with_reducible assumption) | assumption)
          obtain ⟨ad276,e276,hx276_0,hx276_1,hx276_2,hx276_3⟩:=at_T112 HR0_3.out x5_2 p276 q276
          cases e276
          replace hx276_0:=(HB.out.cell (World.block_lt_of_cell? w _ hx276_0)).trans hx276_0
          replace hx276_1:=(HB.out.cell (World.block_lt_of_cell? w _ hx276_1)).trans hx276_1
          replace hx276_2:=(HB.out.cell (World.block_lt_of_cell? w _ hx276_2)).trans hx276_2
          replace hx276_3:=(HB.out.cell (World.block_lt_of_cell? w _ hx276_3)).trans hx276_3
          replace p276:=eq_true p276
          replace q276:=eq_true q276
          obtain ⟨hcz31_0,hcz31_1,hcz31_2,hcz31_3⟩:=blkc_4 BK275.out
          obtain ⟨hfz31_0,hfz31_1,hfz31_2,hfz31_3⟩:=blkz_4 BK275.out
          have p277 : 0 ≤ (x5_2 : Int):=of_decide_eq_true (by first | (with_reducible assumption) | assumption)
          have q277 : x5_2 < (l1_3.length : Int):=of_decide_eq_true (by first | (with_reducible assumption) | assumption)
          obtain ⟨ad277,e277,hx277_0,hx277_1,hx277_2,hx277_3⟩:=at_T112 HR1_3.out x5_2 p277 q277
          cases e277
          replace hx277_0:=(HB.out.cell (World.block_lt_of_cell? w _ hx277_0)).trans hx277_0
          replace hx277_1:=(HB.out.cell (World.block_lt_of_cell? w _ hx277_1)).trans hx277_1
          replace hx277_2:=(HB.out.cell (World.block_lt_of_cell? w _ hx277_2)).trans hx277_2
          replace hx277_3:=(HB.out.cell (World.block_lt_of_cell? w _ hx277_3)).trans hx277_3
          replace p277:=eq_true p277
          replace q277:=eq_true q277
          go_wp2
          repeat (go_quiet (fail);try go_wp2)
          go_roundg k2
          case measure => have:=HJ2.out;have:=HK2.out;omega
          case rel => exact ⟨(wrap64 (x5_2 + 1)),(by first | rfl | (simp;done) | (simp [*];done)),H',⟨by have:=HJ2.out;have:=HK2.out;omega⟩,⟨by (with_reducible repeat (first | refine blk_drewN ?_ _ | refine blk_drew ?_ | refine blk_alloc ?_ _));exact BK274.out⟩,⟨by (with_reducible repeat (first | refine blk_drewN ?_ _ | refine blk_drew ?_ | refine blk_alloc ?_ _));exact BK275.out⟩,⟨by repeat (first | (with_reducible first | exact HB.out | apply below_alloc | apply pw_below_drewN | apply below_drew1 | refine below_set ?_ GE274.out | refine below_set ?_ GE275.out) | exact HB.out)⟩⟩
        ·rw [if_neg c24] at H
         exact absurd H (by simp)
       ·rw [if_neg c23] at H
        exact absurd H (by simp)
      ·rw [if_neg c22] at H
       have c22b0 : decide (x5_2 < (l0_3.length : Int)) = false:=decide_eq_false c22
       clear c22
       obtain rfl:=Option.some.inj H
       have hnb32:=NB274_275.out
       have hnc32:=NB275_274.out
       obtain ⟨hcz33_0,hcz33_1,hcz33_2,hcz33_3⟩:=blkc_4 BK274.out
       obtain ⟨hfz33_0,hfz33_1,hfz33_2,hfz33_3⟩:=blkz_4 BK274.out
       go_wp2
       repeat (go_quiet (fail);try go_wp2)
       go_ret
       exact ⟨by first | rfl | (simp [errW_none,errW_some] <;> rfl) | (simp [*,errW_none,errW_some] <;> rfl),by repeat (first | (with_reducible first | exact HB.out | apply below_alloc | apply pw_below_drewN | apply below_drew1 | refine below_set ?_ GE274.out | refine below_set ?_ GE275.out) | exact HB.out)⟩
end Go.Proofs.Ytbmcbhpkefjhbaa.P
set_option linter.unusedVariables false
set_option linter.unusedSimpArgs false
namespace Go.Proofs.Ytbmcbhpkefjhbaa.P
open Go.RowKit Go.Proofs.Ytbmcbhpkefjhbaa Go.Proofs.Ytbmcbhpkefjhbaa.Mem Go.Proofs.YtbmcbhpkefjhbaaW.PrintWords Go.Proofs.YtbmcbhpkefjhbaaW.PrintLast Go.Proofs.YtbmcbhpkefjhbaaW.PrintMore
def writeT (nt nn cm : Int) (l : List Ent) (tx cell : Int) : Int × Int × Int × List Ent × Int :=
  match findT l tx with
  | none => (nt, nn, cm, l, 3)
  | some i =>
    if (rd_T112 l (i : Int)).f1 = 1 ∧ nn ≠ 2147483647 then
      if 0 ≤ cell ∧ cell ≤ 65535 then (nt, nn + 1, cm, l.set i ⟨(rd_T112 l (i : Int)).f0, (rd_T112 l (i : Int)).f1, cell, (rd_T112 l (i : Int)).f3⟩, 0) else (nt, nn, cm, l, 1)
    else (nt, nn, cm, l, 2)
theorem Write_ev {k : Nat} {nt nn cm : Int} {l : List Ent} (hk : 40 ≤ k) (h : Good nt nn cm l) (tx cell : Int) : table_Write.f k nt nn cm l tx cell = some (writeT nt nn cm l tx cell) := by
  have hl := h.len
  have n1 := h.nn1
  have n2 := h.nn2
  unfold table_Write.f writeT
  rw [Check_ev hk h, Option.bind_some, if_pos rfl, own_ev (by omega), Option.bind_some, Find_ev hk h tx, Option.bind_some]
  obtain ⟨k, rfl⟩ : ∃ m, k = m + 1 := ⟨k - 1, by omega⟩
  cases hf : findT l tx with
  | none => rw [if_pos (by decide)]
  | some i =>
    have := findT_lt hf
    have hw : wrap64 (nn + 1) = nn + 1 := by unfold wrap64; omega
    simp only [show ixOf (some i) = (i : Int) from rfl]
    rw [if_neg (by omega), if_pos (by omega), if_pos (by omega)]
    by_cases h1 : (rd_T112 l (i : Int)).f1 = 1
    · rw [if_pos h1, table_Write.j0]
      by_cases h2 : nn = 2147483647
      · rw [if_pos (by rw [h2]; rfl), if_neg (fun hh => hh.2 h2)]
      · rw [if_neg (by rw [beq_iff_eq]; exact h2), if_pos (And.intro h1 h2), in_ev, Option.bind_some]
        by_cases h3 : 0 ≤ cell ∧ cell ≤ 65535
        · rw [if_pos (by rw [decide_eq_true h3.1, decide_eq_true h3.2]; rfl), if_pos (by omega), if_pos (by omega), if_pos h3, hw, Int.toNat_natCast]
        · rw [if_neg (by rw [Bool.and_eq_true, decide_eq_true_eq, decide_eq_true_eq]; exact h3), if_neg h3]
    · rw [if_neg h1, table_Write.j0, if_pos rfl, if_neg (fun hh => h1 hh.1)]
def commitT (nt nn cm : Int) (l : List Ent) (tx : Int) : Int × Int × Int × List Ent × Int × Int :=
  match findT l tx with
  | none => (nt, nn, cm, l, 0, 3)
  | some i =>
    if (rd_T112 l (i : Int)).f1 = 1 ∧ cm ≠ 2147483647 then
      (nt, nn, cm + 1, l.set i ⟨(rd_T112 l (i : Int)).f0, 2, (rd_T112 l (i : Int)).f2, cm + 1⟩, cm + 1, 0)
    else (nt, nn, cm, l, 0, 2)
theorem Commit_ev {k : Nat} {nt nn cm : Int} {l : List Ent} (hk : 40 ≤ k) (h : Good nt nn cm l) (tx : Int) : table_Commit.f k nt nn cm l tx = some (commitT nt nn cm l tx) := by
  have hl := h.len
  have n1 := h.cm1
  have n2 := h.cm2
  unfold table_Commit.f commitT
  rw [Check_ev hk h, Option.bind_some, if_pos rfl, own_ev (by omega), Option.bind_some, Find_ev hk h tx, Option.bind_some]
  obtain ⟨k, rfl⟩ : ∃ m, k = m + 1 := ⟨k - 1, by omega⟩
  cases hf : findT l tx with
  | none => rw [if_pos (by decide)]
  | some i =>
    have hlt := findT_lt hf
    have hw : wrap64 (cm + 1) = cm + 1 := by unfold wrap64; omega
    simp only [show ixOf (some i) = (i : Int) from rfl]
    rw [if_neg (by omega), if_pos (by omega), if_pos (by omega)]
    by_cases h1 : (rd_T112 l (i : Int)).f1 = 1
    · rw [if_pos h1, table_Commit.j0]
      by_cases h2 : cm = 2147483647
      · rw [if_pos (by rw [h2]; rfl), if_neg (fun hh => hh.2 h2)]
      · rw [if_neg (by rw [beq_iff_eq]; exact h2), if_pos (And.intro h1 h2), if_pos (by omega), if_pos (by omega), Option.bind_some, hw, Int.toNat_natCast]
        have hr : rd_T112 (l.set i ⟨(rd_T112 l (i : Int)).f0, 2, (rd_T112 l (i : Int)).f2, (rd_T112 l (i : Int)).f3⟩) (i : Int) = ⟨(rd_T112 l (i : Int)).f0, 2, (rd_T112 l (i : Int)).f2, (rd_T112 l (i : Int)).f3⟩ := by
          have := rdE_at (l := l.set i ⟨(rd_T112 l (i : Int)).f0, 2, (rd_T112 l (i : Int)).f2, (rd_T112 l (i : Int)).f3⟩) (i := i) (by rw [List.length_set]; exact hlt)
          rw [List.getElem?_set_self hlt] at this
          injection this with this
          exact this.symm
        rw [hr, List.set_set]
    · rw [if_neg h1, table_Commit.j0, if_pos rfl, if_neg (fun hh => h1 hh.1)]
def EldAt (l : List Ent) (i : Nat) (a d : Int) : Prop := ((∀ j e, j < i → l[j]? = some e → e.f1 ≠ 2) ∧ a = 0) ∨ ∃ j e, j < i ∧ l[j]? = some e ∧ e.f1 = 2 ∧ e.f0 = a ∧ e.f3 = d ∧ 1 ≤ a ∧ ∀ j' x, j' < i → l[j']? = some x → x.f1 = 2 → e.f3 ≤ x.f3
theorem Eldest_l0 {nt nn cm : Int} {l : List Ent} (h : Good nt nn cm l) : ∀ (n i k : Nat) (a b c d : Int), n = 12 - i → i ≤ 12 → n + 1 ≤ k → EldAt l i a d → ∃ r, table_Eldest.l0 k l (l.length : Int) (i : Int) a b c d = some r ∧ IsEld l r := by
  intro n
  induction n with
  | zero =>
    intro i k a b c d hn hi hk hE
    have hl := h.len
    obtain ⟨k, rfl⟩ : ∃ m, k = m + 1 := ⟨k - 1, by omega⟩
    refine ⟨a, by rw [table_Eldest.l0, if_neg (by omega)], ?_⟩
    rcases hE with ⟨h0, h1⟩ | ⟨j, e, hj, he, h1, h2, h3, h4, h5⟩
    · refine Or.inl ⟨fun e he => ?_, h1⟩
      obtain ⟨j, hj⟩ := List.mem_iff_getElem?.1 he
      have := (List.getElem?_eq_some_iff.1 hj).1
      exact h0 j e (by omega) hj
    · refine Or.inr ⟨e, List.mem_of_getElem? he, h1, h2, fun x hx hx2 => ?_⟩
      obtain ⟨j', hj'⟩ := List.mem_iff_getElem?.1 hx
      have := (List.getElem?_eq_some_iff.1 hj').1
      exact h5 j' x (by omega) hj' hx2
  | succ n ih =>
    intro i k a b c d hn hi hk hE
    have hl := h.len
    obtain ⟨k, rfl⟩ : ∃ m, k = m + 1 := ⟨k - 1, by omega⟩
    have hlt : i < l.length := by omega
    have hw : wrap64 ((i : Int) + 1) = ((i + 1 : Nat) : Int) := by unfold wrap64; omega
    have hm := rdE_at hlt
    have hok := h.ent _ (List.mem_of_getElem? hm)
    rw [table_Eldest.l0, if_pos (by omega), if_pos (by omega), if_pos (by omega), hw]
    generalize rd_T112 l (i : Int) = e at hm hok ⊢
    have hpos : e.f1 = 2 → 1 ≤ e.f0 := by
      intro h2
      rcases hok with rfl | ⟨q, _⟩ | ⟨_, _, _, q, _⟩
      · exact absurd h2 (by decide)
      · omega
      · exact q
    have lt_or : ∀ {j : Nat} {x : Ent}, j < i + 1 → l[j]? = some x → j < i ∨ x = e := by
      intro j x hj hx
      by_cases hh : j < i
      · exact Or.inl hh
      · have : j = i := by omega
        subst this
        have := hx.symm.trans hm
        injection this with this
        exact Or.inr this
    have keep : e.f1 ≠ 2 → EldAt l (i + 1) a d := by
      intro hne
      rcases hE with ⟨h0, h1⟩ | ⟨j, y, hj, he, h1, h2, h3, h4, h5⟩
      · refine Or.inl ⟨fun j x hj hx => ?_, h1⟩
        rcases lt_or hj hx with hh | rfl
        · exact h0 j x hh hx
        · exact hne
      · refine Or.inr ⟨j, y, by omega, he, h1, h2, h3, h4, fun j' x hj' hx hx2 => ?_⟩
        rcases lt_or hj' hx with hh | rfl
        · exact h5 j' x hh hx hx2
        · exact absurd hx2 hne
    by_cases h2 : e.f1 = 2
    · rw [if_pos h2]
      by_cases h0 : a = 0
      · rw [if_pos h0]
        refine ih (i + 1) k _ _ _ _ (by omega) (by omega) (by omega) (Or.inr ⟨i, e, by omega, hm, h2, rfl, rfl, hpos h2, fun j x hj hx hx2 => ?_⟩)
        rcases lt_or hj hx with hh | rfl
        · rcases hE with ⟨q, _⟩ | ⟨_, _, _, _, _, _, _, q, _⟩
          · exact absurd hx2 (q j x hh hx)
          · omega
        · exact Int.le_refl _
      · rw [if_neg h0]
        rcases hE with ⟨_, q⟩ | ⟨j, y, hj, he, h1, h2', h3, h4, h5⟩
        · exact absurd q h0
        · by_cases hc : e.f3 < d
          · rw [if_pos hc]
            refine ih (i + 1) k _ _ _ _ (by omega) (by omega) (by omega) (Or.inr ⟨i, e, by omega, hm, h2, rfl, rfl, hpos h2, fun j' x hj' hx hx2 => ?_⟩)
            rcases lt_or hj' hx with hh | rfl
            · have := h5 j' x hh hx hx2
              omega
            · exact Int.le_refl _
          · rw [if_neg hc]
            refine ih (i + 1) k _ _ _ _ (by omega) (by omega) (by omega) (Or.inr ⟨j, y, by omega, he, h1, h2', h3, h4, fun j' x hj' hx hx2 => ?_⟩)
            rcases lt_or hj' hx with hh | rfl
            · exact h5 j' x hh hx hx2
            · omega
    · rw [if_neg h2]
      exact ih (i + 1) k _ _ _ _ (by omega) (by omega) (by omega) (keep h2)
theorem Eldest_ev {k : Nat} {nt nn cm : Int} {l : List Ent} (hk : 40 ≤ k) (h : Good nt nn cm l) : ∃ r, table_Eldest.f k nt nn cm l = some r ∧ IsEld l r := by
  unfold table_Eldest.f
  rw [Check_ev hk h, Option.bind_some, if_pos rfl]
  exact Eldest_l0 h 12 0 k 0 0 0 0 rfl (by omega) (by omega) (Or.inl ⟨fun j e hj => absurd hj (Nat.not_lt_zero _), rfl⟩)
theorem same11_l0 {a b c : Int} {l : List Ent} (hl : l.length ≤ 1000000) : ∀ (n i k : Nat), n = l.length - i → i ≤ l.length → n + 1 ≤ k → humusref11_Same.l0 k (i : Int) a b c l a b c l = some true := by
  intro n
  induction n with
  | zero =>
    intro i k hn hi hk
    obtain ⟨k, rfl⟩ : ∃ m, k = m + 1 := ⟨k - 1, by omega⟩
    rw [humusref11_Same.l0, if_neg (by omega)]
  | succ n ih =>
    intro i k hn hi hk
    obtain ⟨k, rfl⟩ : ∃ m, k = m + 1 := ⟨k - 1, by omega⟩
    have hw : wrap64 ((i : Int) + 1) = ((i + 1 : Nat) : Int) := by unfold wrap64; omega
    rw [humusref11_Same.l0, if_pos (by omega), if_pos (by omega), if_pos (by omega), hw]
    simp only [BEq.rfl, Bool.not_true, Bool.or_self, Bool.false_eq_true, if_false]
    exact ih (i + 1) k (by omega) (by omega) (by omega)
theorem same11_refl {k : Nat} {a b c : Int} {l : List Ent} (hl : l.length ≤ 1000000) (hk : l.length + 2 ≤ k) : humusref11_Same.f k a b c l a b c l = some true := by
  obtain ⟨k, rfl⟩ : ∃ m, k = m + 1 := ⟨k - 1, by omega⟩
  unfold humusref11_Same.f
  rw [if_pos rfl, if_pos rfl, if_pos rfl, bne_self_eq_false, humusref11_Same.j0, if_neg (by decide)]
  exact same11_l0 hl l.length 0 k (by omega) (by omega) (by omega)
end Go.Proofs.Ytbmcbhpkefjhbaa.P
