/- by wip/prune.py -/
import Derived.Test.YtbmcbhpkefjhbaaDoorMTableCodes8
import Derived.Test.YtbmcbhpkefjhbaaDoorMTableCodes9
import Derived.Test.YtbmcbhpkefjhbaaDoorMTableCodes10
import Derived.Test.YtbmcbhpkefjhbaaDoorMTableCodes11
import Derived.Test.YtbmcbhpkefjhbaaDoorMTableCodes12
import Derived.Test.YtbmcbhpkefjhbaaDoorMTableCodes19
import Derived.Test.YtbmcbhpkefjhbaaDoorMTableCodes20
import Derived.Test.YtbmcbhpkefjhbaaDoorMTableCodes21
import Derived.Test.YtbmcbhpkefjhbaaDoorMTableCodes22
set_option linter.unusedSimpArgs false
set_option linter.unusedVariables false
namespace Go.Proofs.YtbmcbhpkefjhbaaDoor.P
open Go.RowKit YtbmcbhpkefjhbaaDoorW.PrintWords YtbmcbhpkefjhbaaDoorW.PrintLast YtbmcbhpkefjhbaaDoorW.PrintMore
attribute [local go_sem] max2_int min2_int max_two min_two max_three min_three max_four min_four   -- for this text's walks alone
attribute [local go_sem] run_store_float
def table_Live.l0 : Nat→List Int→List (S56)→Int→Int→Option (List Int)
 | 0,_,_,_,_=>none
 | k + 1,x3,x10,x11,x12=>if x12<x11 then (if 0≤x12 then (if x12<(x10.length : Int) then (if ((rd_T56 x10 x12).f1)=1 then (if x3.length<17592186044416 then (table_Live.l0 k (x3++[(rd_T56 x10 x12).f0]) x10 x11 (wrap64 (x12 + 1))) else (none)) else (table_Live.l0 k x3 x10 x11 (wrap64 (x12 + 1)))) else (none)) else (none)) else (some x3)
def table_Live.f (k : Nat) (a0_0 : Int) (a0_1 : Int) (a0_2 : Int) (l0_3 : List (S56)) : Option (List Int):=(table_Check.f k a0_0 a0_1 a0_2 l0_3).bind fun t455=>(if t455=0 then (table_Live.l0 k ([] : List Int) l0_3 (l0_3.length : Int) 0) else (some ([] : List Int)))
set_option maxHeartbeats 8000000 in
set_option maxRecDepth 100000 in
theorem table_Live.calls (k : Nat) (a0_0 : Int) (a0_1 : Int) (a0_2 : Int) (A0_3 : Option Addr) (c0_3 : Nat) (l0_3 : List (S56)) (r : List Int) (w : World) (hr0_3 : Kd.C k56 w A0_3 l0_3.length l0_3) (hc0_3 : l0_3.length≤c0_3) (h : table_Live.f k a0_0 a0_1 a0_2 l0_3=some r) :
  Calls Tryd.prog 14 #[.agg #[.int .i64 a0_0,.int .i64 a0_1,.int .i64 a0_2,.slice A0_3 l0_3.length c0_3]] w fun e w'=>∃ v0_ : Value,e=.returned (v0_)∧Kd.R (Kd.int .i64) 3 w' w.heap.size (fun _=>True) v0_ r∧Below w.heap.size w w':=by
 have hu26:=Tryd.underlying26;have hu56:=Tryd.underlying56;have HR0_3:=A_ hr0_3;have HC0_3:=A_ hc0_3;clear hr0_3 hc0_3;have HB:=A_ (Below.refl w.heap.size w)
 have H : ((table_Check.f k a0_0 a0_1 a0_2 l0_3).bind fun t455=>(if t455=0 then (table_Live.l0 k ([] : List Int) l0_3 (l0_3.length : Int) 0) else (some ([] : List Int))))=some r:=h
 clear h;replace H:=Option.bind_eq_some_iff.mp H;obtain ⟨t455,A20,H⟩:=H
 replace H : (if t455=0 then (table_Live.l0 k ([] : List Int) l0_3 (l0_3.length : Int) 0) else (some ([] : List Int)))=some r:=H
 have A2:=A_ A20;clear A20
 by_cases c3 : t455=0
 rotate_left
 ·rw [if_neg c3] at H
  have c3b0 : (t455 == 0)=false:=beq_eq_false_iff_ne.mpr c3;have c3b1 : (t455 != 0)=true:=bne_iff_ne.mpr c3;obtain rfl:=Option.some.inj H;go_enter Tryd.func14,Tryd.ntmps14
  go_wp2_with (first|((with_reducible refine gate_dst (N:=1) rfl ?_);refine box_event ?hg (N:=1) ?hd (cs:=#[.int .i64 a0_0,.int .i64 a0_1,.int .i64 a0_2,.slice A0_3 l0_3.length c0_3]) (t:=26) ?hr ?_;(case hd=>rfl);(case hg=>rfl);(case hr=>first|(go_simp;done)|(go_simp;rfl));intro gb454 hg w20 hbox hb;have n0_:=A_ (bp_ (hb0_ HB.out) hb);have n1_:=A_ (hbox);have n2_:=A_ ((by rw [hg];exact (bz_ (hb0_ HB.out)) : w.heap.size≤gb454));have n3_:=n2_;clear HB;have HB:=n0_;have BK454:=n1_;have GW454:=n2_;have GE454:=n3_;clear n0_ n1_ n2_ n3_;clear hb hbox hg;obtain ⟨z21_0,z21_1,z21_2,z21_3⟩:=blkc_4 BK454.out;obtain ⟨y21_0,y21_1,y21_2⟩:=blkz_3 BK454.out;have y21_3:=bf_ BK454.out 3)|((with_reducible refine gate_callee (f:=13) rfl ?_);refine goesL_ (some 7) rfl rfl Tryd.func13 (by kernel_rfl) rfl #[.agg #[.int .i64 a0_0,.int .i64 a0_1,.int .i64 a0_2,.slice A0_3 l0_3.length c0_3]] rfl (by (try simp only [List.map_toArray,List.map_cons,List.map_nil]);first|done|rfl|(simp only [List.length_drop,List.length_take];rfl)) ?_;(with_reducible refine (table_Check.calls k a0_0 a0_1 a0_2 _ _ l0_3 t455 _ ?side1 ?side2 A2.out).mono ?_);(case side1=>repeat (first|exact (Kd.C_below HR0_3.out HB.out)|(with_reducible refine Kd.C_alloc ?_ _)|(with_reducible refine Kd.C_drewN ?_ _)|(with_reducible refine Kd.C_drew ?_)));(case side2=>exact HC0_3.out);rintro e w22 ⟨rfl,hb⟩;refine ⟨_,rfl,?_⟩;have n0_:=A_ (bx_ BK454.out kf_ hb);have n1_:=A_ (bp_ (hb1_ HB.out GE454.out) hb);clear BK454;clear HB;have BK454:=n0_;have HB:=n1_;clear n0_ n1_;(try clear hb);(try clear hb2);(try clear hk);(try clear hi)))
  go_ret
  exact ⟨_,by first|rfl|(simp [errW_none,errW_some] <;> rfl)|(simp [*,errW_none,errW_some] <;> rfl),by first|exact Kd.R_nil _ _ _ _ _|exact Kd.N_nil _ _ _ _ _|exact Kd.V_nil _ _ _ _ _|exact Kd.Q_nil _ _ _ _ _|exact Kd.S_nil _ _ _ _ _,hb1_ HB.out GE454.out⟩
 rw [if_pos c3] at H
 have c3b0 : (t455 == 0)=true:=beq_iff_eq.mpr c3;have c3b1 : (t455 != 0)=false:=bne_eq_false_iff_eq.mpr c3;clear c3;have H':=A_ H;clear H;go_enter Tryd.func14,Tryd.ntmps14
 go_wp2_with (first|((with_reducible refine gate_dst (N:=1) rfl ?_);refine box_event ?hg (N:=1) ?hd (cs:=#[.int .i64 a0_0,.int .i64 a0_1,.int .i64 a0_2,.slice A0_3 l0_3.length c0_3]) (t:=26) ?hr ?_;(case hd=>rfl);(case hg=>rfl);(case hr=>first|(go_simp;done)|(go_simp;rfl));intro gb454 hg w4 hbox hb;have n0_:=A_ (bp_ (hb0_ HB.out) hb);have n1_:=A_ (hbox);have n2_:=A_ ((by rw [hg];exact (bz_ (hb0_ HB.out)) : w.heap.size≤gb454));have n3_:=n2_;clear HB;have HB:=n0_;have BK454:=n1_;have GW454:=n2_;have GE454:=n3_;clear n0_ n1_ n2_ n3_;clear hb hbox hg;obtain ⟨z5_0,z5_1,z5_2,z5_3⟩:=blkc_4 BK454.out;obtain ⟨y5_0,y5_1,y5_2⟩:=blkz_3 BK454.out;have y5_3:=bf_ BK454.out 3)|((with_reducible refine gate_callee (f:=13) rfl ?_);refine goesL_ (some 7) rfl rfl Tryd.func13 (by kernel_rfl) rfl #[.agg #[.int .i64 a0_0,.int .i64 a0_1,.int .i64 a0_2,.slice A0_3 l0_3.length c0_3]] rfl (by (try simp only [List.map_toArray,List.map_cons,List.map_nil]);first|done|rfl|(simp only [List.length_drop,List.length_take];rfl)) ?_;(with_reducible refine (table_Check.calls k a0_0 a0_1 a0_2 _ _ l0_3 t455 _ ?side1 ?side2 A2.out).mono ?_);(case side1=>repeat (first|exact (Kd.C_below HR0_3.out HB.out)|(with_reducible refine Kd.C_alloc ?_ _)|(with_reducible refine Kd.C_drewN ?_ _)|(with_reducible refine Kd.C_drew ?_)));(case side2=>exact HC0_3.out);rintro e w6 ⟨rfl,hb⟩;refine ⟨_,rfl,?_⟩;have n0_:=A_ (bx_ BK454.out kf_ hb);have n1_:=A_ (bp_ (hb1_ HB.out GE454.out) hb);clear BK454;clear HB;have BK454:=n0_;have HB:=n1_;clear n0_ n1_;(try clear hb);(try clear hb2);(try clear hk);(try clear hi);obtain ⟨z7_0,z7_1,z7_2,z7_3⟩:=blkc_4 BK454.out;obtain ⟨y7_0,y7_1,y7_2⟩:=blkz_3 BK454.out;have y7_3:=bf_ BK454.out 3))
 go_loopg [3,12] k (fun kq v3 v12 w'=>∃ (x3_1 : List Int) (x12_1 : Int),v12=.int .i64 x12_1∧Aside0 (table_Live.l0 kq x3_1 l0_3 (l0_3.length : Int) x12_1=some r)∧Aside0 (kq≤k)∧Aside0 (Kd.R (Kd.int .i64) 3 w' w.heap.size (fun _=>True) v3 x3_1)∧Aside0 (w'.heap[gb454]?=some (.cells #[.int .i64 a0_0,.int .i64 a0_1,.int .i64 a0_2,(.slice A0_3 l0_3.length c0_3)] 26 (0,0)))∧Aside0 (Below w.heap.size w w'))
 case atStart=>exact ⟨(([] : List Int)),(0),(by first|rfl|(simp;done)|(simp [*];done)),H',⟨Nat.le_refl _⟩,⟨by first|exact Kd.R_nil _ _ _ _ _|exact Kd.N_nil _ _ _ _ _|exact Kd.V_nil _ _ _ _ _|exact Kd.Q_nil _ _ _ _ _|exact Kd.S_nil _ _ _ _ _⟩,⟨by exact kk_ BK454.out⟩,⟨hb1_ HB.out GE454.out⟩⟩
 case round =>
  clear H';(try clear c1);(try clear p2);(try clear c3);(try clear c3b0);(try clear c3b1);(try clear z5_0 z5_1 z5_2 z5_3 z7_0 z7_1 z7_2 z7_3 y5_0 y5_1 y5_2 y5_3 y7_0 y7_1 y7_2 y7_3);obtain ⟨x3_1,x12_1,rfl,HA,HK1,HO_3,BK454,HB⟩:=hrel
  cases gk with
  | zero=>exact absurd HA.out (by simp [table_Live.l0])
  | succ k1 =>
   have H:=HA.out;clear HA
   simp only [table_Live.l0] at H
   by_cases c8 : x12_1<(l0_3.length : Int)
   rotate_left
   ·rw [if_neg c8] at H
    have c8b0 : decide (x12_1<(l0_3.length : Int))=false:=df_ c8;clear c8;obtain rfl:=Option.some.inj H;go_wp2;go_ret
    exact ⟨_,by first|rfl|(simp [errW_none,errW_some] <;> rfl)|(simp [*,errW_none,errW_some] <;> rfl),by (with_reducible repeat (first|apply ra_|apply rn_|apply re_));exact HO_3.out,hb1_ HB.out GE454.out⟩
   rw [if_pos c8] at H
   have c8b0 : decide (x12_1<(l0_3.length : Int))=true:=dt_ c8;clear c8
   by_cases c9 : 0≤x12_1
   rotate_left
   ·rw [if_neg c9] at H
    exact absurd H (by simp)
   rw [if_pos c9] at H
   have c9b0 : decide (0≤x12_1)=true:=dt_ c9;clear c9
   by_cases c10 : x12_1<(l0_3.length : Int)
   rotate_left
   ·rw [if_neg c10] at H
    exact absurd H (by simp)
   rw [if_pos c10] at H
   have c10b0 : decide (x12_1<(l0_3.length : Int))=true:=dt_ c10;clear c10
   by_cases c11 : ((rd_T56 l0_3 x12_1).f1)=1
   rotate_left
   ·rw [if_neg c11] at H
    have c11b0 : (((rd_T56 l0_3 x12_1).f1) == 1)=false:=beq_eq_false_iff_ne.mpr c11;have c11b1 : (((rd_T56 l0_3 x12_1).f1) != 1)=true:=bne_iff_ne.mpr c11;have H':=A_ H;clear H
    have p456 : 0≤(x12_1 : Int):=od_ (by first|(with_reducible assumption)|assumption)
    have q456 : x12_1<(l0_3.length : Int):=od_ (by first|(with_reducible assumption)|assumption)
    obtain ⟨ad456,e456,hx456_0,hx456_1,hx456_2,hx456_3⟩:=at_T56 HR0_3.out x12_1 p456 q456
    cases e456
    replace hx456_0:=(HB.out.cell (wb_ w _ hx456_0)).trans hx456_0;replace hx456_1:=(HB.out.cell (wb_ w _ hx456_1)).trans hx456_1;replace hx456_2:=(HB.out.cell (wb_ w _ hx456_2)).trans hx456_2;replace hx456_3:=(HB.out.cell (wb_ w _ hx456_3)).trans hx456_3;replace p456:=eq_true p456;replace q456:=eq_true q456
    go_wp2_with (first|((with_reducible refine gate_dst (N:=5) rfl ?_);refine box_event ?hg (N:=5) ?hd (cs:=#[.int .i64 0,.int .i64 0,.int .i64 0,.int .i64 0]) (t:=56) ?hr ?_;(case hd=>rfl);(case hg=>rfl);(case hr=>first|(go_simp;done)|(go_simp;rfl));intro gb457 hg w17 hbox hb;have n0_:=A_ (Kd.R_below (by (with_reducible repeat (first|apply ra_|apply rn_|apply re_));exact HO_3.out) hb);have n1_:=A_ (bx_ BK454.out kf_ hb);have n2_:=A_ (bp_ (hb1_ HB.out GE454.out) hb);have n3_:=A_ (hbox);have n4_:=A_ ((by rw [hg];exact (bz_ (hb1_ HB.out GE454.out)) : w.heap.size≤gb457));have n5_:=n4_;have n6_:=A_ ((by rw [hg];exact Nat.ne_of_lt (bl_ BK454.out kf_) : gb454≠gb457));have n7_:=A_ (Ne.symm n6_.out);clear HO_3;clear BK454;clear HB;have HO_3:=n0_;have BK454:=n1_;have HB:=n2_;have BK457:=n3_;have GW457:=n4_;have GE457:=n5_;have NB454_457:=n6_;have NB457_454:=n7_;clear n0_ n1_ n2_ n3_ n4_ n5_ n6_ n7_;clear hb hbox hg;have hnb18:=NB457_454.out;have hnc18:=NB454_457.out;obtain ⟨z19_0,z19_1,z19_2,z19_3⟩:=blkc_4 BK457.out;obtain ⟨y19_0,y19_1,y19_2⟩:=blkz_3 BK457.out;have y19_3:=bf_ BK457.out 3))
    go_roundg k1
    case measure=>have:=HK1.out;omega
    case rel=>exact ⟨(x3_1),(wrap64 (x12_1 + 1)),(by first|rfl|(simp;done)|(simp [*];done)),H',⟨by have:=HK1.out;omega⟩,⟨by (with_reducible repeat (first|apply ra_|apply rn_|apply re_));exact Kd.R_mono (rf_ (p:=⟨gb457,3,none⟩) (rf_ (p:=⟨gb457,2,none⟩) (rf_ (p:=⟨gb457,1,none⟩) (rf_ (p:=⟨gb457,0,none⟩) (Kd.R_types HO_3.out BK457.out (by decide)) (fun _ hk=>hk.2) (.int .i64 ((rd_T56 l0_3 x12_1).f0))) (fun _ hk=>hk.2) (.int .i64 ((rd_T56 l0_3 x12_1).f1))) (fun _ hk=>hk.2) (.int .i64 ((rd_T56 l0_3 x12_1).f2))) (fun _ hk=>hk.2) (.int .i64 ((rd_T56 l0_3 x12_1).f3))) (fun _ hk=>trivial)⟩,⟨by refine kk_ ?_;refine blk_far ?_ NB454_457.out _;refine kk_ ?_;refine blk_far ?_ NB454_457.out _;refine kk_ ?_;refine blk_far ?_ NB454_457.out _;refine kk_ ?_;refine blk_far ?_ NB454_457.out _;exact kk_ BK454.out⟩,⟨hb2_ HB.out GE454.out GE457.out⟩⟩
   rw [if_pos c11] at H
   have c11b0 : (((rd_T56 l0_3 x12_1).f1) == 1)=true:=beq_iff_eq.mpr c11;have c11b1 : (((rd_T56 l0_3 x12_1).f1) != 1)=false:=bne_eq_false_iff_eq.mpr c11;clear c11
   by_cases c12 : x3_1.length<17592186044416
   rotate_left
   ·rw [if_neg c12] at H
    exact absurd H (by simp)
   rw [if_pos c12] at H
   have LMc12:=A_ c12;clear c12
   obtain ⟨y458,hy458⟩ : ∃ y_ : List Int,y_=(x3_1++[(rd_T56 l0_3 x12_1).f0]):=⟨_,rfl⟩
   replace H : (table_Live.l0 k1 y458 l0_3 (l0_3.length : Int) (wrap64 (x12_1 + 1)))=some r:=by first|(rw [hy458];with_reducible exact H)|(have H2_:=(Option.bind_some _ _).symm.trans H;rw [hy458];with_reducible exact H2_)|(have H2_:=(Option.bind_some _ _).symm.trans H;with_reducible exact H2_)|with_reducible exact H|(rw [hy458];exact H)|exact H
   have Ny458:=A_ hy458;clear hy458;have H':=A_ H;clear H
   have p456 : 0≤(x12_1 : Int):=od_ (by first|(with_reducible assumption)|assumption)
   have q456 : x12_1<(l0_3.length : Int):=od_ (by first|(with_reducible assumption)|assumption)
   obtain ⟨ad456,e456,hx456_0,hx456_1,hx456_2,hx456_3⟩:=at_T56 HR0_3.out x12_1 p456 q456
   cases e456
   replace hx456_0:=(HB.out.cell (wb_ w _ hx456_0)).trans hx456_0;replace hx456_1:=(HB.out.cell (wb_ w _ hx456_1)).trans hx456_1;replace hx456_2:=(HB.out.cell (wb_ w _ hx456_2)).trans hx456_2;replace hx456_3:=(HB.out.cell (wb_ w _ hx456_3)).trans hx456_3;replace p456:=eq_true p456;replace q456:=eq_true q456
   go_wp2_with (first|((with_reducible refine gate_dst (N:=5) rfl ?_);refine box_event ?hg (N:=5) ?hd (cs:=#[.int .i64 0,.int .i64 0,.int .i64 0,.int .i64 0]) (t:=56) ?hr ?_;(case hd=>rfl);(case hg=>rfl);(case hr=>first|(go_simp;done)|(go_simp;rfl));intro gb457 hg w13 hbox hb;have n0_:=A_ (Kd.R_below (by (with_reducible repeat (first|apply ra_|apply rn_|apply re_));exact HO_3.out) hb);have n1_:=A_ (bx_ BK454.out kf_ hb);have n2_:=A_ (bp_ (hb1_ HB.out GE454.out) hb);have n3_:=A_ (hbox);have n4_:=A_ ((by rw [hg];exact (bz_ (hb1_ HB.out GE454.out)) : w.heap.size≤gb457));have n5_:=n4_;have n6_:=A_ ((by rw [hg];exact Nat.ne_of_lt (bl_ BK454.out kf_) : gb454≠gb457));have n7_:=A_ (Ne.symm n6_.out);clear HO_3;clear BK454;clear HB;have HO_3:=n0_;have BK454:=n1_;have HB:=n2_;have BK457:=n3_;have GW457:=n4_;have GE457:=n5_;have NB454_457:=n6_;have NB457_454:=n7_;clear n0_ n1_ n2_ n3_ n4_ n5_ n6_ n7_;clear hb hbox hg;have hnb14:=NB457_454.out;have hnc14:=NB454_457.out;obtain ⟨z15_0,z15_1,z15_2,z15_3⟩:=blkc_4 BK457.out;obtain ⟨y15_0,y15_1,y15_2⟩:=blkz_3 BK457.out;have y15_3:=bf_ BK457.out 3)|((with_reducible refine gate_builtin (b:=.append) (xs:=#[.tmp 19,.tmp 22]) rfl ?_);at_builtin;refine Kd.R_append (Kd.int .i64) (w0:=w) w.heap.size rfl (.tmp 19) (.tmp 22) 37 3 (.int .i64 0) 8 rfl Tryd.underlying37 info3 rfl (by decide) (by omega) u3 x3_1 ((rd_T56 l0_3 x12_1).f0) [.int .i64 ((rd_T56 l0_3 x12_1).f0)] (fun _=>True) (fun _=>False) rfl (by first|(go_simp;done)|(go_simp;rfl)) ?aP (fun _ hk=>hk.elim) ?aF ?aO ?aB ?aS ?aL ?_;(case aP=>exact rfl);(case aB=>exact (hb2_ HB.out GE454.out GE457.out));(case aF=>exact (fun _ _=>trivial));(case aO=>exact (by (with_reducible repeat (first|apply ra_|apply rn_|apply re_));exact Kd.R_mono (rf_ (p:=⟨gb457,3,none⟩) (rf_ (p:=⟨gb457,2,none⟩) (rf_ (p:=⟨gb457,1,none⟩) (rf_ (p:=⟨gb457,0,none⟩) (Kd.R_types HO_3.out BK457.out (by decide)) (fun _ hk=>hk.2) (.int .i64 ((rd_T56 l0_3 x12_1).f0))) (fun _ hk=>hk.2) (.int .i64 ((rd_T56 l0_3 x12_1).f1))) (fun _ hk=>hk.2) (.int .i64 ((rd_T56 l0_3 x12_1).f2))) (fun _ hk=>hk.2) (.int .i64 ((rd_T56 l0_3 x12_1).f3))) (fun _ hk=>trivial)));(case aS=>exact (bz_ (hb2_ HB.out GE454.out GE457.out)));(case aL=>have:=LMc12.out;omega);intro v459 w16 ho hb hg hat;rw [← Ny458.out] at ho;have n0_:=A_ (blk_grown (g:=gb454) (o:=.cells #[.int .i64 a0_0,.int .i64 a0_1,.int .i64 a0_2,.slice (some ad456) l0_3.length c0_3] 26 (0,0)) (by refine kk_ ?_;refine blk_far ?_ NB454_457.out _;refine kk_ ?_;refine blk_far ?_ NB454_457.out _;refine kk_ ?_;refine blk_far ?_ NB454_457.out _;refine kk_ ?_;refine blk_far ?_ NB454_457.out _;exact kk_ BK454.out) hg (Kd.R_ne HO_3.out BK454.out (by decide)));have n1_:=A_ (blk_grown (g:=gb457) (o:=.cells #[.int .i64 ((rd_T56 l0_3 x12_1).f0),.int .i64 ((rd_T56 l0_3 x12_1).f1),.int .i64 ((rd_T56 l0_3 x12_1).f2),.int .i64 ((rd_T56 l0_3 x12_1).f3)] 56 (0,0)) (by refine kk_ ?_;apply blkf_4_0_3;exact kk_ BK457.out) hg (Kd.R_ne HO_3.out BK457.out (by decide)));have n2_:=A_ (hb);have n3_:=A_ (ho);clear BK454;clear BK457;clear HB;clear HO_3;have BK454:=n0_;have BK457:=n1_;have HB:=n2_;have HO460:=n3_;clear n0_ n1_ n2_ n3_;clear ho hb hg hat))
   go_roundg k1
   case measure=>have:=HK1.out;omega
   case rel=>exact ⟨(y458),(wrap64 (x12_1 + 1)),(by first|rfl|(simp;done)|(simp [*];done)),H',⟨by have:=HK1.out;omega⟩,⟨by (with_reducible repeat (first|apply ra_|apply rn_|apply re_));exact HO460.out⟩,⟨by exact kk_ BK454.out⟩,⟨hb2_ HB.out GE454.out GE457.out⟩⟩
mutual
def humuslaw11_TableCodes.j1 : Nat→Bool→Option (Bool)
 | 0,_=>none
 | k + 1,x2=>some x2
def humuslaw11_TableCodes.j0 : Nat→Bool→Option (Bool)
 | 0,_=>none
 | k + 1,x2=>some x2
end
def humuslaw11_TableCodes.f (k : Nat) (a0_0 : Int) (a0_1 : Int) (a0_2 : Int) (l0_3 : List (S56)) : Option (Bool):=if (l0_3.length : Int) > 40 then ((humuslaw11_awake.f k).bind fun t462=>(some t462)) else ((table_Encode.f k a0_0 a0_1 a0_2 l0_3).bind fun bt463=>((humusref11_May.f k a0_0 a0_1 a0_2 l0_3).bind fun t467=>(if t467=true then ((table_Decode.f k bt463.1).bind fun bt475=>((table_Check.f k a0_0 a0_1 a0_2 l0_3).bind fun t483=>(if t483=0 then (if bt463.2=0 then ((humusref11_Page.f k a0_0 a0_1 a0_2 l0_3).bind fun t484=>(if (strOfNums bt463.1).toList=(strOfNums t484).toList then (if bt475.2.2.2.2=0 then ((humusref11_Same.f k bt475.1 bt475.2.1 bt475.2.2.1 bt475.2.2.2.1 a0_0 a0_1 a0_2 l0_3).bind fun t487=>(if t487=true then ((humuslaw11_awake.f k).bind fun t488=>(humuslaw11_TableCodes.j1 k t488)) else (none))) else (none)) else (none))) else (none)) else (none)))) else ((table_Check.f k a0_0 a0_1 a0_2 l0_3).bind fun t468=>(if t468=1 then (if bt463.2=1 then (if (bt463.1.length : Int)=0 then ((table_Live.f k a0_0 a0_1 a0_2 l0_3).bind fun t469=>(if (t469.length : Int)=0 then ((table_Eldest.f k a0_0 a0_1 a0_2 l0_3).bind fun t472=>(if t472=0 then ((table_Find.f k a0_0 a0_1 a0_2 l0_3 1).bind fun t473=>(if t473=(-1) then ((humuslaw11_awake.f k).bind fun t474=>(humuslaw11_TableCodes.j0 k t474)) else (none))) else (none))) else (none))) else (none)) else (none)) else (none))))))
def humuslaw11_TableCodes.T7 : Bool × List (List Nat × List Nat):=(true,[([],[]),([0],[0]),([1],[1]),([2,1],[2]),([3],[3]),([4,3],[3,4]),([3,5],[3,5]),([6,3],[6]),([7],[7]),([8,7],[7,8]),([7],[7]),([10,7,7],[7,10]),([11,7],[7,11]),([9,12,7],[7,9,12]),([7,13],[7,13]),([14,11],[14]),([15],[15]),([16,15],[15,16]),([15,17],[15,17]),([18,15],[18]),([19],[19]),([19],[19]),([20,21,19,19],[19,20,21]),([19,22],[19,22]),([23,22],[23]),([24,24],[24]),([24,25],[24,25]),([26,25,0,1,2,3,4,5,6,7,8,9,10,11,12,13,14,15,16,17,18,19,20,21,22,23,24,25,26],[26])])
def humuslaw11_TableCodes.B7 : List Nat:=[0,1,3,7,15,31,63,127,255,511,255,1279,3327,8191,16383,32767,65535,131071,262143,524287,1048575,1048575,4194303,8388607,16777215,33554431,67108863,134217727]
theorem humuslaw11_TableCodes.tab7 : rtab .any (opsOf Tryd.f4 7)=humuslaw11_TableCodes.T7:=by kernel_rfl
theorem humuslaw11_TableCodes.bits7 : waitsOk humuslaw11_TableCodes.T7.2 humuslaw11_TableCodes.B7=true:=by kernel_rfl
set_option maxHeartbeats 8000000 in
set_option maxRecDepth 100000 in
theorem humuslaw11_TableCodes.calls (k : Nat) (a0_0 : Int) (a0_1 : Int) (a0_2 : Int) (A0_3 : Option Addr) (c0_3 : Nat) (l0_3 : List (S56)) (r : Bool) (w : World) (hr0_3 : Kd.C k56 w A0_3 l0_3.length l0_3) (hc0_3 : l0_3.length≤c0_3) (h : humuslaw11_TableCodes.f k a0_0 a0_1 a0_2 l0_3=some r) :
  Calls Tryd.prog 4 #[.agg #[.int .i64 a0_0,.int .i64 a0_1,.int .i64 a0_2,.slice A0_3 l0_3.length c0_3]] w fun e w'=>e=.returned (.bool r)∧Below w.heap.size w w':=by
 have hu26:=Tryd.underlying26;have HR0_3:=A_ hr0_3;have HC0_3:=A_ hc0_3;clear hr0_3 hc0_3;have HB:=A_ (Below.refl w.heap.size w)
 have H : (if (l0_3.length : Int) > 40 then ((humuslaw11_awake.f k).bind fun t462=>(some t462)) else ((table_Encode.f k a0_0 a0_1 a0_2 l0_3).bind fun bt463=>((humusref11_May.f k a0_0 a0_1 a0_2 l0_3).bind fun t467=>(if t467=true then ((table_Decode.f k bt463.1).bind fun bt475=>((table_Check.f k a0_0 a0_1 a0_2 l0_3).bind fun t483=>(if t483=0 then (if bt463.2=0 then ((humusref11_Page.f k a0_0 a0_1 a0_2 l0_3).bind fun t484=>(if (strOfNums bt463.1).toList=(strOfNums t484).toList then (if bt475.2.2.2.2=0 then ((humusref11_Same.f k bt475.1 bt475.2.1 bt475.2.2.1 bt475.2.2.2.1 a0_0 a0_1 a0_2 l0_3).bind fun t487=>(if t487=true then ((humuslaw11_awake.f k).bind fun t488=>(humuslaw11_TableCodes.j1 k t488)) else (none))) else (none)) else (none))) else (none)) else (none)))) else ((table_Check.f k a0_0 a0_1 a0_2 l0_3).bind fun t468=>(if t468=1 then (if bt463.2=1 then (if (bt463.1.length : Int)=0 then ((table_Live.f k a0_0 a0_1 a0_2 l0_3).bind fun t469=>(if (t469.length : Int)=0 then ((table_Eldest.f k a0_0 a0_1 a0_2 l0_3).bind fun t472=>(if t472=0 then ((table_Find.f k a0_0 a0_1 a0_2 l0_3 1).bind fun t473=>(if t473=(-1) then ((humuslaw11_awake.f k).bind fun t474=>(humuslaw11_TableCodes.j0 k t474)) else (none))) else (none))) else (none))) else (none)) else (none)) else (none)))))))=some r:=h
 clear h
 by_cases c2 : (l0_3.length : Int) > 40
 ·rw [if_pos c2] at H
  have c2b0 : decide (40<(l0_3.length : Int))=true:=dt_ c2
  have c2b1 : decide (40<l0_3.length)=true:=dt_ (by omega)
  clear c2;replace H:=Option.bind_eq_some_iff.mp H;obtain ⟨t462,A30,H⟩:=H;replace H : (some t462)=some r:=H;have A3:=A_ A30;clear A30;obtain rfl:=Option.some.inj H;go_enter Tryd.func4,Tryd.ntmps4
  go_wp2_with (first|((with_reducible refine gate_dst (N:=1) rfl ?_);(try (refine gate_guard (by rfl) ?_;dsimp only));refine box_event ?hg (N:=1) ?hd (cs:=#[.int .i64 a0_0,.int .i64 a0_1,.int .i64 a0_2,.slice A0_3 l0_3.length c0_3]) (t:=26) ?hr ?_;(case hd=>rfl);(case hg=>rfl);(case hr=>first|(go_simp;done)|(go_simp;rfl));intro gb461 hg w4 hbox hb;have n0_:=A_ (bp_ (hb0_ HB.out) hb);have n1_:=A_ (hbox);have n2_:=A_ ((by rw [hg];exact (bz_ (hb0_ HB.out)) : w.heap.size≤gb461));have n3_:=n2_;clear HB;have HB:=n0_;have BK461:=n1_;have GW461:=n2_;have GE461:=n3_;clear n0_ n1_ n2_ n3_;clear hb hbox hg;obtain ⟨z5_0,z5_1,z5_2,z5_3⟩:=blkc_4 BK461.out;obtain ⟨y5_0,y5_1,y5_2⟩:=blkz_3 BK461.out;have y5_3:=bf_ BK461.out 3)|((with_reducible refine gate_callee (f:=5) rfl ?_);refine goesL_ (some 11) rfl rfl Tryd.func5 (by kernel_rfl) rfl #[] rfl (by (try simp only [List.map_toArray,List.map_cons,List.map_nil]);first|done|rfl|(simp only [List.length_drop,List.length_take];rfl)) ?_;(with_reducible refine (humuslaw11_awake.calls k  t462 _ A3.out).mono ?_);rintro e w6 ⟨rfl,hb⟩;refine ⟨_,rfl,?_⟩;have n0_:=A_ (bx_ BK461.out kf_ hb);have n1_:=A_ (bp_ (hb1_ HB.out GE461.out) hb);clear BK461;clear HB;have BK461:=n0_;have HB:=n1_;clear n0_ n1_;(try clear hb);(try clear hb2);(try clear hk);(try clear hi)))
  go_ret
  exact ⟨by first|rfl|(simp [errW_none,errW_some] <;> rfl)|(simp [*,errW_none,errW_some] <;> rfl),hb1_ HB.out GE461.out⟩
 rw [if_neg c2] at H
 have c2b0 : decide (40<(l0_3.length : Int))=false:=df_ c2
 have c2b1 : decide (40<l0_3.length)=false:=df_ (by omega)
 clear c2;replace H:=Option.bind_eq_some_iff.mp H;obtain ⟨⟨t463,t466⟩,A70,H⟩:=H
 replace H : ((humusref11_May.f k a0_0 a0_1 a0_2 l0_3).bind fun t467=>(if t467=true then ((table_Decode.f k t463).bind fun bt475=>((table_Check.f k a0_0 a0_1 a0_2 l0_3).bind fun t483=>(if t483=0 then (if t466=0 then ((humusref11_Page.f k a0_0 a0_1 a0_2 l0_3).bind fun t484=>(if (strOfNums t463).toList=(strOfNums t484).toList then (if bt475.2.2.2.2=0 then ((humusref11_Same.f k bt475.1 bt475.2.1 bt475.2.2.1 bt475.2.2.2.1 a0_0 a0_1 a0_2 l0_3).bind fun t487=>(if t487=true then ((humuslaw11_awake.f k).bind fun t488=>(humuslaw11_TableCodes.j1 k t488)) else (none))) else (none)) else (none))) else (none)) else (none)))) else ((table_Check.f k a0_0 a0_1 a0_2 l0_3).bind fun t468=>(if t468=1 then (if t466=1 then (if (t463.length : Int)=0 then ((table_Live.f k a0_0 a0_1 a0_2 l0_3).bind fun t469=>(if (t469.length : Int)=0 then ((table_Eldest.f k a0_0 a0_1 a0_2 l0_3).bind fun t472=>(if t472=0 then ((table_Find.f k a0_0 a0_1 a0_2 l0_3 1).bind fun t473=>(if t473=(-1) then ((humuslaw11_awake.f k).bind fun t474=>(humuslaw11_TableCodes.j0 k t474)) else (none))) else (none))) else (none))) else (none)) else (none)) else (none)))))=some r:=H
 have A7:=A_ A70;clear A70;replace H:=Option.bind_eq_some_iff.mp H;obtain ⟨t467,A80,H⟩:=H
 replace H : (if t467=true then ((table_Decode.f k t463).bind fun bt475=>((table_Check.f k a0_0 a0_1 a0_2 l0_3).bind fun t483=>(if t483=0 then (if t466=0 then ((humusref11_Page.f k a0_0 a0_1 a0_2 l0_3).bind fun t484=>(if (strOfNums t463).toList=(strOfNums t484).toList then (if bt475.2.2.2.2=0 then ((humusref11_Same.f k bt475.1 bt475.2.1 bt475.2.2.1 bt475.2.2.2.1 a0_0 a0_1 a0_2 l0_3).bind fun t487=>(if t487=true then ((humuslaw11_awake.f k).bind fun t488=>(humuslaw11_TableCodes.j1 k t488)) else (none))) else (none)) else (none))) else (none)) else (none)))) else ((table_Check.f k a0_0 a0_1 a0_2 l0_3).bind fun t468=>(if t468=1 then (if t466=1 then (if (t463.length : Int)=0 then ((table_Live.f k a0_0 a0_1 a0_2 l0_3).bind fun t469=>(if (t469.length : Int)=0 then ((table_Eldest.f k a0_0 a0_1 a0_2 l0_3).bind fun t472=>(if t472=0 then ((table_Find.f k a0_0 a0_1 a0_2 l0_3 1).bind fun t473=>(if t473=(-1) then ((humuslaw11_awake.f k).bind fun t474=>(humuslaw11_TableCodes.j0 k t474)) else (none))) else (none))) else (none))) else (none)) else (none)) else (none))))=some r:=H
 have A8:=A_ A80;clear A80
 by_cases c9 : t467=true
 rotate_left
 ·replace c9:=Bool.eq_false_iff.mpr c9
  subst c9
  have H1 : ((table_Check.f k a0_0 a0_1 a0_2 l0_3).bind fun t468=>(if t468=1 then (if t466=1 then (if (t463.length : Int)=0 then ((table_Live.f k a0_0 a0_1 a0_2 l0_3).bind fun t469=>(if (t469.length : Int)=0 then ((table_Eldest.f k a0_0 a0_1 a0_2 l0_3).bind fun t472=>(if t472=0 then ((table_Find.f k a0_0 a0_1 a0_2 l0_3 1).bind fun t473=>(if t473=(-1) then ((humuslaw11_awake.f k).bind fun t474=>(humuslaw11_TableCodes.j0 k t474)) else (none))) else (none))) else (none))) else (none)) else (none)) else (none)))=some r:=by rw [if_neg (show ¬ (false=true) by decide)] at H;exact H
  clear H;have H:=H1;clear H1;have HC39:=A_ H;clear H;go_enter Tryd.func4,Tryd.ntmps4
  go_upto_region 5 with (first|((with_reducible refine gate_dst (N:=1) rfl ?_);(try (refine gate_guard (by rfl) ?_;dsimp only));refine box_event ?hg (N:=1) ?hd (cs:=#[.int .i64 a0_0,.int .i64 a0_1,.int .i64 a0_2,.slice A0_3 l0_3.length c0_3]) (t:=26) ?hr ?_;(case hd=>rfl);(case hg=>rfl);(case hr=>first|(go_simp;done)|(go_simp;rfl));intro gb461 hg w40 hbox hb;have n0_:=A_ (bp_ (hb0_ HB.out) hb);have n1_:=A_ (hbox);have n2_:=A_ ((by rw [hg];exact (bz_ (hb0_ HB.out)) : w.heap.size≤gb461));have n3_:=n2_;clear HB;have HB:=n0_;have BK461:=n1_;have GW461:=n2_;have GE461:=n3_;clear n0_ n1_ n2_ n3_;clear hb hbox hg;obtain ⟨z41_0,z41_1,z41_2,z41_3⟩:=blkc_4 BK461.out;obtain ⟨y41_0,y41_1,y41_2⟩:=blkz_3 BK461.out;have y41_3:=bf_ BK461.out 3)|((with_reducible refine gate_callee (f:=11) rfl ?_);refine goesL_ (some 14) rfl rfl Tryd.func11 (by kernel_rfl) rfl #[.agg #[.int .i64 a0_0,.int .i64 a0_1,.int .i64 a0_2,.slice A0_3 l0_3.length c0_3]] rfl (by (try simp only [List.map_toArray,List.map_cons,List.map_nil]);first|done|rfl|(simp only [List.length_drop,List.length_take];rfl)) ?_;(with_reducible refine (table_Encode.calls k a0_0 a0_1 a0_2 _ _ l0_3 t463 t466 _ ?side1 ?side2 A7.out).mono ?_);(case side1=>repeat (first|exact (Kd.C_below HR0_3.out HB.out)|(with_reducible refine Kd.C_alloc ?_ _)|(with_reducible refine Kd.C_drewN ?_ _)|(with_reducible refine Kd.C_drew ?_)));(case side2=>exact HC0_3.out);rintro e w42 ⟨v464,rfl,ho0,hb⟩;refine ⟨_,rfl,?_⟩;have n0_:=A_ (Kd.R_lower ho0 (bz_ (hb1_ HB.out GE461.out)));have n1_:=A_ (bx_ BK461.out kf_ hb);have n2_:=A_ (bp_ (hb1_ HB.out GE461.out) hb);clear BK461;clear HB;have HO465:=n0_;have BK461:=n1_;have HB:=n2_;clear n0_ n1_ n2_;(try clear hb);(try clear hb2);(try clear hk);(try clear hi);(try clear ho0);obtain ⟨z43_0,z43_1,z43_2,z43_3⟩:=blkc_4 BK461.out;obtain ⟨y43_0,y43_1,y43_2⟩:=blkz_3 BK461.out;have y43_3:=bf_ BK461.out 3)|((with_reducible refine gate_callee (f:=12) rfl ?_);refine goesL_ (some 18) rfl rfl Tryd.func12 (by kernel_rfl) rfl #[.agg #[.int .i64 a0_0,.int .i64 a0_1,.int .i64 a0_2,.slice A0_3 l0_3.length c0_3]] rfl (by (try simp only [List.map_toArray,List.map_cons,List.map_nil]);first|done|rfl|(simp only [List.length_drop,List.length_take];rfl)) ?_;(with_reducible refine (humusref11_May.calls k a0_0 a0_1 a0_2 _ _ l0_3 false _ ?side1 ?side2 A8.out).mono ?_);(case side1=>repeat (first|exact (Kd.C_below HR0_3.out HB.out)|(with_reducible refine Kd.C_alloc ?_ _)|(with_reducible refine Kd.C_drewN ?_ _)|(with_reducible refine Kd.C_drew ?_)));(case side2=>exact HC0_3.out);rintro e w44 ⟨rfl,hb⟩;refine ⟨_,rfl,?_⟩;have n0_:=A_ (Kd.R_below (by (with_reducible repeat (first|apply ra_|apply rn_|apply re_));exact HO465.out) hb);have n1_:=A_ (bx_ BK461.out kf_ hb);have n2_:=A_ (bp_ (hb1_ HB.out GE461.out) hb);clear HO465;clear BK461;clear HB;have HO465:=n0_;have BK461:=n1_;have HB:=n2_;clear n0_ n1_ n2_;(try clear hb);(try clear hb2);(try clear hk);(try clear hi)))
  (try simp only [Act.put,u1_,u2_,u3_])
  go_cut [2] (fun v2 wc=>∃ (kq : Nat) (x2_38 : Bool),v2=.bool x2_38∧Aside0 (humuslaw11_TableCodes.j0 kq x2_38=some r)∧Aside0 (kq≤k)∧Aside0 (wc.heap[gb461]?=some (.cells #[.int .i64 a0_0,.int .i64 a0_1,.int .i64 a0_2,(.slice A0_3 l0_3.length c0_3)] 26 (0,0)))∧Aside0 (Below w.heap.size w wc))
  case first =>
   have H:=HC39.out;clear HC39;replace H:=Option.bind_eq_some_iff.mp H;obtain ⟨t468,A450,H⟩:=H
   replace H : (if t468=1 then (if t466=1 then (if (t463.length : Int)=0 then ((table_Live.f k a0_0 a0_1 a0_2 l0_3).bind fun t469=>(if (t469.length : Int)=0 then ((table_Eldest.f k a0_0 a0_1 a0_2 l0_3).bind fun t472=>(if t472=0 then ((table_Find.f k a0_0 a0_1 a0_2 l0_3 1).bind fun t473=>(if t473=(-1) then ((humuslaw11_awake.f k).bind fun t474=>(humuslaw11_TableCodes.j0 k t474)) else (none))) else (none))) else (none))) else (none)) else (none)) else (none))=some r:=H
   have A45:=A_ A450;clear A450
   by_cases c46 : t468=1
   rotate_left
   ·rw [if_neg c46] at H
    exact absurd H (by simp)
   rw [if_pos c46] at H
   have c46b0 : (t468 == 1)=true:=beq_iff_eq.mpr c46;have c46b1 : (t468 != 1)=false:=bne_eq_false_iff_eq.mpr c46;clear c46;(first|rw [c46b0]|(simp only [i64_w,i32_w];rw [c46b0])|skip)
   by_cases c47 : t466=1
   rotate_left
   ·rw [if_neg c47] at H
    exact absurd H (by simp)
   rw [if_pos c47] at H
   have c47b0 : (t466 == 1)=true:=beq_iff_eq.mpr c47;have c47b1 : (t466 != 1)=false:=bne_eq_false_iff_eq.mpr c47;clear c47
   by_cases c48 : (t463.length : Int)=0
   rotate_left
   ·rw [if_neg c48] at H
    exact absurd H (by simp)
   rw [if_pos c48] at H
   have c48b0 : ((t463.length : Int) == 0)=true:=beq_iff_eq.mpr c48;have c48b1 : ((t463.length : Int) != 0)=false:=bne_eq_false_iff_eq.mpr c48;clear c48;replace H:=Option.bind_eq_some_iff.mp H;obtain ⟨t469,A490,H⟩:=H
   replace H : (if (t469.length : Int)=0 then ((table_Eldest.f k a0_0 a0_1 a0_2 l0_3).bind fun t472=>(if t472=0 then ((table_Find.f k a0_0 a0_1 a0_2 l0_3 1).bind fun t473=>(if t473=(-1) then ((humuslaw11_awake.f k).bind fun t474=>(humuslaw11_TableCodes.j0 k t474)) else (none))) else (none))) else (none))=some r:=H
   have A49:=A_ A490;clear A490
   by_cases c50 : (t469.length : Int)=0
   rotate_left
   ·rw [if_neg c50] at H
    exact absurd H (by simp)
   rw [if_pos c50] at H
   have c50b0 : ((t469.length : Int) == 0)=true:=beq_iff_eq.mpr c50;have c50b1 : ((t469.length : Int) != 0)=false:=bne_eq_false_iff_eq.mpr c50;clear c50;replace H:=Option.bind_eq_some_iff.mp H;obtain ⟨t472,A510,H⟩:=H
   replace H : (if t472=0 then ((table_Find.f k a0_0 a0_1 a0_2 l0_3 1).bind fun t473=>(if t473=(-1) then ((humuslaw11_awake.f k).bind fun t474=>(humuslaw11_TableCodes.j0 k t474)) else (none))) else (none))=some r:=H
   have A51:=A_ A510;clear A510
   by_cases c52 : t472=0
   rotate_left
   ·rw [if_neg c52] at H
    exact absurd H (by simp)
   rw [if_pos c52] at H
   have c52b0 : (t472 == 0)=true:=beq_iff_eq.mpr c52;have c52b1 : (t472 != 0)=false:=bne_eq_false_iff_eq.mpr c52;clear c52;replace H:=Option.bind_eq_some_iff.mp H;obtain ⟨t473,A530,H⟩:=H
   replace H : (if t473=(-1) then ((humuslaw11_awake.f k).bind fun t474=>(humuslaw11_TableCodes.j0 k t474)) else (none))=some r:=H
   have A53:=A_ A530;clear A530
   by_cases c54 : t473=(-1)
   rotate_left
   ·rw [if_neg c54] at H
    exact absurd H (by simp)
   rw [if_pos c54] at H
   have c54b0 : (t473 == (-1))=true:=beq_iff_eq.mpr c54;have c54b1 : (t473 != (-1))=false:=bne_eq_false_iff_eq.mpr c54;clear c54;replace H:=Option.bind_eq_some_iff.mp H;obtain ⟨t474,A550,H⟩:=H;replace H : (humuslaw11_TableCodes.j0 k t474)=some r:=H;have A55:=A_ A550;clear A550;have H':=A_ H;clear H;obtain ⟨z56_0,z56_1,z56_2,z56_3⟩:=blkc_4 BK461.out;obtain ⟨y56_0,y56_1,y56_2,y56_3⟩:=blkz_4 BK461.out
   go_wp2_with (first|((with_reducible refine gate_callee (f:=13) rfl ?_);refine goesL_ (some 21) rfl rfl Tryd.func13 (by kernel_rfl) rfl #[.agg #[.int .i64 a0_0,.int .i64 a0_1,.int .i64 a0_2,.slice A0_3 l0_3.length c0_3]] rfl (by (try simp only [List.map_toArray,List.map_cons,List.map_nil]);first|done|rfl|(simp only [List.length_drop,List.length_take];rfl)) ?_;(with_reducible refine (table_Check.calls k a0_0 a0_1 a0_2 _ _ l0_3 t468 _ ?side1 ?side2 A45.out).mono ?_);(case side1=>repeat (first|exact (Kd.C_below HR0_3.out HB.out)|(with_reducible refine Kd.C_alloc ?_ _)|(with_reducible refine Kd.C_drewN ?_ _)|(with_reducible refine Kd.C_drew ?_)));(case side2=>exact HC0_3.out);rintro e w57 ⟨rfl,hb⟩;refine ⟨_,rfl,?_⟩;have n0_:=A_ (Kd.R_below (by (with_reducible repeat (first|apply ra_|apply rn_|apply re_));exact HO465.out) hb);have n1_:=A_ (bx_ BK461.out kf_ hb);have n2_:=A_ (bp_ (hb1_ HB.out GE461.out) hb);clear HO465;clear BK461;clear HB;have HO465:=n0_;have BK461:=n1_;have HB:=n2_;clear n0_ n1_ n2_;(try clear hb);(try clear hb2);(try clear hk);(try clear hi);obtain ⟨Ao58,co58,eo58⟩:=Kd.R_slice HO465.out;subst eo58;obtain ⟨z59_0,z59_1,z59_2,z59_3⟩:=blkc_4 BK461.out;obtain ⟨y59_0,y59_1,y59_2⟩:=blkz_3 BK461.out;have y59_3:=bf_ BK461.out 3)|(go_at_call 14;(with_reducible refine (table_Live.calls k a0_0 a0_1 a0_2 _ _ l0_3 t469 _ ?side1 ?side2 A49.out).mono ?_);(case side1=>repeat (first|exact (Kd.C_below HR0_3.out HB.out)|(with_reducible refine Kd.C_alloc ?_ _)|(with_reducible refine Kd.C_drewN ?_ _)|(with_reducible refine Kd.C_drew ?_)));(case side2=>exact HC0_3.out);rintro e w60 ⟨v470,rfl,ho0,hb⟩;have n0_:=A_ (Kd.R_below (by (with_reducible repeat (first|apply ra_|apply rn_|apply re_));exact HO465.out) hb);have n1_:=A_ (Kd.R_lower ho0 (bz_ (hb1_ HB.out GE461.out)));have n2_:=A_ (bx_ BK461.out kf_ hb);have n3_:=A_ (bp_ (hb1_ HB.out GE461.out) hb);clear HO465;clear BK461;clear HB;have HO465:=n0_;have HO471:=n1_;have BK461:=n2_;have HB:=n3_;clear n0_ n1_ n2_ n3_;(try clear hb);(try clear hb2);(try clear hk);(try clear hi);(try clear ho0);obtain ⟨Ao61,co61,eo61⟩:=Kd.R_slice HO471.out;subst eo61;obtain ⟨z62_0,z62_1,z62_2,z62_3⟩:=blkc_4 BK461.out;obtain ⟨y62_0,y62_1,y62_2⟩:=blkz_3 BK461.out;have y62_3:=bf_ BK461.out 3)|(go_at_call 15;(with_reducible refine (table_Eldest.calls k a0_0 a0_1 a0_2 _ _ l0_3 t472 _ ?side1 ?side2 A51.out).mono ?_);(case side1=>repeat (first|exact (Kd.C_below HR0_3.out HB.out)|(with_reducible refine Kd.C_alloc ?_ _)|(with_reducible refine Kd.C_drewN ?_ _)|(with_reducible refine Kd.C_drew ?_)));(case side2=>exact HC0_3.out);rintro e w63 ⟨rfl,hb⟩;have n0_:=A_ (Kd.R_below (by (with_reducible repeat (first|apply ra_|apply rn_|apply re_));exact HO465.out) hb);have n1_:=A_ (Kd.R_below (by (with_reducible repeat (first|apply ra_|apply rn_|apply re_));exact HO471.out) hb);have n2_:=A_ (bx_ BK461.out kf_ hb);have n3_:=A_ (bp_ (hb1_ HB.out GE461.out) hb);clear HO465;clear HO471;clear BK461;clear HB;have HO465:=n0_;have HO471:=n1_;have BK461:=n2_;have HB:=n3_;clear n0_ n1_ n2_ n3_;(try clear hb);(try clear hb2);(try clear hk);(try clear hi);obtain ⟨z64_0,z64_1,z64_2,z64_3⟩:=blkc_4 BK461.out;obtain ⟨y64_0,y64_1,y64_2⟩:=blkz_3 BK461.out;have y64_3:=bf_ BK461.out 3)|(go_at_call 16;(with_reducible refine (table_Find.calls k a0_0 a0_1 a0_2 _ _ l0_3 1 t473 _ ?side1 ?side2 A53.out).mono ?_);(case side1=>repeat (first|exact (Kd.C_below HR0_3.out HB.out)|(with_reducible refine Kd.C_alloc ?_ _)|(with_reducible refine Kd.C_drewN ?_ _)|(with_reducible refine Kd.C_drew ?_)));(case side2=>exact HC0_3.out);rintro e w65 ⟨rfl,hb⟩;have n0_:=A_ (Kd.R_below (by (with_reducible repeat (first|apply ra_|apply rn_|apply re_));exact HO465.out) hb);have n1_:=A_ (Kd.R_below (by (with_reducible repeat (first|apply ra_|apply rn_|apply re_));exact HO471.out) hb);have n2_:=A_ (bx_ BK461.out kf_ hb);have n3_:=A_ (bp_ (hb1_ HB.out GE461.out) hb);clear HO465;clear HO471;clear BK461;clear HB;have HO465:=n0_;have HO471:=n1_;have BK461:=n2_;have HB:=n3_;clear n0_ n1_ n2_ n3_;(try clear hb);(try clear hb2);(try clear hk);(try clear hi))|(go_at_call 5;(with_reducible refine (humuslaw11_awake.calls k  t474 _ A55.out).mono ?_);rintro e w66 ⟨rfl,hb⟩;have n0_:=A_ (Kd.R_below (by (with_reducible repeat (first|apply ra_|apply rn_|apply re_));exact HO465.out) hb);have n1_:=A_ (Kd.R_below (by (with_reducible repeat (first|apply ra_|apply rn_|apply re_));exact HO471.out) hb);have n2_:=A_ (bx_ BK461.out kf_ hb);have n3_:=A_ (bp_ (hb1_ HB.out GE461.out) hb);clear HO465;clear HO471;clear BK461;clear HB;have HO465:=n0_;have HO471:=n1_;have BK461:=n2_;have HB:=n3_;clear n0_ n1_ n2_ n3_;(try clear hb);(try clear hb2);(try clear hk);(try clear hi)))
   go_meet
   case rel=>exact ⟨_,(t474),(by first|rfl|(simp;done)|(simp [*];done)),H',⟨by first|omega|exact Nat.le_refl _⟩,⟨by exact kk_ BK461.out⟩,⟨hb1_ HB.out GE461.out⟩⟩
  case rest =>
   clear HC39;(try clear c1);(try clear c2);(try clear c2b0);(try clear c2b1);(try clear p2);(try clear c3);(try clear hcv3);(try clear c4);(try clear c5);(try clear c6);(try clear c8);(try clear c9);(try clear c11);(try clear c12);(try clear c13);(try clear c17);(try clear c20);(try clear c24);(try clear c24b0);(try clear c24b1);(try clear c25);(try clear c25b0);(try clear c25b1);(try clear c27);(try clear c27b0);(try clear c27b1);(try clear c28);(try clear c28b0);(try clear c28b1);(try clear c30);(try clear hcv36);(try clear c46);(try clear c46b0);(try clear c46b1);(try clear c47);(try clear c47b0);(try clear c47b1);(try clear c48);(try clear c48b0);(try clear c48b1);(try clear c50);(try clear c50b0);(try clear c50b1);(try clear c52);(try clear c52b0);(try clear c52b1);(try clear c54);(try clear c54b0);(try clear c54b1);(try clear p2);(try clear z13_0 z13_1 z13_2 z13_3 z15_0 z15_1 z15_2 z15_3 z21_0 z21_1 z21_2 z21_3 z41_0 z41_1 z41_2 z41_3 z43_0 z43_1 z43_2 z43_3 z56_0 z56_1 z56_2 z56_3 z59_0 z59_1 z59_2 z59_3 z5_0 z5_1 z5_2 z5_3 z62_0 z62_1 z62_2 z62_3 z64_0 z64_1 z64_2 z64_3 y13_0 y13_1 y13_2 y13_3 y15_0 y15_1 y15_2 y15_3 y21_0 y21_1 y21_2 y21_3 y41_0 y41_1 y41_2 y41_3 y43_0 y43_1 y43_2 y43_3 y56_0 y56_1 y56_2 y56_3 y59_0 y59_1 y59_2 y59_3 y5_0 y5_1 y5_2 y5_3 y62_0 y62_1 y62_2 y62_3 y64_0 y64_1 y64_2 y64_3);obtain ⟨kq,x2_38,rfl,HA,HJ38,BK461,HB⟩:=hcut
   cases kq with
   | zero=>exact absurd HA.out (by simp [humuslaw11_TableCodes.j0])
   | succ kj38 =>
    have H:=HA.out;clear HA
    simp only [humuslaw11_TableCodes.j0] at H
    obtain rfl:=Option.some.inj H;go_wp2;go_ret
    exact ⟨by first|rfl|(simp [errW_none,errW_some] <;> rfl)|(simp [*,errW_none,errW_some] <;> rfl),hb1_ HB.out GE461.out⟩
 subst c9
 have H1 : ((table_Decode.f k t463).bind fun bt475=>((table_Check.f k a0_0 a0_1 a0_2 l0_3).bind fun t483=>(if t483=0 then (if t466=0 then ((humusref11_Page.f k a0_0 a0_1 a0_2 l0_3).bind fun t484=>(if (strOfNums t463).toList=(strOfNums t484).toList then (if bt475.2.2.2.2=0 then ((humusref11_Same.f k bt475.1 bt475.2.1 bt475.2.2.1 bt475.2.2.2.1 a0_0 a0_1 a0_2 l0_3).bind fun t487=>(if t487=true then ((humuslaw11_awake.f k).bind fun t488=>(humuslaw11_TableCodes.j1 k t488)) else (none))) else (none)) else (none))) else (none)) else (none))))=some r:=by rw [if_pos rfl] at H;exact H
 clear H;have H:=H1;clear H1;replace H:=Option.bind_eq_some_iff.mp H;obtain ⟨⟨t475,t476,t477,t478,t481⟩,A100,H⟩:=H
 replace H : ((table_Check.f k a0_0 a0_1 a0_2 l0_3).bind fun t483=>(if t483=0 then (if t466=0 then ((humusref11_Page.f k a0_0 a0_1 a0_2 l0_3).bind fun t484=>(if (strOfNums t463).toList=(strOfNums t484).toList then (if t481=0 then ((humusref11_Same.f k t475 t476 t477 t478 a0_0 a0_1 a0_2 l0_3).bind fun t487=>(if t487=true then ((humuslaw11_awake.f k).bind fun t488=>(humuslaw11_TableCodes.j1 k t488)) else (none))) else (none)) else (none))) else (none)) else (none)))=some r:=H
 have A10:=A_ A100;clear A100;have HC11:=A_ H;clear H;go_enter Tryd.func4,Tryd.ntmps4
 go_upto_region 7 with (first|((with_reducible refine gate_dst (N:=1) rfl ?_);(try (refine gate_guard (by rfl) ?_;dsimp only));refine box_event ?hg (N:=1) ?hd (cs:=#[.int .i64 a0_0,.int .i64 a0_1,.int .i64 a0_2,.slice A0_3 l0_3.length c0_3]) (t:=26) ?hr ?_;(case hd=>rfl);(case hg=>rfl);(case hr=>first|(go_simp;done)|(go_simp;rfl));intro gb461 hg w12 hbox hb;have n0_:=A_ (bp_ (hb0_ HB.out) hb);have n1_:=A_ (hbox);have n2_:=A_ ((by rw [hg];exact (bz_ (hb0_ HB.out)) : w.heap.size≤gb461));have n3_:=n2_;clear HB;have HB:=n0_;have BK461:=n1_;have GW461:=n2_;have GE461:=n3_;clear n0_ n1_ n2_ n3_;clear hb hbox hg;obtain ⟨z13_0,z13_1,z13_2,z13_3⟩:=blkc_4 BK461.out;obtain ⟨y13_0,y13_1,y13_2⟩:=blkz_3 BK461.out;have y13_3:=bf_ BK461.out 3)|((with_reducible refine gate_callee (f:=11) rfl ?_);refine goesL_ (some 14) rfl rfl Tryd.func11 (by kernel_rfl) rfl #[.agg #[.int .i64 a0_0,.int .i64 a0_1,.int .i64 a0_2,.slice A0_3 l0_3.length c0_3]] rfl (by (try simp only [List.map_toArray,List.map_cons,List.map_nil]);first|done|rfl|(simp only [List.length_drop,List.length_take];rfl)) ?_;(with_reducible refine (table_Encode.calls k a0_0 a0_1 a0_2 _ _ l0_3 t463 t466 _ ?side1 ?side2 A7.out).mono ?_);(case side1=>repeat (first|exact (Kd.C_below HR0_3.out HB.out)|(with_reducible refine Kd.C_alloc ?_ _)|(with_reducible refine Kd.C_drewN ?_ _)|(with_reducible refine Kd.C_drew ?_)));(case side2=>exact HC0_3.out);rintro e w14 ⟨v464,rfl,ho0,hb⟩;refine ⟨_,rfl,?_⟩;have n0_:=A_ (Kd.R_lower ho0 (bz_ (hb1_ HB.out GE461.out)));have n1_:=A_ (bx_ BK461.out kf_ hb);have n2_:=A_ (bp_ (hb1_ HB.out GE461.out) hb);clear BK461;clear HB;have HO465:=n0_;have BK461:=n1_;have HB:=n2_;clear n0_ n1_ n2_;(try clear hb);(try clear hb2);(try clear hk);(try clear hi);(try clear ho0);obtain ⟨z15_0,z15_1,z15_2,z15_3⟩:=blkc_4 BK461.out;obtain ⟨y15_0,y15_1,y15_2⟩:=blkz_3 BK461.out;have y15_3:=bf_ BK461.out 3)|((with_reducible refine gate_callee (f:=12) rfl ?_);refine goesL_ (some 18) rfl rfl Tryd.func12 (by kernel_rfl) rfl #[.agg #[.int .i64 a0_0,.int .i64 a0_1,.int .i64 a0_2,.slice A0_3 l0_3.length c0_3]] rfl (by (try simp only [List.map_toArray,List.map_cons,List.map_nil]);first|done|rfl|(simp only [List.length_drop,List.length_take];rfl)) ?_;(with_reducible refine (humusref11_May.calls k a0_0 a0_1 a0_2 _ _ l0_3 true _ ?side1 ?side2 A8.out).mono ?_);(case side1=>repeat (first|exact (Kd.C_below HR0_3.out HB.out)|(with_reducible refine Kd.C_alloc ?_ _)|(with_reducible refine Kd.C_drewN ?_ _)|(with_reducible refine Kd.C_drew ?_)));(case side2=>exact HC0_3.out);rintro e w16 ⟨rfl,hb⟩;refine ⟨_,rfl,?_⟩;have n0_:=A_ (Kd.R_below (by (with_reducible repeat (first|apply ra_|apply rn_|apply re_));exact HO465.out) hb);have n1_:=A_ (bx_ BK461.out kf_ hb);have n2_:=A_ (bp_ (hb1_ HB.out GE461.out) hb);clear HO465;clear BK461;clear HB;have HO465:=n0_;have BK461:=n1_;have HB:=n2_;clear n0_ n1_ n2_;(try clear hb);(try clear hb2);(try clear hk);(try clear hi);obtain ⟨Ao17,co17,eo17⟩:=Kd.R_slice HO465.out;subst eo17)|((with_reducible refine gate_callee (f:=6) rfl ?_);refine goesL_ (some 53) rfl rfl Tryd.func6 (by kernel_rfl) rfl #[.slice Ao17 t463.length co17] rfl (by (try simp only [List.map_toArray,List.map_cons,List.map_nil]);first|done|rfl|(simp only [List.length_drop,List.length_take];rfl)) ?_;(with_reducible refine (table_Decode.calls k _ _ t463 t475 t476 t477 t478 t481 _ ?side1 ?side2 A10.out).mono ?_);(case side1=>repeat (first|exact (Kd.R_reads' HO465.out).2.2|(with_reducible refine Kd.C_alloc ?_ _)|(with_reducible refine Kd.C_drewN ?_ _)|(with_reducible refine Kd.C_drew ?_)));(case side2=>exact (Kd.R_reads' HO465.out).2.1);rintro e w18 ⟨v479,rfl,ho0,hb⟩;refine ⟨_,rfl,?_⟩;have n0_:=A_ (Kd.R_below (by (with_reducible repeat (first|apply ra_|apply rn_|apply re_));exact HO465.out) hb);have n1_:=A_ (Kd.R_lower ho0 (bz_ (hb1_ HB.out GE461.out)));have n2_:=A_ (bx_ BK461.out kf_ hb);have n3_:=A_ (bp_ (hb1_ HB.out GE461.out) hb);clear HO465;clear BK461;clear HB;have HO465:=n0_;have HO480:=n1_;have BK461:=n2_;have HB:=n3_;clear n0_ n1_ n2_ n3_;(try clear hb);(try clear hb2);(try clear hk);(try clear hi);(try clear ho0))|((with_reducible refine gate_dst (N:=5) rfl ?_);(try (refine gate_guard (by rfl) ?_;dsimp only));refine box_event ?hg (N:=5) ?hd (cs:=#[.int .i64 0,.int .i64 0,.int .i64 0,.slice none 0 0]) (t:=26) ?hr ?_;(case hd=>rfl);(case hg=>rfl);(case hr=>first|(go_simp;done)|(go_simp;rfl));intro gb482 hg w19 hbox hb;have n0_:=A_ (Kd.R_below (by (with_reducible repeat (first|apply ra_|apply rn_|apply re_));exact HO465.out) hb);have n1_:=A_ (Kd.R_below (by (with_reducible repeat (first|apply ra_|apply rn_|apply re_));exact HO480.out) hb);have n2_:=A_ (bx_ BK461.out kf_ hb);have n3_:=A_ (bp_ (hb1_ HB.out GE461.out) hb);have n4_:=A_ (hbox);have n5_:=A_ ((by rw [hg];exact (bz_ (hb1_ HB.out GE461.out)) : w.heap.size≤gb482));have n6_:=n5_;have n7_:=A_ ((by rw [hg];exact Nat.ne_of_lt (bl_ BK461.out kf_) : gb461≠gb482));have n8_:=A_ (Ne.symm n7_.out);clear HO465;clear HO480;clear BK461;clear HB;have HO465:=n0_;have HO480:=n1_;have BK461:=n2_;have HB:=n3_;have BK482:=n4_;have GW482:=n5_;have GE482:=n6_;have NB461_482:=n7_;have NB482_461:=n8_;clear n0_ n1_ n2_ n3_ n4_ n5_ n6_ n7_ n8_;clear hb hbox hg;have hnb20:=NB482_461.out;have hnc20:=NB461_482.out;obtain ⟨z21_0,z21_1,z21_2,z21_3⟩:=blkc_4 BK482.out;obtain ⟨y21_0,y21_1,y21_2,y21_3⟩:=blkz_4 BK482.out;obtain ⟨Ao22,co22,eo22⟩:=Kd.R_slice HO480.out;subst eo22))
 (try simp only [Act.put,u1_,u2_,u3_])
 go_cut [2] (fun v2 wc=>∃ (kq : Nat) (x2_10 : Bool),v2=.bool x2_10∧Aside0 (humuslaw11_TableCodes.j1 kq x2_10=some r)∧Aside0 (kq≤k)∧Aside0 (Kd.R k56 56 wc w.heap.size (fun _=>True) (.slice Ao22 t478.length co22) t478)∧Aside0 (wc.heap[gb461]?=some (.cells #[.int .i64 a0_0,.int .i64 a0_1,.int .i64 a0_2,(.slice A0_3 l0_3.length c0_3)] 26 (0,0)))∧Aside0 (wc.heap[gb482]?=some (.cells #[.int .i64 t475,.int .i64 t476,.int .i64 t477,(.slice Ao22 t478.length co22)] 26 (0,0)))∧Aside0 (Below w.heap.size w wc))
 case first =>
  have H:=HC11.out;clear HC11;replace H:=Option.bind_eq_some_iff.mp H;obtain ⟨t483,A230,H⟩:=H
  replace H : (if t483=0 then (if t466=0 then ((humusref11_Page.f k a0_0 a0_1 a0_2 l0_3).bind fun t484=>(if (strOfNums t463).toList=(strOfNums t484).toList then (if t481=0 then ((humusref11_Same.f k t475 t476 t477 t478 a0_0 a0_1 a0_2 l0_3).bind fun t487=>(if t487=true then ((humuslaw11_awake.f k).bind fun t488=>(humuslaw11_TableCodes.j1 k t488)) else (none))) else (none)) else (none))) else (none)) else (none))=some r:=H
  have A23:=A_ A230;clear A230
  by_cases c24 : t483=0
  rotate_left
  ·rw [if_neg c24] at H
   exact absurd H (by simp)
  rw [if_pos c24] at H
  have c24b0 : (t483 == 0)=true:=beq_iff_eq.mpr c24;have c24b1 : (t483 != 0)=false:=bne_eq_false_iff_eq.mpr c24;clear c24;(first|rw [c24b0]|(simp only [i64_w,i32_w];rw [c24b0])|skip)
  by_cases c25 : t466=0
  rotate_left
  ·rw [if_neg c25] at H
   exact absurd H (by simp)
  rw [if_pos c25] at H
  have c25b0 : (t466 == 0)=true:=beq_iff_eq.mpr c25;have c25b1 : (t466 != 0)=false:=bne_eq_false_iff_eq.mpr c25;clear c25;replace H:=Option.bind_eq_some_iff.mp H;obtain ⟨t484,A260,H⟩:=H
  replace H : (if (strOfNums t463).toList=(strOfNums t484).toList then (if t481=0 then ((humusref11_Same.f k t475 t476 t477 t478 a0_0 a0_1 a0_2 l0_3).bind fun t487=>(if t487=true then ((humuslaw11_awake.f k).bind fun t488=>(humuslaw11_TableCodes.j1 k t488)) else (none))) else (none)) else (none))=some r:=H
  have A26:=A_ A260;clear A260
  by_cases c27 : (strOfNums t463).toList=(strOfNums t484).toList
  rotate_left
  ·rw [if_neg c27] at H
   exact absurd H (by simp)
  rw [if_pos c27] at H
  have c27b0 : ((strOfNums t463).toList == (strOfNums t484).toList)=true:=beq_iff_eq.mpr c27;have c27b1 : ((strOfNums t463).toList != (strOfNums t484).toList)=false:=bne_eq_false_iff_eq.mpr c27;clear c27
  by_cases c28 : t481=0
  rotate_left
  ·rw [if_neg c28] at H
   exact absurd H (by simp)
  rw [if_pos c28] at H
  have c28b0 : (t481 == 0)=true:=beq_iff_eq.mpr c28;have c28b1 : (t481 != 0)=false:=bne_eq_false_iff_eq.mpr c28;clear c28;replace H:=Option.bind_eq_some_iff.mp H;obtain ⟨t487,A290,H⟩:=H
  replace H : (if t487=true then ((humuslaw11_awake.f k).bind fun t488=>(humuslaw11_TableCodes.j1 k t488)) else (none))=some r:=H
  have A29:=A_ A290;clear A290
  by_cases c30 : t487=true
  rotate_left
  ·replace c30:=Bool.eq_false_iff.mpr c30
   subst c30
   have H1 : (none)=some r:=by rw [if_neg (show ¬ (false=true) by decide)] at H;exact H
   clear H;have H:=H1;clear H1
   exact absurd H (by simp)
  subst c30
  have H1 : ((humuslaw11_awake.f k).bind fun t488=>(humuslaw11_TableCodes.j1 k t488))=some r:=by rw [if_pos rfl] at H;exact H
  clear H;have H:=H1;clear H1;replace H:=Option.bind_eq_some_iff.mp H;obtain ⟨t488,A310,H⟩:=H;replace H : (humuslaw11_TableCodes.j1 k t488)=some r:=H;have A31:=A_ A310;clear A310;have H':=A_ H;clear H
  try go_wp2
  have n0_ : Aside0 (Kd.R (Kd.int .u8) 5 ((((w19.setCell ⟨gb482,0,none⟩ (.int .i64 t475)).setCell ⟨gb482,1,none⟩ (.int .i64 t476)).setCell ⟨gb482,2,none⟩ (.int .i64 t477)).setCell ⟨gb482,3,none⟩ (.slice Ao22 t478.length co22)) w.heap.size (fun _=>True) (.slice Ao17 t463.length co17) t463):=⟨by (with_reducible repeat (first|apply ra_|apply rn_|apply re_));exact Kd.R_mono (rf_ (p:=⟨gb482,3,none⟩) (rf_ (p:=⟨gb482,2,none⟩) (rf_ (p:=⟨gb482,1,none⟩) (rf_ (p:=⟨gb482,0,none⟩) (Kd.R_types HO465.out BK482.out (by decide)) (fun _ hk=>hk.2) (.int .i64 t475)) (fun _ hk=>hk.2) (.int .i64 t476)) (fun _ hk=>hk.2) (.int .i64 t477)) (fun _ hk=>hk.2) (.slice Ao22 t478.length co22)) (fun _ hk=>trivial)⟩
  have n1_ : Aside0 (Kd.R k56 56 ((((w19.setCell ⟨gb482,0,none⟩ (.int .i64 t475)).setCell ⟨gb482,1,none⟩ (.int .i64 t476)).setCell ⟨gb482,2,none⟩ (.int .i64 t477)).setCell ⟨gb482,3,none⟩ (.slice Ao22 t478.length co22)) w.heap.size (fun _=>True) (.slice Ao22 t478.length co22) t478):=⟨by (with_reducible repeat (first|apply ra_|apply rn_|apply re_));exact Kd.R_mono (rf_ (p:=⟨gb482,3,none⟩) (rf_ (p:=⟨gb482,2,none⟩) (rf_ (p:=⟨gb482,1,none⟩) (rf_ (p:=⟨gb482,0,none⟩) (Kd.R_types HO480.out BK482.out (by decide)) (fun _ hk=>hk.2) (.int .i64 t475)) (fun _ hk=>hk.2) (.int .i64 t476)) (fun _ hk=>hk.2) (.int .i64 t477)) (fun _ hk=>hk.2) (.slice Ao22 t478.length co22)) (fun _ hk=>trivial)⟩
  have n2_ : Aside0 (((((w19.setCell ⟨gb482,0,none⟩ (.int .i64 t475)).setCell ⟨gb482,1,none⟩ (.int .i64 t476)).setCell ⟨gb482,2,none⟩ (.int .i64 t477)).setCell ⟨gb482,3,none⟩ (.slice Ao22 t478.length co22)).heap[gb461]?=some (.cells #[.int .i64 a0_0,.int .i64 a0_1,.int .i64 a0_2,.slice A0_3 l0_3.length c0_3] 26 (0,0))):=⟨by refine kk_ ?_;refine blk_far ?_ NB461_482.out _;refine kk_ ?_;refine blk_far ?_ NB461_482.out _;refine kk_ ?_;refine blk_far ?_ NB461_482.out _;refine kk_ ?_;refine blk_far ?_ NB461_482.out _;exact kk_ BK461.out⟩
  have n3_ : Aside0 (((((w19.setCell ⟨gb482,0,none⟩ (.int .i64 t475)).setCell ⟨gb482,1,none⟩ (.int .i64 t476)).setCell ⟨gb482,2,none⟩ (.int .i64 t477)).setCell ⟨gb482,3,none⟩ (.slice Ao22 t478.length co22)).heap[gb482]?=some (.cells #[.int .i64 t475,.int .i64 t476,.int .i64 t477,.slice Ao22 t478.length co22] 26 (0,0))):=⟨by refine kk_ ?_;apply blkf_4_0_3;exact kk_ BK482.out⟩
  have n4_ : Aside0 (Below w.heap.size w ((((w19.setCell ⟨gb482,0,none⟩ (.int .i64 t475)).setCell ⟨gb482,1,none⟩ (.int .i64 t476)).setCell ⟨gb482,2,none⟩ (.int .i64 t477)).setCell ⟨gb482,3,none⟩ (.slice Ao22 t478.length co22))):=⟨hb2_ HB.out GE461.out GE482.out⟩;(try clear HO465);(try clear HO480);(try clear BK461);(try clear BK482);(try clear HB)
  generalize ((((w19.setCell ⟨gb482,0,none⟩ (.int .i64 t475)).setCell ⟨gb482,1,none⟩ (.int .i64 t476)).setCell ⟨gb482,2,none⟩ (.int .i64 t477)).setCell ⟨gb482,3,none⟩ (.slice Ao22 t478.length co22))=w32 at n0_ n1_ n2_ n3_ n4_ ⊢
  have HO465:=n0_;have HO480:=n1_;have BK461:=n2_;have BK482:=n3_;have HB:=n4_;clear n0_ n1_ n2_ n3_ n4_;have n0_:=A_ (re_ HO465.out);have n1_:=A_ (re_ HO480.out);have n2_:=A_ (ke_ BK461.out);have n3_:=A_ (ke_ BK482.out);have n4_:=A_ (be_ HB.out);clear HO465;clear HO480;clear BK461;clear BK482;clear HB;have HO465:=n0_;have HO480:=n1_;have BK461:=n2_;have BK482:=n3_;have HB:=n4_;clear n0_ n1_ n2_ n3_ n4_
  refine start_ (n:=28) (S:=fun w'=>w'.cell? ⟨gb461,0,none⟩=some (.int .i64 a0_0)∧w'.cell? ⟨gb461,1,none⟩=some (.int .i64 a0_1)∧w'.cell? ⟨gb461,2,none⟩=some (.int .i64 a0_2)∧w'.cell? ⟨gb461,3,none⟩=some (.slice A0_3 l0_3.length c0_3)∧w'.cell? ⟨gb482,0,none⟩=some (.int .i64 t475)∧w'.cell? ⟨gb482,1,none⟩=some (.int .i64 t476)∧w'.cell? ⟨gb482,2,none⟩=some (.int .i64 t477)∧w'.cell? ⟨gb482,3,none⟩=some (.slice Ao22 t478.length co22)∧(convert 22 9 (.slice Ao17 t463.length co17)).run Tryd.prog w'=.ok (.string (strOfNums t463)) w') (ds:=[22,25]) #[Z,Z,Z,Z,Z,Z,Z,Z,Z,Z,Z,Z,Z,Z,Z,Z,Z,Z,Z,Z,Z,Z,Z,Z,Z,Z,Z,Z] (by kernel_rfl) rfl rfl ⟨(bc_ BK461.out 0).trans rfl,(bc_ BK461.out 1).trans rfl,(bc_ BK461.out 2).trans rfl,(bc_ BK461.out 3).trans rfl,(bc_ BK482.out 0).trans rfl,(bc_ BK482.out 1).trans rfl,(bc_ BK482.out 2).trans rfl,(bc_ BK482.out 3).trans rfl,own_string (P:=Tryd.prog) Tryd.underlying22 Tryd.underlying5 Tryd.underlying9 (Kd.own_of_R HO465.out)⟩ (fun hHeld=>?_);refine with_tabW humuslaw11_TableCodes.tab7 humuslaw11_TableCodes.bits7 (fun HT_ HW_=>?_)
  generalize w32.drew=w33 at HO465 HO480 BK461 BK482 HB hHeld ⊢
  refine ta_ (i:=0) (N:=some 56) (v:=?_) (a':=?_) #[Y,Z,Z,Z,Z,Z,Z,Z,Z,Z,Z,Z,Z,Z,Z,Z,Z,Z,Z,Z,Z,Z,Z,Z,Z,Z,Z,Z] rfl rfl HT_.out HW_.out (by kernel_rfl) (fun _ _ _ h=>h) (by rfl) ?_ hHeld ?_ ?_;rotate_left;(rintro w' ⟨s0,s1,s2,s3,s4,s5,s6,s7,s8⟩;go_simp;with_reducible rfl);rotate_left;(simp only [Act.put,q1_,q2_,q3_,i64_w,i32_w];rfl)
  refine one_ (i:=1) (N:=some 57) #[Y,Y,Z,Z,Z,Z,Z,Z,Z,Z,Z,Z,Z,Z,Z,Z,Z,Z,Z,Z,Z,Z,Z,Z,Z,Z,Z,Z] rfl rfl (one_of HT_.out (by kernel_rfl)) (by decide) (fun K hK=>?_)
  refine goes_ Tryd.func13 (by kernel_rfl) rfl #[.agg #[.int .i64 a0_0,.int .i64 a0_1,.int .i64 a0_2,.slice A0_3 l0_3.length c0_3]] (by rfl) rfl rfl (by (try simp only [List.map_toArray,List.map_cons,List.map_nil]);first|done|rfl|(simp only [List.length_drop,List.length_take];rfl)) ?_
  with_reducible refine (table_Check.calls k a0_0 a0_1 a0_2 _ _ l0_3 t483 _ ?side1 ?side2 A23.out).mono ?_
  (case side1=>repeat (first|exact (Kd.C_below HR0_3.out HB.out)|(with_reducible refine Kd.C_alloc ?_ _)|(with_reducible refine Kd.C_drewN ?_ _)|(with_reducible refine Kd.C_drew ?_)))
  (case side2=>exact HC0_3.out)
  rintro e w34 ⟨rfl,hb⟩;refine ⟨_,rfl,?_⟩
  have n0_:=A_ (Kd.R_below (by (with_reducible repeat (first|apply ra_|apply rn_|apply re_));exact HO465.out) hb)
  have n1_:=A_ (Kd.R_below (by (with_reducible repeat (first|apply ra_|apply rn_|apply re_));exact HO480.out) hb)
  have n2_:=A_ (bx_ BK461.out kf_ hb);have n3_:=A_ (bx_ BK482.out kf_ hb);have n4_:=A_ (bp_ (hb2_ HB.out GE461.out GE482.out) hb);clear HO465;clear HO480;clear BK461;clear BK482;clear HB;have HO465:=n0_;have HO480:=n1_;have BK461:=n2_;have BK482:=n3_;have HB:=n4_;clear n0_ n1_ n2_ n3_ n4_;(try clear hb);(try clear hb2);(try clear hk);(try clear hi)
  refine hK.out _ _ ⟨(bc_ BK461.out 0).trans rfl,(bc_ BK461.out 1).trans rfl,(bc_ BK461.out 2).trans rfl,(bc_ BK461.out 3).trans rfl,(bc_ BK482.out 0).trans rfl,(bc_ BK482.out 1).trans rfl,(bc_ BK482.out 2).trans rfl,(bc_ BK482.out 3).trans rfl,own_string (P:=Tryd.prog) Tryd.underlying22 Tryd.underlying5 Tryd.underlying9 (Kd.own_of_R HO465.out)⟩ (fun hHeld=>?_)
  clear hK K
  refine norm_ (a':=?_) ?_ ?_;rotate_left;(show Act.put _ (some 57) _=_;simp only [Act.put,q1_,q2_,q3_,i64_w,i32_w];rfl)
  refine pu_ (i:=2) (N:=some 58) (v:=?_) (a':=?_) #[Y,Y,Y,Z,Z,Z,Z,Z,Z,Z,Z,Z,Z,Z,Z,Z,Z,Z,Z,Z,Z,Z,Z,Z,Z,Z,Z,Z] rfl rfl HT_.out (by kernel_rfl) (fun _ _ _ h=>h) (by rfl) ?_ ?_ ?_;rotate_left;(intro w';go_simp;with_reducible rfl);rotate_left;(simp only [Act.put,q1_,q2_,q3_,i64_w,i32_w];rfl)
  refine pu_ (i:=3) (N:=some 59) (v:=?_) (a':=?_) #[Y,Y,Y,Y,Z,Z,Z,Z,Z,Z,Z,Z,Z,Z,Z,Z,Z,Z,Z,Z,Z,Z,Z,Z,Z,Z,Z,Z] rfl rfl HT_.out (by kernel_rfl) (fun _ _ _ h=>h) (by rfl) ?_ ?_ ?_;rotate_left;(intro w';go_simp;with_reducible rfl);rotate_left;(simp only [Act.put,q1_,q2_,q3_,i64_w,i32_w];rfl)
  refine pu_ (i:=4) (N:=some 60) (v:=?_) (a':=?_) #[Y,Y,Y,Y,Y,Z,Z,Z,Z,Z,Z,Z,Z,Z,Z,Z,Z,Z,Z,Z,Z,Z,Z,Z,Z,Z,Z,Z] rfl rfl HT_.out (by kernel_rfl) (fun _ _ _ h=>h) (by rfl) ?_ ?_ ?_;rotate_left;(intro w';go_simp;with_reducible rfl);rotate_left;(simp only [Act.put,q1_,q2_,q3_,i64_w,i32_w];rfl)
  refine pu_ (i:=5) (N:=some 61) (v:=?_) (a':=?_) #[Y,Y,Y,Y,Y,Y,Z,Z,Z,Z,Z,Z,Z,Z,Z,Z,Z,Z,Z,Z,Z,Z,Z,Z,Z,Z,Z,Z] rfl rfl HT_.out (by kernel_rfl) (fun _ _ _ h=>h) (by rfl) ?_ ?_ ?_;rotate_left;(intro w';go_simp;with_reducible rfl);rotate_left;(simp only [Act.put,q1_,q2_,q3_,i64_w,i32_w];rfl)
  refine pu_ (i:=6) (N:=some 62) (v:=?_) (a':=?_) #[Y,Y,Y,Y,Y,Y,Y,Z,Z,Z,Z,Z,Z,Z,Z,Z,Z,Z,Z,Z,Z,Z,Z,Z,Z,Z,Z,Z] rfl rfl HT_.out (by kernel_rfl) (fun _ _ _ h=>h) (by rfl) ?_ ?_ ?_;rotate_left;(intro w';go_simp;with_reducible rfl);rotate_left;(simp only [Act.put,q1_,q2_,q3_,i64_w,i32_w];rfl)
  refine pu_ (i:=7) (N:=some 63) (v:=?_) (a':=?_) #[Y,Y,Y,Y,Y,Y,Y,Y,Z,Z,Z,Z,Z,Z,Z,Z,Z,Z,Z,Z,Z,Z,Z,Z,Z,Z,Z,Z] rfl rfl HT_.out (by kernel_rfl) (fun _ _ _ h=>h) (by rfl) ?_ ?_ ?_;rotate_left;(intro w';go_simp;with_reducible rfl);rotate_left;(simp only [Act.put,q1_,q2_,q3_,i64_w,i32_w];rfl)
  refine pu_ (i:=8) (N:=some 64) (v:=?_) (a':=?_) #[Y,Y,Y,Y,Y,Y,Y,Y,Y,Z,Z,Z,Z,Z,Z,Z,Z,Z,Z,Z,Z,Z,Z,Z,Z,Z,Z,Z] rfl rfl HT_.out (by kernel_rfl) (fun _ _ _ h=>h) (by rfl) ?_ ?_ ?_;rotate_left;(intro w';go_simp;with_reducible rfl);rotate_left;(simp only [Act.put,q1_,q2_,q3_,i64_w,i32_w];rfl)
  refine ta_ (i:=9) (N:=some 65) (v:=?_) (a':=?_) #[Y,Y,Y,Y,Y,Y,Y,Y,Y,Y,Z,Z,Z,Z,Z,Z,Z,Z,Z,Z,Z,Z,Z,Z,Z,Z,Z,Z] rfl rfl HT_.out HW_.out (by kernel_rfl) (fun _ _ _ h=>h) (by rfl) ?_ hHeld ?_ ?_;rotate_left;(rintro w' ⟨s0,s1,s2,s3,s4,s5,s6,s7,s8⟩;go_simp;with_reducible rfl);rotate_left;(simp only [Act.put,q1_,q2_,q3_,i64_w,i32_w];rfl)
  refine ta_ (i:=10) (N:=some 66) (v:=?_) (a':=?_) #[Y,Y,Y,Y,Y,Y,Y,Y,Y,Y,Y,Z,Z,Z,Z,Z,Z,Z,Z,Z,Z,Z,Z,Z,Z,Z,Z,Z] rfl rfl HT_.out HW_.out (by kernel_rfl) (fun _ _ _ h=>h) (by rfl) ?_ hHeld ?_ ?_;rotate_left;(rintro w' ⟨s0,s1,s2,s3,s4,s5,s6,s7,s8⟩;go_simp;with_reducible rfl);rotate_left;(simp only [Act.put,q1_,q2_,q3_,i64_w,i32_w];rfl)
  refine one_ (i:=11) (N:=some 67) #[Y,Y,Y,Y,Y,Y,Y,Y,Y,Y,Y,Y,Z,Z,Z,Z,Z,Z,Z,Z,Z,Z,Z,Z,Z,Z,Z,Z] rfl rfl (one_of HT_.out (by kernel_rfl)) (by decide) (fun K hK=>?_)
  refine goes_ Tryd.func17 (by kernel_rfl) rfl #[.agg #[.int .i64 a0_0,.int .i64 a0_1,.int .i64 a0_2,.slice A0_3 l0_3.length c0_3]] (by rfl) rfl rfl (by (try simp only [List.map_toArray,List.map_cons,List.map_nil]);first|done|rfl|(simp only [List.length_drop,List.length_take];rfl)) ?_
  with_reducible refine (humusref11_Page.calls k a0_0 a0_1 a0_2 _ _ l0_3 t484 _ ?side1 ?side2 A26.out).mono ?_
  (case side1=>repeat (first|exact (Kd.C_below HR0_3.out HB.out)|(with_reducible refine Kd.C_alloc ?_ _)|(with_reducible refine Kd.C_drewN ?_ _)|(with_reducible refine Kd.C_drew ?_)))
  (case side2=>exact HC0_3.out)
  rintro e w35 ⟨v485,rfl,ho0,hb⟩;refine ⟨_,rfl,?_⟩
  have n0_:=A_ (Kd.R_elder' (by (with_reducible repeat (first|apply ra_|apply rn_|apply re_));exact HO465.out) (Kd.R_base ho0) hb)
  have n1_:=A_ (Kd.R_below (by (with_reducible repeat (first|apply ra_|apply rn_|apply re_));exact HO480.out) hb)
  have n2_:=A_ (Kd.R_lower (Kd.R_new' ho0 (Kd.R_lt (by (with_reducible repeat (first|apply ra_|apply rn_|apply re_));exact HO465.out))) (bz_ (hb2_ HB.out GE461.out GE482.out)))
  have n3_:=A_ (bx_ BK461.out kf_ hb);have n4_:=A_ (bx_ BK482.out kf_ hb);have n5_:=A_ (bp_ (hb2_ HB.out GE461.out GE482.out) hb);clear HO465;clear HO480;clear BK461;clear BK482;clear HB;have HO465:=n0_;have HO480:=n1_;have HO486:=n2_;have BK461:=n3_;have BK482:=n4_;have HB:=n5_;clear n0_ n1_ n2_ n3_ n4_ n5_;(try clear hb);(try clear hb2);(try clear hk);(try clear hi);(try clear ho0)
  refine hK.out _ _ ⟨(bc_ BK461.out 0).trans rfl,(bc_ BK461.out 1).trans rfl,(bc_ BK461.out 2).trans rfl,(bc_ BK461.out 3).trans rfl,(bc_ BK482.out 0).trans rfl,(bc_ BK482.out 1).trans rfl,(bc_ BK482.out 2).trans rfl,(bc_ BK482.out 3).trans rfl,own_string (P:=Tryd.prog) Tryd.underlying22 Tryd.underlying5 Tryd.underlying9 (Kd.own_of_R HO465.out)⟩ (fun hHeld=>?_)
  clear hK K
  refine norm_ (a':=?_) ?_ ?_;rotate_left;(show Act.put _ (some 67) _=_;simp only [Act.put,q1_,q2_,q3_,i64_w,i32_w];rfl)
  refine one_ (i:=12) (N:=some 68) #[Y,Y,Y,Y,Y,Y,Y,Y,Y,Y,Y,Y,Y,Z,Z,Z,Z,Z,Z,Z,Z,Z,Z,Z,Z,Z,Z,Z] rfl rfl (one_of HT_.out (by kernel_rfl)) (by decide) (fun K hK=>?_)
  have hcv36:=own_string (P:=Tryd.prog) Tryd.underlying22 Tryd.underlying5 Tryd.underlying9 (Kd.own_of_R HO486.out)
  refine value_ (w1:=?_) (v:=?_) (by rfl) rfl ?_ ?_
  rotate_left 2
  ·go_simp
   constructor
   ·rfl
   ·rfl
  clear hcv36
  refine hK.out _ _ ⟨(bc_ BK461.out 0).trans rfl,(bc_ BK461.out 1).trans rfl,(bc_ BK461.out 2).trans rfl,(bc_ BK461.out 3).trans rfl,(bc_ BK482.out 0).trans rfl,(bc_ BK482.out 1).trans rfl,(bc_ BK482.out 2).trans rfl,(bc_ BK482.out 3).trans rfl,own_string (P:=Tryd.prog) Tryd.underlying22 Tryd.underlying5 Tryd.underlying9 (Kd.own_of_R HO465.out)⟩ (fun hHeld=>?_)
  clear hK K
  refine norm_ (a':=?_) ?_ ?_;rotate_left;(show Act.put _ (some 68) _=_;simp only [Act.put,q1_,q2_,q3_,i64_w,i32_w];rfl)
  refine pu_ (i:=13) (N:=some 69) (v:=?_) (a':=?_) #[Y,Y,Y,Y,Y,Y,Y,Y,Y,Y,Y,Y,Y,Y,Z,Z,Z,Z,Z,Z,Z,Z,Z,Z,Z,Z,Z,Z] rfl rfl HT_.out (by kernel_rfl) (fun _ _ _ h=>h) (by rfl) ?_ ?_ ?_;rotate_left;(intro w';go_simp;with_reducible rfl);rotate_left;(simp only [Act.put,q1_,q2_,q3_,i64_w,i32_w];rfl)
  refine pu_ (i:=14) (N:=some 70) (v:=?_) (a':=?_) #[Y,Y,Y,Y,Y,Y,Y,Y,Y,Y,Y,Y,Y,Y,Y,Z,Z,Z,Z,Z,Z,Z,Z,Z,Z,Z,Z,Z] rfl rfl HT_.out (by kernel_rfl) (fun _ _ _ h=>h) (by rfl) ?_ ?_ ?_;rotate_left;(intro w';go_simp;with_reducible rfl);rotate_left;(simp only [Act.put,q1_,q2_,q3_,i64_w,i32_w];rfl)
  refine pu_ (i:=15) (N:=some 71) (v:=?_) (a':=?_) #[Y,Y,Y,Y,Y,Y,Y,Y,Y,Y,Y,Y,Y,Y,Y,Y,Z,Z,Z,Z,Z,Z,Z,Z,Z,Z,Z,Z] rfl rfl HT_.out (by kernel_rfl) (fun _ _ _ h=>h) (by rfl) ?_ ?_ ?_;rotate_left;(intro w';go_simp;with_reducible rfl);rotate_left;(simp only [Act.put,q1_,q2_,q3_,i64_w,i32_w];rfl)
  refine pu_ (i:=16) (N:=some 72) (v:=?_) (a':=?_) #[Y,Y,Y,Y,Y,Y,Y,Y,Y,Y,Y,Y,Y,Y,Y,Y,Y,Z,Z,Z,Z,Z,Z,Z,Z,Z,Z,Z] rfl rfl HT_.out (by kernel_rfl) (fun _ _ _ h=>h) (by rfl) ?_ ?_ ?_;rotate_left;(intro w';go_simp;with_reducible rfl);rotate_left;(simp only [Act.put,q1_,q2_,q3_,i64_w,i32_w];rfl)
  refine pu_ (i:=17) (N:=some 73) (v:=?_) (a':=?_) #[Y,Y,Y,Y,Y,Y,Y,Y,Y,Y,Y,Y,Y,Y,Y,Y,Y,Y,Z,Z,Z,Z,Z,Z,Z,Z,Z,Z] rfl rfl HT_.out (by kernel_rfl) (fun _ _ _ h=>h) (by rfl) ?_ ?_ ?_;rotate_left;(intro w';go_simp;with_reducible rfl);rotate_left;(simp only [Act.put,q1_,q2_,q3_,i64_w,i32_w];rfl)
  refine pu_ (i:=18) (N:=some 74) (v:=?_) (a':=?_) #[Y,Y,Y,Y,Y,Y,Y,Y,Y,Y,Y,Y,Y,Y,Y,Y,Y,Y,Y,Z,Z,Z,Z,Z,Z,Z,Z,Z] rfl rfl HT_.out (by kernel_rfl) (fun _ _ _ h=>h) (by rfl) ?_ ?_ ?_;rotate_left;(intro w';go_simp;with_reducible rfl);rotate_left;(simp only [Act.put,q1_,q2_,q3_,i64_w,i32_w];rfl)
  refine pu_ (i:=19) (N:=some 75) (v:=?_) (a':=?_) #[Y,Y,Y,Y,Y,Y,Y,Y,Y,Y,Y,Y,Y,Y,Y,Y,Y,Y,Y,Y,Z,Z,Z,Z,Z,Z,Z,Z] rfl rfl HT_.out (by kernel_rfl) (fun _ _ _ h=>h) (by rfl) ?_ ?_ ?_;rotate_left;(intro w';go_simp;with_reducible rfl);rotate_left;(simp only [Act.put,q1_,q2_,q3_,i64_w,i32_w];rfl)
  refine ta_ (i:=20) (N:=some 76) (v:=?_) (a':=?_) #[Y,Y,Y,Y,Y,Y,Y,Y,Y,Y,Y,Y,Y,Y,Y,Y,Y,Y,Y,Y,Y,Z,Z,Z,Z,Z,Z,Z] rfl rfl HT_.out HW_.out (by kernel_rfl) (fun _ _ _ h=>h) (by rfl) ?_ hHeld ?_ ?_;rotate_left;(rintro w' ⟨s0,s1,s2,s3,s4,s5,s6,s7,s8⟩;go_simp;with_reducible rfl);rotate_left;(simp only [Act.put,q1_,q2_,q3_,i64_w,i32_w];rfl)
  refine ta_ (i:=21) (N:=some 77) (v:=?_) (a':=?_) #[Y,Y,Y,Y,Y,Y,Y,Y,Y,Y,Y,Y,Y,Y,Y,Y,Y,Y,Y,Y,Y,Y,Z,Z,Z,Z,Z,Z] rfl rfl HT_.out HW_.out (by kernel_rfl) (fun _ _ _ h=>h) (by rfl) ?_ hHeld ?_ ?_;rotate_left;(rintro w' ⟨s0,s1,s2,s3,s4,s5,s6,s7,s8⟩;go_simp;with_reducible rfl);rotate_left;(simp only [Act.put,q1_,q2_,q3_,i64_w,i32_w];rfl)
  refine last_ (i:=22) (N:=some 78) #[Y,Y,Y,Y,Y,Y,Y,Y,Y,Y,Y,Y,Y,Y,Y,Y,Y,Y,Y,Y,Y,Y,Y,Z,Z,Z,Z,Z] rfl rfl (one_of HT_.out (by kernel_rfl)) (by decide) (fun K hK=>?_)
  refine goes_ Tryd.func8 (by kernel_rfl) rfl #[.agg #[.int .i64 t475,.int .i64 t476,.int .i64 t477,.slice Ao22 t478.length co22],.agg #[.int .i64 a0_0,.int .i64 a0_1,.int .i64 a0_2,.slice A0_3 l0_3.length c0_3]] (by rfl) rfl rfl (by (try simp only [List.map_toArray,List.map_cons,List.map_nil]);first|done|rfl|(simp only [List.length_drop,List.length_take];rfl)) ?_
  with_reducible refine (humusref11_Same.calls k t475 t476 t477 _ _ t478 a0_0 a0_1 a0_2 _ _ l0_3 true _ ?side1 ?side2 ?side3 ?side4 A29.out).mono ?_
  (case side1=>repeat (first|exact (Kd.R_reads' HO480.out).2.2|(with_reducible refine Kd.C_alloc ?_ _)|(with_reducible refine Kd.C_drewN ?_ _)|(with_reducible refine Kd.C_drew ?_)))
  (case side2=>exact (Kd.R_reads' HO480.out).2.1)
  (case side3=>repeat (first|exact (Kd.C_below HR0_3.out HB.out)|(with_reducible refine Kd.C_alloc ?_ _)|(with_reducible refine Kd.C_drewN ?_ _)|(with_reducible refine Kd.C_drew ?_)))
  (case side4=>exact HC0_3.out)
  rintro e w37 ⟨rfl,hb⟩;refine ⟨_,rfl,?_⟩
  have n0_:=A_ (Kd.R_below (by (with_reducible repeat (first|apply ra_|apply rn_|apply re_));exact HO465.out) hb)
  have n1_:=A_ (Kd.R_below (by (with_reducible repeat (first|apply ra_|apply rn_|apply re_));exact HO480.out) hb)
  have n2_:=A_ (Kd.R_below (by (with_reducible repeat (first|apply ra_|apply rn_|apply re_));exact HO486.out) hb)
  have n3_:=A_ (bx_ BK461.out kf_ hb);have n4_:=A_ (bx_ BK482.out kf_ hb);have n5_:=A_ (bp_ (hb2_ HB.out GE461.out GE482.out) hb);clear HO465;clear HO480;clear HO486;clear BK461;clear BK482;clear HB;have HO465:=n0_;have HO480:=n1_;have HO486:=n2_;have BK461:=n3_;have BK482:=n4_;have HB:=n5_;clear n0_ n1_ n2_ n3_ n4_ n5_;(try clear hb);(try clear hb2);(try clear hk);(try clear hi);refine hK.out _ _ ?_;clear hK K
  refine norm_ (a':=?_) ?_ ?_;rotate_left;(show Act.put _ (some 78) _=_;simp only [Act.put,q1_,q2_,q3_,i64_w,i32_w];rfl)
  refine pu_ (i:=23) (N:=some 79) (v:=?_) (a':=?_) #[Y,Y,Y,Y,Y,Y,Y,Y,Y,Y,Y,Y,Y,Y,Y,Y,Y,Y,Y,Y,Y,Y,Y,Y,Z,Z,Z,Z] rfl rfl HT_.out (by kernel_rfl) (fun _ _ _ h=>h) (by rfl) ?_ ?_ ?_;rotate_left;(intro w';go_simp;with_reducible rfl);rotate_left;(simp only [Act.put,q1_,q2_,q3_,i64_w,i32_w];rfl)
  refine pu_ (i:=24) (N:=some 80) (v:=?_) (a':=?_) #[Y,Y,Y,Y,Y,Y,Y,Y,Y,Y,Y,Y,Y,Y,Y,Y,Y,Y,Y,Y,Y,Y,Y,Y,Y,Z,Z,Z] rfl rfl HT_.out (by kernel_rfl) (fun _ _ _ h=>h) (by rfl) ?_ ?_ ?_;rotate_left;(intro w';go_simp;with_reducible rfl);rotate_left;(simp only [Act.put,q1_,q2_,q3_,i64_w,i32_w];rfl)
  refine last_ (i:=25) (N:=some 81) #[Y,Y,Y,Y,Y,Y,Y,Y,Y,Y,Y,Y,Y,Y,Y,Y,Y,Y,Y,Y,Y,Y,Y,Y,Y,Y,Z,Z] rfl rfl (one_of HT_.out (by kernel_rfl)) (by decide) (fun K hK=>?_)
  refine goes_ Tryd.func5 (by kernel_rfl) rfl #[] (by rfl) rfl rfl (by (try simp only [List.map_toArray,List.map_cons,List.map_nil]);first|done|rfl|(simp only [List.length_drop,List.length_take];rfl)) ?_
  with_reducible refine (humuslaw11_awake.calls k  t488 _ A31.out).mono ?_
  rintro e w38 ⟨rfl,hb⟩;refine ⟨_,rfl,?_⟩
  have n0_:=A_ (Kd.R_below (by (with_reducible repeat (first|apply ra_|apply rn_|apply re_));exact HO465.out) hb)
  have n1_:=A_ (Kd.R_below (by (with_reducible repeat (first|apply ra_|apply rn_|apply re_));exact HO480.out) hb)
  have n2_:=A_ (Kd.R_below (by (with_reducible repeat (first|apply ra_|apply rn_|apply re_));exact HO486.out) hb)
  have n3_:=A_ (bx_ BK461.out kf_ hb);have n4_:=A_ (bx_ BK482.out kf_ hb);have n5_:=A_ (bp_ (hb2_ HB.out GE461.out GE482.out) hb);clear HO465;clear HO480;clear HO486;clear BK461;clear BK482;clear HB;have HO465:=n0_;have HO480:=n1_;have HO486:=n2_;have BK461:=n3_;have BK482:=n4_;have HB:=n5_;clear n0_ n1_ n2_ n3_ n4_ n5_;(try clear hb);(try clear hb2);(try clear hk);(try clear hi);refine hK.out _ _ ?_;clear hK K
  refine norm_ (a':=?_) ?_ ?_;rotate_left;(show Act.put _ (some 81) _=_;simp only [Act.put,q1_,q2_,q3_,i64_w,i32_w];rfl)
  refine pu_ (i:=26) (N:=some 82) (v:=?_) (a':=?_) #[Y,Y,Y,Y,Y,Y,Y,Y,Y,Y,Y,Y,Y,Y,Y,Y,Y,Y,Y,Y,Y,Y,Y,Y,Y,Y,Y,Z] rfl rfl HT_.out (by kernel_rfl) (fun _ _ _ h=>h) (by rfl) ?_ ?_ ?_;rotate_left;(intro w';go_simp;with_reducible rfl);rotate_left;(simp only [Act.put,q1_,q2_,q3_,i64_w,i32_w];rfl)
  refine pu_ (i:=27) (N:=some 2) (v:=?_) (a':=?_) #[Y,Y,Y,Y,Y,Y,Y,Y,Y,Y,Y,Y,Y,Y,Y,Y,Y,Y,Y,Y,Y,Y,Y,Y,Y,Y,Y,Y] rfl rfl HT_.out (by kernel_rfl) (fun _ _ _ h=>h) (by rfl) ?_ ?_ ?_;rotate_left;(intro w';go_simp;with_reducible rfl);rotate_left;(simp only [Act.put,q1_,q2_,q3_,i64_w,i32_w];rfl)
  refine done_ (done_of HT_.out (by kernel_rfl)) ?_
  try go_wp2
  go_meet
  case rel=>exact ⟨_,(t488),(by first|rfl|(simp;done)|(simp [*];done)),H',⟨by first|omega|exact Nat.le_refl _⟩,⟨by (with_reducible repeat (first|apply ra_|apply rn_|apply re_));exact HO480.out⟩,⟨by exact kk_ BK461.out⟩,⟨by exact kk_ BK482.out⟩,⟨hb2_ HB.out GE461.out GE482.out⟩⟩
 case rest =>
  clear HC11;(try clear c1);(try clear c2);(try clear c2b0);(try clear c2b1);(try clear p2);(try clear c3);(try clear hcv3);(try clear c4);(try clear c5);(try clear c6);(try clear c8);(try clear c9);(try clear c11);(try clear c12);(try clear c13);(try clear c17);(try clear c20);(try clear c24);(try clear c24b0);(try clear c24b1);(try clear c25);(try clear c25b0);(try clear c25b1);(try clear c27);(try clear c27b0);(try clear c27b1);(try clear c28);(try clear c28b0);(try clear c28b1);(try clear c30);(try clear hcv36);(try clear z13_0 z13_1 z13_2 z13_3 z15_0 z15_1 z15_2 z15_3 z21_0 z21_1 z21_2 z21_3 z5_0 z5_1 z5_2 z5_3 y13_0 y13_1 y13_2 y13_3 y15_0 y15_1 y15_2 y15_3 y21_0 y21_1 y21_2 y21_3 y5_0 y5_1 y5_2 y5_3);obtain ⟨kq,x2_10,rfl,HA,HJ10,HO_483003,BK461,BK482,HB⟩:=hcut
  cases kq with
  | zero=>exact absurd HA.out (by simp [humuslaw11_TableCodes.j1])
  | succ kj10 =>
   have H:=HA.out;clear HA
   simp only [humuslaw11_TableCodes.j1] at H
   obtain rfl:=Option.some.inj H;go_wp2;go_ret
   exact ⟨by first|rfl|(simp [errW_none,errW_some] <;> rfl)|(simp [*,errW_none,errW_some] <;> rfl),hb2_ HB.out GE461.out GE482.out⟩
end Go.Proofs.YtbmcbhpkefjhbaaDoor.P
namespace Go.Proofs.YtbmcbhpkefjhbaaDoor.P
open Go.RowKit YtbmcbhpkefjhbaaDoor YtbmcbhpkefjhbaaDoor.Mem YtbmcbhpkefjhbaaDoor.Pac YtbmcbhpkefjhbaaDoorW.PrintWords YtbmcbhpkefjhbaaDoorW.PrintLast YtbmcbhpkefjhbaaDoorW.PrintMore
theorem TableCodes_f {a b c : Int} {E : List Ent} : humuslaw11_TableCodes.f 9000 a b c E=some true:=by
  have aw : humuslaw11_awake.f 9000=some true:=awake11_ev (by decide)
  have hE:=@TEncode_ev 9000 a b c E (by decide)
  have hC:=@Chk_ev 9000 a b c E (by decide)
  have hM:=@May_ev 9000 a b c E (by decide)
  unfold humuslaw11_TableCodes.f
  by_cases h4 : (E.length : Int) > 40
  · rw [if_pos h4,aw,Option.bind_some]
  · rw [if_neg h4,hE,Option.bind_some,hM,Option.bind_some]
    cases hm : MayT a b c E with
    | true =>
      have hl:=(MayT_parts hm).2.2.2.1
      have sr : humusref11_Same.f 9000 a b c E a b c E=some true:=same11_refl (by omega) (by omega)
      rw [hm,if_pos rfl] at hC
      rw [if_pos rfl,if_pos rfl,TDecode_page hm (by decide),Option.bind_some,hC,Option.bind_some,if_pos rfl,if_pos rfl,TPage_ev hm (by decide),Option.bind_some,if_pos rfl,if_pos rfl,sr,Option.bind_some,if_pos rfl,aw,Option.bind_some]
      rfl
    | false =>
      rw [hm,if_neg (by decide)] at hC
      have hL : table_Live.f 9000 a b c E=some []:=by unfold table_Live.f; rw [hC,Option.bind_some,if_neg (by decide)]
      have hEl : table_Eldest.f 9000 a b c E=some 0:=by unfold table_Eldest.f; rw [hC,Option.bind_some,if_neg (by decide)]; rfl
      have hF : table_Find.f 9000 a b c E 1=some (-1):=by unfold table_Find.f; rw [hC,Option.bind_some,if_neg (by decide)]
      rw [show (if (false=true) then (sealL (pageT a b c E),(0 : Int)) else (([] : List Int),(1 : Int)))=(([] : List Int),(1 : Int)) from rfl,if_neg (show ¬ (false=true) by decide),hC,Option.bind_some,if_pos (show (1 : Int)=1 from rfl),if_pos (show (([] : List Int),(1 : Int)).2=1 from rfl),if_pos (show ((([] : List Int),(1 : Int)).1.length : Int)=0 from rfl),hL,Option.bind_some,if_pos (show (([] : List Int).length : Int)=0 from rfl),hEl,Option.bind_some,if_pos rfl,hF,Option.bind_some,if_pos rfl,aw,Option.bind_some]
      rfl
theorem TableCodes_walk {w : World} (a b c : Int) (E : List Ent) (A : Option Addr) (d : Nat) (h1 : E.length≤d) (h2 : Kd.C k56 w A E.length E) :
    Calls Tryd.prog 4 #[.agg #[.int .i64 a,.int .i64 b,.int .i64 c,.slice A E.length d]] w fun e w'=>e=.returned (.bool true)∧Below w.heap.size w w' :=
  humuslaw11_TableCodes.calls 9000 a b c A d E true w h2 h1 TableCodes_f
end Go.Proofs.YtbmcbhpkefjhbaaDoor.P
