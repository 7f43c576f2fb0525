/- by wip/prune.py -/
import Derived.Test.YtbmcbhpkefjhbaaDoorMTableCodes8
import Derived.Test.YtbmcbhpkefjhbaaDoorMTableCodes9
import Derived.Test.YtbmcbhpkefjhbaaDoorMTableCodes10
import Derived.Test.YtbmcbhpkefjhbaaDoorMTableCodes17
import Derived.Test.YtbmcbhpkefjhbaaDoorMTableCodes19
import Derived.Test.YtbmcbhpkefjhbaaDoorMTableCodes20
set_option linter.unusedSimpArgs false
set_option linter.unusedVariables false
namespace Go.Proofs.YtbmcbhpkefjhbaaDoor.P
open Go.RowKit YtbmcbhpkefjhbaaDoorW.PrintWords YtbmcbhpkefjhbaaDoorW.PrintLast YtbmcbhpkefjhbaaDoorW.PrintMore
attribute [local go_sem] max2_int min2_int max_two min_two max_three min_three max_four min_four   -- for this text's walks alone
attribute [local go_sem] run_store_float
mutual
def table_Encode.l0 : Nat→List Int→List (S56)→Int→Int→Option (List Int × Int)
 | 0,_,_,_,_=>none
 | k + 1,x5,x26,x27,x28=>if x28<x27 then (if 0≤x28 then (if x28<(x26.length : Int) then ((some (([(rd_T56 x26 x28).f1,(rd_T56 x26 x28).f0,(rd_T56 x26 x28).f2,(rd_T56 x26 x28).f3] : List Int) : List Int)).bind fun y430=>(if x5.length + y430.length<17592186044416 then (table_Encode.l0 k (x5++y430) x26 x27 (wrap64 (x28 + 1))) else (none))) else (none)) else (none)) else ((table_kinds.f).bind fun t436=>(table_Encode.l1 k x5 ([] : List (S51)) t436 (t436.length : Int) 0))
def table_Encode.l1 : Nat→List Int→List (S51)→List Int→Int→Int→Option (List Int × Int)
 | 0,_,_,_,_,_=>none
 | k + 1,x5,x8,x44,x45,x46=>if x46<x45 then (if 0≤x46 then (if x46<(x44.length : Int) then (if x46<(x5.length : Int) then (if x8.length<3518437208883 then (table_Encode.l1 k x5 (x8++[(⟨rd x44 x46,rd x5 x46,0,(⟨#[]⟩ : ByteArray)⟩ : S51)]) x44 x45 (wrap64 (x46 + 1))) else (none)) else (none)) else (none)) else (none)) else ((pack_Put.f x8).bind fun bt444=>(if 0≤(wrap64 (508 - (bt444.1.length : Int))) then (if bt444.1.length + (wrap64 (508 - (bt444.1.length : Int)) : Int).toNat<140737488355328 then ((tally_Seal.f k (bt444.1++List.replicate (wrap64 (508 - (bt444.1.length : Int)) : Int).toNat 0)).bind fun t451=>(some (t451,0))) else (none)) else (none)))
end
def table_Encode.f (k : Nat) (a0_0 : Int) (a0_1 : Int) (a0_2 : Int) (l0_3 : List (S56)) : Option (List Int × Int):=(table_Check.f k a0_0 a0_1 a0_2 l0_3).bind fun t424=>(if t424=0 then (table_Encode.l0 k (([84,a0_0,a0_1,a0_2] : List Int)) l0_3 (l0_3.length : Int) 0) else (some (([] : List Int),t424)))
set_option maxHeartbeats 8000000 in
set_option maxRecDepth 100000 in
theorem table_Encode.calls (k : Nat) (a0_0 : Int) (a0_1 : Int) (a0_2 : Int) (A0_3 : Option Addr) (c0_3 : Nat) (l0_3 : List (S56)) (r1 : List Int) (r2 : Int) (w : World) (hr0_3 : Kd.C k56 w A0_3 l0_3.length l0_3) (hc0_3 : l0_3.length≤c0_3) (h : table_Encode.f k a0_0 a0_1 a0_2 l0_3=some (r1,r2)) :
  Calls Tryd.prog 11 #[.agg #[.int .i64 a0_0,.int .i64 a0_1,.int .i64 a0_2,.slice A0_3 l0_3.length c0_3]] w fun e w'=>∃ v0_ : Value,e=.returned (.tuple #[v0_,.int .i64 r2])∧Kd.R (Kd.int .u8) 5 w' w.heap.size (fun _=>True) v0_ r1∧Below w.heap.size w w':=by
 have hu26:=Tryd.underlying26;have hu56:=Tryd.underlying56;have hu51:=Tryd.underlying51;have HR0_3:=A_ hr0_3;have HC0_3:=A_ hc0_3;clear hr0_3 hc0_3;have HB:=A_ (Below.refl w.heap.size w)
 have H : ((table_Check.f k a0_0 a0_1 a0_2 l0_3).bind fun t424=>(if t424=0 then (table_Encode.l0 k (([84,a0_0,a0_1,a0_2] : List Int)) l0_3 (l0_3.length : Int) 0) else (some (([] : List Int),t424))))=some (r1,r2):=h
 clear h;replace H:=Option.bind_eq_some_iff.mp H;obtain ⟨t424,A20,H⟩:=H
 replace H : (if t424=0 then (table_Encode.l0 k (([84,a0_0,a0_1,a0_2] : List Int)) l0_3 (l0_3.length : Int) 0) else (some (([] : List Int),t424)))=some (r1,r2):=H
 have A2:=A_ A20;clear A20
 by_cases c3 : t424=0
 rotate_left
 ·rw [if_neg c3] at H
  have c3b0 : (t424 == 0)=false:=beq_eq_false_iff_ne.mpr c3;have c3b1 : (t424 != 0)=true:=bne_iff_ne.mpr c3
  simp only [Option.some.injEq,Prod.mk.injEq] at H
  obtain ⟨rfl,rfl⟩:=H;go_enter Tryd.func11,Tryd.ntmps11
  go_wp2_with (first|((with_reducible refine gate_dst (N:=1) rfl ?_);refine box_event ?hg (N:=1) ?hd (cs:=#[.int .i64 a0_0,.int .i64 a0_1,.int .i64 a0_2,.slice A0_3 l0_3.length c0_3]) (t:=26) ?hr ?_;(case hd=>rfl);(case hg=>rfl);(case hr=>first|(go_simp;done)|(go_simp;rfl));intro gb423 hg w43 hbox hb;have n0_:=A_ (bp_ (hb0_ HB.out) hb);have n1_:=A_ (hbox);have n2_:=A_ ((by rw [hg];exact (bz_ (hb0_ HB.out)) : w.heap.size≤gb423));have n3_:=n2_;clear HB;have HB:=n0_;have BK423:=n1_;have GW423:=n2_;have GE423:=n3_;clear n0_ n1_ n2_ n3_;clear hb hbox hg;obtain ⟨z44_0,z44_1,z44_2,z44_3⟩:=blkc_4 BK423.out;obtain ⟨y44_0,y44_1,y44_2⟩:=blkz_3 BK423.out;have y44_3:=bf_ BK423.out 3)|((with_reducible refine gate_callee (f:=13) rfl ?_);refine goesL_ (some 14) rfl rfl Tryd.func13 (by kernel_rfl) rfl #[.agg #[.int .i64 a0_0,.int .i64 a0_1,.int .i64 a0_2,.slice A0_3 l0_3.length c0_3]] rfl (by (try simp only [List.map_toArray,List.map_cons,List.map_nil]);first|done|rfl|(simp only [List.length_drop,List.length_take];rfl)) ?_;(with_reducible refine (table_Check.calls k a0_0 a0_1 a0_2 _ _ l0_3 t424 _ ?side1 ?side2 A2.out).mono ?_);(case side1=>repeat (first|exact (Kd.C_below HR0_3.out HB.out)|(with_reducible refine Kd.C_alloc ?_ _)|(with_reducible refine Kd.C_drewN ?_ _)|(with_reducible refine Kd.C_drew ?_)));(case side2=>exact HC0_3.out);rintro e w45 ⟨rfl,hb⟩;refine ⟨_,rfl,?_⟩;have n0_:=A_ (bx_ BK423.out kf_ hb);have n1_:=A_ (bp_ (hb1_ HB.out GE423.out) hb);clear BK423;clear HB;have BK423:=n0_;have HB:=n1_;clear n0_ n1_;(try clear hb);(try clear hb2);(try clear hk);(try clear hi)))
  go_ret2
  exact ⟨_,by first|rfl|(simp [errW_none,errW_some] <;> rfl)|(simp [*,errW_none,errW_some] <;> rfl),by first|exact Kd.R_nil _ _ _ _ _|exact Kd.N_nil _ _ _ _ _|exact Kd.V_nil _ _ _ _ _|exact Kd.Q_nil _ _ _ _ _|exact Kd.S_nil _ _ _ _ _,hb1_ HB.out GE423.out⟩
 rw [if_pos c3] at H
 have c3b0 : (t424 == 0)=true:=beq_iff_eq.mpr c3;have c3b1 : (t424 != 0)=false:=bne_eq_false_iff_eq.mpr c3;clear c3
 obtain ⟨y425,hy425⟩ : ∃ y_ : List Int,y_=(([84,a0_0,a0_1,a0_2] : List Int)):=⟨_,rfl⟩
 replace H : (table_Encode.l0 k y425 l0_3 (l0_3.length : Int) 0)=some (r1,r2):=by first|(rw [hy425];with_reducible exact H)|(have H2_:=(Option.bind_some _ _).symm.trans H;rw [hy425];with_reducible exact H2_)|(have H2_:=(Option.bind_some _ _).symm.trans H;with_reducible exact H2_)|with_reducible exact H|(rw [hy425];exact H)|exact H
 have Ny425:=A_ hy425;clear hy425;have H':=A_ H;clear H;go_enter Tryd.func11,Tryd.ntmps11
 go_wp2_with (first|((with_reducible refine gate_dst (N:=1) rfl ?_);refine box_event ?hg (N:=1) ?hd (cs:=#[.int .i64 a0_0,.int .i64 a0_1,.int .i64 a0_2,.slice A0_3 l0_3.length c0_3]) (t:=26) ?hr ?_;(case hd=>rfl);(case hg=>rfl);(case hr=>first|(go_simp;done)|(go_simp;rfl));intro gb423 hg w4 hbox hb;have n0_:=A_ (bp_ (hb0_ HB.out) hb);have n1_:=A_ (hbox);have n2_:=A_ ((by rw [hg];exact (bz_ (hb0_ HB.out)) : w.heap.size≤gb423));have n3_:=n2_;clear HB;have HB:=n0_;have BK423:=n1_;have GW423:=n2_;have GE423:=n3_;clear n0_ n1_ n2_ n3_;clear hb hbox hg;obtain ⟨z5_0,z5_1,z5_2,z5_3⟩:=blkc_4 BK423.out;obtain ⟨y5_0,y5_1,y5_2⟩:=blkz_3 BK423.out;have y5_3:=bf_ BK423.out 3)|((with_reducible refine gate_callee (f:=13) rfl ?_);refine goesL_ (some 14) rfl rfl Tryd.func13 (by kernel_rfl) rfl #[.agg #[.int .i64 a0_0,.int .i64 a0_1,.int .i64 a0_2,.slice A0_3 l0_3.length c0_3]] rfl (by (try simp only [List.map_toArray,List.map_cons,List.map_nil]);first|done|rfl|(simp only [List.length_drop,List.length_take];rfl)) ?_;(with_reducible refine (table_Check.calls k a0_0 a0_1 a0_2 _ _ l0_3 t424 _ ?side1 ?side2 A2.out).mono ?_);(case side1=>repeat (first|exact (Kd.C_below HR0_3.out HB.out)|(with_reducible refine Kd.C_alloc ?_ _)|(with_reducible refine Kd.C_drewN ?_ _)|(with_reducible refine Kd.C_drew ?_)));(case side2=>exact HC0_3.out);rintro e w6 ⟨rfl,hb⟩;refine ⟨_,rfl,?_⟩;have n0_:=A_ (bx_ BK423.out kf_ hb);have n1_:=A_ (bp_ (hb1_ HB.out GE423.out) hb);clear BK423;clear HB;have BK423:=n0_;have HB:=n1_;clear n0_ n1_;(try clear hb);(try clear hb2);(try clear hk);(try clear hi);obtain ⟨z7_0,z7_1,z7_2,z7_3⟩:=blkc_4 BK423.out;obtain ⟨y7_0,y7_1,y7_2⟩:=blkz_3 BK423.out;have y7_3:=bf_ BK423.out 3)|((with_reducible refine gate_dst (N:=24) rfl ?_);refine Kd.R_lit (Kd.int .i64) _ 3 ?hg (N:=24) ?hd (xs:=([84,a0_0,a0_1,a0_2] : List Int)) (inner:=[.int .i64 84,.int .i64 a0_0,.int .i64 a0_1,.int .i64 a0_2]) (ok:=fun _=>True) (okp:=fun _=>True) ?hr ?hp (fun _ hk=>hk) trivial (Below.refl _ _) (Nat.le_refl _) (by simp) ?_;(case hd=>rfl);(case hg=>rfl);(case hr=>first|(go_simp;done)|(go_simp;rfl));(case hp=>exact (Reps.one (show Kd.M (Kd.int .i64) _ _ _ 84 [.int .i64 84] from rfl) (Reps.one (show Kd.M (Kd.int .i64) _ _ _ a0_0 [.int .i64 a0_0] from rfl) (Reps.one (show Kd.M (Kd.int .i64) _ _ _ a0_1 [.int .i64 a0_1] from rfl) (Reps.one (show Kd.M (Kd.int .i64) _ _ _ a0_2 [.int .i64 a0_2] from rfl) (Reps.none _ _))))));intro v426 w8 ho9 hb hg_ hnew_;clear hg_ hnew_;(first|rw [← Ny425.out] at ho9|(simp only [Int.reduceToNat] at ho9;rw [← Ny425.out] at ho9));have n0_:=A_ (Kd.R_lower ho9 (bz_ (hb1_ HB.out GE423.out)));have n1_:=A_ (bx_ BK423.out kf_ hb);have n2_:=A_ (bp_ (hb1_ HB.out GE423.out) hb);clear BK423;clear HB;have HO427:=n0_;have BK423:=n1_;have HB:=n2_;clear n0_ n1_ n2_;clear hb ho9;obtain ⟨z10_0,z10_1,z10_2,z10_3⟩:=blkc_4 BK423.out;obtain ⟨y10_0,y10_1,y10_2⟩:=blkz_3 BK423.out;have y10_3:=bf_ BK423.out 3))
 go_loopg [5,28] k (fun kq v5 v28 w'=>∃ (x5_1 : List Int) (x28_1 : Int),v28=.int .i64 x28_1∧Aside0 (table_Encode.l0 kq x5_1 l0_3 (l0_3.length : Int) x28_1=some (r1,r2))∧Aside0 (kq≤k)∧Aside0 (Kd.R (Kd.int .i64) 3 w' w.heap.size (fun _=>True) v5 x5_1)∧Aside0 (w'.heap[gb423]?=some (.cells #[.int .i64 a0_0,.int .i64 a0_1,.int .i64 a0_2,(.slice A0_3 l0_3.length c0_3)] 26 (0,0)))∧Aside0 (Below w.heap.size w w'))
 case atStart=>exact ⟨(y425),(0),(by first|rfl|(simp;done)|(simp [*];done)),H',⟨Nat.le_refl _⟩,⟨by (with_reducible repeat (first|apply ra_|apply rn_|apply re_));exact HO427.out⟩,⟨by exact kk_ BK423.out⟩,⟨hb1_ HB.out GE423.out⟩⟩
 case round =>
  clear H';(try clear c1);(try clear p2);(try clear c3);(try clear c3b0);(try clear c3b1);(try clear z10_0 z10_1 z10_2 z10_3 z5_0 z5_1 z5_2 z5_3 z7_0 z7_1 z7_2 z7_3 y10_0 y10_1 y10_2 y10_3 y5_0 y5_1 y5_2 y5_3 y7_0 y7_1 y7_2 y7_3);obtain ⟨x5_1,x28_1,rfl,HA,HK1,HO_5,BK423,HB⟩:=hrel
  cases gk with
  | zero=>exact absurd HA.out (by simp [table_Encode.l0])
  | succ k1 =>
   have H:=HA.out;clear HA
   simp only [table_Encode.l0] at H
   by_cases c11 : x28_1<(l0_3.length : Int)
   ·rw [if_pos c11] at H
    have c11b0 : decide (x28_1<(l0_3.length : Int))=true:=dt_ c11;clear c11
    by_cases c12 : 0≤x28_1
    rotate_left
    ·rw [if_neg c12] at H
     exact absurd H (by simp)
    rw [if_pos c12] at H
    have c12b0 : decide (0≤x28_1)=true:=dt_ c12;clear c12
    by_cases c13 : x28_1<(l0_3.length : Int)
    rotate_left
    ·rw [if_neg c13] at H
     exact absurd H (by simp)
    rw [if_pos c13] at H
    have c13b0 : decide (x28_1<(l0_3.length : Int))=true:=dt_ c13;clear c13
    obtain ⟨y430,hy430⟩ : ∃ y_ : List Int,y_=(([(rd_T56 l0_3 x28_1).f1,(rd_T56 l0_3 x28_1).f0,(rd_T56 l0_3 x28_1).f2,(rd_T56 l0_3 x28_1).f3] : List Int)):=⟨_,rfl⟩
    replace H : (if x5_1.length + y430.length<17592186044416 then (table_Encode.l0 k1 (x5_1++y430) l0_3 (l0_3.length : Int) (wrap64 (x28_1 + 1))) else (none))=some (r1,r2):=by first|(rw [hy430];with_reducible exact H)|(have H2_:=(Option.bind_some _ _).symm.trans H;rw [hy430];with_reducible exact H2_)|(have H2_:=(Option.bind_some _ _).symm.trans H;with_reducible exact H2_)|with_reducible exact H|(rw [hy430];exact H)|exact H
    have Ny430:=A_ hy430;clear hy430
    by_cases c14 : x5_1.length + y430.length<17592186044416
    rotate_left
    ·rw [if_neg c14] at H
     exact absurd H (by simp)
    rw [if_pos c14] at H
    have LMc14:=A_ c14;clear c14
    obtain ⟨y433,hy433⟩ : ∃ y_ : List Int,y_=(x5_1++y430):=⟨_,rfl⟩
    replace H : (table_Encode.l0 k1 y433 l0_3 (l0_3.length : Int) (wrap64 (x28_1 + 1)))=some (r1,r2):=by first|(rw [hy433];with_reducible exact H)|(have H2_:=(Option.bind_some _ _).symm.trans H;rw [hy433];with_reducible exact H2_)|(have H2_:=(Option.bind_some _ _).symm.trans H;with_reducible exact H2_)|with_reducible exact H|(rw [hy433];exact H)|exact H
    have Ny433:=A_ hy433;clear hy433;have H':=A_ H;clear H
    have p428 : 0≤(x28_1 : Int):=od_ (by first|(with_reducible assumption)|assumption)
    have q428 : x28_1<(l0_3.length : Int):=od_ (by first|(with_reducible assumption)|assumption)
    obtain ⟨ad428,e428,hx428_0,hx428_1,hx428_2,hx428_3⟩:=at_T56 HR0_3.out x28_1 p428 q428
    cases e428
    replace hx428_0:=(HB.out.cell (wb_ w _ hx428_0)).trans hx428_0;replace hx428_1:=(HB.out.cell (wb_ w _ hx428_1)).trans hx428_1;replace hx428_2:=(HB.out.cell (wb_ w _ hx428_2)).trans hx428_2;replace hx428_3:=(HB.out.cell (wb_ w _ hx428_3)).trans hx428_3;replace p428:=eq_true p428;replace q428:=eq_true q428
    go_wp2_with (first|((with_reducible refine gate_dst (N:=7) rfl ?_);refine box_event ?hg (N:=7) ?hd (cs:=#[.int .i64 0,.int .i64 0,.int .i64 0,.int .i64 0]) (t:=56) ?hr ?_;(case hd=>rfl);(case hg=>rfl);(case hr=>first|(go_simp;done)|(go_simp;rfl));intro gb429 hg w15 hbox hb;have n0_:=A_ (Kd.R_below (by (with_reducible repeat (first|apply ra_|apply rn_|apply re_));exact HO_5.out) hb);have n1_:=A_ (bx_ BK423.out kf_ hb);have n2_:=A_ (bp_ (hb1_ HB.out GE423.out) hb);have n3_:=A_ (hbox);have n4_:=A_ ((by rw [hg];exact (bz_ (hb1_ HB.out GE423.out)) : w.heap.size≤gb429));have n5_:=n4_;have n6_:=A_ ((by rw [hg];exact Nat.ne_of_lt (bl_ BK423.out kf_) : gb423≠gb429));have n7_:=A_ (Ne.symm n6_.out);clear HO_5;clear BK423;clear HB;have HO_5:=n0_;have BK423:=n1_;have HB:=n2_;have BK429:=n3_;have GW429:=n4_;have GE429:=n5_;have NB423_429:=n6_;have NB429_423:=n7_;clear n0_ n1_ n2_ n3_ n4_ n5_ n6_ n7_;clear hb hbox hg;have hnb16:=NB429_423.out;have hnc16:=NB423_429.out;obtain ⟨z17_0,z17_1,z17_2,z17_3⟩:=blkc_4 BK429.out;obtain ⟨y17_0,y17_1,y17_2⟩:=blkz_3 BK429.out;have y17_3:=bf_ BK429.out 3)|((with_reducible refine gate_dst (N:=41) rfl ?_);refine Kd.R_lit (Kd.int .i64) _ 3 ?hg (N:=41) ?hd (xs:=([(rd_T56 l0_3 x28_1).f1,(rd_T56 l0_3 x28_1).f0,(rd_T56 l0_3 x28_1).f2,(rd_T56 l0_3 x28_1).f3] : List Int)) (inner:=[.int .i64 ((rd_T56 l0_3 x28_1).f1),.int .i64 ((rd_T56 l0_3 x28_1).f0),.int .i64 ((rd_T56 l0_3 x28_1).f2),.int .i64 ((rd_T56 l0_3 x28_1).f3)]) (ok:=fun _=>True) (okp:=fun _=>True) ?hr ?hp (fun _ hk=>hk) trivial (Below.refl _ _) (Nat.le_refl _) (by simp) ?_;(case hd=>rfl);(case hg=>rfl);(case hr=>first|(go_simp;done)|(go_simp;rfl));(case hp=>exact (Reps.one (show Kd.M (Kd.int .i64) _ _ _ ((rd_T56 l0_3 x28_1).f1) [.int .i64 ((rd_T56 l0_3 x28_1).f1)] from rfl) (Reps.one (show Kd.M (Kd.int .i64) _ _ _ ((rd_T56 l0_3 x28_1).f0) [.int .i64 ((rd_T56 l0_3 x28_1).f0)] from rfl) (Reps.one (show Kd.M (Kd.int .i64) _ _ _ ((rd_T56 l0_3 x28_1).f2) [.int .i64 ((rd_T56 l0_3 x28_1).f2)] from rfl) (Reps.one (show Kd.M (Kd.int .i64) _ _ _ ((rd_T56 l0_3 x28_1).f3) [.int .i64 ((rd_T56 l0_3 x28_1).f3)] from rfl) (Reps.none _ _))))));intro v431 w18 ho19 hb hg_ hnew_;clear hg_ hnew_;(first|rw [← Ny430.out] at ho19|(simp only [Int.reduceToNat] at ho19;rw [← Ny430.out] at ho19));have n0_:=A_ (Kd.R_elder' (by (with_reducible repeat (first|apply ra_|apply rn_|apply re_));exact (Kd.R_mono (rf_ (p:=⟨gb429,3,none⟩) (rf_ (p:=⟨gb429,2,none⟩) (rf_ (p:=⟨gb429,1,none⟩) (rf_ (p:=⟨gb429,0,none⟩) (Kd.R_types HO_5.out BK429.out (by decide)) (fun _ hk=>hk.2) (.int .i64 ((rd_T56 l0_3 x28_1).f0))) (fun _ hk=>hk.2) (.int .i64 ((rd_T56 l0_3 x28_1).f1))) (fun _ hk=>hk.2) (.int .i64 ((rd_T56 l0_3 x28_1).f2))) (fun _ hk=>hk.2) (.int .i64 ((rd_T56 l0_3 x28_1).f3))) (fun _ h_=>h_.1))) (Kd.R_base ho19) hb);have n1_:=A_ (Kd.R_lower (Kd.R_new' ho19 (Kd.R_lt (by (with_reducible repeat (first|apply ra_|apply rn_|apply re_));exact (Kd.R_mono (rf_ (p:=⟨gb429,3,none⟩) (rf_ (p:=⟨gb429,2,none⟩) (rf_ (p:=⟨gb429,1,none⟩) (rf_ (p:=⟨gb429,0,none⟩) (Kd.R_types HO_5.out BK429.out (by decide)) (fun _ hk=>hk.2) (.int .i64 ((rd_T56 l0_3 x28_1).f0))) (fun _ hk=>hk.2) (.int .i64 ((rd_T56 l0_3 x28_1).f1))) (fun _ hk=>hk.2) (.int .i64 ((rd_T56 l0_3 x28_1).f2))) (fun _ hk=>hk.2) (.int .i64 ((rd_T56 l0_3 x28_1).f3))) (fun _ h_=>h_.1))))) (bz_ (hb2_ HB.out GE423.out GE429.out)));have n2_:=A_ (bb_ (g:=gb423) (o:=.cells #[.int .i64 a0_0,.int .i64 a0_1,.int .i64 a0_2,.slice (some ad428) l0_3.length c0_3] 26 (0,0)) (by refine kk_ ?_;refine blk_far ?_ NB423_429.out _;refine kk_ ?_;refine blk_far ?_ NB423_429.out _;refine kk_ ?_;refine blk_far ?_ NB423_429.out _;refine kk_ ?_;refine blk_far ?_ NB423_429.out _;exact kk_ BK423.out) hb);have n3_:=A_ (bb_ (g:=gb429) (o:=.cells #[.int .i64 ((rd_T56 l0_3 x28_1).f0),.int .i64 ((rd_T56 l0_3 x28_1).f1),.int .i64 ((rd_T56 l0_3 x28_1).f2),.int .i64 ((rd_T56 l0_3 x28_1).f3)] 56 (0,0)) (by refine kk_ ?_;apply blkf_4_0_3;exact kk_ BK429.out) hb);have n4_:=A_ (bp_ (hb2_ HB.out GE423.out GE429.out) hb);clear HO_5;clear BK423;clear BK429;clear HB;have HO_5:=n0_;have HO432:=n1_;have BK423:=n2_;have BK429:=n3_;have HB:=n4_;clear n0_ n1_ n2_ n3_ n4_;clear hb ho19;obtain ⟨Ao21,co21,eo21⟩:=Kd.R_slice HO432.out;subst eo21)|((with_reducible refine gate_builtin (b:=.append) (xs:=#[.tmp 32,.tmp 41]) rfl ?_);at_builtin;refine Kd.R_append_rows (Kd.int .i64) (w0:=w) w.heap.size rfl (.tmp 32) (.tmp 41) 37 3 (.int .i64 0) 8 rfl Tryd.underlying37 info3 rfl (by decide) (by omega) u5 x5_1 y430 _ _ _ (fun k_=>some k_≠(.slice Ao21 y430.length co21 : Value).ownBlock) (fun _=>False) rfl rfl ?aO ?aR (fun _ _ h=>h) (fun _ h=>h.elim) ?aF ?aB ?aS ?aL ?_;(case aR=>repeat (first|exact (Kd.R_reads' HO432.out).2.2|(with_reducible refine Kd.C_alloc ?_ _)|(with_reducible refine Kd.C_drewN ?_ _)|(with_reducible refine Kd.C_drew ?_)));(case aB=>exact (hb2_ HB.out GE423.out GE429.out));(case aF=>exact (fun k_ hk=>Kd.fresh' (Kd.R_lt (by (with_reducible repeat (first|apply ra_|apply rn_|apply re_));exact HO432.out)) k_ hk));(case aO=>exact (by (with_reducible repeat (first|apply ra_|apply rn_|apply re_));exact Kd.R_mono HO_5.out (fun _ hk=>hk.2)));(case aS=>exact (bz_ (hb2_ HB.out GE423.out GE429.out)));(case aL=>have:=LMc14.out;omega);intro v434 w20 ho hb hg hat;rw [← Ny433.out] at ho;have n0_:=A_ (blk_grown (g:=gb423) (o:=.cells #[.int .i64 a0_0,.int .i64 a0_1,.int .i64 a0_2,.slice (some ad428) l0_3.length c0_3] 26 (0,0)) (by exact kk_ BK423.out) hg (Kd.R_ne HO_5.out BK423.out (by decide)));have n1_:=A_ (blk_grown (g:=gb429) (o:=.cells #[.int .i64 ((rd_T56 l0_3 x28_1).f0),.int .i64 ((rd_T56 l0_3 x28_1).f1),.int .i64 ((rd_T56 l0_3 x28_1).f2),.int .i64 ((rd_T56 l0_3 x28_1).f3)] 56 (0,0)) (by exact kk_ BK429.out) hg (Kd.R_ne HO_5.out BK429.out (by decide)));have n2_:=A_ (Kd.R_after (ok:=(fun _=>True)) (by (with_reducible repeat (first|apply ra_|apply rn_|apply re_));exact HO432.out) hg hat);have n3_:=A_ (hb);have n4_:=A_ (ho);clear BK423;clear BK429;clear HO432;clear HB;clear HO_5;have BK423:=n0_;have BK429:=n1_;have HO432:=n2_;have HB:=n3_;have HO435:=n4_;clear n0_ n1_ n2_ n3_ n4_;clear ho hb hg hat))
    go_roundg k1
    case measure=>have:=HK1.out;omega
    case rel=>exact ⟨(y433),(wrap64 (x28_1 + 1)),(by first|rfl|(simp;done)|(simp [*];done)),H',⟨by have:=HK1.out;omega⟩,⟨by (with_reducible repeat (first|apply ra_|apply rn_|apply re_));exact Kd.R_mono HO435.out (fun _ hk=>trivial)⟩,⟨by exact kk_ BK423.out⟩,⟨hb2_ HB.out GE423.out GE429.out⟩⟩
   rw [if_neg c11] at H
   have c11b0 : decide (x28_1<(l0_3.length : Int))=false:=df_ c11;clear c11;replace H:=Option.bind_eq_some_iff.mp H;obtain ⟨t436,A220,H⟩:=H;replace H : (table_Encode.l1 k1 x5_1 ([] : List (S51)) t436 (t436.length : Int) 0)=some (r1,r2):=H;have A22:=A_ A220;clear A220;have H':=A_ H;clear H
   go_wp2_with (first|((with_reducible refine gate_callee (f:=23) rfl ?_);refine goesL_ (some 44) rfl rfl Tryd.func23 (by kernel_rfl) rfl #[] rfl (by (try simp only [List.map_toArray,List.map_cons,List.map_nil]);first|done|rfl|(simp only [List.length_drop,List.length_take];rfl)) ?_;(with_reducible refine (table_kinds.calls  t436 _ A22.out).mono ?_);rintro e w23 ⟨v437,rfl,ho0,hb⟩;refine ⟨_,rfl,?_⟩;have n0_:=A_ (Kd.R_elder' (by (with_reducible repeat (first|apply ra_|apply rn_|apply re_));exact HO_5.out) (Kd.R_base ho0) hb);have n1_:=A_ (Kd.R_lower (Kd.R_new' ho0 (Kd.R_lt (by (with_reducible repeat (first|apply ra_|apply rn_|apply re_));exact HO_5.out))) (bz_ (hb1_ HB.out GE423.out)));have n2_:=A_ (bx_ BK423.out kf_ hb);have n3_:=A_ (bp_ (hb1_ HB.out GE423.out) hb);clear HO_5;clear BK423;clear HB;have HO_5:=n0_;have HO438:=n1_;have BK423:=n2_;have HB:=n3_;clear n0_ n1_ n2_ n3_;(try clear hb);(try clear hb2);(try clear hk);(try clear hi);(try clear ho0);obtain ⟨Ao24,co24,eo24⟩:=Kd.R_slice HO438.out;subst eo24))
   go_loopg [8,46] k1 (fun kq v8 v46 w'=>∃ (x8_2 : List (S51)) (x46_2 : Int),v46=.int .i64 x46_2∧Aside0 (table_Encode.l1 kq x5_1 x8_2 t436 (t436.length : Int) x46_2=some (r1,r2))∧Aside0 (kq≤k1)∧Aside0 (Kd.R (Kd.int .i64) 3 w' w.heap.size (fun k_=>some k_≠((.slice Ao24 t436.length co24) : Value).ownBlock) u5 x5_1)∧Aside0 (Kd.R k51 51 w' w.heap.size (fun _=>True) v8 x8_2)∧Aside0 (Kd.R (Kd.int .i64) 3 w' w.heap.size (fun k_=>some k_≠(u5 : Value).ownBlock) (.slice Ao24 t436.length co24) t436)∧Aside0 (w'.heap[gb423]?=some (.cells #[.int .i64 a0_0,.int .i64 a0_1,.int .i64 a0_2,(.slice A0_3 l0_3.length c0_3)] 26 (0,0)))∧Aside0 (Below w.heap.size w w'))
   case atStart=>exact ⟨(([] : List (S51))),(0),(by first|rfl|(simp;done)|(simp [*];done)),H',⟨Nat.le_refl _⟩,⟨by (with_reducible repeat (first|apply ra_|apply rn_|apply re_));exact Kd.R_mono HO_5.out (fun _ hk=>hk.2)⟩,⟨by first|exact Kd.R_nil _ _ _ _ _|exact Kd.N_nil _ _ _ _ _|exact Kd.V_nil _ _ _ _ _|exact Kd.Q_nil _ _ _ _ _|exact Kd.S_nil _ _ _ _ _⟩,⟨by (with_reducible repeat (first|apply ra_|apply rn_|apply re_));exact Kd.R_mono HO438.out (fun _ hk=>hk.2)⟩,⟨by exact kk_ BK423.out⟩,⟨hb1_ HB.out GE423.out⟩⟩
   case round =>
    clear H';(try clear c1);(try clear c2);(try clear p2);(try clear c3);(try clear c3b0);(try clear c3b1);(try clear p4);(try clear q4);(try clear hx4);(try clear p6);(try clear c11);(try clear c11b0);(try clear c12);(try clear c12b0);(try clear c13);(try clear c13b0);(try clear c14);(try clear c16);(try clear c23);(try clear hx428_0);(try clear hx428_1);(try clear hx428_2);(try clear hx428_3);(try clear p2);(try clear p428);(try clear q428);(try clear z10_0 z10_1 z10_2 z10_3 z17_0 z17_1 z17_2 z17_3 z5_0 z5_1 z5_2 z5_3 z7_0 z7_1 z7_2 z7_3 y10_0 y10_1 y10_2 y10_3 y17_0 y17_1 y17_2 y17_3 y5_0 y5_1 y5_2 y5_3 y7_0 y7_1 y7_2 y7_3);obtain ⟨x8_2,x46_2,rfl,HA,HK2,HO_5,HO_8,HO_44,BK423,HB⟩:=hrel
    cases gk with
    | zero=>exact absurd HA.out (by simp [table_Encode.l1])
    | succ k2 =>
     have H:=HA.out;clear HA
     simp only [table_Encode.l1] at H
     by_cases c25 : x46_2<(t436.length : Int)
     rotate_left
     ·rw [if_neg c25] at H
      have c25b0 : decide (x46_2<(t436.length : Int))=false:=df_ c25;clear c25;replace H:=Option.bind_eq_some_iff.mp H;obtain ⟨⟨t444,t445⟩,A320,H⟩:=H
      replace H : (if 0≤(wrap64 (508 - (t444.length : Int))) then (if t444.length + (wrap64 (508 - (t444.length : Int)) : Int).toNat<140737488355328 then ((tally_Seal.f k2 (t444++List.replicate (wrap64 (508 - (t444.length : Int)) : Int).toNat 0)).bind fun t451=>(some (t451,0))) else (none)) else (none))=some (r1,r2):=H
      have A32:=A_ A320;clear A320
      obtain ⟨ji33,hji33⟩ : ∃ j_ : Int,(wrap64 (508 - (t444.length : Int)))=j_:=⟨_,rfl⟩
      replace H : (if 0≤(ji33) then (if t444.length + (ji33 : Int).toNat<140737488355328 then ((tally_Seal.f k2 (t444++List.replicate (ji33 : Int).toNat 0)).bind fun t451=>(some (t451,0))) else (none)) else (none))=some (r1,r2):=by first|(rw [hji33] at H;exact H)|(simp only [hji33] at H ⊢;exact H)
      (try rw [hji33] at A32);have hji33w : (IntKind.i64.wrap (508 - (t444.length : Int)))=ji33:=(i64_w _).trans hji33
      by_cases c34 : 0≤(ji33)
      rotate_left
      ·rw [if_neg c34] at H
       exact absurd H (by simp)
      rw [if_pos c34] at H
      have c34b0:=eq_true c34;have c34b1 : decide (0≤(ji33))=true:=dt_ c34;clear c34
      by_cases c35 : t444.length + (ji33 : Int).toNat<140737488355328
      rotate_left
      ·rw [if_neg c35] at H
       exact absurd H (by simp)
      rw [if_pos c35] at H
      have LMc35:=A_ c35;clear c35
      obtain ⟨y448,hy448⟩ : ∃ y_ : List Int,y_=(t444++List.replicate (ji33 : Int).toNat 0):=⟨_,rfl⟩
      replace H : ((tally_Seal.f k2 y448).bind fun t451=>(some (t451,0)))=some (r1,r2):=by first|(rw [hy448];with_reducible exact H)|(have H2_:=(Option.bind_some _ _).symm.trans H;rw [hy448];with_reducible exact H2_)|(have H2_:=(Option.bind_some _ _).symm.trans H;with_reducible exact H2_)|with_reducible exact H|(rw [hy448];exact H)|exact H
      have Ny448:=A_ hy448;clear hy448;replace H:=Option.bind_eq_some_iff.mp H;obtain ⟨t451,A360,H⟩:=H;replace H : (some (t451,0))=some (r1,r2):=H;have A36:=A_ A360;clear A360
      simp only [Option.some.injEq,Prod.mk.injEq] at H
      obtain ⟨rfl,rfl⟩:=H;obtain ⟨Ao37,co37,eo37⟩:=Kd.R_slice HO_8.out;subst eo37
      go_wp2_with (first|((with_reducible refine gate_callee (f:=27) rfl ?_);refine goesL_ (some 63) rfl rfl Tryd.func27 (by kernel_rfl) rfl #[.slice Ao37 x8_2.length co37] rfl (by (try simp only [List.map_toArray,List.map_cons,List.map_nil]);first|done|rfl|(simp only [List.length_drop,List.length_take];rfl)) ?_;(with_reducible refine (pack_Put.calls _ _ x8_2 t444 t445 _ ?side1 ?side2 A32.out).mono ?_);(case side1=>repeat (first|exact (Kd.R_reads' HO_8.out).2.2|(with_reducible refine Kd.C_alloc ?_ _)|(with_reducible refine Kd.C_drewN ?_ _)|(with_reducible refine Kd.C_drew ?_)));(case side2=>exact (Kd.R_reads' HO_8.out).2.1);rintro e w38 ⟨v446,rfl,ho0,hb⟩;refine ⟨_,rfl,?_⟩;have n0_:=A_ (Kd.R_below (by (with_reducible repeat (first|apply ra_|apply rn_|apply re_));exact HO_5.out) hb);have n1_:=A_ (Kd.R_below (by (with_reducible repeat (first|apply ra_|apply rn_|apply re_));exact HO_8.out) hb);have n2_:=A_ (Kd.R_below (by (with_reducible repeat (first|apply ra_|apply rn_|apply re_));exact HO_44.out) hb);have n3_:=A_ (Kd.R_lower ho0 (bz_ (hb1_ HB.out GE423.out)));have n4_:=A_ (bx_ BK423.out kf_ hb);have n5_:=A_ (bp_ (hb1_ HB.out GE423.out) hb);clear HO_5;clear HO_8;clear HO_44;clear BK423;clear HB;have HO_5:=n0_;have HO_8:=n1_;have HO_44:=n2_;have HO447:=n3_;have BK423:=n4_;have HB:=n5_;clear n0_ n1_ n2_ n3_ n4_ n5_;(try clear hb);(try clear hb2);(try clear hk);(try clear hi);(try clear ho0);obtain ⟨Ao39,co39,eo39⟩:=Kd.R_slice HO447.out;subst eo39)|(at_builtin;refine Kd.R_append_zeros (Kd.int .u8) (w0:=w) w.heap.size rfl (.tmp 66) (.tmp 69) 22 3 5 (.int .u8 0) 1 rfl Tryd.underlying22 Tryd.underlying3 info5 rfl (by decide) (by omega) (.slice Ao39 t444.length co39) t444 0 (ji33 : Int) (fun _=>True) rfl rfl rfl ?aF ?aO (od_ (by first|(with_reducible assumption)|assumption)) ?aB ?aS ?aL ?_;(case aB=>exact (hb1_ HB.out GE423.out));(case aF=>exact (fun _ _=>trivial));(case aO=>exact (by (with_reducible repeat (first|apply ra_|apply rn_|apply re_));exact HO447.out));(case aS=>exact (bz_ (hb1_ HB.out GE423.out)));(case aL=>have:=LMc35.out;omega);intro v449 w40 ho hb hg hat;rw [← Ny448.out] at ho;have n0_:=A_ (Kd.R_over' (by (with_reducible repeat (first|apply ra_|apply rn_|apply re_));exact HO_5.out) (Kd.R_typed (by (with_reducible repeat (first|apply ra_|apply rn_|apply re_));exact HO447.out)) (by decide) hg);have n1_:=A_ (Kd.R_over' (by (with_reducible repeat (first|apply ra_|apply rn_|apply re_));exact HO_8.out) (Kd.R_typed (by (with_reducible repeat (first|apply ra_|apply rn_|apply re_));exact HO447.out)) (by decide) hg);have n2_:=A_ (Kd.R_over' (by (with_reducible repeat (first|apply ra_|apply rn_|apply re_));exact HO_44.out) (Kd.R_typed (by (with_reducible repeat (first|apply ra_|apply rn_|apply re_));exact HO447.out)) (by decide) hg);have n3_:=A_ (blk_grown (g:=gb423) (o:=.cells #[.int .i64 a0_0,.int .i64 a0_1,.int .i64 a0_2,.slice A0_3 l0_3.length c0_3] 26 (0,0)) (by exact kk_ BK423.out) hg (Kd.R_ne HO447.out BK423.out (by decide)));have n4_:=A_ (hb);have n5_:=A_ (ho);clear HO_5;clear HO_8;clear HO_44;clear BK423;clear HB;clear HO447;have HO_5:=n0_;have HO_8:=n1_;have HO_44:=n2_;have BK423:=n3_;have HB:=n4_;have HO450:=n5_;clear n0_ n1_ n2_ n3_ n4_ n5_;clear ho hb hg hat;obtain ⟨Ao41,co41,eo41⟩:=Kd.R_slice HO450.out;subst eo41)|((with_reducible refine gate_callee (f:=28) rfl ?_);refine goesL_ (some 71) rfl rfl Tryd.func28 (by kernel_rfl) rfl #[.slice Ao41 y448.length co41] rfl (by (try simp only [List.map_toArray,List.map_cons,List.map_nil]);first|done|rfl|(simp only [List.length_drop,List.length_take];rfl)) ?_;(with_reducible refine (tally_Seal.calls k2 _ _ y448 t451 _ ?side1 ?side2 A36.out).mono ?_);(case side1=>repeat (first|exact (Kd.R_reads' HO450.out).2.2|(with_reducible refine Kd.C_alloc ?_ _)|(with_reducible refine Kd.C_drewN ?_ _)|(with_reducible refine Kd.C_drew ?_)));(case side2=>exact (Kd.R_reads' HO450.out).2.1);rintro e w42 ⟨v452,rfl,ho0,hb⟩;refine ⟨_,rfl,?_⟩;have n0_:=A_ (Kd.R_below (by (with_reducible repeat (first|apply ra_|apply rn_|apply re_));exact HO_5.out) hb);have n1_:=A_ (Kd.R_below (by (with_reducible repeat (first|apply ra_|apply rn_|apply re_));exact HO_8.out) hb);have n2_:=A_ (Kd.R_below (by (with_reducible repeat (first|apply ra_|apply rn_|apply re_));exact HO_44.out) hb);have n3_:=A_ (Kd.R_elder' (by (with_reducible repeat (first|apply ra_|apply rn_|apply re_));exact HO450.out) (Kd.R_base ho0) hb);have n4_:=A_ (Kd.R_lower (Kd.R_new' ho0 (Kd.R_lt (by (with_reducible repeat (first|apply ra_|apply rn_|apply re_));exact HO450.out))) (bz_ (hb1_ HB.out GE423.out)));have n5_:=A_ (bx_ BK423.out kf_ hb);have n6_:=A_ (bp_ (hb1_ HB.out GE423.out) hb);clear HO_5;clear HO_8;clear HO_44;clear HO450;clear BK423;clear HB;have HO_5:=n0_;have HO_8:=n1_;have HO_44:=n2_;have HO450:=n3_;have HO453:=n4_;have BK423:=n5_;have HB:=n6_;clear n0_ n1_ n2_ n3_ n4_ n5_ n6_;(try clear hb);(try clear hb2);(try clear hk);(try clear hi);(try clear ho0)))
      go_ret2
      exact ⟨_,by first|rfl|(simp [errW_none,errW_some] <;> rfl)|(simp only [← hji33];first|rfl|(simp [errW_none,errW_some] <;> rfl))|(simp [*,errW_none,errW_some] <;> rfl),by (with_reducible repeat (first|apply ra_|apply rn_|apply re_));exact Kd.R_mono HO453.out (fun _ hk=>trivial),hb1_ HB.out GE423.out⟩
     rw [if_pos c25] at H
     have c25b0 : decide (x46_2<(t436.length : Int))=true:=dt_ c25;clear c25
     by_cases c26 : 0≤x46_2
     rotate_left
     ·rw [if_neg c26] at H
      exact absurd H (by simp)
     rw [if_pos c26] at H
     have c26b0 : decide (0≤x46_2)=true:=dt_ c26;clear c26
     by_cases c27 : x46_2<(t436.length : Int)
     rotate_left
     ·rw [if_neg c27] at H
      exact absurd H (by simp)
     rw [if_pos c27] at H
     have c27b0 : decide (x46_2<(t436.length : Int))=true:=dt_ c27;clear c27
     by_cases c28 : x46_2<(x5_1.length : Int)
     rotate_left
     ·rw [if_neg c28] at H
      exact absurd H (by simp)
     rw [if_pos c28] at H
     have c28b0 : decide (x46_2<(x5_1.length : Int))=true:=dt_ c28;clear c28
     by_cases c29 : x8_2.length<3518437208883
     rotate_left
     ·rw [if_neg c29] at H
      exact absurd H (by simp)
     rw [if_pos c29] at H
     have LMc29:=A_ c29;clear c29
     obtain ⟨y441,hy441⟩ : ∃ y_ : List (S51),y_=(x8_2++[(⟨rd t436 x46_2,rd x5_1 x46_2,0,(⟨#[]⟩ : ByteArray)⟩ : S51)]):=⟨_,rfl⟩
     replace H : (table_Encode.l1 k2 x5_1 y441 t436 (t436.length : Int) (wrap64 (x46_2 + 1)))=some (r1,r2):=by first|(rw [hy441];with_reducible exact H)|(have H2_:=(Option.bind_some _ _).symm.trans H;rw [hy441];with_reducible exact H2_)|(have H2_:=(Option.bind_some _ _).symm.trans H;with_reducible exact H2_)|with_reducible exact H|(rw [hy441];exact H)|exact H
     have Ny441:=A_ hy441;clear hy441;have H':=A_ H;clear H
     have p439 : 0≤(x46_2 : Int):=od_ (by first|(with_reducible assumption)|assumption)
     have q439 : x46_2<(t436.length : Int):=od_ (by first|(with_reducible assumption)|assumption)
     obtain ⟨ad439,e439,hx439_0⟩:=Kd.at_int (Kd.R_reads' HO_44.out).2.2 x46_2 p439 q439
     cases e439
     replace p439:=eq_true p439;replace q439:=eq_true q439;obtain ⟨Ao30,co30,eo30⟩:=Kd.R_slice HO_5.out;subst eo30
     have p440 : 0≤(x46_2 : Int):=od_ (by first|(with_reducible assumption)|assumption)
     have q440 : x46_2<(x5_1.length : Int):=od_ (by first|(with_reducible assumption)|assumption)
     obtain ⟨ad440,e440,hx440_0⟩:=Kd.at_int (Kd.R_reads' HO_5.out).2.2 x46_2 p440 q440
     cases e440
     replace p440:=eq_true p440;replace q440:=eq_true q440
     go_wp2_with (first|((with_reducible refine gate_builtin (b:=.append) (xs:=#[.tmp 51,.tmp 58]) rfl ?_);at_builtin;refine Kd.R_append k51 (w0:=w) w.heap.size rfl (.tmp 51) (.tmp 58) 45 51 (.agg #[(.int .i64 0),(.int .i64 0),(.float .f64 0),(.string ⟨#[]⟩)]) 40 rfl Tryd.underlying45 info51 rfl (by decide) (by omega) u8 x8_2 (⟨rd t436 x46_2,rd x5_1 x46_2,0,(⟨#[]⟩ : ByteArray)⟩ : S51) [.int .i64 (rd t436 x46_2),.int .i64 (rd x5_1 x46_2),.float .f64 0,.string (⟨#[]⟩ : ByteArray)] (fun _=>True) (fun _=>False) rfl rfl ?aP (fun _ hk=>hk.elim) ?aF ?aO ?aB ?aS ?aL ?_;(case aP=>exact k51_mkM _ _ _ (⟨rd t436 x46_2,rd x5_1 x46_2,0,(⟨#[]⟩ : ByteArray)⟩ : S51));(case aB=>exact (hb1_ HB.out GE423.out));(case aF=>exact (fun _ _=>trivial));(case aO=>exact (by (with_reducible repeat (first|apply ra_|apply rn_|apply re_));exact HO_8.out));(case aS=>exact (bz_ (hb1_ HB.out GE423.out)));(case aL=>have:=LMc29.out;omega);intro v442 w31 ho hb hg hat;rw [← Ny441.out] at ho;have n0_:=A_ (Kd.R_over' (by (with_reducible repeat (first|apply ra_|apply rn_|apply re_));exact HO_5.out) (Kd.R_typed (by (with_reducible repeat (first|apply ra_|apply rn_|apply re_));exact HO_8.out)) (by decide) hg);have n1_:=A_ (Kd.R_over' (by (with_reducible repeat (first|apply ra_|apply rn_|apply re_));exact HO_44.out) (Kd.R_typed (by (with_reducible repeat (first|apply ra_|apply rn_|apply re_));exact HO_8.out)) (by decide) hg);have n2_:=A_ (blk_grown (g:=gb423) (o:=.cells #[.int .i64 a0_0,.int .i64 a0_1,.int .i64 a0_2,.slice A0_3 l0_3.length c0_3] 26 (0,0)) (by exact kk_ BK423.out) hg (Kd.R_ne HO_8.out BK423.out (by decide)));have n3_:=A_ (hb);have n4_:=A_ (ho);clear HO_5;clear HO_44;clear BK423;clear HB;clear HO_8;have HO_5:=n0_;have HO_44:=n1_;have BK423:=n2_;have HB:=n3_;have HO443:=n4_;clear n0_ n1_ n2_ n3_ n4_;clear ho hb hg hat))
     go_roundg k2
     case measure=>have:=HK1.out;have:=HK2.out;omega
     case rel=>exact ⟨(y441),(wrap64 (x46_2 + 1)),(by first|rfl|(simp;done)|(simp [*];done)),H',⟨by have:=HK1.out;have:=HK2.out;omega⟩,⟨by (with_reducible repeat (first|apply ra_|apply rn_|apply re_));exact HO_5.out⟩,⟨by (with_reducible repeat (first|apply ra_|apply rn_|apply re_));exact HO443.out⟩,⟨by (with_reducible repeat (first|apply ra_|apply rn_|apply re_));exact HO_44.out⟩,⟨by exact kk_ BK423.out⟩,⟨hb1_ HB.out GE423.out⟩⟩
end Go.Proofs.YtbmcbhpkefjhbaaDoor.P
namespace Go.Proofs.YtbmcbhpkefjhbaaDoor.P
open Go.RowKit YtbmcbhpkefjhbaaDoor YtbmcbhpkefjhbaaDoor.Mem YtbmcbhpkefjhbaaDoor.Pac YtbmcbhpkefjhbaaDoorW.PrintWords YtbmcbhpkefjhbaaDoorW.PrintLast YtbmcbhpkefjhbaaDoorW.PrintMore
def numsE (E : List Ent) : List Int:=E.flatMap fun e=>[e.f1,e.f0,e.f2,e.f3]
theorem numsE_cons (e : Ent) (E : List Ent) : numsE (e :: E)=e.f1 :: e.f0 :: e.f2 :: e.f3 :: numsE E:=by unfold numsE; rw [List.flatMap_cons]; rfl
theorem numsE_len : ∀ E : List Ent,(numsE E).length=4 * E.length
  | []=>rfl
  | e :: E=>by have ih:=numsE_len E; rw [numsE_cons]; simp only [List.length_cons,ih]; omega
def zipI (ks ns : List Int) : List SIt:=List.zipWith (fun k n=>(⟨k,n,0,⟨#[]⟩⟩ : SIt)) ks ns
theorem zip_ents : ∀ E : List Ent,zipI (reps E.length eK) (numsE E)=(entsI E).map ofIt
  | []=>rfl
  | e :: E=>by
    have ih:=zip_ents E;rw [List.length_cons,reps_succ,numsE_cons,entsI_cons]
    simp only [List.map_cons,← ih]
    rfl
theorem zip_tab {a b c : Int} {E : List Ent} (h : E.length=12) : zipI tKs ([84,a,b,c]++numsE E)=(tabI 84 a b c E).map ofIt:=by
  have:=zip_ents E;rw [h] at this
  unfold tabI
  simp only [List.map_cons,← this]
  rfl
theorem enc_l0 {E : List Ent} (hE : E.length≤1000) : ∀ (d i k : Nat) (xs : List Int),i + d=E.length→xs.length + 4 * d≤10000→d + 1≤k→table_Encode.l0 k xs E (E.length : Int) (i : Int)=table_Encode.l1 (k - d - 1) (xs++numsE (E.drop i)) [] tKs 52 0:=by
  intro d
  induction d with
  | zero =>
    intro i k xs hi hx hk
    obtain ⟨k,rfl⟩ : ∃ q,k=q + 1:=⟨k - 1,by omega⟩
    rw [table_Encode.l0,if_neg (by omega),kinds_ev,Option.bind_some,List.drop_eq_nil_of_le (by omega),show numsE []=[] from rfl,List.append_nil,tKs_len]; rfl
  | succ d ih =>
    intro i k xs hi hx hk
    obtain ⟨k,rfl⟩ : ∃ q,k=q + 1:=⟨k - 1,by omega⟩
    rw [table_Encode.l0,if_pos (by omega),if_pos (by omega),if_pos (by omega),Option.bind_some,if_pos (by simp only [List.length_cons,List.length_nil]; omega),wsucc (by omega),ih (i + 1) k _ (by omega) (by rw [List.length_append]; simp only [List.length_cons,List.length_nil]; omega) (by omega),drop_E (E:=E) (i:=i) (by omega),numsE_cons,show k + 1 - (d + 1) - 1=k - d - 1 by omega]
    simp only [List.append_assoc,List.cons_append,List.nil_append]
theorem drop_I {l : List Int} {i : Nat} (h : i<l.length) : l.drop i=rd l (i : Int) :: l.drop (i + 1):=by
  rw [List.drop_eq_getElem_cons h]
  congr 1
  unfold rd
  rw [Int.toNat_natCast,List.getD_eq_getElem?_getD,List.getElem?_eq_getElem h]; rfl
def encEnd (k : Nat) (x8 : List SIt) : Option (List Int × Int):=(pack_Put.f x8).bind fun bt444=>(if 0≤(wrap64 (508 - (bt444.1.length : Int))) then (if bt444.1.length + (wrap64 (508 - (bt444.1.length : Int)) : Int).toNat<140737488355328 then ((tally_Seal.f k (bt444.1++List.replicate (wrap64 (508 - (bt444.1.length : Int)) : Int).toNat 0)).bind fun t451=>(some (t451,0))) else (none)) else (none))
theorem enc_l1 {ns : List Int} (hn : ns.length=52) : ∀ (d i k : Nat) (xs : List SIt),d + i=52→xs.length + d≤1000→d + 1≤k→table_Encode.l1 k ns xs tKs 52 (i : Int)=encEnd (k - d - 1) (xs++zipI ((tKs : List Int).drop i) (ns.drop i)):=by
  have h52:=tKs_len;intro d
  induction d with
  | zero =>
    intro i k xs hi hx hk
    obtain ⟨k,rfl⟩ : ∃ q,k=q + 1:=⟨k - 1,by omega⟩
    rw [table_Encode.l1,if_neg (by omega),show ns.drop i=[] from List.drop_eq_nil_of_le (by omega),show (tKs : List Int).drop i=[] from List.drop_eq_nil_of_le (by omega),show zipI [] []=[] from rfl,List.append_nil]; rfl
  | succ d ih =>
    intro i k xs hi hx hk
    obtain ⟨k,rfl⟩ : ∃ q,k=q + 1:=⟨k - 1,by omega⟩
    rw [table_Encode.l1,if_pos (by omega),if_pos (by omega),if_pos (by omega),if_pos (by omega),if_pos (by omega),wsucc (by omega),ih (i + 1) k _ (by omega) (by rw [List.length_append,List.length_singleton]; omega) (by omega),drop_I (l:=ns) (i:=i) (by omega),drop_I (l:=tKs) (i:=i) (by omega),List.append_assoc,show k + 1 - (d + 1) - 1=k - d - 1 by omega]
    rfl
theorem TEncode_ev {k : Nat} {a b c : Int} {E : List Ent} (hk : 9000≤k) : table_Encode.f k a b c E=some (if MayT a b c E=true then (sealL (pageT a b c E),0) else ([],1)):=by
  unfold table_Encode.f
  rw [Chk_ev (by omega),Option.bind_some]
  cases hM : MayT a b c E with
  | false=>rfl
  | true =>
    have hl:=(MayT_parts hM).2.2.2.1;obtain ⟨h1,h2,h3,h4⟩:=pageT_bytes hM;rw [if_pos rfl,if_pos rfl,if_pos rfl]
    refine (enc_l0 (by omega) 12 0 k _ (by omega) (by simp) (by omega)).trans ?_
    rw [List.drop_zero]
    refine (enc_l1 (by rw [List.length_append,numsE_len]; simp; omega) 52 0 (k - 12 - 1) [] (by omega) (by simp) (by omega)).trans ?_
    rw [List.drop_zero,List.drop_zero,List.nil_append,zip_tab hl]
    unfold encEnd
    have hw : wrap64 (508 - ((ones (tabI 84 a b c E)).length : Int))=((363 : Nat) : Int):=by rw [h2]; unfold wrap64; omega
    rw [(put_tab hM).1,Option.bind_some]
    show (if 0≤wrap64 (508 - ((ones (tabI 84 a b c E)).length : Int)) then _ else _)=_
    rw [hw,if_pos (by decide),Int.toNat_natCast]
    show (if (ones (tabI 84 a b c E)).length + 363<140737488355328 then (tally_Seal.f _ (ones (tabI 84 a b c E)++List.replicate 363 0)).bind _ else _)=_
    have h5 : (ones (tabI 84 a b c E)++List.replicate 363 0).length=508:=h4
    have hS : tally_Seal.f (k - 12 - 1 - 52 - 1) (ones (tabI 84 a b c E)++List.replicate 363 0)=some (sealL (pageT a b c E)):=tSeal_ev h3 (by omega) (by omega)
    rw [if_pos (by omega),hS]
    rfl
theorem tnorm0 {l : List It} (h : ∀ a ∈ l,a.x=0) : l.map norm=l:=by
  refine (List.map_congr_left (g:=id) (fun a ha=>?_)).trans (List.map_id l)
  obtain ⟨k,n,x,s⟩:=a;have : x=0:=h _ ha;subst this
  unfold norm
  simp only [val0]; rfl
theorem pageT_takes {a b c : Int} {E : List Ent} (h : MayT a b c E=true) : takes (pageT a b c E) 0 tKs=some (tabI 84 a b c E,145):=by
  have hl:=(MayT_parts h).2.2.2.1;have hm:=tabI_may h
  have T:=takes_ones (tabI 84 a b c E) (fun x hx=>(hm x hx).1) (fun x hx=>by rw [(hm x hx).2]; decide) [] (List.replicate 363 0)
  rw [List.nil_append,List.length_nil,Nat.zero_add,tnorm0 (fun x hx=>(hm x hx).2),tabI_kinds hl,(pageT_bytes h).2.1] at T
  exact T
theorem any_page {a b c : Int} {E : List Ent} : ((sealL (pageT a b c E)).any fun e=>e != 0)=true:=by
  rw [List.any_eq_true];refine ⟨84,?_,rfl⟩
  unfold sealL pageT tabI
  rw [tones_cons];refine List.mem_append.2 (.inr (List.mem_append.2 (.inl (List.mem_append.2 (.inl ?_)))))
  show (84 : Int) ∈ one ⟨1,84,0,⟨#[]⟩⟩
  decide
theorem TDecode_page {k : Nat} {a b c : Int} {E : List Ent} (h : MayT a b c E=true) (hk : 9000≤k) : table_Decode.f k (sealL (pageT a b c E))=some (a,b,c,E,0):=by
  obtain ⟨h1,h2,h3,h4⟩:=pageT_bytes h;have hS:=sealL_bytes h3
  have hl : (sealL (pageT a b c E)).length=512:=by rw [sealL_length,h4]
  unfold table_Decode.f
  rw [if_pos (by omega),noughtT_ev (by omega) (by omega),any_page,Option.bind_some,Bool.not_true,if_neg (by decide),tOpen_ev hS (by omega) (by omega) (by omega),sealL_drop,sealL_take,if_pos rfl,Option.bind_some]
  refine (tdec_j0 h3 h4 (by omega)).trans ?_
  rw [decX_tab (pageT_takes h) (MayT_parts h).2.2.2.1]
  have hz : ((pageT a b c E).drop 145).any (fun e=>e != 0)=false:=by
    unfold pageT
    rw [List.drop_left' h2,zeros_any,List.length_replicate]
  rw [if_pos ⟨rfl,hz,h⟩]
end Go.Proofs.YtbmcbhpkefjhbaaDoor.P
