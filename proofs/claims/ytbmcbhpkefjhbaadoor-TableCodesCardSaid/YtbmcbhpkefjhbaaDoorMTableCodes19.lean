/- by wip/prune.py -/
import Derived.Test.YtbmcbhpkefjhbaaDoorMTableCodes8
import Derived.Test.YtbmcbhpkefjhbaaDoorMTableCodes9
import Derived.Test.YtbmcbhpkefjhbaaDoorMTableCodes12
import Derived.Test.YtbmcbhpkefjhbaaDoorMTableCodes17
import Derived.Test.YtbmcbhpkefjhbaaDoorMTableCodes18
set_option linter.unusedSimpArgs false
set_option linter.unusedVariables false
namespace Go.Proofs.YtbmcbhpkefjhbaaDoor.P
open Go.RowKit YtbmcbhpkefjhbaaDoorW.PrintWords YtbmcbhpkefjhbaaDoorW.PrintLast YtbmcbhpkefjhbaaDoorW.PrintMore
attribute [local go_sem] max2_int min2_int max_two min_two max_three min_three max_four min_four   -- for this text's walks alone
attribute [local go_sem] run_store_float
mutual
def humusref11_Page.l0 : Nat→List (S51)→Int→Int→Int→Int→List (S56)→Option (List Int)
 | 0,_,_,_,_,_,_=>none
 | k + 1,x3,x4,x316000,x316001,x316002,x316003=>if x4<(x316003.length : Int) then (if 0≤x4 then ((some (([(⟨1,(rd_T56 x316003 x4).f1,0,(⟨#[]⟩ : ByteArray)⟩ : S51),(⟨3,(rd_T56 x316003 x4).f0,0,(⟨#[]⟩ : ByteArray)⟩ : S51),(⟨2,(rd_T56 x316003 x4).f2,0,(⟨#[]⟩ : ByteArray)⟩ : S51),(⟨3,(rd_T56 x316003 x4).f3,0,(⟨#[]⟩ : ByteArray)⟩ : S51)] : List (S51)) : List (S51))).bind fun y321=>(if x3.length + y321.length<3518437208883 then (humusref11_Page.l0 k (x3++y321) (wrap64 (x4 + 1)) x316000 x316001 x316002 x316003) else (none))) else (none)) else ((humusref03_Put.f x3).bind fun bt327=>(humusref11_Page.l1 k bt327.1))
def humusref11_Page.l1 : Nat→List Int→Option (List Int)
 | 0,_=>none
 | k + 1,x6=>if (x6.length : Int)<508 then (if x6.length<140737488355328 then (humusref11_Page.l1 k (x6++[0])) else (none)) else ((humusref02_Seal.f k x6).bind fun t334=>(some t334))
end
theorem humusref11_Page.l1_s (k : Nat) (x6 : List Int) : humusref11_Page.l1 (k + 1) x6=(if (x6.length : Int)<508 then (if x6.length<140737488355328 then (humusref11_Page.l1 k (x6++[0])) else (none)) else ((humusref02_Seal.f k x6).bind fun t334=>(some t334))):=rfl
def humusref11_Page.f (k : Nat) (a0_0 : Int) (a0_1 : Int) (a0_2 : Int) (l0_3 : List (S56)) : Option (List Int):=humusref11_Page.l0 k (([(⟨1,84,0,(⟨#[]⟩ : ByteArray)⟩ : S51),(⟨3,a0_0,0,(⟨#[]⟩ : ByteArray)⟩ : S51),(⟨3,a0_1,0,(⟨#[]⟩ : ByteArray)⟩ : S51),(⟨3,a0_2,0,(⟨#[]⟩ : ByteArray)⟩ : S51)] : List (S51))) 0 a0_0 a0_1 a0_2 l0_3
set_option maxHeartbeats 8000000 in
set_option maxRecDepth 100000 in
theorem humusref11_Page.calls (k : Nat) (a0_0 : Int) (a0_1 : Int) (a0_2 : Int) (A0_3 : Option Addr) (c0_3 : Nat) (l0_3 : List (S56)) (r : List Int) (w : World) (hr0_3 : Kd.C k56 w A0_3 l0_3.length l0_3) (hc0_3 : l0_3.length≤c0_3) (h : humusref11_Page.f k a0_0 a0_1 a0_2 l0_3=some r) :
  Calls Tryd.prog 17 #[.agg #[.int .i64 a0_0,.int .i64 a0_1,.int .i64 a0_2,.slice A0_3 l0_3.length c0_3]] w fun e w'=>∃ v0_ : Value,e=.returned (v0_)∧Kd.R (Kd.int .u8) 5 w' w.heap.size (fun _=>True) v0_ r∧Below w.heap.size w w':=by
 have hu26:=Tryd.underlying26;have hu51:=Tryd.underlying51;have hu56:=Tryd.underlying56;have HR0_3:=A_ hr0_3;have HC0_3:=A_ hc0_3;clear hr0_3 hc0_3;have HB:=A_ (Below.refl w.heap.size w);have H : (humusref11_Page.l0 k (([(⟨1,84,0,(⟨#[]⟩ : ByteArray)⟩ : S51),(⟨3,a0_0,0,(⟨#[]⟩ : ByteArray)⟩ : S51),(⟨3,a0_1,0,(⟨#[]⟩ : ByteArray)⟩ : S51),(⟨3,a0_2,0,(⟨#[]⟩ : ByteArray)⟩ : S51)] : List (S51))) 0 a0_0 a0_1 a0_2 l0_3)=some r:=h;clear h
 obtain ⟨y316,hy316⟩ : ∃ y_ : List (S51),y_=(([(⟨1,84,0,(⟨#[]⟩ : ByteArray)⟩ : S51),(⟨3,a0_0,0,(⟨#[]⟩ : ByteArray)⟩ : S51),(⟨3,a0_1,0,(⟨#[]⟩ : ByteArray)⟩ : S51),(⟨3,a0_2,0,(⟨#[]⟩ : ByteArray)⟩ : S51)] : List (S51))):=⟨_,rfl⟩
 replace H : (humusref11_Page.l0 k y316 0 a0_0 a0_1 a0_2 l0_3)=some r:=by first|(rw [hy316];with_reducible exact H)|(have H2_:=(Option.bind_some _ _).symm.trans H;rw [hy316];with_reducible exact H2_)|(have H2_:=(Option.bind_some _ _).symm.trans H;with_reducible exact H2_)|with_reducible exact H|(rw [hy316];exact H)|exact H
 have Ny316:=A_ hy316;clear hy316;have H':=A_ H;clear H;go_enter Tryd.func17,Tryd.ntmps17
 go_wp2_with (first|((with_reducible refine gate_dst (N:=1) rfl ?_);refine box_event ?hg (N:=1) ?hd (cs:=#[.int .i64 a0_0,.int .i64 a0_1,.int .i64 a0_2,.slice A0_3 l0_3.length c0_3]) (t:=26) ?hr ?_;(case hd=>rfl);(case hg=>rfl);(case hr=>first|(go_simp;done)|(go_simp;rfl));intro gb315 hg w2 hbox hb;have n0_:=A_ (bp_ (hb0_ HB.out) hb);have n1_:=A_ (hbox);have n2_:=A_ ((by rw [hg];exact (bz_ (hb0_ HB.out)) : w.heap.size≤gb315));have n3_:=n2_;clear HB;have HB:=n0_;have BK315:=n1_;have GW315:=n2_;have GE315:=n3_;clear n0_ n1_ n2_ n3_;clear hb hbox hg;obtain ⟨z3_0,z3_1,z3_2,z3_3⟩:=blkc_4 BK315.out;obtain ⟨y3_0,y3_1,y3_2⟩:=blkz_3 BK315.out;have y3_3:=bf_ BK315.out 3)|((with_reducible refine gate_dst (N:=18) rfl ?_);refine Kd.R_lit k51 _ 51 ?hg (N:=18) ?hd (xs:=([(⟨1,84,0,(⟨#[]⟩ : ByteArray)⟩ : S51),(⟨3,a0_0,0,(⟨#[]⟩ : ByteArray)⟩ : S51),(⟨3,a0_1,0,(⟨#[]⟩ : ByteArray)⟩ : S51),(⟨3,a0_2,0,(⟨#[]⟩ : ByteArray)⟩ : S51)] : List (S51))) (inner:=[.int .i64 1,.int .i64 84,.float .f64 0,.string (⟨#[]⟩ : ByteArray),.int .i64 3,.int .i64 a0_0,.float .f64 0,.string (⟨#[]⟩ : ByteArray),.int .i64 3,.int .i64 a0_1,.float .f64 0,.string (⟨#[]⟩ : ByteArray),.int .i64 3,.int .i64 a0_2,.float .f64 0,.string (⟨#[]⟩ : ByteArray)]) (ok:=fun _=>True) (okp:=fun _=>True) ?hr ?hp (fun _ hk=>hk) trivial (Below.refl _ _) (Nat.le_refl _) (by simp) ?_;(case hd=>rfl);(case hg=>rfl);(case hr=>first|(go_simp;done)|(go_simp;rfl));(case hp=>exact (Reps.c4 (show Kd.M k51 _ _ _ (⟨1,84,0,(⟨#[]⟩ : ByteArray)⟩ : S51) [.int .i64 1,.int .i64 84,.float .f64 0,.string (⟨#[]⟩ : ByteArray)] from (k51_mkM _ _ _ (⟨1,84,0,(⟨#[]⟩ : ByteArray)⟩ : S51) )) (Reps.c4 (show Kd.M k51 _ _ _ (⟨3,a0_0,0,(⟨#[]⟩ : ByteArray)⟩ : S51) [.int .i64 3,.int .i64 a0_0,.float .f64 0,.string (⟨#[]⟩ : ByteArray)] from (k51_mkM _ _ _ (⟨3,a0_0,0,(⟨#[]⟩ : ByteArray)⟩ : S51) )) (Reps.c4 (show Kd.M k51 _ _ _ (⟨3,a0_1,0,(⟨#[]⟩ : ByteArray)⟩ : S51) [.int .i64 3,.int .i64 a0_1,.float .f64 0,.string (⟨#[]⟩ : ByteArray)] from (k51_mkM _ _ _ (⟨3,a0_1,0,(⟨#[]⟩ : ByteArray)⟩ : S51) )) (Reps.c4 (show Kd.M k51 _ _ _ (⟨3,a0_2,0,(⟨#[]⟩ : ByteArray)⟩ : S51) [.int .i64 3,.int .i64 a0_2,.float .f64 0,.string (⟨#[]⟩ : ByteArray)] from (k51_mkM _ _ _ (⟨3,a0_2,0,(⟨#[]⟩ : ByteArray)⟩ : S51) )) (Reps.none _ _))))));intro v317 w4 ho5 hb hg_ hnew_;clear hg_ hnew_;(first|rw [← Ny316.out] at ho5|(simp only [Int.reduceToNat] at ho5;rw [← Ny316.out] at ho5));have n0_:=A_ (Kd.R_lower ho5 (bz_ (hb1_ HB.out GE315.out)));have n1_:=A_ (bx_ BK315.out kf_ hb);have n2_:=A_ (bp_ (hb1_ HB.out GE315.out) hb);clear BK315;clear HB;have HO318:=n0_;have BK315:=n1_;have HB:=n2_;clear n0_ n1_ n2_;clear hb ho5))
 go_loopg [3,4] k (fun kq v3 v4 w'=>∃ (x3_1 : List (S51)) (x4_1 : Int),v4=.int .i64 x4_1∧Aside0 (humusref11_Page.l0 kq x3_1 x4_1 a0_0 a0_1 a0_2 l0_3=some r)∧Aside0 (kq≤k)∧Aside0 (Kd.R k51 51 w' w.heap.size (fun _=>True) v3 x3_1)∧Aside0 (w'.heap[gb315]?=some (.cells #[.int .i64 a0_0,.int .i64 a0_1,.int .i64 a0_2,(.slice A0_3 l0_3.length c0_3)] 26 (0,0)))∧Aside0 (Below w.heap.size w w'))
 case atStart=>exact ⟨(y316),(0),(by first|rfl|(simp;done)|(simp [*];done)),H',⟨Nat.le_refl _⟩,⟨by (with_reducible repeat (first|apply ra_|apply rn_|apply re_));exact HO318.out⟩,⟨by exact kk_ BK315.out⟩,⟨hb1_ HB.out GE315.out⟩⟩
 case round =>
  clear H';(try clear c1);(try clear p2);(try clear c4);(try clear z3_0 z3_1 z3_2 z3_3 y3_0 y3_1 y3_2 y3_3);obtain ⟨x3_1,x4_1,rfl,HA,HK1,HO_3,BK315,HB⟩:=hrel
  cases gk with
  | zero=>exact absurd HA.out (by simp [humusref11_Page.l0])
  | succ k1 =>
   have H:=HA.out;clear HA
   simp only [humusref11_Page.l0] at H
   by_cases c6 : x4_1<(l0_3.length : Int)
   ·rw [if_pos c6] at H
    have c6b0 : decide (x4_1<(l0_3.length : Int))=true:=dt_ c6;clear c6
    by_cases c7 : 0≤x4_1
    rotate_left
    ·rw [if_neg c7] at H
     exact absurd H (by simp)
    rw [if_pos c7] at H
    have c7b0 : decide (0≤x4_1)=true:=dt_ c7;clear c7
    obtain ⟨y321,hy321⟩ : ∃ y_ : List (S51),y_=(([(⟨1,(rd_T56 l0_3 x4_1).f1,0,(⟨#[]⟩ : ByteArray)⟩ : S51),(⟨3,(rd_T56 l0_3 x4_1).f0,0,(⟨#[]⟩ : ByteArray)⟩ : S51),(⟨2,(rd_T56 l0_3 x4_1).f2,0,(⟨#[]⟩ : ByteArray)⟩ : S51),(⟨3,(rd_T56 l0_3 x4_1).f3,0,(⟨#[]⟩ : ByteArray)⟩ : S51)] : List (S51))):=⟨_,rfl⟩
    replace H : (if x3_1.length + y321.length<3518437208883 then (humusref11_Page.l0 k1 (x3_1++y321) (wrap64 (x4_1 + 1)) a0_0 a0_1 a0_2 l0_3) else (none))=some r:=by first|(rw [hy321];with_reducible exact H)|(have H2_:=(Option.bind_some _ _).symm.trans H;rw [hy321];with_reducible exact H2_)|(have H2_:=(Option.bind_some _ _).symm.trans H;with_reducible exact H2_)|with_reducible exact H|(rw [hy321];exact H)|exact H
    have Ny321:=A_ hy321;clear hy321
    by_cases c8 : x3_1.length + y321.length<3518437208883
    rotate_left
    ·rw [if_neg c8] at H
     exact absurd H (by simp)
    rw [if_pos c8] at H
    have LMc8:=A_ c8;clear c8
    obtain ⟨y324,hy324⟩ : ∃ y_ : List (S51),y_=(x3_1++y321):=⟨_,rfl⟩
    replace H : (humusref11_Page.l0 k1 y324 (wrap64 (x4_1 + 1)) a0_0 a0_1 a0_2 l0_3)=some r:=by first|(rw [hy324];with_reducible exact H)|(have H2_:=(Option.bind_some _ _).symm.trans H;rw [hy324];with_reducible exact H2_)|(have H2_:=(Option.bind_some _ _).symm.trans H;with_reducible exact H2_)|with_reducible exact H|(rw [hy324];exact H)|exact H
    have Ny324:=A_ hy324;clear hy324;have H':=A_ H;clear H;obtain ⟨z9_0,z9_1,z9_2,z9_3⟩:=blkc_4 BK315.out;obtain ⟨y9_0,y9_1,y9_2,y9_3⟩:=blkz_4 BK315.out
    have p319 : 0≤(x4_1 : Int):=od_ (by first|(with_reducible assumption)|assumption)
    have q319 : x4_1<(l0_3.length : Int):=od_ (by first|(with_reducible assumption)|assumption)
    obtain ⟨ad319,e319,hx319_0,hx319_1,hx319_2,hx319_3⟩:=at_T56 HR0_3.out x4_1 p319 q319
    cases e319
    replace hx319_0:=(HB.out.cell (wb_ w _ hx319_0)).trans hx319_0;replace hx319_1:=(HB.out.cell (wb_ w _ hx319_1)).trans hx319_1;replace hx319_2:=(HB.out.cell (wb_ w _ hx319_2)).trans hx319_2;replace hx319_3:=(HB.out.cell (wb_ w _ hx319_3)).trans hx319_3;replace p319:=eq_true p319;replace q319:=eq_true q319
    go_wp2_with (first|((with_reducible refine gate_dst (N:=5) rfl ?_);refine box_event ?hg (N:=5) ?hd (cs:=#[.int .i64 0,.int .i64 0,.int .i64 0,.int .i64 0]) (t:=56) ?hr ?_;(case hd=>rfl);(case hg=>rfl);(case hr=>first|(go_simp;done)|(go_simp;rfl));intro gb320 hg w10 hbox hb;have n0_:=A_ (Kd.R_below (by (with_reducible repeat (first|apply ra_|apply rn_|apply re_));exact HO_3.out) hb);have n1_:=A_ (bx_ BK315.out kf_ hb);have n2_:=A_ (bp_ (hb1_ HB.out GE315.out) hb);have n3_:=A_ (hbox);have n4_:=A_ ((by rw [hg];exact (bz_ (hb1_ HB.out GE315.out)) : w.heap.size≤gb320));have n5_:=n4_;have n6_:=A_ ((by rw [hg];exact Nat.ne_of_lt (bl_ BK315.out kf_) : gb315≠gb320));have n7_:=A_ (Ne.symm n6_.out);clear HO_3;clear BK315;clear HB;have HO_3:=n0_;have BK315:=n1_;have HB:=n2_;have BK320:=n3_;have GW320:=n4_;have GE320:=n5_;have NB315_320:=n6_;have NB320_315:=n7_;clear n0_ n1_ n2_ n3_ n4_ n5_ n6_ n7_;clear hb hbox hg;have hnb11:=NB320_315.out;have hnc11:=NB315_320.out;obtain ⟨z12_0,z12_1,z12_2,z12_3⟩:=blkc_4 BK320.out;obtain ⟨y12_0,y12_1,y12_2⟩:=blkz_3 BK320.out;have y12_3:=bf_ BK320.out 3)|((with_reducible refine gate_dst (N:=44) rfl ?_);refine Kd.R_lit k51 _ 51 ?hg (N:=44) ?hd (xs:=([(⟨1,(rd_T56 l0_3 x4_1).f1,0,(⟨#[]⟩ : ByteArray)⟩ : S51),(⟨3,(rd_T56 l0_3 x4_1).f0,0,(⟨#[]⟩ : ByteArray)⟩ : S51),(⟨2,(rd_T56 l0_3 x4_1).f2,0,(⟨#[]⟩ : ByteArray)⟩ : S51),(⟨3,(rd_T56 l0_3 x4_1).f3,0,(⟨#[]⟩ : ByteArray)⟩ : S51)] : List (S51))) (inner:=[.int .i64 1,.int .i64 ((rd_T56 l0_3 x4_1).f1),.float .f64 0,.string (⟨#[]⟩ : ByteArray),.int .i64 3,.int .i64 ((rd_T56 l0_3 x4_1).f0),.float .f64 0,.string (⟨#[]⟩ : ByteArray),.int .i64 2,.int .i64 ((rd_T56 l0_3 x4_1).f2),.float .f64 0,.string (⟨#[]⟩ : ByteArray),.int .i64 3,.int .i64 ((rd_T56 l0_3 x4_1).f3),.float .f64 0,.string (⟨#[]⟩ : ByteArray)]) (ok:=fun _=>True) (okp:=fun _=>True) ?hr ?hp (fun _ hk=>hk) trivial (Below.refl _ _) (Nat.le_refl _) (by simp) ?_;(case hd=>rfl);(case hg=>rfl);(case hr=>first|(go_simp;done)|(go_simp;rfl));(case hp=>exact (Reps.c4 (show Kd.M k51 _ _ _ (⟨1,(rd_T56 l0_3 x4_1).f1,0,(⟨#[]⟩ : ByteArray)⟩ : S51) [.int .i64 1,.int .i64 ((rd_T56 l0_3 x4_1).f1),.float .f64 0,.string (⟨#[]⟩ : ByteArray)] from (k51_mkM _ _ _ (⟨1,(rd_T56 l0_3 x4_1).f1,0,(⟨#[]⟩ : ByteArray)⟩ : S51) )) (Reps.c4 (show Kd.M k51 _ _ _ (⟨3,(rd_T56 l0_3 x4_1).f0,0,(⟨#[]⟩ : ByteArray)⟩ : S51) [.int .i64 3,.int .i64 ((rd_T56 l0_3 x4_1).f0),.float .f64 0,.string (⟨#[]⟩ : ByteArray)] from (k51_mkM _ _ _ (⟨3,(rd_T56 l0_3 x4_1).f0,0,(⟨#[]⟩ : ByteArray)⟩ : S51) )) (Reps.c4 (show Kd.M k51 _ _ _ (⟨2,(rd_T56 l0_3 x4_1).f2,0,(⟨#[]⟩ : ByteArray)⟩ : S51) [.int .i64 2,.int .i64 ((rd_T56 l0_3 x4_1).f2),.float .f64 0,.string (⟨#[]⟩ : ByteArray)] from (k51_mkM _ _ _ (⟨2,(rd_T56 l0_3 x4_1).f2,0,(⟨#[]⟩ : ByteArray)⟩ : S51) )) (Reps.c4 (show Kd.M k51 _ _ _ (⟨3,(rd_T56 l0_3 x4_1).f3,0,(⟨#[]⟩ : ByteArray)⟩ : S51) [.int .i64 3,.int .i64 ((rd_T56 l0_3 x4_1).f3),.float .f64 0,.string (⟨#[]⟩ : ByteArray)] from (k51_mkM _ _ _ (⟨3,(rd_T56 l0_3 x4_1).f3,0,(⟨#[]⟩ : ByteArray)⟩ : S51) )) (Reps.none _ _))))));intro v322 w13 ho14 hb hg_ hnew_;clear hg_ hnew_;(first|rw [← Ny321.out] at ho14|(simp only [Int.reduceToNat] at ho14;rw [← Ny321.out] at ho14));have n0_:=A_ (Kd.R_elder' (by (with_reducible repeat (first|apply ra_|apply rn_|apply re_));exact (Kd.R_mono (rf_ (p:=⟨gb320,3,none⟩) (rf_ (p:=⟨gb320,2,none⟩) (rf_ (p:=⟨gb320,1,none⟩) (rf_ (p:=⟨gb320,0,none⟩) (Kd.R_types HO_3.out BK320.out (by decide)) (fun _ hk=>hk.2) (.int .i64 ((rd_T56 l0_3 x4_1).f0))) (fun _ hk=>hk.2) (.int .i64 ((rd_T56 l0_3 x4_1).f1))) (fun _ hk=>hk.2) (.int .i64 ((rd_T56 l0_3 x4_1).f2))) (fun _ hk=>hk.2) (.int .i64 ((rd_T56 l0_3 x4_1).f3))) (fun _ h_=>h_.1))) (Kd.R_base ho14) hb);have n1_:=A_ (Kd.R_lower (Kd.R_new' ho14 (Kd.R_lt (by (with_reducible repeat (first|apply ra_|apply rn_|apply re_));exact (Kd.R_mono (rf_ (p:=⟨gb320,3,none⟩) (rf_ (p:=⟨gb320,2,none⟩) (rf_ (p:=⟨gb320,1,none⟩) (rf_ (p:=⟨gb320,0,none⟩) (Kd.R_types HO_3.out BK320.out (by decide)) (fun _ hk=>hk.2) (.int .i64 ((rd_T56 l0_3 x4_1).f0))) (fun _ hk=>hk.2) (.int .i64 ((rd_T56 l0_3 x4_1).f1))) (fun _ hk=>hk.2) (.int .i64 ((rd_T56 l0_3 x4_1).f2))) (fun _ hk=>hk.2) (.int .i64 ((rd_T56 l0_3 x4_1).f3))) (fun _ h_=>h_.1))))) (bz_ (hb2_ HB.out GE315.out GE320.out)));have n2_:=A_ (bb_ (g:=gb315) (o:=.cells #[.int .i64 a0_0,.int .i64 a0_1,.int .i64 a0_2,.slice (some ad319) l0_3.length c0_3] 26 (0,0)) (by refine kk_ ?_;refine blk_far ?_ NB315_320.out _;refine kk_ ?_;refine blk_far ?_ NB315_320.out _;refine kk_ ?_;refine blk_far ?_ NB315_320.out _;refine kk_ ?_;refine blk_far ?_ NB315_320.out _;exact kk_ BK315.out) hb);have n3_:=A_ (bb_ (g:=gb320) (o:=.cells #[.int .i64 ((rd_T56 l0_3 x4_1).f0),.int .i64 ((rd_T56 l0_3 x4_1).f1),.int .i64 ((rd_T56 l0_3 x4_1).f2),.int .i64 ((rd_T56 l0_3 x4_1).f3)] 56 (0,0)) (by refine kk_ ?_;apply blkf_4_0_3;exact kk_ BK320.out) hb);have n4_:=A_ (bp_ (hb2_ HB.out GE315.out GE320.out) hb);clear HO_3;clear BK315;clear BK320;clear HB;have HO_3:=n0_;have HO323:=n1_;have BK315:=n2_;have BK320:=n3_;have HB:=n4_;clear n0_ n1_ n2_ n3_ n4_;clear hb ho14;obtain ⟨Ao16,co16,eo16⟩:=Kd.R_slice HO323.out;subst eo16)|((with_reducible refine gate_builtin (b:=.append) (xs:=#[.tmp 31,.tmp 44]) rfl ?_);at_builtin;refine Kd.R_append_rows k51 (w0:=w) w.heap.size rfl (.tmp 31) (.tmp 44) 45 51 (.agg #[(.int .i64 0),(.int .i64 0),(.float .f64 0),(.string ⟨#[]⟩)]) 40 rfl Tryd.underlying45 info51 rfl (by decide) (by omega) u3 x3_1 y321 _ _ _ (fun k_=>some k_≠(.slice Ao16 y321.length co16 : Value).ownBlock) (fun _=>False) rfl rfl ?aO ?aR (fun _ _ h=>h) (fun _ h=>h.elim) ?aF ?aB ?aS ?aL ?_;(case aR=>repeat (first|exact (Kd.R_reads' HO323.out).2.2|(with_reducible refine Kd.C_alloc ?_ _)|(with_reducible refine Kd.C_drewN ?_ _)|(with_reducible refine Kd.C_drew ?_)));(case aB=>exact (hb2_ HB.out GE315.out GE320.out));(case aF=>exact (fun k_ hk=>Kd.fresh' (Kd.R_lt (by (with_reducible repeat (first|apply ra_|apply rn_|apply re_));exact HO323.out)) k_ hk));(case aO=>exact (by (with_reducible repeat (first|apply ra_|apply rn_|apply re_));exact Kd.R_mono HO_3.out (fun _ hk=>hk.2)));(case aS=>exact (bz_ (hb2_ HB.out GE315.out GE320.out)));(case aL=>have:=LMc8.out;omega);intro v325 w15 ho hb hg hat;rw [← Ny324.out] at ho;have n0_:=A_ (blk_grown (g:=gb315) (o:=.cells #[.int .i64 a0_0,.int .i64 a0_1,.int .i64 a0_2,.slice (some ad319) l0_3.length c0_3] 26 (0,0)) (by exact kk_ BK315.out) hg (Kd.R_ne HO_3.out BK315.out (by decide)));have n1_:=A_ (blk_grown (g:=gb320) (o:=.cells #[.int .i64 ((rd_T56 l0_3 x4_1).f0),.int .i64 ((rd_T56 l0_3 x4_1).f1),.int .i64 ((rd_T56 l0_3 x4_1).f2),.int .i64 ((rd_T56 l0_3 x4_1).f3)] 56 (0,0)) (by exact kk_ BK320.out) hg (Kd.R_ne HO_3.out BK320.out (by decide)));have n2_:=A_ (Kd.R_after (ok:=(fun _=>True)) (by (with_reducible repeat (first|apply ra_|apply rn_|apply re_));exact HO323.out) hg hat);have n3_:=A_ (hb);have n4_:=A_ (ho);clear BK315;clear BK320;clear HO323;clear HB;clear HO_3;have BK315:=n0_;have BK320:=n1_;have HO323:=n2_;have HB:=n3_;have HO326:=n4_;clear n0_ n1_ n2_ n3_ n4_;clear ho hb hg hat))
    go_roundg k1
    case measure=>have:=HK1.out;omega
    case rel=>exact ⟨(y324),(wrap64 (x4_1 + 1)),(by first|rfl|(simp;done)|(simp [*];done)),H',⟨by have:=HK1.out;omega⟩,⟨by (with_reducible repeat (first|apply ra_|apply rn_|apply re_));exact Kd.R_mono HO326.out (fun _ hk=>trivial)⟩,⟨by exact kk_ BK315.out⟩,⟨hb2_ HB.out GE315.out GE320.out⟩⟩
   rw [if_neg c6] at H
   have c6b0 : decide (x4_1<(l0_3.length : Int))=false:=df_ c6;clear c6;replace H:=Option.bind_eq_some_iff.mp H;obtain ⟨⟨t327,t328⟩,A170,H⟩:=H;replace H : (humusref11_Page.l1 k1 t327)=some r:=H;have A17:=A_ A170;clear A170;have H':=A_ H;clear H;obtain ⟨z18_0,z18_1,z18_2,z18_3⟩:=blkc_4 BK315.out;obtain ⟨y18_0,y18_1,y18_2,y18_3⟩:=blkz_4 BK315.out;obtain ⟨Ao19,co19,eo19⟩:=Kd.R_slice HO_3.out;subst eo19
   go_wp2_with (first|((with_reducible refine gate_callee (f:=35) rfl ?_);refine goesL_ (some 48) rfl rfl Tryd.func35 (by kernel_rfl) rfl #[.slice Ao19 x3_1.length co19] rfl (by (try simp only [List.map_toArray,List.map_cons,List.map_nil]);first|done|rfl|(simp only [List.length_drop,List.length_take];rfl)) ?_;(with_reducible refine (humusref03_Put.calls _ _ x3_1 t327 t328 _ ?side1 ?side2 A17.out).mono ?_);(case side1=>repeat (first|exact (Kd.R_reads' HO_3.out).2.2|(with_reducible refine Kd.C_alloc ?_ _)|(with_reducible refine Kd.C_drewN ?_ _)|(with_reducible refine Kd.C_drew ?_)));(case side2=>exact (Kd.R_reads' HO_3.out).2.1);rintro e w20 ⟨v329,rfl,ho0,hb⟩;refine ⟨_,rfl,?_⟩;have n0_:=A_ (Kd.R_below (by (with_reducible repeat (first|apply ra_|apply rn_|apply re_));exact HO_3.out) hb);have n1_:=A_ (Kd.R_lower ho0 (bz_ (hb1_ HB.out GE315.out)));have n2_:=A_ (bx_ BK315.out kf_ hb);have n3_:=A_ (bp_ (hb1_ HB.out GE315.out) hb);clear HO_3;clear BK315;clear HB;have HO_3:=n0_;have HO330:=n1_;have BK315:=n2_;have HB:=n3_;clear n0_ n1_ n2_ n3_;(try clear hb);(try clear hb2);(try clear hk);(try clear hi);(try clear ho0)))
   go_loopg [6] k1 (fun kq v6 w'=>∃ (x6_2 : List Int),Aside0 (humusref11_Page.l1 kq x6_2=some r)∧Aside0 (kq≤k1)∧Aside0 (Kd.R (Kd.int .u8) 5 w' w.heap.size (fun _=>True) v6 x6_2)∧Aside0 (w'.heap[gb315]?=some (.cells #[.int .i64 a0_0,.int .i64 a0_1,.int .i64 a0_2,(.slice A0_3 l0_3.length c0_3)] 26 (0,0)))∧Aside0 (Below w.heap.size w w'))
   case atStart=>exact ⟨(t327),H',⟨Nat.le_refl _⟩,⟨by (with_reducible repeat (first|apply ra_|apply rn_|apply re_));exact HO330.out⟩,⟨by exact kk_ BK315.out⟩,⟨hb1_ HB.out GE315.out⟩⟩
   case round =>
    clear H';(try clear c1);(try clear p2);(try clear c3);(try clear p3);(try clear q3);(try clear hx3);(try clear c4);(try clear c6);(try clear c6b0);(try clear p6);(try clear c7);(try clear c7b0);(try clear c8);(try clear c11);(try clear c17);(try clear hx319_0);(try clear hx319_1);(try clear hx319_2);(try clear hx319_3);(try clear p2);(try clear p319);(try clear q319);(try clear z12_0 z12_1 z12_2 z12_3 z18_0 z18_1 z18_2 z18_3 z3_0 z3_1 z3_2 z3_3 z9_0 z9_1 z9_2 z9_3 y12_0 y12_1 y12_2 y12_3 y18_0 y18_1 y18_2 y18_3 y3_0 y3_1 y3_2 y3_3 y9_0 y9_1 y9_2 y9_3);obtain ⟨x6_2,HA,HK2,HO_6,BK315,HB⟩:=hrel
    cases gk with
    | zero=>exact absurd HA.out (by intro h_; cases h_)
    | succ k2 =>
     have H:=HA.out;clear HA;rw [humusref11_Page.l1_s] at H
     by_cases c21 : (x6_2.length : Int)<508
     rotate_left
     ·rw [if_neg c21] at H
      have c21b0 : decide ((x6_2.length : Int)<508)=false:=df_ c21
      have c21b1 : decide (x6_2.length<508)=false:=df_ (by omega)
      clear c21;replace H:=Option.bind_eq_some_iff.mp H;obtain ⟨t334,A250,H⟩:=H;replace H : (some t334)=some r:=H;have A25:=A_ A250;clear A250;obtain rfl:=Option.some.inj H;obtain ⟨Ao26,co26,eo26⟩:=Kd.R_slice HO_6.out;subst eo26
      go_wp2_with (first|((with_reducible refine gate_callee (f:=25) rfl ?_);refine goesL_ (some 58) rfl rfl Tryd.func25 (by kernel_rfl) rfl #[.slice Ao26 x6_2.length co26] rfl (by (try simp only [List.map_toArray,List.map_cons,List.map_nil]);first|done|rfl|(simp only [List.length_drop,List.length_take];rfl)) ?_;(with_reducible refine (humusref02_Seal.calls k2 _ _ x6_2 t334 _ ?side1 ?side2 A25.out).mono ?_);(case side1=>repeat (first|exact (Kd.R_reads' HO_6.out).2.2|(with_reducible refine Kd.C_alloc ?_ _)|(with_reducible refine Kd.C_drewN ?_ _)|(with_reducible refine Kd.C_drew ?_)));(case side2=>exact (Kd.R_reads' HO_6.out).2.1);rintro e w27 ⟨v335,rfl,ho0,hb⟩;refine ⟨_,rfl,?_⟩;have n0_:=A_ (Kd.R_elder' (by (with_reducible repeat (first|apply ra_|apply rn_|apply re_));exact HO_6.out) (Kd.R_base ho0) hb);have n1_:=A_ (Kd.R_lower (Kd.R_new' ho0 (Kd.R_lt (by (with_reducible repeat (first|apply ra_|apply rn_|apply re_));exact HO_6.out))) (bz_ (hb1_ HB.out GE315.out)));have n2_:=A_ (bx_ BK315.out kf_ hb);have n3_:=A_ (bp_ (hb1_ HB.out GE315.out) hb);clear HO_6;clear BK315;clear HB;have HO_6:=n0_;have HO336:=n1_;have BK315:=n2_;have HB:=n3_;clear n0_ n1_ n2_ n3_;(try clear hb);(try clear hb2);(try clear hk);(try clear hi);(try clear ho0)))
      go_ret
      exact ⟨_,by first|rfl|(simp [errW_none,errW_some] <;> rfl)|(simp [*,errW_none,errW_some] <;> rfl),by (with_reducible repeat (first|apply ra_|apply rn_|apply re_));exact Kd.R_mono HO336.out (fun _ hk=>trivial),hb1_ HB.out GE315.out⟩
     rw [if_pos c21] at H
     have c21b0 : decide ((x6_2.length : Int)<508)=true:=dt_ c21
     have c21b1 : decide (x6_2.length<508)=true:=dt_ (by omega)
     clear c21
     by_cases c22 : x6_2.length<140737488355328
     rotate_left
     ·rw [if_neg c22] at H
      exact absurd H (by simp)
     rw [if_pos c22] at H
     have LMc22:=A_ c22;clear c22
     obtain ⟨y331,hy331⟩ : ∃ y_ : List Int,y_=(x6_2++[0]):=⟨_,rfl⟩
     replace H : (humusref11_Page.l1 k2 y331)=some r:=by first|(rw [hy331];with_reducible exact H)|(have H2_:=(Option.bind_some _ _).symm.trans H;rw [hy331];with_reducible exact H2_)|(have H2_:=(Option.bind_some _ _).symm.trans H;with_reducible exact H2_)|with_reducible exact H|(rw [hy331];exact H)|exact H
     have Ny331:=A_ hy331;clear hy331;have H':=A_ H;clear H;obtain ⟨Ao23,co23,eo23⟩:=Kd.R_slice HO_6.out;subst eo23
     go_wp2_with (first|((with_reducible refine gate_builtin (b:=.append) (xs:=#[.tmp 54,.tmp 55]) rfl ?_);at_builtin;refine Kd.R_append (Kd.int .u8) (w0:=w) w.heap.size rfl (.tmp 54) (.tmp 55) 22 5 (.int .u8 0) 1 rfl Tryd.underlying22 info5 rfl (by decide) (by omega) (.slice Ao23 x6_2.length co23) x6_2 0 [.int .u8 0] (fun _=>True) (fun _=>False) rfl rfl ?aP (fun _ hk=>hk.elim) ?aF ?aO ?aB ?aS ?aL ?_;(case aP=>exact rfl);(case aB=>exact (hb1_ HB.out GE315.out));(case aF=>exact (fun _ _=>trivial));(case aO=>exact (by (with_reducible repeat (first|apply ra_|apply rn_|apply re_));exact HO_6.out));(case aS=>exact (bz_ (hb1_ HB.out GE315.out)));(case aL=>have:=LMc22.out;omega);intro v332 w24 ho hb hg hat;rw [← Ny331.out] at ho;have n0_:=A_ (blk_grown (g:=gb315) (o:=.cells #[.int .i64 a0_0,.int .i64 a0_1,.int .i64 a0_2,.slice A0_3 l0_3.length c0_3] 26 (0,0)) (by exact kk_ BK315.out) hg (Kd.R_ne HO_6.out BK315.out (by decide)));have n1_:=A_ (hb);have n2_:=A_ (ho);clear BK315;clear HB;clear HO_6;have BK315:=n0_;have HB:=n1_;have HO333:=n2_;clear n0_ n1_ n2_;clear ho hb hg hat))
     go_roundg k2
     case measure=>have:=HK1.out;have:=HK2.out;omega
     case rel=>exact ⟨(y331),H',⟨by have:=HK1.out;have:=HK2.out;omega⟩,⟨by (with_reducible repeat (first|apply ra_|apply rn_|apply re_));exact HO333.out⟩,⟨by exact kk_ BK315.out⟩,⟨hb1_ HB.out GE315.out⟩⟩
def table_kinds.f  : Option (List Int):=(some (([1,3,3,3] : List Int) : List Int)).bind fun y245=>((slices_Repeat_int_int.f (([1,3,2,3] : List Int)) 12).bind fun t251=>(if y245.length + t251.length<17592186044416 then (some (y245++t251)) else (none)))
set_option maxHeartbeats 8000000 in
set_option maxRecDepth 100000 in
theorem table_kinds.calls  (r : List Int) (w : World) (h : table_kinds.f  = some r) :
  Calls Tryd.prog 23 #[] w fun e w'=>∃ v0_ : Value,e=.returned (v0_)∧Kd.R (Kd.int .i64) 3 w' w.heap.size (fun _=>True) v0_ r∧Below w.heap.size w w':=by
 have HB:=A_ (Below.refl w.heap.size w)
 have H : ((some (([1,3,3,3] : List Int) : List Int)).bind fun y245=>((slices_Repeat_int_int.f (([1,3,2,3] : List Int)) 12).bind fun t251=>(if y245.length + t251.length<17592186044416 then (some (y245++t251)) else (none))))=some r:=h
 clear h
 obtain ⟨y245,hy245⟩ : ∃ y_ : List Int,y_=(([1,3,3,3] : List Int)):=⟨_,rfl⟩
 replace H : ((slices_Repeat_int_int.f (([1,3,2,3] : List Int)) 12).bind fun t251=>(if y245.length + t251.length<17592186044416 then (some (y245++t251)) else (none)))=some r:=by first|(rw [hy245];with_reducible exact H)|(have H2_:=(Option.bind_some _ _).symm.trans H;rw [hy245];with_reducible exact H2_)|(have H2_:=(Option.bind_some _ _).symm.trans H;with_reducible exact H2_)|with_reducible exact H|(rw [hy245];exact H)|exact H
 have Ny245:=A_ hy245;clear hy245
 obtain ⟨y248,hy248⟩ : ∃ y_ : List Int,y_=(([1,3,2,3] : List Int)):=⟨_,rfl⟩
 replace H : ((slices_Repeat_int_int.f y248 12).bind fun t251=>(if y245.length + t251.length<17592186044416 then (some (y245++t251)) else (none)))=some r:=by first|(rw [hy248];with_reducible exact H)|(have H2_:=(Option.bind_some _ _).symm.trans H;rw [hy248];with_reducible exact H2_)|(have H2_:=(Option.bind_some _ _).symm.trans H;with_reducible exact H2_)|with_reducible exact H|(rw [hy248];exact H)|exact H
 have Ny248:=A_ hy248;clear hy248;replace H:=Option.bind_eq_some_iff.mp H;obtain ⟨t251,A10,H⟩:=H
 replace H : (if y245.length + t251.length<17592186044416 then (some (y245++t251)) else (none))=some r:=H
 have A1:=A_ A10;clear A10
 by_cases c2 : y245.length + t251.length<17592186044416
 rotate_left
 ·rw [if_neg c2] at H
  exact absurd H (by simp)
 rw [if_pos c2] at H
 have LMc2:=A_ c2;clear c2
 obtain ⟨y254,hy254⟩ : ∃ y_ : List Int,y_=(y245++t251):=⟨_,rfl⟩
 replace H : (some y254)=some r:=by first|(rw [hy254];with_reducible exact H)|(have H2_:=(Option.bind_some _ _).symm.trans H;rw [hy254];with_reducible exact H2_)|(have H2_:=(Option.bind_some _ _).symm.trans H;with_reducible exact H2_)|with_reducible exact H|(rw [hy254];exact H)|exact H
 have Ny254:=A_ hy254;clear hy254;obtain rfl:=Option.some.inj H;go_enter Tryd.func23,Tryd.ntmps23
 go_wp2_with (first|((with_reducible refine gate_dst (N:=2) rfl ?_);refine Kd.R_lit (Kd.int .i64) _ 3 ?hg (N:=2) ?hd (xs:=([1,3,3,3] : List Int)) (inner:=[.int .i64 1,.int .i64 3,.int .i64 3,.int .i64 3]) (ok:=fun _=>True) (okp:=fun _=>True) ?hr ?hp (fun _ hk=>hk) trivial (Below.refl _ _) (Nat.le_refl _) (by simp) ?_;(case hd=>rfl);(case hg=>rfl);(case hr=>first|(go_simp;done)|(go_simp;rfl));(case hp=>exact (Reps.one (show Kd.M (Kd.int .i64) _ _ _ 1 [.int .i64 1] from rfl) (Reps.one (show Kd.M (Kd.int .i64) _ _ _ 3 [.int .i64 3] from rfl) (Reps.one (show Kd.M (Kd.int .i64) _ _ _ 3 [.int .i64 3] from rfl) (Reps.one (show Kd.M (Kd.int .i64) _ _ _ 3 [.int .i64 3] from rfl) (Reps.none _ _))))));intro v246 w3 ho4 hb hg_ hnew_;clear hg_ hnew_;(first|rw [← Ny245.out] at ho4|(simp only [Int.reduceToNat] at ho4;rw [← Ny245.out] at ho4));have n0_:=A_ (Kd.R_lower ho4 (bz_ (hb0_ HB.out)));have n1_:=A_ (bp_ (hb0_ HB.out) hb);clear HB;have HO247:=n0_;have HB:=n1_;clear n0_ n1_;clear hb ho4)|((with_reducible refine gate_dst (N:=4) rfl ?_);refine Kd.R_lit (Kd.int .i64) _ 3 ?hg (N:=4) ?hd (xs:=([1,3,2,3] : List Int)) (inner:=[.int .i64 1,.int .i64 3,.int .i64 2,.int .i64 3]) (ok:=fun _=>True) (okp:=fun _=>True) ?hr ?hp (fun _ hk=>hk) trivial (Below.refl _ _) (Nat.le_refl _) (by simp) ?_;(case hd=>rfl);(case hg=>rfl);(case hr=>first|(go_simp;done)|(go_simp;rfl));(case hp=>exact (Reps.one (show Kd.M (Kd.int .i64) _ _ _ 1 [.int .i64 1] from rfl) (Reps.one (show Kd.M (Kd.int .i64) _ _ _ 3 [.int .i64 3] from rfl) (Reps.one (show Kd.M (Kd.int .i64) _ _ _ 2 [.int .i64 2] from rfl) (Reps.one (show Kd.M (Kd.int .i64) _ _ _ 3 [.int .i64 3] from rfl) (Reps.none _ _))))));intro v249 w5 ho6 hb hg_ hnew_;clear hg_ hnew_;(first|rw [← Ny248.out] at ho6|(simp only [Int.reduceToNat] at ho6;rw [← Ny248.out] at ho6));have n0_:=A_ (Kd.R_elder' (by (with_reducible repeat (first|apply ra_|apply rn_|apply re_));exact HO247.out) (Kd.R_base ho6) hb);have n1_:=A_ (Kd.R_lower (Kd.R_new' ho6 (Kd.R_lt (by (with_reducible repeat (first|apply ra_|apply rn_|apply re_));exact HO247.out))) (bz_ (hb0_ HB.out)));have n2_:=A_ (bp_ (hb0_ HB.out) hb);clear HO247;clear HB;have HO247:=n0_;have HO250:=n1_;have HB:=n2_;clear n0_ n1_ n2_;clear hb ho6;obtain ⟨Ao7,co7,eo7⟩:=Kd.R_slice HO250.out;subst eo7)|((with_reducible refine gate_callee (f:=41) rfl ?_);refine goesL_ (some 5) rfl rfl Tryd.func41 (by kernel_rfl) rfl #[.slice Ao7 y248.length co7,.int .i64 12] rfl (by (try simp only [List.map_toArray,List.map_cons,List.map_nil]);first|done|rfl|(simp only [List.length_drop,List.length_take];rfl)) ?_;(with_reducible refine (slices_Repeat_int_int.calls _ _ y248 12 t251 _ ?side1 ?side2 A1.out).mono ?_);(case side1=>repeat (first|exact (Kd.R_reads' HO250.out).2.2|(with_reducible refine Kd.C_alloc ?_ _)|(with_reducible refine Kd.C_drewN ?_ _)|(with_reducible refine Kd.C_drew ?_)));(case side2=>exact (Kd.R_reads' HO250.out).2.1);rintro e w8 ⟨v252,rfl,ho0,hb⟩;refine ⟨_,rfl,?_⟩;have n0_:=A_ (Kd.R_elder' (by (with_reducible repeat (first|apply ra_|apply rn_|apply re_));exact HO247.out) (Kd.R_base ho0) hb);have n1_:=A_ (Kd.R_elder' (by (with_reducible repeat (first|apply ra_|apply rn_|apply re_));exact HO250.out) (Kd.R_base ho0) hb);have n2_:=A_ (Kd.R_lower (Kd.R_new' (Kd.R_new' ho0 (Kd.R_lt (by (with_reducible repeat (first|apply ra_|apply rn_|apply re_));exact HO247.out))) (Kd.R_lt (by (with_reducible repeat (first|apply ra_|apply rn_|apply re_));exact HO250.out))) (bz_ (hb0_ HB.out)));have n3_:=A_ (bp_ (hb0_ HB.out) hb);clear HO247;clear HO250;clear HB;have HO247:=n0_;have HO250:=n1_;have HO253:=n2_;have HB:=n3_;clear n0_ n1_ n2_ n3_;(try clear hb);(try clear hb2);(try clear hk);(try clear hi);(try clear ho0);obtain ⟨Ao10,co10,eo10⟩:=Kd.R_slice HO253.out;subst eo10)|((with_reducible refine gate_builtin (b:=.append) (xs:=#[.tmp 3,.tmp 5]) rfl ?_);at_builtin;refine Kd.R_append_rows (Kd.int .i64) (w0:=w) w.heap.size rfl (.tmp 3) (.tmp 5) 37 3 (.int .i64 0) 8 rfl Tryd.underlying37 info3 rfl (by decide) (by omega) v246 y245 t251 _ _ _ (fun k_=>some k_≠(.slice Ao7 y248.length co7 : Value).ownBlock∧some k_≠(.slice Ao10 t251.length co10 : Value).ownBlock) (fun _=>False) rfl rfl ?aO ?aR (fun _ _ h=>h) (fun _ h=>h.elim) ?aF ?aB ?aS ?aL ?_;(case aR=>repeat (first|exact (Kd.R_reads' HO253.out).2.2|(with_reducible refine Kd.C_alloc ?_ _)|(with_reducible refine Kd.C_drewN ?_ _)|(with_reducible refine Kd.C_drew ?_)));(case aB=>exact (hb0_ HB.out));(case aF=>exact (fun k_ hk=>⟨Kd.fresh' (Kd.R_lt (by (with_reducible repeat (first|apply ra_|apply rn_|apply re_));exact HO250.out)) k_ hk,Kd.fresh' (Kd.R_lt (by (with_reducible repeat (first|apply ra_|apply rn_|apply re_));exact HO253.out)) k_ hk⟩));(case aO=>exact (by (with_reducible repeat (first|apply ra_|apply rn_|apply re_));exact Kd.R_mono HO247.out (fun _ hk=>⟨hk.1.2,hk.2⟩)));(case aS=>exact (bz_ (hb0_ HB.out)));(case aL=>have:=LMc2.out;omega);intro v255 w9 ho hb hg hat;rw [← Ny254.out] at ho;have n0_:=A_ (Kd.R_after (ok:=(fun k_=>some k_≠(.slice Ao10 t251.length co10 : Value).ownBlock)) (by (with_reducible repeat (first|apply ra_|apply rn_|apply re_));exact Kd.R_mono HO250.out (fun _ hk=>⟨hk.2,hk.1.2⟩)) hg hat);have n1_:=A_ (Kd.R_after (ok:=(fun k_=>some k_≠(.slice Ao7 y248.length co7 : Value).ownBlock)) (by (with_reducible repeat (first|apply ra_|apply rn_|apply re_));exact Kd.R_mono HO253.out (fun _ hk=>⟨hk.2,hk.1.2⟩)) hg hat);have n2_:=A_ (hb);have n3_:=A_ (ho);clear HO250;clear HO253;clear HB;clear HO247;have HO250:=n0_;have HO253:=n1_;have HB:=n2_;have HO256:=n3_;clear n0_ n1_ n2_ n3_;clear ho hb hg hat))
 go_ret
 exact ⟨_,by first|rfl|(simp [errW_none,errW_some] <;> rfl)|(simp [*,errW_none,errW_some] <;> rfl),by (with_reducible repeat (first|apply ra_|apply rn_|apply re_));exact Kd.R_mono HO256.out (fun _ hk=>trivial),hb0_ HB.out⟩
end Go.Proofs.YtbmcbhpkefjhbaaDoor.P
namespace Go.Proofs.YtbmcbhpkefjhbaaDoor.P
open Go.RowKit YtbmcbhpkefjhbaaDoor YtbmcbhpkefjhbaaDoor.Mem YtbmcbhpkefjhbaaDoor.Pac YtbmcbhpkefjhbaaDoorW.PrintWords YtbmcbhpkefjhbaaDoorW.PrintLast YtbmcbhpkefjhbaaDoorW.PrintMore
def mkI (k n : Int) : It:=⟨k,n,0,⟨#[]⟩⟩
def entI (e : Ent) : List It:=[mkI 1 e.f1,mkI 3 e.f0,mkI 2 e.f2,mkI 3 e.f3]
def entsI (E : List Ent) : List It:=E.flatMap entI
def tabI (m a b c : Int) (E : List Ent) : List It:=mkI 1 m :: mkI 3 a :: mkI 3 b :: mkI 3 c :: entsI E
theorem entsI_cons (e : Ent) (E : List Ent) : entsI (e :: E)=mkI 1 e.f1 :: mkI 3 e.f0 :: mkI 2 e.f2 :: mkI 3 e.f3 :: entsI E:=by unfold entsI; rw [List.flatMap_cons]; rfl
theorem tones_cons (a : It) (l : List It) : ones (a :: l)=one a++ones l:=by unfold ones; rw [List.flatMap_cons]
theorem one_mk {k n : Int} (hk : k=1∨k=2∨k=3) : (one (mkI k n)).length=(wid k).toNat:=by
  unfold one mkI
  rw [if_pos (by exact hk),bigs_length]
theorem entsI_len : ∀ E : List Ent,(ones (entsI E)).length=11 * E.length
  | []=>rfl
  | e :: E=>by
    have ih:=entsI_len E;rw [entsI_cons,tones_cons,tones_cons,tones_cons,tones_cons]
    simp only [List.length_append,List.length_cons,one_mk (.inl rfl),one_mk (.inr (.inl rfl)),one_mk (.inr (.inr rfl)),ih]
    rw [show (wid 1).toNat=1 from rfl,show (wid 2).toNat=2 from rfl,show (wid 3).toNat=4 from rfl]; omega
theorem tabI_len (m a b c : Int) (E : List Ent) : (ones (tabI m a b c E)).length=13 + 11 * E.length:=by
  have ih:=entsI_len E
  unfold tabI
  rw [tones_cons,tones_cons,tones_cons,tones_cons]
  simp only [List.length_append,one_mk (.inl rfl),one_mk (.inr (.inr rfl)),ih]
  rw [show (wid 1).toNat=1 from rfl,show (wid 3).toNat=4 from rfl]; omega
theorem entsI_count : ∀ E : List Ent,(entsI E).length=4 * E.length
  | []=>rfl
  | e :: E=>by have ih:=entsI_count E; rw [entsI_cons]; simp only [List.length_cons,ih]; omega
theorem tabI_count (m a b c : Int) (E : List Ent) : (tabI m a b c E).length=4 + 4 * E.length:=by
  have:=entsI_count E
  unfold tabI; simp only [List.length_cons,this]; omega
abbrev eK : List Int:=[1,3,2,3]
theorem reps_succ (n : Nat) (l : List Int) : reps (n + 1) l=l++reps n l:=by unfold reps; rw [List.replicate_succ,List.flatten_cons]
theorem entsI_kinds : ∀ E : List Ent,(entsI E).map (·.k)=reps E.length eK
  | []=>rfl
  | e :: E=>by have ih:=entsI_kinds E; rw [entsI_cons,List.length_cons,reps_succ,← ih]; rfl
abbrev tKs : List Int:=[1,3,3,3]++reps 12 eK
theorem tabI_kinds {m a b c : Int} {E : List Ent} (h : E.length=12) : (tabI m a b c E).map (·.k)=tKs:=by
  have:=entsI_kinds E
  unfold tabI
  rw [List.map_cons,List.map_cons,List.map_cons,List.map_cons,this,h]; rfl
theorem tKs_ok : kindsOk tKs=true:=by decide
theorem tKs_len : (tKs : List Int).length=52:=by decide
theorem kinds_ev : table_kinds.f=some tKs:=by
  have h : slices_Repeat_int_int.f [1,3,2,3] 12=some (reps 12 eK):=by
    unfold slices_Repeat_int_int.f
    rw [if_pos ⟨by decide,by decide,by decide⟩]; rfl
  unfold table_kinds.f
  rw [Option.bind_some,h,Option.bind_some,if_pos (by decide)]
theorem may_mk1 {n : Int} (h0 : 0≤n) (h1 : n≤255) : may (mkI 1 n)=true:=by unfold mkI; rw [may_1,nil_str]; simp; omega
theorem may_mk2 {n : Int} (h0 : 0≤n) (h1 : n≤65535) : may (mkI 2 n)=true:=by unfold mkI; rw [may_2,nil_str]; simp; omega
theorem may_mk3 {n : Int} (h0 : 0≤n) (h1 : n≤2147483647) : may (mkI 3 n)=true:=by unfold mkI; rw [may_3,nil_str]; simp; omega
def Fits (e : Ent) : Prop:=(0≤e.f1∧e.f1≤255)∧(0≤e.f0∧e.f0≤2147483647)∧(0≤e.f2∧e.f2≤65535)∧(0≤e.f3∧e.f3≤2147483647)
theorem okE_fits {nt cm : Int} {e : Ent} (h1 : nt≤2147483647) (h2 : cm≤2147483647) (h : okE nt cm e=true) : Fits e:=by
  unfold okE at h
  unfold Fits
  split at h
  · simp only [Bool.and_eq_true,beq_iff_eq] at h; omega
  · split at h
    · simp only [Bool.and_eq_true,beq_iff_eq,decide_eq_true_eq] at h; omega
    · split at h
      · simp only [Bool.and_eq_true,decide_eq_true_eq] at h; omega
      · cases h
theorem gAll_at {nt cm : Int} {l : List Ent} : ∀ (d i : Nat),gAll nt cm l d i=true→∀ j,i≤j→j<i + d→okE nt cm (rdE l j)=true:=by
  intro d
  induction d with
  | zero=>intro i _ j h1 h2; omega
  | succ d ih =>
    intro i h j h1 h2;rw [gAll] at h
    simp only [Bool.and_eq_true] at h
    by_cases e : j=i
    · subst e; exact h.1.1
    · exact ih (i + 1) h.2 j (by omega) (by omega)
theorem MayT_parts {a b c : Int} {E : List Ent} (h : MayT a b c E=true) : (1≤a∧a≤2147483647)∧(1≤b∧b≤2147483647)∧(0≤c∧c≤2147483647)∧E.length=12∧∀ e ∈ E,Fits e:=by
  unfold MayT at h
  simp only [Bool.and_eq_true,decide_eq_true_eq,beq_iff_eq] at h
  obtain ⟨ha,hb,hc,hl,hg⟩:=h
  refine ⟨ha,hb,hc,hl,fun e he=>?_⟩
  obtain ⟨j,hj,rfl⟩:=List.mem_iff_getElem.1 he
  have h1:=gAll_at 12 0 hg j (Nat.zero_le _) (by omega)
  have h2:=rdE_at hj;rw [List.getElem?_eq_getElem hj] at h2;have h3 : E[j]=rdE E j:=Option.some.inj h2;rw [h3];exact okE_fits ha.2 hc.2 h1
theorem entsI_may : ∀ E : List Ent,(∀ e ∈ E,Fits e)→∀ x ∈ entsI E,may x=true∧x.x=0
  | [],_,x,hx=>by cases hx
  | e :: E,h,x,hx=>by
    obtain ⟨h1,h2,h3,h4⟩:=h e (List.mem_cons_self);rw [entsI_cons] at hx
    rcases List.mem_cons.1 hx with rfl|hx; · exact ⟨may_mk1 h1.1 h1.2,rfl⟩
    rcases List.mem_cons.1 hx with rfl|hx; · exact ⟨may_mk3 h2.1 h2.2,rfl⟩
    rcases List.mem_cons.1 hx with rfl|hx; · exact ⟨may_mk2 h3.1 h3.2,rfl⟩
    rcases List.mem_cons.1 hx with rfl|hx; · exact ⟨may_mk3 h4.1 h4.2,rfl⟩
    exact entsI_may E (fun e he=>h e (List.mem_cons_of_mem _ he)) x hx
theorem tabI_may {a b c : Int} {E : List Ent} (h : MayT a b c E=true) : ∀ x ∈ tabI 84 a b c E,may x=true∧x.x=0:=by
  obtain ⟨ha,hb,hc,hl,hE⟩:=MayT_parts h;intro x hx
  unfold tabI at hx
  rcases List.mem_cons.1 hx with rfl|hx; · exact ⟨may_mk1 (by decide) (by decide),rfl⟩
  rcases List.mem_cons.1 hx with rfl|hx; · exact ⟨may_mk3 (by omega) ha.2,rfl⟩
  rcases List.mem_cons.1 hx with rfl|hx; · exact ⟨may_mk3 (by omega) hb.2,rfl⟩
  rcases List.mem_cons.1 hx with rfl|hx; · exact ⟨may_mk3 hc.1 hc.2,rfl⟩
  exact entsI_may E hE x hx
theorem tput_rows {l : List SIt} (hl : l.length≤1000) (hm : ∀ a ∈ l.map itOf,may a=true) (hx : ∀ a ∈ l.map itOf,a.x=0) : pack_Put.f l=some (ones (l.map itOf),0)∧humusref03_Put.f l=some (ones (l.map itOf),true):=by
  have ha : (l.map itOf).all may=true:=by rw [List.all_eq_true]; exact hm
  have hbd : bdX l=true:=by
    unfold bdX
    rw [List.all_eq_true];intro x h;have:=hx (itOf x) (List.mem_map.2 ⟨x,h,rfl⟩);refine dt_ ?_
    rw [show x.f2=0 from this]; decide
  unfold pack_Put.f humusref03_Put.f
  have hb : l.length≤1000∧bdX l=true:=⟨hl,hbd⟩;rw [if_pos hb,if_pos hb,ha,if_pos rfl];exact ⟨rfl,rfl⟩
theorem it_back (l : List It) : (l.map ofIt).map itOf=l:=by
  rw [List.map_map]
  exact (List.map_congr_left (fun a _=>rfl)).trans (List.map_id l)
theorem put_tab {a b c : Int} {E : List Ent} (h : MayT a b c E=true) : pack_Put.f ((tabI 84 a b c E).map ofIt)=some (ones (tabI 84 a b c E),0)∧humusref03_Put.f ((tabI 84 a b c E).map ofIt)=some (ones (tabI 84 a b c E),true):=by
  have hl:=(MayT_parts h).2.2.2.1;have hm:=tabI_may h
  have:=tput_rows (l:=(tabI 84 a b c E).map ofIt) (by rw [List.length_map,tabI_count]; omega) (by rw [it_back]; exact fun x hx=>(hm x hx).1) (by rw [it_back]; exact fun x hx=>(hm x hx).2)
  rw [it_back] at this;exact this
def pageT (a b c : Int) (E : List Ent) : List Int:=ones (tabI 84 a b c E)++List.replicate 363 0
theorem zeros_bytes (n : Nat) : Bytes (List.replicate n 0):=by
  intro x hx;rw [List.mem_replicate] at hx;omega
theorem pageT_bytes {a b c : Int} {E : List Ent} (h : MayT a b c E=true) : Bytes (ones (tabI 84 a b c E))∧(ones (tabI 84 a b c E)).length=145∧Bytes (pageT a b c E)∧(pageT a b c E).length=508:=by
  have hl:=(MayT_parts h).2.2.2.1
  have h1:=ones_bytes (fun x hx=>(tabI_may h x hx).1)
  have h2:=tabI_len 84 a b c E
  refine ⟨h1,by omega,h1.append (zeros_bytes _),?_⟩
  unfold pageT
  rw [List.length_append,List.length_replicate]; omega
theorem tpag_l1 {k : Nat} (hk : 5000≤k) : ∀ (d : Nat) (l : List Int),Bytes l→l.length + d=508→humusref11_Page.l1 (k + d + 1) l=some (sealL (l++List.replicate d 0)):=by
  intro d
  induction d with
  | zero =>
    intro l hb hl
    rw [show k + 0 + 1=k + 1 from rfl,humusref11_Page.l1_s,if_neg (by omega),rSeal_ev hb (by omega) (by omega),show List.replicate 0 (0 : Int)=[] from rfl,List.append_nil]; rfl
  | succ d ih =>
    intro l hb hl
    rw [show k + (d + 1) + 1=(k + d + 1) + 1 by omega,humusref11_Page.l1_s,if_pos (by omega),if_pos (by omega),ih (l++[0]) (hb.append (zeros_bytes 1)) (by rw [List.length_append,List.length_singleton]; omega),List.append_assoc,List.replicate_succ]; rfl
theorem drop_E {E : List Ent} {i : Nat} (h : i<E.length) : E.drop i=rd_T56 E (i : Int) :: E.drop (i + 1):=by
  rw [List.drop_eq_getElem_cons h]
  congr 1
  have h2:=rdE_at h;rw [List.getElem?_eq_getElem h] at h2;exact Option.some.inj h2
theorem tpag_l0 {k : Nat} {a b c : Int} {E : List Ent} (hE : E.length≤1000) : ∀ (d i : Nat) (xs : List SIt),i + d=E.length→xs.length + 4 * d≤10000→humusref11_Page.l0 (k + d + 1) xs (i : Int) a b c E=(humusref03_Put.f (xs++(entsI (E.drop i)).map ofIt)).bind fun bt=>humusref11_Page.l1 k bt.1:=by
  intro d
  induction d with
  | zero =>
    intro i xs hi hx
    rw [show k + 0 + 1=k + 1 from rfl,humusref11_Page.l0,if_neg (by omega),List.drop_eq_nil_of_le (by omega)]
    show _=(humusref03_Put.f (xs++[])).bind _
    rw [List.append_nil]
  | succ d ih =>
    intro i xs hi hx
    rw [show k + (d + 1) + 1=(k + d + 1) + 1 by omega,humusref11_Page.l0,if_pos (by omega),if_pos (by omega),Option.bind_some,if_pos (by simp only [List.length_cons,List.length_nil]; omega),wsucc (by omega),ih (i + 1) _ (by omega) (by rw [List.length_append]; simp only [List.length_cons,List.length_nil]; omega),drop_E (E:=E) (i:=i) (by omega),entsI_cons]
    simp only [List.append_assoc,List.cons_append,List.nil_append,List.map_cons]
    rfl
theorem TPage_ev {k : Nat} {a b c : Int} {E : List Ent} (h : MayT a b c E=true) (hk : 8000≤k) : humusref11_Page.f k a b c E=some (sealL (pageT a b c E)):=by
  obtain ⟨ha,hb,hc,hl,hE⟩:=MayT_parts h;obtain ⟨h1,h2,h3,h4⟩:=pageT_bytes h
  unfold humusref11_Page.f
  obtain ⟨m,rfl⟩ : ∃ m,k=(m + 363 + 1) + 12 + 1:=⟨k - 377,by omega⟩
  refine (tpag_l0 (by omega) 12 0 _ (by omega) (by simp)).trans ?_
  rw [List.drop_zero];have hp:=(put_tab h).2;have e : ([(⟨1,84,0,(⟨#[]⟩ : ByteArray)⟩ : SIt),(⟨3,a,0,(⟨#[]⟩ : ByteArray)⟩ : SIt),(⟨3,b,0,(⟨#[]⟩ : ByteArray)⟩ : SIt),(⟨3,c,0,(⟨#[]⟩ : ByteArray)⟩ : SIt)] : List SIt)++(entsI E).map ofIt=(tabI 84 a b c E).map ofIt:=rfl;rw [e,hp,Option.bind_some]
  exact tpag_l1 (by omega) 363 _ h1 (by show (ones (tabI 84 a b c E)).length + 363=508; omega)
end Go.Proofs.YtbmcbhpkefjhbaaDoor.P
