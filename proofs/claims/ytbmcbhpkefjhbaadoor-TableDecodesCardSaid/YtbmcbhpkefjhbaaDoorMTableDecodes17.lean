/- by wip/prune.py -/
import Derived.Test.YtbmcbhpkefjhbaaDoorMTableDecodes4
import Derived.Test.YtbmcbhpkefjhbaaDoorMTableDecodes5
import Derived.Test.YtbmcbhpkefjhbaaDoorMTableDecodes15
import Derived.Test.YtbmcbhpkefjhbaaDoorMTableDecodes16
set_option linter.unusedSimpArgs false
set_option linter.unusedVariables false
namespace Go.Proofs.YtbmcbhpkefjhbaaDoor.P
open Go.RowKit YtbmcbhpkefjhbaaDoorW.PrintWords YtbmcbhpkefjhbaaDoorW.PrintLast YtbmcbhpkefjhbaaDoorW.PrintMore
attribute [local go_sem] max2_int min2_int max_two min_two max_three min_three max_four min_four   -- for this text's walks alone
attribute [local go_sem] run_store_float
mutual
def humusref11_Page.l0 : Nat→List (S51)→Int→Int→Int→Int→List (S56)→Option (List Int)
 | 0,_,_,_,_,_,_=>none
 | k + 1,x3,x4,x316000,x316001,x316002,x316003=>if x4<(x316003.length : Int) then (if 0≤x4 then ((some (([(⟨1,(rd_T56 x316003 x4).f1,0,(⟨#[]⟩ : ByteArray)⟩ : S51),(⟨3,(rd_T56 x316003 x4).f0,0,(⟨#[]⟩ : ByteArray)⟩ : S51),(⟨2,(rd_T56 x316003 x4).f2,0,(⟨#[]⟩ : ByteArray)⟩ : S51),(⟨3,(rd_T56 x316003 x4).f3,0,(⟨#[]⟩ : ByteArray)⟩ : S51)] : List (S51)) : List (S51))).bind fun y321=>(if x3.length + y321.length<3518437208883 then (humusref11_Page.l0 k (x3++y321) (wrap64 (x4 + 1)) x316000 x316001 x316002 x316003) else (none))) else (none)) else ((humusref03_Put.f x3).bind fun bt327=>(humusref11_Page.l1 k bt327.1))
def humusref11_Page.l1 : Nat→List Int→Option (List Int)
 | 0,_=>none
 | k + 1,x6=>if (x6.length : Int)<508 then (if x6.length<140737488355328 then (humusref11_Page.l1 k (x6++[0])) else (none)) else ((humusref02_Seal.f k x6).bind fun t334=>(some t334))
end
theorem humusref11_Page.l1_s (k : Nat) (x6 : List Int) : humusref11_Page.l1 (k + 1) x6=(if (x6.length : Int)<508 then (if x6.length<140737488355328 then (humusref11_Page.l1 k (x6++[0])) else (none)) else ((humusref02_Seal.f k x6).bind fun t334=>(some t334))):=rfl
def humusref11_Page.f (k : Nat) (a0_0 : Int) (a0_1 : Int) (a0_2 : Int) (l0_3 : List (S56)) : Option (List Int):=humusref11_Page.l0 k (([(⟨1,84,0,(⟨#[]⟩ : ByteArray)⟩ : S51),(⟨3,a0_0,0,(⟨#[]⟩ : ByteArray)⟩ : S51),(⟨3,a0_1,0,(⟨#[]⟩ : ByteArray)⟩ : S51),(⟨3,a0_2,0,(⟨#[]⟩ : ByteArray)⟩ : S51)] : List (S51))) 0 a0_0 a0_1 a0_2 l0_3
set_option maxHeartbeats 8000000 in
set_option maxRecDepth 100000 in
theorem humusref11_Page.calls (k : Nat) (a0_0 : Int) (a0_1 : Int) (a0_2 : Int) (A0_3 : Option Addr) (c0_3 : Nat) (l0_3 : List (S56)) (r : List Int) (w : World) (hr0_3 : Kd.C k56 w A0_3 l0_3.length l0_3) (hc0_3 : l0_3.length≤c0_3) (h : humusref11_Page.f k a0_0 a0_1 a0_2 l0_3=some r) :
  Calls Tryd.prog 17 #[.agg #[.int .i64 a0_0,.int .i64 a0_1,.int .i64 a0_2,.slice A0_3 l0_3.length c0_3]] w fun e w'=>∃ v0_ : Value,e=.returned (v0_)∧Kd.R (Kd.int .u8) 5 w' w.heap.size (fun _=>True) v0_ r∧Below w.heap.size w w':=by
 have hu26:=Tryd.underlying26;have hu51:=Tryd.underlying51;have hu56:=Tryd.underlying56;have HR0_3:=A_ hr0_3;have HC0_3:=A_ hc0_3;clear hr0_3 hc0_3;have HB:=A_ (Below.refl w.heap.size w);have H : (humusref11_Page.l0 k (([(⟨1,84,0,(⟨#[]⟩ : ByteArray)⟩ : S51),(⟨3,a0_0,0,(⟨#[]⟩ : ByteArray)⟩ : S51),(⟨3,a0_1,0,(⟨#[]⟩ : ByteArray)⟩ : S51),(⟨3,a0_2,0,(⟨#[]⟩ : ByteArray)⟩ : S51)] : List (S51))) 0 a0_0 a0_1 a0_2 l0_3)=some r:=h;clear h
 obtain ⟨y316,hy316⟩ : ∃ y_ : List (S51),y_=(([(⟨1,84,0,(⟨#[]⟩ : ByteArray)⟩ : S51),(⟨3,a0_0,0,(⟨#[]⟩ : ByteArray)⟩ : S51),(⟨3,a0_1,0,(⟨#[]⟩ : ByteArray)⟩ : S51),(⟨3,a0_2,0,(⟨#[]⟩ : ByteArray)⟩ : S51)] : List (S51))):=⟨_,rfl⟩
 replace H : (humusref11_Page.l0 k y316 0 a0_0 a0_1 a0_2 l0_3)=some r:=by first|(rw [hy316];with_reducible exact H)|(have H2_:=(Option.bind_some _ _).symm.trans H;rw [hy316];with_reducible exact H2_)|(have H2_:=(Option.bind_some _ _).symm.trans H;with_reducible exact H2_)|with_reducible exact H|(rw [hy316];exact H)|exact H
 have Ny316:=A_ hy316;clear hy316;have H':=A_ H;clear H;go_enter Tryd.func17,Tryd.ntmps17
 go_wp2_with (first|((with_reducible refine gate_dst (N:=1) rfl ?_);refine box_event ?hg (N:=1) ?hd (cs:=#[.int .i64 a0_0,.int .i64 a0_1,.int .i64 a0_2,.slice A0_3 l0_3.length c0_3]) (t:=26) ?hr ?_;(case hd=>rfl);(case hg=>rfl);(case hr=>first|(go_simp;done)|(go_simp;rfl));intro gb315 hg w2 hbox hb;have n0_:=A_ (bp_ (hb0_ HB.out) hb);have n1_:=A_ (hbox);have n2_:=A_ ((by rw [hg];exact (bz_ (hb0_ HB.out)) : w.heap.size≤gb315));have n3_:=n2_;clear HB;have HB:=n0_;have BK315:=n1_;have GW315:=n2_;have GE315:=n3_;clear n0_ n1_ n2_ n3_;clear hb hbox hg;obtain ⟨z3_0,z3_1,z3_2,z3_3⟩:=blkc_4 BK315.out;obtain ⟨y3_0,y3_1,y3_2⟩:=blkz_3 BK315.out;have y3_3:=bf_ BK315.out 3)|((with_reducible refine gate_dst (N:=18) rfl ?_);refine Kd.R_lit k51 _ 51 ?hg (N:=18) ?hd (xs:=([(⟨1,84,0,(⟨#[]⟩ : ByteArray)⟩ : S51),(⟨3,a0_0,0,(⟨#[]⟩ : ByteArray)⟩ : S51),(⟨3,a0_1,0,(⟨#[]⟩ : ByteArray)⟩ : S51),(⟨3,a0_2,0,(⟨#[]⟩ : ByteArray)⟩ : S51)] : List (S51))) (inner:=[.int .i64 1,.int .i64 84,.float .f64 0,.string (⟨#[]⟩ : ByteArray),.int .i64 3,.int .i64 a0_0,.float .f64 0,.string (⟨#[]⟩ : ByteArray),.int .i64 3,.int .i64 a0_1,.float .f64 0,.string (⟨#[]⟩ : ByteArray),.int .i64 3,.int .i64 a0_2,.float .f64 0,.string (⟨#[]⟩ : ByteArray)]) (ok:=fun _=>True) (okp:=fun _=>True) ?hr ?hp (fun _ hk=>hk) trivial (Below.refl _ _) (Nat.le_refl _) (by simp) ?_;(case hd=>rfl);(case hg=>rfl);(case hr=>first|(go_simp;done)|(go_simp;rfl));(case hp=>exact (Reps.c4 (show Kd.M k51 _ _ _ (⟨1,84,0,(⟨#[]⟩ : ByteArray)⟩ : S51) [.int .i64 1,.int .i64 84,.float .f64 0,.string (⟨#[]⟩ : ByteArray)] from (k51_mkM _ _ _ (⟨1,84,0,(⟨#[]⟩ : ByteArray)⟩ : S51) )) (Reps.c4 (show Kd.M k51 _ _ _ (⟨3,a0_0,0,(⟨#[]⟩ : ByteArray)⟩ : S51) [.int .i64 3,.int .i64 a0_0,.float .f64 0,.string (⟨#[]⟩ : ByteArray)] from (k51_mkM _ _ _ (⟨3,a0_0,0,(⟨#[]⟩ : ByteArray)⟩ : S51) )) (Reps.c4 (show Kd.M k51 _ _ _ (⟨3,a0_1,0,(⟨#[]⟩ : ByteArray)⟩ : S51) [.int .i64 3,.int .i64 a0_1,.float .f64 0,.string (⟨#[]⟩ : ByteArray)] from (k51_mkM _ _ _ (⟨3,a0_1,0,(⟨#[]⟩ : ByteArray)⟩ : S51) )) (Reps.c4 (show Kd.M k51 _ _ _ (⟨3,a0_2,0,(⟨#[]⟩ : ByteArray)⟩ : S51) [.int .i64 3,.int .i64 a0_2,.float .f64 0,.string (⟨#[]⟩ : ByteArray)] from (k51_mkM _ _ _ (⟨3,a0_2,0,(⟨#[]⟩ : ByteArray)⟩ : S51) )) (Reps.none _ _))))));intro v317 w4 ho5 hb hg_ hnew_;clear hg_ hnew_;(first|rw [← Ny316.out] at ho5|(simp only [Int.reduceToNat] at ho5;rw [← Ny316.out] at ho5));have n0_:=A_ (Kd.R_lower ho5 (bz_ (hb1_ HB.out GE315.out)));have n1_:=A_ (bx_ BK315.out kf_ hb);have n2_:=A_ (bp_ (hb1_ HB.out GE315.out) hb);clear BK315;clear HB;have HO318:=n0_;have BK315:=n1_;have HB:=n2_;clear n0_ n1_ n2_;clear hb ho5))
 go_loopg [3,4] k (fun kq v3 v4 w'=>∃ (x3_1 : List (S51)) (x4_1 : Int),v4=.int .i64 x4_1∧Aside0 (humusref11_Page.l0 kq x3_1 x4_1 a0_0 a0_1 a0_2 l0_3=some r)∧Aside0 (kq≤k)∧Aside0 (Kd.R k51 51 w' w.heap.size (fun _=>True) v3 x3_1)∧Aside0 (w'.heap[gb315]?=some (.cells #[.int .i64 a0_0,.int .i64 a0_1,.int .i64 a0_2,(.slice A0_3 l0_3.length c0_3)] 26 (0,0)))∧Aside0 (Below w.heap.size w w'))
 case atStart=>exact ⟨(y316),(0),(by first|rfl|(simp;done)|(simp [*];done)),H',⟨Nat.le_refl _⟩,⟨by (with_reducible repeat (first|apply ra_|apply rn_|apply re_));exact HO318.out⟩,⟨by exact kk_ BK315.out⟩,⟨hb1_ HB.out GE315.out⟩⟩
 case round =>
  clear H';(try clear c1);(try clear p2);(try clear c4);(try clear z3_0 z3_1 z3_2 z3_3 y3_0 y3_1 y3_2 y3_3);obtain ⟨x3_1,x4_1,rfl,HA,HK1,HO_3,BK315,HB⟩:=hrel
  cases gk with
  | zero=>exact absurd HA.out (by simp [humusref11_Page.l0])
  | succ k1 =>
   have H:=HA.out;clear HA
   simp only [humusref11_Page.l0] at H
   by_cases c6 : x4_1<(l0_3.length : Int)
   ·rw [if_pos c6] at H
    have c6b0 : decide (x4_1<(l0_3.length : Int))=true:=dt_ c6;clear c6
    by_cases c7 : 0≤x4_1
    rotate_left
    ·rw [if_neg c7] at H
     exact absurd H (by simp)
    rw [if_pos c7] at H
    have c7b0 : decide (0≤x4_1)=true:=dt_ c7;clear c7
    obtain ⟨y321,hy321⟩ : ∃ y_ : List (S51),y_=(([(⟨1,(rd_T56 l0_3 x4_1).f1,0,(⟨#[]⟩ : ByteArray)⟩ : S51),(⟨3,(rd_T56 l0_3 x4_1).f0,0,(⟨#[]⟩ : ByteArray)⟩ : S51),(⟨2,(rd_T56 l0_3 x4_1).f2,0,(⟨#[]⟩ : ByteArray)⟩ : S51),(⟨3,(rd_T56 l0_3 x4_1).f3,0,(⟨#[]⟩ : ByteArray)⟩ : S51)] : List (S51))):=⟨_,rfl⟩
    replace H : (if x3_1.length + y321.length<3518437208883 then (humusref11_Page.l0 k1 (x3_1++y321) (wrap64 (x4_1 + 1)) a0_0 a0_1 a0_2 l0_3) else (none))=some r:=by first|(rw [hy321];with_reducible exact H)|(have H2_:=(Option.bind_some _ _).symm.trans H;rw [hy321];with_reducible exact H2_)|(have H2_:=(Option.bind_some _ _).symm.trans H;with_reducible exact H2_)|with_reducible exact H|(rw [hy321];exact H)|exact H
    have Ny321:=A_ hy321;clear hy321
    by_cases c8 : x3_1.length + y321.length<3518437208883
    rotate_left
    ·rw [if_neg c8] at H
     exact absurd H (by simp)
    rw [if_pos c8] at H
    have LMc8:=A_ c8;clear c8
    obtain ⟨y324,hy324⟩ : ∃ y_ : List (S51),y_=(x3_1++y321):=⟨_,rfl⟩
    replace H : (humusref11_Page.l0 k1 y324 (wrap64 (x4_1 + 1)) a0_0 a0_1 a0_2 l0_3)=some r:=by first|(rw [hy324];with_reducible exact H)|(have H2_:=(Option.bind_some _ _).symm.trans H;rw [hy324];with_reducible exact H2_)|(have H2_:=(Option.bind_some _ _).symm.trans H;with_reducible exact H2_)|with_reducible exact H|(rw [hy324];exact H)|exact H
    have Ny324:=A_ hy324;clear hy324;have H':=A_ H;clear H;obtain ⟨z9_0,z9_1,z9_2,z9_3⟩:=blkc_4 BK315.out;obtain ⟨y9_0,y9_1,y9_2,y9_3⟩:=blkz_4 BK315.out
    have p319 : 0≤(x4_1 : Int):=od_ (by first|(with_reducible assumption)|assumption)
    have q319 : x4_1<(l0_3.length : Int):=od_ (by first|(with_reducible assumption)|assumption)
    obtain ⟨ad319,e319,hx319_0,hx319_1,hx319_2,hx319_3⟩:=at_T56 HR0_3.out x4_1 p319 q319
    cases e319
    replace hx319_0:=(HB.out.cell (wb_ w _ hx319_0)).trans hx319_0;replace hx319_1:=(HB.out.cell (wb_ w _ hx319_1)).trans hx319_1;replace hx319_2:=(HB.out.cell (wb_ w _ hx319_2)).trans hx319_2;replace hx319_3:=(HB.out.cell (wb_ w _ hx319_3)).trans hx319_3;replace p319:=eq_true p319;replace q319:=eq_true q319
    go_wp2_with (first|((with_reducible refine gate_dst (N:=5) rfl ?_);refine box_event ?hg (N:=5) ?hd (cs:=#[.int .i64 0,.int .i64 0,.int .i64 0,.int .i64 0]) (t:=56) ?hr ?_;(case hd=>rfl);(case hg=>rfl);(case hr=>first|(go_simp;done)|(go_simp;rfl));intro gb320 hg w10 hbox hb;have n0_:=A_ (Kd.R_below (by (with_reducible repeat (first|apply ra_|apply rn_|apply re_));exact HO_3.out) hb);have n1_:=A_ (bx_ BK315.out kf_ hb);have n2_:=A_ (bp_ (hb1_ HB.out GE315.out) hb);have n3_:=A_ (hbox);have n4_:=A_ ((by rw [hg];exact (bz_ (hb1_ HB.out GE315.out)) : w.heap.size≤gb320));have n5_:=n4_;have n6_:=A_ ((by rw [hg];exact Nat.ne_of_lt (bl_ BK315.out kf_) : gb315≠gb320));have n7_:=A_ (Ne.symm n6_.out);clear HO_3;clear BK315;clear HB;have HO_3:=n0_;have BK315:=n1_;have HB:=n2_;have BK320:=n3_;have GW320:=n4_;have GE320:=n5_;have NB315_320:=n6_;have NB320_315:=n7_;clear n0_ n1_ n2_ n3_ n4_ n5_ n6_ n7_;clear hb hbox hg;have hnb11:=NB320_315.out;have hnc11:=NB315_320.out;obtain ⟨z12_0,z12_1,z12_2,z12_3⟩:=blkc_4 BK320.out;obtain ⟨y12_0,y12_1,y12_2⟩:=blkz_3 BK320.out;have y12_3:=bf_ BK320.out 3)|((with_reducible refine gate_dst (N:=44) rfl ?_);refine Kd.R_lit k51 _ 51 ?hg (N:=44) ?hd (xs:=([(⟨1,(rd_T56 l0_3 x4_1).f1,0,(⟨#[]⟩ : ByteArray)⟩ : S51),(⟨3,(rd_T56 l0_3 x4_1).f0,0,(⟨#[]⟩ : ByteArray)⟩ : S51),(⟨2,(rd_T56 l0_3 x4_1).f2,0,(⟨#[]⟩ : ByteArray)⟩ : S51),(⟨3,(rd_T56 l0_3 x4_1).f3,0,(⟨#[]⟩ : ByteArray)⟩ : S51)] : List (S51))) (inner:=[.int .i64 1,.int .i64 ((rd_T56 l0_3 x4_1).f1),.float .f64 0,.string (⟨#[]⟩ : ByteArray),.int .i64 3,.int .i64 ((rd_T56 l0_3 x4_1).f0),.float .f64 0,.string (⟨#[]⟩ : ByteArray),.int .i64 2,.int .i64 ((rd_T56 l0_3 x4_1).f2),.float .f64 0,.string (⟨#[]⟩ : ByteArray),.int .i64 3,.int .i64 ((rd_T56 l0_3 x4_1).f3),.float .f64 0,.string (⟨#[]⟩ : ByteArray)]) (ok:=fun _=>True) (okp:=fun _=>True) ?hr ?hp (fun _ hk=>hk) trivial (Below.refl _ _) (Nat.le_refl _) (by simp) ?_;(case hd=>rfl);(case hg=>rfl);(case hr=>first|(go_simp;done)|(go_simp;rfl));(case hp=>exact (Reps.c4 (show Kd.M k51 _ _ _ (⟨1,(rd_T56 l0_3 x4_1).f1,0,(⟨#[]⟩ : ByteArray)⟩ : S51) [.int .i64 1,.int .i64 ((rd_T56 l0_3 x4_1).f1),.float .f64 0,.string (⟨#[]⟩ : ByteArray)] from (k51_mkM _ _ _ (⟨1,(rd_T56 l0_3 x4_1).f1,0,(⟨#[]⟩ : ByteArray)⟩ : S51) )) (Reps.c4 (show Kd.M k51 _ _ _ (⟨3,(rd_T56 l0_3 x4_1).f0,0,(⟨#[]⟩ : ByteArray)⟩ : S51) [.int .i64 3,.int .i64 ((rd_T56 l0_3 x4_1).f0),.float .f64 0,.string (⟨#[]⟩ : ByteArray)] from (k51_mkM _ _ _ (⟨3,(rd_T56 l0_3 x4_1).f0,0,(⟨#[]⟩ : ByteArray)⟩ : S51) )) (Reps.c4 (show Kd.M k51 _ _ _ (⟨2,(rd_T56 l0_3 x4_1).f2,0,(⟨#[]⟩ : ByteArray)⟩ : S51) [.int .i64 2,.int .i64 ((rd_T56 l0_3 x4_1).f2),.float .f64 0,.string (⟨#[]⟩ : ByteArray)] from (k51_mkM _ _ _ (⟨2,(rd_T56 l0_3 x4_1).f2,0,(⟨#[]⟩ : ByteArray)⟩ : S51) )) (Reps.c4 (show Kd.M k51 _ _ _ (⟨3,(rd_T56 l0_3 x4_1).f3,0,(⟨#[]⟩ : ByteArray)⟩ : S51) [.int .i64 3,.int .i64 ((rd_T56 l0_3 x4_1).f3),.float .f64 0,.string (⟨#[]⟩ : ByteArray)] from (k51_mkM _ _ _ (⟨3,(rd_T56 l0_3 x4_1).f3,0,(⟨#[]⟩ : ByteArray)⟩ : S51) )) (Reps.none _ _))))));intro v322 w13 ho14 hb hg_ hnew_;clear hg_ hnew_;(first|rw [← Ny321.out] at ho14|(simp only [Int.reduceToNat] at ho14;rw [← Ny321.out] at ho14));have n0_:=A_ (Kd.R_elder' (by (with_reducible repeat (first|apply ra_|apply rn_|apply re_));exact (Kd.R_mono (rf_ (p:=⟨gb320,3,none⟩) (rf_ (p:=⟨gb320,2,none⟩) (rf_ (p:=⟨gb320,1,none⟩) (rf_ (p:=⟨gb320,0,none⟩) (Kd.R_types HO_3.out BK320.out (by decide)) (fun _ hk=>hk.2) (.int .i64 ((rd_T56 l0_3 x4_1).f0))) (fun _ hk=>hk.2) (.int .i64 ((rd_T56 l0_3 x4_1).f1))) (fun _ hk=>hk.2) (.int .i64 ((rd_T56 l0_3 x4_1).f2))) (fun _ hk=>hk.2) (.int .i64 ((rd_T56 l0_3 x4_1).f3))) (fun _ h_=>h_.1))) (Kd.R_base ho14) hb);have n1_:=A_ (Kd.R_lower (Kd.R_new' ho14 (Kd.R_lt (by (with_reducible repeat (first|apply ra_|apply rn_|apply re_));exact (Kd.R_mono (rf_ (p:=⟨gb320,3,none⟩) (rf_ (p:=⟨gb320,2,none⟩) (rf_ (p:=⟨gb320,1,none⟩) (rf_ (p:=⟨gb320,0,none⟩) (Kd.R_types HO_3.out BK320.out (by decide)) (fun _ hk=>hk.2) (.int .i64 ((rd_T56 l0_3 x4_1).f0))) (fun _ hk=>hk.2) (.int .i64 ((rd_T56 l0_3 x4_1).f1))) (fun _ hk=>hk.2) (.int .i64 ((rd_T56 l0_3 x4_1).f2))) (fun _ hk=>hk.2) (.int .i64 ((rd_T56 l0_3 x4_1).f3))) (fun _ h_=>h_.1))))) (bz_ (hb2_ HB.out GE315.out GE320.out)));have n2_:=A_ (bb_ (g:=gb315) (o:=.cells #[.int .i64 a0_0,.int .i64 a0_1,.int .i64 a0_2,.slice (some ad319) l0_3.length c0_3] 26 (0,0)) (by refine kk_ ?_;refine blk_far ?_ NB315_320.out _;refine kk_ ?_;refine blk_far ?_ NB315_320.out _;refine kk_ ?_;refine blk_far ?_ NB315_320.out _;refine kk_ ?_;refine blk_far ?_ NB315_320.out _;exact kk_ BK315.out) hb);have n3_:=A_ (bb_ (g:=gb320) (o:=.cells #[.int .i64 ((rd_T56 l0_3 x4_1).f0),.int .i64 ((rd_T56 l0_3 x4_1).f1),.int .i64 ((rd_T56 l0_3 x4_1).f2),.int .i64 ((rd_T56 l0_3 x4_1).f3)] 56 (0,0)) (by refine kk_ ?_;apply blkf_4_0_3;exact kk_ BK320.out) hb);have n4_:=A_ (bp_ (hb2_ HB.out GE315.out GE320.out) hb);clear HO_3;clear BK315;clear BK320;clear HB;have HO_3:=n0_;have HO323:=n1_;have BK315:=n2_;have BK320:=n3_;have HB:=n4_;clear n0_ n1_ n2_ n3_ n4_;clear hb ho14;obtain ⟨Ao16,co16,eo16⟩:=Kd.R_slice HO323.out;subst eo16)|((with_reducible refine gate_builtin (b:=.append) (xs:=#[.tmp 31,.tmp 44]) rfl ?_);at_builtin;refine Kd.R_append_rows k51 (w0:=w) w.heap.size rfl (.tmp 31) (.tmp 44) 45 51 (.agg #[(.int .i64 0),(.int .i64 0),(.float .f64 0),(.string ⟨#[]⟩)]) 40 rfl Tryd.underlying45 info51 rfl (by decide) (by omega) u3 x3_1 y321 _ _ _ (fun k_=>some k_≠(.slice Ao16 y321.length co16 : Value).ownBlock) (fun _=>False) rfl rfl ?aO ?aR (fun _ _ h=>h) (fun _ h=>h.elim) ?aF ?aB ?aS ?aL ?_;(case aR=>repeat (first|exact (Kd.R_reads' HO323.out).2.2|(with_reducible refine Kd.C_alloc ?_ _)|(with_reducible refine Kd.C_drewN ?_ _)|(with_reducible refine Kd.C_drew ?_)));(case aB=>exact (hb2_ HB.out GE315.out GE320.out));(case aF=>exact (fun k_ hk=>Kd.fresh' (Kd.R_lt (by (with_reducible repeat (first|apply ra_|apply rn_|apply re_));exact HO323.out)) k_ hk));(case aO=>exact (by (with_reducible repeat (first|apply ra_|apply rn_|apply re_));exact Kd.R_mono HO_3.out (fun _ hk=>hk.2)));(case aS=>exact (bz_ (hb2_ HB.out GE315.out GE320.out)));(case aL=>have:=LMc8.out;omega);intro v325 w15 ho hb hg hat;rw [← Ny324.out] at ho;have n0_:=A_ (blk_grown (g:=gb315) (o:=.cells #[.int .i64 a0_0,.int .i64 a0_1,.int .i64 a0_2,.slice (some ad319) l0_3.length c0_3] 26 (0,0)) (by exact kk_ BK315.out) hg (Kd.R_ne HO_3.out BK315.out (by decide)));have n1_:=A_ (blk_grown (g:=gb320) (o:=.cells #[.int .i64 ((rd_T56 l0_3 x4_1).f0),.int .i64 ((rd_T56 l0_3 x4_1).f1),.int .i64 ((rd_T56 l0_3 x4_1).f2),.int .i64 ((rd_T56 l0_3 x4_1).f3)] 56 (0,0)) (by exact kk_ BK320.out) hg (Kd.R_ne HO_3.out BK320.out (by decide)));have n2_:=A_ (Kd.R_after (ok:=(fun _=>True)) (by (with_reducible repeat (first|apply ra_|apply rn_|apply re_));exact HO323.out) hg hat);have n3_:=A_ (hb);have n4_:=A_ (ho);clear BK315;clear BK320;clear HO323;clear HB;clear HO_3;have BK315:=n0_;have BK320:=n1_;have HO323:=n2_;have HB:=n3_;have HO326:=n4_;clear n0_ n1_ n2_ n3_ n4_;clear ho hb hg hat))
    go_roundg k1
    case measure=>have:=HK1.out;omega
    case rel=>exact ⟨(y324),(wrap64 (x4_1 + 1)),(by first|rfl|(simp;done)|(simp [*];done)),H',⟨by have:=HK1.out;omega⟩,⟨by (with_reducible repeat (first|apply ra_|apply rn_|apply re_));exact Kd.R_mono HO326.out (fun _ hk=>trivial)⟩,⟨by exact kk_ BK315.out⟩,⟨hb2_ HB.out GE315.out GE320.out⟩⟩
   rw [if_neg c6] at H
   have c6b0 : decide (x4_1<(l0_3.length : Int))=false:=df_ c6;clear c6;replace H:=Option.bind_eq_some_iff.mp H;obtain ⟨⟨t327,t328⟩,A170,H⟩:=H;replace H : (humusref11_Page.l1 k1 t327)=some r:=H;have A17:=A_ A170;clear A170;have H':=A_ H;clear H;obtain ⟨z18_0,z18_1,z18_2,z18_3⟩:=blkc_4 BK315.out;obtain ⟨y18_0,y18_1,y18_2,y18_3⟩:=blkz_4 BK315.out;obtain ⟨Ao19,co19,eo19⟩:=Kd.R_slice HO_3.out;subst eo19
   go_wp2_with (first|((with_reducible refine gate_callee (f:=35) rfl ?_);refine goesL_ (some 48) rfl rfl Tryd.func35 (by kernel_rfl) rfl #[.slice Ao19 x3_1.length co19] rfl (by (try simp only [List.map_toArray,List.map_cons,List.map_nil]);first|done|rfl|(simp only [List.length_drop,List.length_take];rfl)) ?_;(with_reducible refine (humusref03_Put.calls _ _ x3_1 t327 t328 _ ?side1 ?side2 A17.out).mono ?_);(case side1=>repeat (first|exact (Kd.R_reads' HO_3.out).2.2|(with_reducible refine Kd.C_alloc ?_ _)|(with_reducible refine Kd.C_drewN ?_ _)|(with_reducible refine Kd.C_drew ?_)));(case side2=>exact (Kd.R_reads' HO_3.out).2.1);rintro e w20 ⟨v329,rfl,ho0,hb⟩;refine ⟨_,rfl,?_⟩;have n0_:=A_ (Kd.R_below (by (with_reducible repeat (first|apply ra_|apply rn_|apply re_));exact HO_3.out) hb);have n1_:=A_ (Kd.R_lower ho0 (bz_ (hb1_ HB.out GE315.out)));have n2_:=A_ (bx_ BK315.out kf_ hb);have n3_:=A_ (bp_ (hb1_ HB.out GE315.out) hb);clear HO_3;clear BK315;clear HB;have HO_3:=n0_;have HO330:=n1_;have BK315:=n2_;have HB:=n3_;clear n0_ n1_ n2_ n3_;(try clear hb);(try clear hb2);(try clear hk);(try clear hi);(try clear ho0)))
   go_loopg [6] k1 (fun kq v6 w'=>∃ (x6_2 : List Int),Aside0 (humusref11_Page.l1 kq x6_2=some r)∧Aside0 (kq≤k1)∧Aside0 (Kd.R (Kd.int .u8) 5 w' w.heap.size (fun _=>True) v6 x6_2)∧Aside0 (w'.heap[gb315]?=some (.cells #[.int .i64 a0_0,.int .i64 a0_1,.int .i64 a0_2,(.slice A0_3 l0_3.length c0_3)] 26 (0,0)))∧Aside0 (Below w.heap.size w w'))
   case atStart=>exact ⟨(t327),H',⟨Nat.le_refl _⟩,⟨by (with_reducible repeat (first|apply ra_|apply rn_|apply re_));exact HO330.out⟩,⟨by exact kk_ BK315.out⟩,⟨hb1_ HB.out GE315.out⟩⟩
   case round =>
    clear H';(try clear c1);(try clear p2);(try clear c3);(try clear p3);(try clear q3);(try clear hx3);(try clear c4);(try clear c6);(try clear c6b0);(try clear p6);(try clear c7);(try clear c7b0);(try clear c8);(try clear c11);(try clear c17);(try clear hx319_0);(try clear hx319_1);(try clear hx319_2);(try clear hx319_3);(try clear p2);(try clear p319);(try clear q319);(try clear z12_0 z12_1 z12_2 z12_3 z18_0 z18_1 z18_2 z18_3 z3_0 z3_1 z3_2 z3_3 z9_0 z9_1 z9_2 z9_3 y12_0 y12_1 y12_2 y12_3 y18_0 y18_1 y18_2 y18_3 y3_0 y3_1 y3_2 y3_3 y9_0 y9_1 y9_2 y9_3);obtain ⟨x6_2,HA,HK2,HO_6,BK315,HB⟩:=hrel
    cases gk with
    | zero=>exact absurd HA.out (by intro h_; cases h_)
    | succ k2 =>
     have H:=HA.out;clear HA;rw [humusref11_Page.l1_s] at H
     by_cases c21 : (x6_2.length : Int)<508
     rotate_left
     ·rw [if_neg c21] at H
      have c21b0 : decide ((x6_2.length : Int)<508)=false:=df_ c21
      have c21b1 : decide (x6_2.length<508)=false:=df_ (by omega)
      clear c21;replace H:=Option.bind_eq_some_iff.mp H;obtain ⟨t334,A250,H⟩:=H;replace H : (some t334)=some r:=H;have A25:=A_ A250;clear A250;obtain rfl:=Option.some.inj H;obtain ⟨Ao26,co26,eo26⟩:=Kd.R_slice HO_6.out;subst eo26
      go_wp2_with (first|((with_reducible refine gate_callee (f:=25) rfl ?_);refine goesL_ (some 58) rfl rfl Tryd.func25 (by kernel_rfl) rfl #[.slice Ao26 x6_2.length co26] rfl (by (try simp only [List.map_toArray,List.map_cons,List.map_nil]);first|done|rfl|(simp only [List.length_drop,List.length_take];rfl)) ?_;(with_reducible refine (humusref02_Seal.calls k2 _ _ x6_2 t334 _ ?side1 ?side2 A25.out).mono ?_);(case side1=>repeat (first|exact (Kd.R_reads' HO_6.out).2.2|(with_reducible refine Kd.C_alloc ?_ _)|(with_reducible refine Kd.C_drewN ?_ _)|(with_reducible refine Kd.C_drew ?_)));(case side2=>exact (Kd.R_reads' HO_6.out).2.1);rintro e w27 ⟨v335,rfl,ho0,hb⟩;refine ⟨_,rfl,?_⟩;have n0_:=A_ (Kd.R_elder' (by (with_reducible repeat (first|apply ra_|apply rn_|apply re_));exact HO_6.out) (Kd.R_base ho0) hb);have n1_:=A_ (Kd.R_lower (Kd.R_new' ho0 (Kd.R_lt (by (with_reducible repeat (first|apply ra_|apply rn_|apply re_));exact HO_6.out))) (bz_ (hb1_ HB.out GE315.out)));have n2_:=A_ (bx_ BK315.out kf_ hb);have n3_:=A_ (bp_ (hb1_ HB.out GE315.out) hb);clear HO_6;clear BK315;clear HB;have HO_6:=n0_;have HO336:=n1_;have BK315:=n2_;have HB:=n3_;clear n0_ n1_ n2_ n3_;(try clear hb);(try clear hb2);(try clear hk);(try clear hi);(try clear ho0)))
      go_ret
      exact ⟨_,by first|rfl|(simp [errW_none,errW_some] <;> rfl)|(simp [*,errW_none,errW_some] <;> rfl),by (with_reducible repeat (first|apply ra_|apply rn_|apply re_));exact Kd.R_mono HO336.out (fun _ hk=>trivial),hb1_ HB.out GE315.out⟩
     rw [if_pos c21] at H
     have c21b0 : decide ((x6_2.length : Int)<508)=true:=dt_ c21
     have c21b1 : decide (x6_2.length<508)=true:=dt_ (by omega)
     clear c21
     by_cases c22 : x6_2.length<140737488355328
     rotate_left
     ·rw [if_neg c22] at H
      exact absurd H (by simp)
     rw [if_pos c22] at H
     have LMc22:=A_ c22;clear c22
     obtain ⟨y331,hy331⟩ : ∃ y_ : List Int,y_=(x6_2++[0]):=⟨_,rfl⟩
     replace H : (humusref11_Page.l1 k2 y331)=some r:=by first|(rw [hy331];with_reducible exact H)|(have H2_:=(Option.bind_some _ _).symm.trans H;rw [hy331];with_reducible exact H2_)|(have H2_:=(Option.bind_some _ _).symm.trans H;with_reducible exact H2_)|with_reducible exact H|(rw [hy331];exact H)|exact H
     have Ny331:=A_ hy331;clear hy331;have H':=A_ H;clear H;obtain ⟨Ao23,co23,eo23⟩:=Kd.R_slice HO_6.out;subst eo23
     go_wp2_with (first|((with_reducible refine gate_builtin (b:=.append) (xs:=#[.tmp 54,.tmp 55]) rfl ?_);at_builtin;refine Kd.R_append (Kd.int .u8) (w0:=w) w.heap.size rfl (.tmp 54) (.tmp 55) 22 5 (.int .u8 0) 1 rfl Tryd.underlying22 info5 rfl (by decide) (by omega) (.slice Ao23 x6_2.length co23) x6_2 0 [.int .u8 0] (fun _=>True) (fun _=>False) rfl rfl ?aP (fun _ hk=>hk.elim) ?aF ?aO ?aB ?aS ?aL ?_;(case aP=>exact rfl);(case aB=>exact (hb1_ HB.out GE315.out));(case aF=>exact (fun _ _=>trivial));(case aO=>exact (by (with_reducible repeat (first|apply ra_|apply rn_|apply re_));exact HO_6.out));(case aS=>exact (bz_ (hb1_ HB.out GE315.out)));(case aL=>have:=LMc22.out;omega);intro v332 w24 ho hb hg hat;rw [← Ny331.out] at ho;have n0_:=A_ (blk_grown (g:=gb315) (o:=.cells #[.int .i64 a0_0,.int .i64 a0_1,.int .i64 a0_2,.slice A0_3 l0_3.length c0_3] 26 (0,0)) (by exact kk_ BK315.out) hg (Kd.R_ne HO_6.out BK315.out (by decide)));have n1_:=A_ (hb);have n2_:=A_ (ho);clear BK315;clear HB;clear HO_6;have BK315:=n0_;have HB:=n1_;have HO333:=n2_;clear n0_ n1_ n2_;clear ho hb hg hat))
     go_roundg k2
     case measure=>have:=HK1.out;have:=HK2.out;omega
     case rel=>exact ⟨(y331),H',⟨by have:=HK1.out;have:=HK2.out;omega⟩,⟨by (with_reducible repeat (first|apply ra_|apply rn_|apply re_));exact HO333.out⟩,⟨by exact kk_ BK315.out⟩,⟨hb1_ HB.out GE315.out⟩⟩
mutual
def humusref11_Decode.j0 : Nat→List Int→List Int→Int→Option (Int × Int × Int × (List (S56)) × Int)
 | 0,_,_,_=>none
 | k + 1,x0,x4,x5=>humusref11_Decode.l0 k x0 x4 x5
def humusref11_Decode.l0 : Nat→List Int→List Int→Int→Option (Int × Int × Int × (List (S56)) × Int)
 | 0,_,_,_=>none
 | k + 1,x0,x4,x5=>if x5<12 then ((some (([1,3,2,3] : List Int) : List Int)).bind fun y354=>(if x4.length + y354.length<17592186044416 then (humusref11_Decode.l0 k x0 (x4++y354) (wrap64 (x5 + 1))) else (none))) else (if 4≤(x0.length : Int) then ((humusref03_Take.f (x0.drop 4) x4).bind fun bt361=>(humusref11_Decode.j2 k x0 bt361.1 (bt361.2.2 != 0))) else (none))
def humusref11_Decode.j2 : Nat→List Int→List (S51)→Bool→Option (Int × Int × Int × (List (S56)) × Int)
 | 0,_,_,_=>none
 | k + 1,x0,x6,x46=>if x46=true then (some (0,0,0,([] : List (S56)),4)) else (if 1<(x6.length : Int) then (if 2<(x6.length : Int) then (if 3<(x6.length : Int) then (humusref11_Decode.l1 k x0 x6 0 ((rd_T51 x6 1).f1) ((rd_T51 x6 2).f1) ((rd_T51 x6 3).f1) ([] : List (S56))) else (none)) else (none)) else (none))
def humusref11_Decode.l1 : Nat→List Int→List (S51)→Int→Int→Int→Int→List (S56)→Option (Int × Int × Int × (List (S56)) × Int)
 | 0,_,_,_,_,_,_,_=>none
 | k + 1,x0,x6,x10,x370000,x370001,x370002,x370003=>if x10<12 then (if 0≤(wrap64 (4 + (wrap64 (4 * x10)))) then (if (wrap64 (4 + (wrap64 (4 * x10))))<(x6.length : Int) then (if 0≤(wrap64 (5 + (wrap64 (4 * x10)))) then (if (wrap64 (5 + (wrap64 (4 * x10))))<(x6.length : Int) then (if 0≤(wrap64 (6 + (wrap64 (4 * x10)))) then (if (wrap64 (6 + (wrap64 (4 * x10))))<(x6.length : Int) then (if 0≤(wrap64 (7 + (wrap64 (4 * x10)))) then (if (wrap64 (7 + (wrap64 (4 * x10))))<(x6.length : Int) then (if x370003.length<4398046511104 then (humusref11_Decode.l1 k x0 x6 (wrap64 (x10 + 1)) x370000 x370001 x370002 (x370003++[(⟨(rd_T51 x6 (wrap64 (5 + (wrap64 (4 * x10))))).f1,(rd_T51 x6 (wrap64 (4 + (wrap64 (4 * x10))))).f1,(rd_T51 x6 (wrap64 (6 + (wrap64 (4 * x10))))).f1,(rd_T51 x6 (wrap64 (7 + (wrap64 (4 * x10))))).f1⟩ : S56)])) else (none)) else (none)) else (none)) else (none)) else (none)) else (none)) else (none)) else (none)) else (none)) else ((humusref11_May.f k x370000 x370001 x370002 x370003).bind fun t377=>(if t377=true then ((humusref11_Page.f k x370000 x370001 x370002 x370003).bind fun t378=>(if (strOfNums t378).toList=(strOfNums x0).toList then (some (x370000,x370001,x370002,x370003,0)) else (some (0,0,0,([] : List (S56)),4)))) else (some (0,0,0,([] : List (S56)),4))))
end
def humusref11_Decode.f (k : Nat) (l0 : List Int) : Option (Int × Int × Int × (List (S56)) × Int):=if (l0.length : Int)=512 then (if 512≤281474976710656 then (if (strOfNums l0).toList=(strOfNums (List.replicate 512 0)).toList then ((humusref11_First.f).bind fun bt341=>(some (bt341.1,bt341.2.1,bt341.2.2.1,bt341.2.2.2,0))) else (if 4≤(l0.length : Int) then ((humusref02_Seal.f k (l0.drop 4)).bind fun t348=>(if (strOfNums t348).toList=(strOfNums l0).toList then (humusref11_Decode.j0 k l0 (([1,3,3,3] : List Int)) 0) else (some (0,0,0,([] : List (S56)),5)))) else (none))) else (none)) else (some (0,0,0,([] : List (S56)),1))
def humusref11_Decode.T15 : Bool × List (List Nat × List Nat):=(true,[([],[]),([0],[0]),([1],[1]),([2],[2]),([],[]),([4],[4]),([5],[5]),([6],[6]),([],[]),([8],[8]),([9],[9]),([10],[10]),([3,7,11],[3,7,11]),([],[]),([13,12,0,1,2,3,4,5,6,7,8,9,10,11,12,13],[12,13])])
def humusref11_Decode.B15 : List Nat:=[0,1,3,7,0,16,48,112,0,256,768,1792,4095,0,16383]
theorem humusref11_Decode.tab15 : rtab .any (opsOf Tryd.f7 15)=humusref11_Decode.T15:=by kernel_rfl
theorem humusref11_Decode.bits15 : waitsOk humusref11_Decode.T15.2 humusref11_Decode.B15=true:=by kernel_rfl
def humusref11_Decode.T19 : Bool × List (List Nat × List Nat):=(true,[([],[]),([0],[0]),([],[]),([],[]),([3],[3]),([4],[4]),([2,5],[2,5]),([6],[6]),([7],[7]),([],[]),([],[]),([10],[10]),([11],[11]),([9,12],[9,12]),([13],[13]),([14],[14]),([],[]),([],[]),([17],[17]),([18],[18]),([16,19],[16,19]),([20],[20]),([21],[21]),([],[]),([],[]),([24],[24]),([25],[25]),([23,26],[23,26]),([27],[27]),([28],[28]),([8,15,22,29],[8,15,22,29]),([30],[30]),([1,31],[1,31]),([0,1,2,3,4,5,6,7,8,9,10,11,12,13,14,15,16,17,18,19,20,21,22,23,24,25,26,27,28,29,30,31,32],[]),([33,32,32,0,1,2,3,4,5,6,7,8,9,10,11,12,13,14,15,16,17,18,19,20,21,22,23,24,25,26,27,28,29,30,31,32],[32,33])])
def humusref11_Decode.B19 : List Nat:=[0,1,0,0,8,24,60,124,252,0,0,1024,3072,7680,15872,32256,0,0,131072,393216,983040,2031616,4128768,0,0,16777216,50331648,125829120,260046848,528482304,1073741820,2147483644,4294967295,8589934591,17179869183]
theorem humusref11_Decode.tab19 : rtab .any (opsOf Tryd.f7 19)=humusref11_Decode.T19:=by kernel_rfl
theorem humusref11_Decode.bits19 : waitsOk humusref11_Decode.T19.2 humusref11_Decode.B19=true:=by kernel_rfl
def humusref11_Decode.T20 : Bool × List (List Nat × List Nat):=(true,[([],[]),([0],[0]),([1],[1]),([2,1],[2]),([3],[3]),([4,3,3],[3,4]),([5,3],[3,5]),([3],[3]),([7,3],[3,7]),([6,8,3],[3,6,8]),([3,9],[3,9])])
def humusref11_Decode.B20 : List Nat:=[0,1,3,7,15,31,63,15,143,511,1023]
theorem humusref11_Decode.tab20 : rtab .any (opsOf Tryd.f7 20)=humusref11_Decode.T20:=by kernel_rfl
theorem humusref11_Decode.bits20 : waitsOk humusref11_Decode.T20.2 humusref11_Decode.B20=true:=by kernel_rfl
set_option maxHeartbeats 8000000 in
set_option maxRecDepth 100000 in
theorem humusref11_Decode.calls (k : Nat) (A0 : Option Addr) (c0 : Nat) (l0 : List Int) (r1 : Int) (r2 : Int) (r3 : Int) (r4 : List (S56)) (r5 : Int) (w : World) (hr0 : Kd.C (Kd.int .u8) w A0 l0.length l0) (hc0 : l0.length≤c0) (h : humusref11_Decode.f k l0=some (r1,r2,r3,r4,r5)) :
  Calls Tryd.prog 7 #[.slice A0 l0.length c0] w fun e w'=>∃ v3_ : Value,e=.returned (.tuple #[.agg #[.int .i64 r1,.int .i64 r2,.int .i64 r3,v3_],.int .i64 r5])∧Kd.R k56 56 w' w.heap.size (fun _=>True) v3_ r4∧Below w.heap.size w w':=by
 have hu26:=Tryd.underlying26;have hu56:=Tryd.underlying56;have HR0:=A_ hr0;have HC0:=A_ hc0;clear hr0 hc0;have HB:=A_ (Below.refl w.heap.size w)
 have H : (if (l0.length : Int)=512 then (if 512≤281474976710656 then (if (strOfNums l0).toList=(strOfNums (List.replicate 512 0)).toList then ((humusref11_First.f).bind fun bt341=>(some (bt341.1,bt341.2.1,bt341.2.2.1,bt341.2.2.2,0))) else (if 4≤(l0.length : Int) then ((humusref02_Seal.f k (l0.drop 4)).bind fun t348=>(if (strOfNums t348).toList=(strOfNums l0).toList then (humusref11_Decode.j0 k l0 (([1,3,3,3] : List Int)) 0) else (some (0,0,0,([] : List (S56)),5)))) else (none))) else (none)) else (some (0,0,0,([] : List (S56)),1)))=some (r1,r2,r3,r4,r5):=h
 clear h
 by_cases c2 : (l0.length : Int)=512
 rotate_left
 ·rw [if_neg c2] at H
  have c2b0 : ((l0.length : Int) == 512)=false:=beq_eq_false_iff_ne.mpr c2;have c2b1 : ((l0.length : Int) != 512)=true:=bne_iff_ne.mpr c2
  simp only [Option.some.injEq,Prod.mk.injEq] at H
  obtain ⟨rfl,rfl,rfl,rfl,rfl⟩:=H;go_enter Tryd.func7,Tryd.ntmps7
  go_wp2_with (first|((with_reducible refine gate_dst (N:=2) rfl ?_);refine box_event ?hg (N:=2) ?hd (cs:=#[.int .i64 0,.int .i64 0,.int .i64 0,.slice none 0 0]) (t:=26) ?hr ?_;(case hd=>rfl);(case hg=>rfl);(case hr=>first|(go_simp;done)|(go_simp;rfl));intro gb337 hg w105 hbox hb;have n0_:=A_ (bp_ (hb0_ HB.out) hb);have n1_:=A_ (hbox);have n2_:=A_ ((by rw [hg];exact (bz_ (hb0_ HB.out)) : w.heap.size≤gb337));have n3_:=n2_;clear HB;have HB:=n0_;have BK337:=n1_;have GW337:=n2_;have GE337:=n3_;clear n0_ n1_ n2_ n3_;clear hb hbox hg;obtain ⟨z106_0,z106_1,z106_2,z106_3⟩:=blkc_4 BK337.out;obtain ⟨y106_0,y106_1,y106_2⟩:=blkz_3 BK337.out;have y106_3:=bf_ BK337.out 3))
  refine bodyPost_ret (results_ct rfl _ _ gb337 26 #[.int .i64 0,.int .i64 0,.int .i64 0,.slice none 0 0] (0,0) _ rfl (by refine kk_ ?_;apply blkf_4_0_3;exact kk_ BK337.out) Tryd.underlying26 rfl (by kernel_rfl)) rfl ?_
  exact ⟨_,by first|rfl|(simp [errW_none,errW_some] <;> rfl)|(simp [*,errW_none,errW_some] <;> rfl),by first|exact Kd.R_nil _ _ _ _ _|exact Kd.N_nil _ _ _ _ _|exact Kd.V_nil _ _ _ _ _|exact Kd.Q_nil _ _ _ _ _|exact Kd.S_nil _ _ _ _ _,hb1_ HB.out GE337.out⟩
 rw [if_pos c2] at H
 have c2b0 : ((l0.length : Int) == 512)=true:=beq_iff_eq.mpr c2;have c2b1 : ((l0.length : Int) != 512)=false:=bne_eq_false_iff_eq.mpr c2;clear c2
 by_cases c3 : 512≤281474976710656
 rotate_left
 ·rw [if_neg c3] at H
  exact absurd H (by simp)
 rw [if_pos c3] at H
 have c3b0:=eq_true c3;have c3b1 : decide (512≤281474976710656)=true:=dt_ c3;clear c3
 obtain ⟨y338,hy338⟩ : ∃ y_ : List Int,y_=(List.replicate 512 0):=⟨_,rfl⟩
 replace H : (if (strOfNums l0).toList=(strOfNums y338).toList then ((humusref11_First.f).bind fun bt341=>(some (bt341.1,bt341.2.1,bt341.2.2.1,bt341.2.2.2,0))) else (if 4≤(l0.length : Int) then ((humusref02_Seal.f k (l0.drop 4)).bind fun t348=>(if (strOfNums t348).toList=(strOfNums l0).toList then (humusref11_Decode.j0 k l0 (([1,3,3,3] : List Int)) 0) else (some (0,0,0,([] : List (S56)),5)))) else (none)))=some (r1,r2,r3,r4,r5):=by first|(rw [hy338];with_reducible exact H)|(have H2_:=(Option.bind_some _ _).symm.trans H;rw [hy338];with_reducible exact H2_)|(have H2_:=(Option.bind_some _ _).symm.trans H;with_reducible exact H2_)|with_reducible exact H|(rw [hy338];exact H)|exact H
 have Ny338:=A_ hy338;clear hy338
 by_cases c4 : (strOfNums l0).toList=(strOfNums y338).toList
 ·rw [if_pos c4] at H
  have c4b0 : ((strOfNums l0).toList == (strOfNums y338).toList)=true:=beq_iff_eq.mpr c4;have c4b1 : ((strOfNums l0).toList != (strOfNums y338).toList)=false:=bne_eq_false_iff_eq.mpr c4;clear c4;replace H:=Option.bind_eq_some_iff.mp H;obtain ⟨⟨t341,t342,t343,t344⟩,A50,H⟩:=H;replace H : (some (t341,t342,t343,t344,0))=some (r1,r2,r3,r4,r5):=H;have A5:=A_ A50;clear A50
  simp only [Option.some.injEq,Prod.mk.injEq] at H
  obtain ⟨rfl,rfl,rfl,rfl,rfl⟩:=H;go_enter Tryd.func7,Tryd.ntmps7
  try go_wp2_with (first|((with_reducible refine gate_dst (N:=2) rfl ?_);refine box_event ?hg (N:=2) ?hd (cs:=#[.int .i64 0,.int .i64 0,.int .i64 0,.slice none 0 0]) (t:=26) ?hr ?_;(case hd=>rfl);(case hg=>rfl);(case hr=>first|(go_simp;done)|(go_simp;rfl));intro gb337 hg w6 hbox hb;have n0_:=A_ (bp_ (hb0_ HB.out) hb);have n1_:=A_ (hbox);have n2_:=A_ ((by rw [hg];exact (bz_ (hb0_ HB.out)) : w.heap.size≤gb337));have n3_:=n2_;clear HB;have HB:=n0_;have BK337:=n1_;have GW337:=n2_;have GE337:=n3_;clear n0_ n1_ n2_ n3_;clear hb hbox hg))
  have n0_:=A_ (ke_ BK337.out);have n1_:=A_ (be_ HB.out);clear BK337;clear HB;have BK337:=n0_;have HB:=n1_;clear n0_ n1_
  refine start_ (n:=5) (S:=fun w'=>(convert 22 9 (.slice A0 l0.length c0)).run Tryd.prog w'=.ok (.string (strOfNums l0)) w') (ds:=[]) #[Z,Z,Z,Z,Z] (by kernel_rfl) rfl rfl (Kd.C_string (P:=Tryd.prog) (A:=A0) (c:=c0) Tryd.underlying22 Tryd.underlying5 Tryd.underlying9 (Kd.C_below HR0.out HB.out)) (fun hHeld=>?_)
  generalize w6.drew=w7 at BK337 HB hHeld ⊢
  refine pure_ (i:=0) (N:=some 15) (v:=?_) (a':=?_) #[Y,Z,Z,Z,Z] rfl rfl (by kernel_rfl) (fun _ _ _ h=>h) (Or.inl ⟨by rfl,?_⟩) ?_ ?_;rotate_left;(intro w';go_simp;with_reducible rfl);rotate_left;(simp only [Act.put,q1_,q2_,q3_,i64_w,i32_w];rfl)
  refine take_ (i:=1) (N:=some 16) (v:=?_) (a':=?_) #[Y,Y,Z,Z,Z] rfl rfl (by kernel_rfl) (fun _ _ _ h=>h) (Or.inl ⟨by rfl,?_⟩) hHeld ?_ ?_;rotate_left;(intro w' s0;go_simp;with_reducible rfl);rotate_left;(simp only [Act.put,q1_,q2_,q3_,i64_w,i32_w];rfl)
  refine one_ (i:=2) (N:=some 17) #[Y,Y,Y,Z,Z] rfl rfl (by kernel_rfl) (by decide) (fun K hK=>?_)
  refine Kd.R_make_step (Kd.int .u8) _ 5 (by rfl) (N:=17) rfl 22 _ _ rfl 512 rfl rfl Tryd.underlying22 (.int .u8 0) 1 info5 rfl (by decide) (by omega) 0 (ok:=fun _=>True) (okp:=fun _=>True) rfl (fun _ hk=>hk) trivial (by omega) (by omega) (Below.refl _ _) (Nat.le_refl _) ?_
  intro v339 w8 ho9 hb hg_ hnew_;clear hg_ hnew_;(first|rw [← Ny338.out] at ho9|(simp only [Int.reduceToNat] at ho9;rw [← Ny338.out] at ho9));have n0_:=A_ (Kd.R_lower ho9 (bz_ (hb1_ HB.out GE337.out)));have n1_:=A_ (bx_ BK337.out kf_ hb);have n2_:=A_ (bp_ (hb1_ HB.out GE337.out) hb);clear BK337;clear HB;have HO340:=n0_;have BK337:=n1_;have HB:=n2_;clear n0_ n1_ n2_;clear hb ho9
  refine hK.out _ _ (Kd.C_string (P:=Tryd.prog) (A:=A0) (c:=c0) Tryd.underlying22 Tryd.underlying5 Tryd.underlying9 (Kd.C_below HR0.out HB.out)) (fun hHeld=>?_)
  clear hK K
  refine norm_ (a':=?_) ?_ ?_;rotate_left;(show Act.put _ (some 17) _=_;simp only [Act.put,q1_,q2_,q3_,i64_w,i32_w];rfl)
  refine one_ (i:=3) (N:=some 18) #[Y,Y,Y,Y,Z] rfl rfl (by kernel_rfl) (by decide) (fun K hK=>?_)
  have hcv10:=own_string (P:=Tryd.prog) Tryd.underlying22 Tryd.underlying5 Tryd.underlying9 (Kd.own_of_R HO340.out)
  refine value_ (w1:=?_) (v:=?_) (by rfl) rfl ?_ ?_
  rotate_left 2
  ·go_simp
   constructor
   ·rfl
   ·rfl
  clear hcv10
  refine hK.out _ _ (Kd.C_string (P:=Tryd.prog) (A:=A0) (c:=c0) Tryd.underlying22 Tryd.underlying5 Tryd.underlying9 (Kd.C_below HR0.out HB.out)) (fun hHeld=>?_)
  clear hK K
  refine norm_ (a':=?_) ?_ ?_;rotate_left;(show Act.put _ (some 18) _=_;simp only [Act.put,q1_,q2_,q3_,i64_w,i32_w];rfl)
  refine pure_ (i:=4) (N:=some 19) (v:=?_) (a':=?_) #[Y,Y,Y,Y,Y] rfl rfl (by kernel_rfl) (fun _ _ _ h=>h) (Or.inl ⟨by rfl,?_⟩) ?_ ?_;rotate_left;(intro w';go_simp;with_reducible rfl);rotate_left;(simp only [Act.put,q1_,q2_,q3_,i64_w,i32_w];rfl)
  refine done_ (by kernel_rfl) ?_
  try go_wp2_with (first|((with_reducible refine gate_callee (f:=10) rfl ?_);refine goesL_ (some 20) rfl rfl Tryd.func10 (by kernel_rfl) rfl #[] rfl (by (try simp only [List.map_toArray,List.map_cons,List.map_nil]);first|done|rfl|(simp only [List.length_drop,List.length_take];rfl)) ?_;(with_reducible refine (humusref11_First.calls  t341 t342 t343 t344 _ A5.out).mono ?_);rintro e w11 ⟨v345,rfl,ho0,hb⟩;refine ⟨_,rfl,?_⟩;have n0_:=A_ (Kd.R_below (by (with_reducible repeat (first|apply ra_|apply rn_|apply re_));exact HO340.out) hb);have n1_:=A_ (Kd.R_lower ho0 (bz_ (hb1_ HB.out GE337.out)));have n2_:=A_ (bx_ BK337.out kf_ hb);have n3_:=A_ (bp_ (hb1_ HB.out GE337.out) hb);clear HO340;clear BK337;clear HB;have HO340:=n0_;have HO346:=n1_;have BK337:=n2_;have HB:=n3_;clear n0_ n1_ n2_ n3_;(try clear hb);(try clear hb2);(try clear hk);(try clear hi);(try clear ho0);obtain ⟨z12_0,z12_1,z12_2,z12_3⟩:=blkc_4 BK337.out;obtain ⟨y12_0,y12_1,y12_2,y12_3⟩:=blkz_4 BK337.out;obtain ⟨Ao13,co13,eo13⟩:=Kd.R_slice HO346.out;subst eo13))
  refine bodyPost_ret (results_ct rfl _ _ gb337 26 #[.int .i64 t341,.int .i64 t342,.int .i64 t343,.slice Ao13 t344.length co13] (0,0) _ rfl (by refine kk_ ?_;apply blkf_4_0_3;exact kk_ BK337.out) Tryd.underlying26 rfl (by kernel_rfl)) rfl ?_
  exact ⟨_,by first|rfl|(simp [errW_none,errW_some] <;> rfl)|(simp [*,errW_none,errW_some] <;> rfl),by (with_reducible repeat (first|apply ra_|apply rn_|apply re_));exact Kd.R_mono (rf_ (p:=⟨gb337,3,none⟩) (rf_ (p:=⟨gb337,2,none⟩) (rf_ (p:=⟨gb337,1,none⟩) (rf_ (p:=⟨gb337,0,none⟩) (Kd.R_types HO346.out BK337.out (by decide)) (fun _ hk=>hk.2) (.int .i64 t341)) (fun _ hk=>hk.2) (.int .i64 t342)) (fun _ hk=>hk.2) (.int .i64 t343)) (fun _ hk=>hk.2) (.slice Ao13 t344.length co13)) (fun _ hk=>trivial),hb1_ HB.out GE337.out⟩
 rw [if_neg c4] at H
 have c4b0 : ((strOfNums l0).toList == (strOfNums y338).toList)=false:=beq_eq_false_iff_ne.mpr c4;have c4b1 : ((strOfNums l0).toList != (strOfNums y338).toList)=true:=bne_iff_ne.mpr c4
 by_cases c14 : 4≤(l0.length : Int)
 rotate_left
 ·rw [if_neg c14] at H
  exact absurd H (by simp)
 rw [if_pos c14] at H
 have c14b0:=eq_true c14;have c14b1 : decide (4≤(l0.length : Int))=true:=dt_ c14;clear c14;replace H:=Option.bind_eq_some_iff.mp H;obtain ⟨t348,A150,H⟩:=H
 replace H : (if (strOfNums t348).toList=(strOfNums l0).toList then (humusref11_Decode.j0 k l0 (([1,3,3,3] : List Int)) 0) else (some (0,0,0,([] : List (S56)),5)))=some (r1,r2,r3,r4,r5):=H
 have A15:=A_ A150;clear A150
 by_cases c16 : (strOfNums t348).toList=(strOfNums l0).toList
 rotate_left
 ·rw [if_neg c16] at H
  have c16b0 : ((strOfNums t348).toList == (strOfNums l0).toList)=false:=beq_eq_false_iff_ne.mpr c16;have c16b1 : ((strOfNums t348).toList != (strOfNums l0).toList)=true:=bne_iff_ne.mpr c16
  simp only [Option.some.injEq,Prod.mk.injEq] at H
  obtain ⟨rfl,rfl,rfl,rfl,rfl⟩:=H;go_enter Tryd.func7,Tryd.ntmps7
  try go_wp2_with (first|((with_reducible refine gate_dst (N:=2) rfl ?_);refine box_event ?hg (N:=2) ?hd (cs:=#[.int .i64 0,.int .i64 0,.int .i64 0,.slice none 0 0]) (t:=26) ?hr ?_;(case hd=>rfl);(case hg=>rfl);(case hr=>first|(go_simp;done)|(go_simp;rfl));intro gb337 hg w95 hbox hb;have n0_:=A_ (bp_ (hb0_ HB.out) hb);have n1_:=A_ (hbox);have n2_:=A_ ((by rw [hg];exact (bz_ (hb0_ HB.out)) : w.heap.size≤gb337));have n3_:=n2_;clear HB;have HB:=n0_;have BK337:=n1_;have GW337:=n2_;have GE337:=n3_;clear n0_ n1_ n2_ n3_;clear hb hbox hg))
  have n0_:=A_ (ke_ BK337.out);have n1_:=A_ (be_ HB.out);clear BK337;clear HB;have BK337:=n0_;have HB:=n1_;clear n0_ n1_
  refine start_ (n:=5) (S:=fun w'=>(convert 22 9 (.slice A0 l0.length c0)).run Tryd.prog w'=.ok (.string (strOfNums l0)) w') (ds:=[]) #[Z,Z,Z,Z,Z] (by kernel_rfl) rfl rfl (Kd.C_string (P:=Tryd.prog) (A:=A0) (c:=c0) Tryd.underlying22 Tryd.underlying5 Tryd.underlying9 (Kd.C_below HR0.out HB.out)) (fun hHeld=>?_)
  generalize w95.drew=w96 at BK337 HB hHeld ⊢
  refine pure_ (i:=0) (N:=some 15) (v:=?_) (a':=?_) #[Y,Z,Z,Z,Z] rfl rfl (by kernel_rfl) (fun _ _ _ h=>h) (Or.inl ⟨by rfl,?_⟩) ?_ ?_;rotate_left;(intro w';go_simp;with_reducible rfl);rotate_left;(simp only [Act.put,q1_,q2_,q3_,i64_w,i32_w];rfl)
  refine take_ (i:=1) (N:=some 16) (v:=?_) (a':=?_) #[Y,Y,Z,Z,Z] rfl rfl (by kernel_rfl) (fun _ _ _ h=>h) (Or.inl ⟨by rfl,?_⟩) hHeld ?_ ?_;rotate_left;(intro w' s0;go_simp;with_reducible rfl);rotate_left;(simp only [Act.put,q1_,q2_,q3_,i64_w,i32_w];rfl)
  refine one_ (i:=2) (N:=some 17) #[Y,Y,Y,Z,Z] rfl rfl (by kernel_rfl) (by decide) (fun K hK=>?_)
  refine Kd.R_make_step (Kd.int .u8) _ 5 (by rfl) (N:=17) rfl 22 _ _ rfl 512 rfl rfl Tryd.underlying22 (.int .u8 0) 1 info5 rfl (by decide) (by omega) 0 (ok:=fun _=>True) (okp:=fun _=>True) rfl (fun _ hk=>hk) trivial (by omega) (by omega) (Below.refl _ _) (Nat.le_refl _) ?_
  intro v339 w97 ho98 hb hg_ hnew_;clear hg_ hnew_;(first|rw [← Ny338.out] at ho98|(simp only [Int.reduceToNat] at ho98;rw [← Ny338.out] at ho98));have n0_:=A_ (Kd.R_lower ho98 (bz_ (hb1_ HB.out GE337.out)));have n1_:=A_ (bx_ BK337.out kf_ hb);have n2_:=A_ (bp_ (hb1_ HB.out GE337.out) hb);clear BK337;clear HB;have HO340:=n0_;have BK337:=n1_;have HB:=n2_;clear n0_ n1_ n2_;clear hb ho98
  refine hK.out _ _ (Kd.C_string (P:=Tryd.prog) (A:=A0) (c:=c0) Tryd.underlying22 Tryd.underlying5 Tryd.underlying9 (Kd.C_below HR0.out HB.out)) (fun hHeld=>?_)
  clear hK K
  refine norm_ (a':=?_) ?_ ?_;rotate_left;(show Act.put _ (some 17) _=_;simp only [Act.put,q1_,q2_,q3_,i64_w,i32_w];rfl)
  refine one_ (i:=3) (N:=some 18) #[Y,Y,Y,Y,Z] rfl rfl (by kernel_rfl) (by decide) (fun K hK=>?_)
  have hcv99:=own_string (P:=Tryd.prog) Tryd.underlying22 Tryd.underlying5 Tryd.underlying9 (Kd.own_of_R HO340.out)
  refine value_ (w1:=?_) (v:=?_) (by rfl) rfl ?_ ?_
  rotate_left 2
  ·go_simp
   constructor
   ·rfl
   ·rfl
  clear hcv99
  refine hK.out _ _ (Kd.C_string (P:=Tryd.prog) (A:=A0) (c:=c0) Tryd.underlying22 Tryd.underlying5 Tryd.underlying9 (Kd.C_below HR0.out HB.out)) (fun hHeld=>?_)
  clear hK K
  refine norm_ (a':=?_) ?_ ?_;rotate_left;(show Act.put _ (some 18) _=_;simp only [Act.put,q1_,q2_,q3_,i64_w,i32_w];rfl)
  refine pure_ (i:=4) (N:=some 19) (v:=?_) (a':=?_) #[Y,Y,Y,Y,Y] rfl rfl (by kernel_rfl) (fun _ _ _ h=>h) (Or.inl ⟨by rfl,?_⟩) ?_ ?_;rotate_left;(intro w';go_simp;with_reducible rfl);rotate_left;(simp only [Act.put,q1_,q2_,q3_,i64_w,i32_w];rfl)
  refine done_ (by kernel_rfl) ?_
  try go_wp2
  have n0_:=A_ (re_ HO340.out);have n1_:=A_ (ke_ BK337.out);have n2_:=A_ (be_ HB.out);clear HO340;clear BK337;clear HB;have HO340:=n0_;have BK337:=n1_;have HB:=n2_;clear n0_ n1_ n2_;obtain ⟨i0101,hi0101,_,hsz101,_⟩:=info_parts info5
  obtain ⟨A101,hcut101,hA101,hC101⟩:=print_drop_of (P:=Tryd.prog) (Value.int .u8) 0 22 5 .i64 Tryd.underlying22 hi0101 hsz101 A0 c0 l0 4 (by omega) (od_ (by first|(with_reducible assumption)|assumption)) HC0.out
  have HR347:=A_ (Kd.C_of_reads (h1:=fun _=>rfl) (hA101 _ (Kd.reads_of_C HR0.out)))
  have HC347:=A_ hC101;clear hA101 hC101 hi0101 hsz101
  refine start_ (n:=7) (S:=fun w'=>(convert 22 9 (.slice A0 l0.length c0)).run Tryd.prog w'=.ok (.string (strOfNums l0)) w') (ds:=[]) #[Z,Z,Z,Z,Z,Z,Z] (by kernel_rfl) rfl rfl (Kd.C_string (P:=Tryd.prog) (A:=A0) (c:=c0) Tryd.underlying22 Tryd.underlying5 Tryd.underlying9 (Kd.C_below HR0.out HB.out)) (fun hHeld=>?_)
  generalize w97.drew=w100 at HO340 BK337 HB HR347 hHeld ⊢
  refine pure_ (i:=0) (N:=some 21) (v:=?_) (a':=?_) #[Y,Z,Z,Z,Z,Z,Z] rfl rfl (by kernel_rfl) (fun _ _ _ h=>h) (Or.inl ⟨by rfl,?_⟩) ?_ ?_;rotate_left;(intro w';go_simp;with_reducible rfl);rotate_left;(simp only [Act.put,q1_,q2_,q3_,i64_w,i32_w];rfl)
  refine pure_ (i:=1) (N:=some 22) (v:=?_) (a':=?_) #[Y,Y,Z,Z,Z,Z,Z] rfl rfl (by kernel_rfl) (fun _ _ _ h=>h) (Or.inl ⟨by rfl,?_⟩) ?_ ?_;rotate_left;(intro w';go_simp;with_reducible rfl);rotate_left;(simp only [Act.put,q1_,q2_,q3_,i64_w,i32_w];rfl)
  refine pure_ (i:=4) (N:=some 25) (v:=?_) (a':=?_) #[Y,Y,Z,Z,Y,Z,Z] rfl rfl (by kernel_rfl) (fun _ _ _ h=>h) (Or.inl ⟨by rfl,?_⟩) ?_ ?_;rotate_left;(intro w';go_simp;with_reducible rfl);rotate_left;(simp only [Act.put,q1_,q2_,q3_,i64_w,i32_w];rfl)
  refine take_ (i:=5) (N:=some 26) (v:=?_) (a':=?_) #[Y,Y,Z,Z,Y,Y,Z] rfl rfl (by kernel_rfl) (fun _ _ _ h=>h) (Or.inl ⟨by rfl,?_⟩) hHeld ?_ ?_;rotate_left;(intro w' s0;go_simp;with_reducible rfl);rotate_left;(simp only [Act.put,q1_,q2_,q3_,i64_w,i32_w];rfl)
  refine one_ (i:=2) (N:=some 23) #[Y,Y,Y,Z,Y,Y,Z] rfl rfl (by kernel_rfl) (by decide) (fun K hK=>?_)
  refine goes_ Tryd.func25 (by kernel_rfl) rfl #[.slice A101 (l0.drop 4).length (c0 - 4)] (by rfl) rfl rfl (by (try simp only [List.map_toArray,List.map_cons,List.map_nil]);first|done|(rw [show (l0.drop 4).length=(l0.length - 4) from List.length_drop] <;> rfl)|rfl|(simp only [List.length_drop,List.length_take];rfl)) ?_
  with_reducible refine (humusref02_Seal.calls k _ _ (l0.drop 4) t348 _ ?side1 ?side2 A15.out).mono ?_
  (case side1=>repeat (first|exact (Kd.C_below HR347.out HB.out)|(with_reducible refine Kd.C_alloc ?_ _)|(with_reducible refine Kd.C_drewN ?_ _)|(with_reducible refine Kd.C_drew ?_)))
  (case side2=>exact HC347.out)
  rintro e w102 ⟨v349,rfl,ho0,hb⟩;refine ⟨_,rfl,?_⟩
  have n0_:=A_ (Kd.R_elder' (by (with_reducible repeat (first|apply ra_|apply rn_|apply re_));exact HO340.out) (Kd.R_base ho0) hb)
  have n1_:=A_ (Kd.R_lower (Kd.R_new' ho0 (Kd.R_lt (by (with_reducible repeat (first|apply ra_|apply rn_|apply re_));exact HO340.out))) (bz_ (hb1_ HB.out GE337.out)))
  have n2_:=A_ (bx_ BK337.out kf_ hb);have n3_:=A_ (bp_ (hb1_ HB.out GE337.out) hb);clear HO340;clear BK337;clear HB;have HO340:=n0_;have HO350:=n1_;have BK337:=n2_;have HB:=n3_;clear n0_ n1_ n2_ n3_;(try clear hb);(try clear hb2);(try clear hk);(try clear hi);(try clear ho0)
  refine hK.out _ _ (Kd.C_string (P:=Tryd.prog) (A:=A0) (c:=c0) Tryd.underlying22 Tryd.underlying5 Tryd.underlying9 (Kd.C_below HR0.out HB.out)) (fun hHeld=>?_)
  clear hK K
  refine norm_ (a':=?_) ?_ ?_;rotate_left;(show Act.put _ (some 23) _=_;simp only [Act.put,q1_,q2_,q3_,i64_w,i32_w];rfl)
  refine one_ (i:=3) (N:=some 24) #[Y,Y,Y,Y,Y,Y,Z] rfl rfl (by kernel_rfl) (by decide) (fun K hK=>?_)
  have hcv103:=own_string (P:=Tryd.prog) Tryd.underlying22 Tryd.underlying5 Tryd.underlying9 (Kd.own_of_R HO350.out)
  refine value_ (w1:=?_) (v:=?_) (by rfl) rfl ?_ ?_
  rotate_left 2
  ·go_simp
   constructor
   ·rfl
   ·rfl
  clear hcv103
  refine hK.out _ _ (Kd.C_string (P:=Tryd.prog) (A:=A0) (c:=c0) Tryd.underlying22 Tryd.underlying5 Tryd.underlying9 (Kd.C_below HR0.out HB.out)) (fun hHeld=>?_)
  clear hK K
  refine norm_ (a':=?_) ?_ ?_;rotate_left;(show Act.put _ (some 24) _=_;simp only [Act.put,q1_,q2_,q3_,i64_w,i32_w];rfl)
  refine pure_ (i:=6) (N:=some 27) (v:=?_) (a':=?_) #[Y,Y,Y,Y,Y,Y,Y] rfl rfl (by kernel_rfl) (fun _ _ _ h=>h) (Or.inl ⟨by rfl,?_⟩) ?_ ?_;rotate_left;(intro w';go_simp;with_reducible rfl);rotate_left;(simp only [Act.put,q1_,q2_,q3_,i64_w,i32_w];rfl)
  refine done_ (by kernel_rfl) ?_;obtain ⟨z104_0,z104_1,z104_2,z104_3⟩:=blkc_4 BK337.out;obtain ⟨y104_0,y104_1,y104_2,y104_3⟩:=blkz_4 BK337.out
  try go_wp2
  refine bodyPost_ret (results_ct rfl _ _ gb337 26 #[.int .i64 0,.int .i64 0,.int .i64 0,.slice none 0 0] (0,0) _ rfl (by refine kk_ ?_;apply blkf_4_0_3;exact kk_ BK337.out) Tryd.underlying26 rfl (by kernel_rfl)) rfl ?_
  exact ⟨_,by first|rfl|(simp [errW_none,errW_some] <;> rfl)|(simp [*,errW_none,errW_some] <;> rfl),by first|exact Kd.R_nil _ _ _ _ _|exact Kd.N_nil _ _ _ _ _|exact Kd.V_nil _ _ _ _ _|exact Kd.Q_nil _ _ _ _ _|exact Kd.S_nil _ _ _ _ _,hb1_ HB.out GE337.out⟩
 rw [if_pos c16] at H
 have c16b0 : ((strOfNums t348).toList == (strOfNums l0).toList)=true:=beq_iff_eq.mpr c16;have c16b1 : ((strOfNums t348).toList != (strOfNums l0).toList)=false:=bne_eq_false_iff_eq.mpr c16;clear c16
 obtain ⟨y351,hy351⟩ : ∃ y_ : List Int,y_=(([1,3,3,3] : List Int)):=⟨_,rfl⟩
 replace H : (humusref11_Decode.j0 k l0 y351 0)=some (r1,r2,r3,r4,r5):=by first|(rw [hy351];with_reducible exact H)|(have H2_:=(Option.bind_some _ _).symm.trans H;rw [hy351];with_reducible exact H2_)|(have H2_:=(Option.bind_some _ _).symm.trans H;with_reducible exact H2_)|with_reducible exact H|(rw [hy351];exact H)|exact H
 have Ny351:=A_ hy351;clear hy351;have HC17:=A_ H;clear H;go_enter Tryd.func7,Tryd.ntmps7
 try go_wp2_with (first|((with_reducible refine gate_dst (N:=2) rfl ?_);refine box_event ?hg (N:=2) ?hd (cs:=#[.int .i64 0,.int .i64 0,.int .i64 0,.slice none 0 0]) (t:=26) ?hr ?_;(case hd=>rfl);(case hg=>rfl);(case hr=>first|(go_simp;done)|(go_simp;rfl));intro gb337 hg w18 hbox hb;have n0_:=A_ (bp_ (hb0_ HB.out) hb);have n1_:=A_ (hbox);have n2_:=A_ ((by rw [hg];exact (bz_ (hb0_ HB.out)) : w.heap.size≤gb337));have n3_:=n2_;clear HB;have HB:=n0_;have BK337:=n1_;have GW337:=n2_;have GE337:=n3_;clear n0_ n1_ n2_ n3_;clear hb hbox hg))
 have n0_:=A_ (ke_ BK337.out);have n1_:=A_ (be_ HB.out);clear BK337;clear HB;have BK337:=n0_;have HB:=n1_;clear n0_ n1_
 refine start_ (n:=5) (S:=fun w'=>(convert 22 9 (.slice A0 l0.length c0)).run Tryd.prog w'=.ok (.string (strOfNums l0)) w') (ds:=[]) #[Z,Z,Z,Z,Z] (by kernel_rfl) rfl rfl (Kd.C_string (P:=Tryd.prog) (A:=A0) (c:=c0) Tryd.underlying22 Tryd.underlying5 Tryd.underlying9 (Kd.C_below HR0.out HB.out)) (fun hHeld=>?_)
 generalize w18.drew=w19 at BK337 HB hHeld ⊢
 refine pure_ (i:=0) (N:=some 15) (v:=?_) (a':=?_) #[Y,Z,Z,Z,Z] rfl rfl (by kernel_rfl) (fun _ _ _ h=>h) (Or.inl ⟨by rfl,?_⟩) ?_ ?_;rotate_left;(intro w';go_simp;with_reducible rfl);rotate_left;(simp only [Act.put,q1_,q2_,q3_,i64_w,i32_w];rfl)
 refine take_ (i:=1) (N:=some 16) (v:=?_) (a':=?_) #[Y,Y,Z,Z,Z] rfl rfl (by kernel_rfl) (fun _ _ _ h=>h) (Or.inl ⟨by rfl,?_⟩) hHeld ?_ ?_;rotate_left;(intro w' s0;go_simp;with_reducible rfl);rotate_left;(simp only [Act.put,q1_,q2_,q3_,i64_w,i32_w];rfl)
 refine one_ (i:=2) (N:=some 17) #[Y,Y,Y,Z,Z] rfl rfl (by kernel_rfl) (by decide) (fun K hK=>?_)
 refine Kd.R_make_step (Kd.int .u8) _ 5 (by rfl) (N:=17) rfl 22 _ _ rfl 512 rfl rfl Tryd.underlying22 (.int .u8 0) 1 info5 rfl (by decide) (by omega) 0 (ok:=fun _=>True) (okp:=fun _=>True) rfl (fun _ hk=>hk) trivial (by omega) (by omega) (Below.refl _ _) (Nat.le_refl _) ?_
 intro v339 w20 ho21 hb hg_ hnew_;clear hg_ hnew_;(first|rw [← Ny338.out] at ho21|(simp only [Int.reduceToNat] at ho21;rw [← Ny338.out] at ho21));have n0_:=A_ (Kd.R_lower ho21 (bz_ (hb1_ HB.out GE337.out)));have n1_:=A_ (bx_ BK337.out kf_ hb);have n2_:=A_ (bp_ (hb1_ HB.out GE337.out) hb);clear BK337;clear HB;have HO340:=n0_;have BK337:=n1_;have HB:=n2_;clear n0_ n1_ n2_;clear hb ho21
 refine hK.out _ _ (Kd.C_string (P:=Tryd.prog) (A:=A0) (c:=c0) Tryd.underlying22 Tryd.underlying5 Tryd.underlying9 (Kd.C_below HR0.out HB.out)) (fun hHeld=>?_)
 clear hK K
 refine norm_ (a':=?_) ?_ ?_;rotate_left;(show Act.put _ (some 17) _=_;simp only [Act.put,q1_,q2_,q3_,i64_w,i32_w];rfl)
 refine one_ (i:=3) (N:=some 18) #[Y,Y,Y,Y,Z] rfl rfl (by kernel_rfl) (by decide) (fun K hK=>?_)
 have hcv22:=own_string (P:=Tryd.prog) Tryd.underlying22 Tryd.underlying5 Tryd.underlying9 (Kd.own_of_R HO340.out)
 refine value_ (w1:=?_) (v:=?_) (by rfl) rfl ?_ ?_
 rotate_left 2
 ·go_simp
  constructor
  ·rfl
  ·rfl
 clear hcv22
 refine hK.out _ _ (Kd.C_string (P:=Tryd.prog) (A:=A0) (c:=c0) Tryd.underlying22 Tryd.underlying5 Tryd.underlying9 (Kd.C_below HR0.out HB.out)) (fun hHeld=>?_)
 clear hK K
 refine norm_ (a':=?_) ?_ ?_;rotate_left;(show Act.put _ (some 18) _=_;simp only [Act.put,q1_,q2_,q3_,i64_w,i32_w];rfl)
 refine pure_ (i:=4) (N:=some 19) (v:=?_) (a':=?_) #[Y,Y,Y,Y,Y] rfl rfl (by kernel_rfl) (fun _ _ _ h=>h) (Or.inl ⟨by rfl,?_⟩) ?_ ?_;rotate_left;(intro w';go_simp;with_reducible rfl);rotate_left;(simp only [Act.put,q1_,q2_,q3_,i64_w,i32_w];rfl)
 refine done_ (by kernel_rfl) ?_
 try go_wp2
 have n0_:=A_ (re_ HO340.out);have n1_:=A_ (ke_ BK337.out);have n2_:=A_ (be_ HB.out);clear HO340;clear BK337;clear HB;have HO340:=n0_;have BK337:=n1_;have HB:=n2_;clear n0_ n1_ n2_;obtain ⟨i024,hi024,_,hsz24,_⟩:=info_parts info5
 obtain ⟨A24,hcut24,hA24,hC24⟩:=print_drop_of (P:=Tryd.prog) (Value.int .u8) 0 22 5 .i64 Tryd.underlying22 hi024 hsz24 A0 c0 l0 4 (by omega) (od_ (by first|(with_reducible assumption)|assumption)) HC0.out
 have HR347:=A_ (Kd.C_of_reads (h1:=fun _=>rfl) (hA24 _ (Kd.reads_of_C HR0.out)))
 have HC347:=A_ hC24;clear hA24 hC24 hi024 hsz24
 refine start_ (n:=7) (S:=fun w'=>(convert 22 9 (.slice A0 l0.length c0)).run Tryd.prog w'=.ok (.string (strOfNums l0)) w') (ds:=[]) #[Z,Z,Z,Z,Z,Z,Z] (by kernel_rfl) rfl rfl (Kd.C_string (P:=Tryd.prog) (A:=A0) (c:=c0) Tryd.underlying22 Tryd.underlying5 Tryd.underlying9 (Kd.C_below HR0.out HB.out)) (fun hHeld=>?_)
 generalize w20.drew=w23 at HO340 BK337 HB HR347 hHeld ⊢
 refine pure_ (i:=0) (N:=some 21) (v:=?_) (a':=?_) #[Y,Z,Z,Z,Z,Z,Z] rfl rfl (by kernel_rfl) (fun _ _ _ h=>h) (Or.inl ⟨by rfl,?_⟩) ?_ ?_;rotate_left;(intro w';go_simp;with_reducible rfl);rotate_left;(simp only [Act.put,q1_,q2_,q3_,i64_w,i32_w];rfl)
 refine pure_ (i:=1) (N:=some 22) (v:=?_) (a':=?_) #[Y,Y,Z,Z,Z,Z,Z] rfl rfl (by kernel_rfl) (fun _ _ _ h=>h) (Or.inl ⟨by rfl,?_⟩) ?_ ?_;rotate_left;(intro w';go_simp;with_reducible rfl);rotate_left;(simp only [Act.put,q1_,q2_,q3_,i64_w,i32_w];rfl)
 refine pure_ (i:=4) (N:=some 25) (v:=?_) (a':=?_) #[Y,Y,Z,Z,Y,Z,Z] rfl rfl (by kernel_rfl) (fun _ _ _ h=>h) (Or.inl ⟨by rfl,?_⟩) ?_ ?_;rotate_left;(intro w';go_simp;with_reducible rfl);rotate_left;(simp only [Act.put,q1_,q2_,q3_,i64_w,i32_w];rfl)
 refine take_ (i:=5) (N:=some 26) (v:=?_) (a':=?_) #[Y,Y,Z,Z,Y,Y,Z] rfl rfl (by kernel_rfl) (fun _ _ _ h=>h) (Or.inl ⟨by rfl,?_⟩) hHeld ?_ ?_;rotate_left;(intro w' s0;go_simp;with_reducible rfl);rotate_left;(simp only [Act.put,q1_,q2_,q3_,i64_w,i32_w];rfl)
 refine one_ (i:=2) (N:=some 23) #[Y,Y,Y,Z,Y,Y,Z] rfl rfl (by kernel_rfl) (by decide) (fun K hK=>?_)
 refine goes_ Tryd.func25 (by kernel_rfl) rfl #[.slice A24 (l0.drop 4).length (c0 - 4)] (by rfl) rfl rfl (by (try simp only [List.map_toArray,List.map_cons,List.map_nil]);first|done|(rw [show (l0.drop 4).length=(l0.length - 4) from List.length_drop] <;> rfl)|rfl|(simp only [List.length_drop,List.length_take];rfl)) ?_
 with_reducible refine (humusref02_Seal.calls k _ _ (l0.drop 4) t348 _ ?side1 ?side2 A15.out).mono ?_
 (case side1=>repeat (first|exact (Kd.C_below HR347.out HB.out)|(with_reducible refine Kd.C_alloc ?_ _)|(with_reducible refine Kd.C_drewN ?_ _)|(with_reducible refine Kd.C_drew ?_)))
 (case side2=>exact HC347.out)
 rintro e w25 ⟨v349,rfl,ho0,hb⟩;refine ⟨_,rfl,?_⟩
 have n0_:=A_ (Kd.R_elder' (by (with_reducible repeat (first|apply ra_|apply rn_|apply re_));exact HO340.out) (Kd.R_base ho0) hb)
 have n1_:=A_ (Kd.R_lower (Kd.R_new' ho0 (Kd.R_lt (by (with_reducible repeat (first|apply ra_|apply rn_|apply re_));exact HO340.out))) (bz_ (hb1_ HB.out GE337.out)))
 have n2_:=A_ (bx_ BK337.out kf_ hb);have n3_:=A_ (bp_ (hb1_ HB.out GE337.out) hb);clear HO340;clear BK337;clear HB;have HO340:=n0_;have HO350:=n1_;have BK337:=n2_;have HB:=n3_;clear n0_ n1_ n2_ n3_;(try clear hb);(try clear hb2);(try clear hk);(try clear hi);(try clear ho0)
 refine hK.out _ _ (Kd.C_string (P:=Tryd.prog) (A:=A0) (c:=c0) Tryd.underlying22 Tryd.underlying5 Tryd.underlying9 (Kd.C_below HR0.out HB.out)) (fun hHeld=>?_)
 clear hK K
 refine norm_ (a':=?_) ?_ ?_;rotate_left;(show Act.put _ (some 23) _=_;simp only [Act.put,q1_,q2_,q3_,i64_w,i32_w];rfl)
 refine one_ (i:=3) (N:=some 24) #[Y,Y,Y,Y,Y,Y,Z] rfl rfl (by kernel_rfl) (by decide) (fun K hK=>?_)
 have hcv26:=own_string (P:=Tryd.prog) Tryd.underlying22 Tryd.underlying5 Tryd.underlying9 (Kd.own_of_R HO350.out)
 refine value_ (w1:=?_) (v:=?_) (by rfl) rfl ?_ ?_
 rotate_left 2
 ·go_simp
  constructor
  ·rfl
  ·rfl
 clear hcv26
 refine hK.out _ _ (Kd.C_string (P:=Tryd.prog) (A:=A0) (c:=c0) Tryd.underlying22 Tryd.underlying5 Tryd.underlying9 (Kd.C_below HR0.out HB.out)) (fun hHeld=>?_)
 clear hK K
 refine norm_ (a':=?_) ?_ ?_;rotate_left;(show Act.put _ (some 24) _=_;simp only [Act.put,q1_,q2_,q3_,i64_w,i32_w];rfl)
 refine pure_ (i:=6) (N:=some 27) (v:=?_) (a':=?_) #[Y,Y,Y,Y,Y,Y,Y] rfl rfl (by kernel_rfl) (fun _ _ _ h=>h) (Or.inl ⟨by rfl,?_⟩) ?_ ?_;rotate_left;(intro w';go_simp;with_reducible rfl);rotate_left;(simp only [Act.put,q1_,q2_,q3_,i64_w,i32_w];rfl)
 refine done_ (by kernel_rfl) ?_
 go_upto_region 8 with (first|((with_reducible refine gate_dst (N:=29) rfl ?_);refine Kd.R_lit (Kd.int .i64) _ 3 ?hg (N:=29) ?hd (xs:=([1,3,3,3] : List Int)) (inner:=[.int .i64 1,.int .i64 3,.int .i64 3,.int .i64 3]) (ok:=fun _=>True) (okp:=fun _=>True) ?hr ?hp (fun _ hk=>hk) trivial (Below.refl _ _) (Nat.le_refl _) (by simp) ?_;(case hd=>rfl);(case hg=>rfl);(case hr=>first|(go_simp;done)|(go_simp;rfl));(case hp=>exact (Reps.one (show Kd.M (Kd.int .i64) _ _ _ 1 [.int .i64 1] from rfl) (Reps.one (show Kd.M (Kd.int .i64) _ _ _ 3 [.int .i64 3] from rfl) (Reps.one (show Kd.M (Kd.int .i64) _ _ _ 3 [.int .i64 3] from rfl) (Reps.one (show Kd.M (Kd.int .i64) _ _ _ 3 [.int .i64 3] from rfl) (Reps.none _ _))))));intro v352 w27 ho28 hb hg_ hnew_;clear hg_ hnew_;(first|rw [← Ny351.out] at ho28|(simp only [Int.reduceToNat] at ho28;rw [← Ny351.out] at ho28));have n0_:=A_ (Kd.R_below (by (with_reducible repeat (first|apply ra_|apply rn_|apply re_));exact HO340.out) hb);have n1_:=A_ (Kd.R_below (by (with_reducible repeat (first|apply ra_|apply rn_|apply re_));exact HO350.out) hb);have n2_:=A_ (Kd.R_lower ho28 (bz_ (hb1_ HB.out GE337.out)));have n3_:=A_ (bx_ BK337.out kf_ hb);have n4_:=A_ (bp_ (hb1_ HB.out GE337.out) hb);clear HO340;clear HO350;clear BK337;clear HB;have HO340:=n0_;have HO350:=n1_;have HO353:=n2_;have BK337:=n3_;have HB:=n4_;clear n0_ n1_ n2_ n3_ n4_;clear hb ho28))
 (try simp only [Act.put,u1_,u2_,u3_])
 go_cut [5] (fun v5 wc=>∃ (kq : Nat) (x5_16 : Int),v5=.int .i64 x5_16∧Aside0 (humusref11_Decode.j0 kq l0 y351 x5_16=some (r1,r2,r3,r4,r5))∧Aside0 (kq≤k)∧Aside0 (Kd.R (Kd.int .i64) 3 wc w.heap.size (fun _=>True) v352 y351)∧Aside0 (wc.heap[gb337]?=some (.cells #[.int .i64 0,.int .i64 0,.int .i64 0,(.slice none 0 0)] 26 (0,0)))∧Aside0 (Below w.heap.size w wc))
 case first =>
  have H:=HC17.out;clear HC17;have H':=A_ H;clear H;go_wp2;go_meet
  case rel=>exact ⟨_,(0),(by first|rfl|(simp;done)|(simp [*];done)),H',⟨by first|omega|exact Nat.le_refl _⟩,⟨by (with_reducible repeat (first|apply ra_|apply rn_|apply re_));exact HO353.out⟩,⟨by exact kk_ BK337.out⟩,⟨hb1_ HB.out GE337.out⟩⟩
 case rest =>
  clear HC17;(try clear c1);(try clear hcv1);(try clear c2);(try clear c2b0);(try clear c2b1);(try clear p2);(try clear hcv2);(try clear c3);(try clear c3b0);(try clear c3b1);(try clear c4);(try clear c4b0);(try clear c4b1);(try clear c7);(try clear c10);(try clear hcv10);(try clear c14);(try clear c14b0);(try clear c14b1);(try clear c16);(try clear c16b0);(try clear c16b1);(try clear hcv22);(try clear c25);(try clear hcv26);(try clear z12_0 z12_1 z12_2 z12_3 y12_0 y12_1 y12_2 y12_3);obtain ⟨kq,x5_16,rfl,HA,HJ16,HO_4,BK337,HB⟩:=hcut
  cases kq with
  | zero=>exact absurd HA.out (by simp [humusref11_Decode.j0])
  | succ kj16 =>
   have H:=HA.out;clear HA
   simp only [humusref11_Decode.j0] at H
   have H':=A_ H;clear H;go_wp2
   go_loopg [4,5] kj16 (fun kq v4 v5 w'=>∃ (x4_2 : List Int) (x5_2 : Int),v5=.int .i64 x5_2∧Aside0 (humusref11_Decode.l0 kq l0 x4_2 x5_2=some (r1,r2,r3,r4,r5))∧Aside0 (kq≤kj16)∧Aside0 (Kd.R (Kd.int .i64) 3 w' w.heap.size (fun _=>True) v4 x4_2)∧Aside0 (w'.heap[gb337]?=some (.cells #[.int .i64 0,.int .i64 0,.int .i64 0,(.slice none 0 0)] 26 (0,0)))∧Aside0 (Below w.heap.size w w'))
   case atStart=>exact ⟨(y351),(x5_16),(by first|rfl|(simp;done)|(simp [*];done)),H',⟨Nat.le_refl _⟩,⟨by (with_reducible repeat (first|apply ra_|apply rn_|apply re_));exact HO_4.out⟩,⟨by exact kk_ BK337.out⟩,⟨hb1_ HB.out GE337.out⟩⟩
   case round =>
    clear H';(try clear c1);(try clear hcv1);(try clear c2);(try clear c2b0);(try clear c2b1);(try clear p2);(try clear hcv2);(try clear c3);(try clear c3b0);(try clear c3b1);(try clear c4);(try clear c4b0);(try clear c4b1);(try clear c7);(try clear c10);(try clear hcv10);(try clear c14);(try clear c14b0);(try clear c14b1);(try clear c16);(try clear c16b0);(try clear c16b1);(try clear hcv22);(try clear c25);(try clear hcv26);(try clear p2);(try clear z12_0 z12_1 z12_2 z12_3 y12_0 y12_1 y12_2 y12_3);obtain ⟨x4_2,x5_2,rfl,HA,HK2,HO_4,BK337,HB⟩:=hrel
    cases gk with
    | zero=>exact absurd HA.out (by simp [humusref11_Decode.l0])
    | succ k2 =>
     have H:=HA.out;clear HA
     simp only [humusref11_Decode.l0] at H
     by_cases c29 : x5_2<12
     ·rw [if_pos c29] at H
      have c29b0 : decide (x5_2<12)=true:=dt_ c29;clear c29
      obtain ⟨y354,hy354⟩ : ∃ y_ : List Int,y_=(([1,3,2,3] : List Int)):=⟨_,rfl⟩
      replace H : (if x4_2.length + y354.length<17592186044416 then (humusref11_Decode.l0 k2 l0 (x4_2++y354) (wrap64 (x5_2 + 1))) else (none))=some (r1,r2,r3,r4,r5):=by first|(rw [hy354];with_reducible exact H)|(have H2_:=(Option.bind_some _ _).symm.trans H;rw [hy354];with_reducible exact H2_)|(have H2_:=(Option.bind_some _ _).symm.trans H;with_reducible exact H2_)|with_reducible exact H|(rw [hy354];exact H)|exact H
      have Ny354:=A_ hy354;clear hy354
      by_cases c30 : x4_2.length + y354.length<17592186044416
      rotate_left
      ·rw [if_neg c30] at H
       exact absurd H (by simp)
      rw [if_pos c30] at H
      have LMc30:=A_ c30;clear c30
      obtain ⟨y357,hy357⟩ : ∃ y_ : List Int,y_=(x4_2++y354):=⟨_,rfl⟩
      replace H : (humusref11_Decode.l0 k2 l0 y357 (wrap64 (x5_2 + 1)))=some (r1,r2,r3,r4,r5):=by first|(rw [hy357];with_reducible exact H)|(have H2_:=(Option.bind_some _ _).symm.trans H;rw [hy357];with_reducible exact H2_)|(have H2_:=(Option.bind_some _ _).symm.trans H;with_reducible exact H2_)|with_reducible exact H|(rw [hy357];exact H)|exact H
      have Ny357:=A_ hy357;clear hy357;have H':=A_ H;clear H
      go_wp2_with (first|((with_reducible refine gate_dst (N:=35) rfl ?_);refine Kd.R_lit (Kd.int .i64) _ 3 ?hg (N:=35) ?hd (xs:=([1,3,2,3] : List Int)) (inner:=[.int .i64 1,.int .i64 3,.int .i64 2,.int .i64 3]) (ok:=fun _=>True) (okp:=fun _=>True) ?hr ?hp (fun _ hk=>hk) trivial (Below.refl _ _) (Nat.le_refl _) (by simp) ?_;(case hd=>rfl);(case hg=>rfl);(case hr=>first|(go_simp;done)|(go_simp;rfl));(case hp=>exact (Reps.one (show Kd.M (Kd.int .i64) _ _ _ 1 [.int .i64 1] from rfl) (Reps.one (show Kd.M (Kd.int .i64) _ _ _ 3 [.int .i64 3] from rfl) (Reps.one (show Kd.M (Kd.int .i64) _ _ _ 2 [.int .i64 2] from rfl) (Reps.one (show Kd.M (Kd.int .i64) _ _ _ 3 [.int .i64 3] from rfl) (Reps.none _ _))))));intro v355 w31 ho32 hb hg_ hnew_;clear hg_ hnew_;(first|rw [← Ny354.out] at ho32|(simp only [Int.reduceToNat] at ho32;rw [← Ny354.out] at ho32));have n0_:=A_ (Kd.R_elder' (by (with_reducible repeat (first|apply ra_|apply rn_|apply re_));exact HO_4.out) (Kd.R_base ho32) hb);have n1_:=A_ (Kd.R_lower (Kd.R_new' ho32 (Kd.R_lt (by (with_reducible repeat (first|apply ra_|apply rn_|apply re_));exact HO_4.out))) (bz_ (hb1_ HB.out GE337.out)));have n2_:=A_ (bx_ BK337.out kf_ hb);have n3_:=A_ (bp_ (hb1_ HB.out GE337.out) hb);clear HO_4;clear BK337;clear HB;have HO_4:=n0_;have HO356:=n1_;have BK337:=n2_;have HB:=n3_;clear n0_ n1_ n2_ n3_;clear hb ho32;obtain ⟨Ao34,co34,eo34⟩:=Kd.R_slice HO356.out;subst eo34)|((with_reducible refine gate_builtin (b:=.append) (xs:=#[.tmp 34,.tmp 35]) rfl ?_);at_builtin;refine Kd.R_append_rows (Kd.int .i64) (w0:=w) w.heap.size rfl (.tmp 34) (.tmp 35) 37 3 (.int .i64 0) 8 rfl Tryd.underlying37 info3 rfl (by decide) (by omega) u4 x4_2 y354 _ _ _ (fun k_=>some k_≠(.slice Ao34 y354.length co34 : Value).ownBlock) (fun _=>False) rfl rfl ?aO ?aR (fun _ _ h=>h) (fun _ h=>h.elim) ?aF ?aB ?aS ?aL ?_;(case aR=>repeat (first|exact (Kd.R_reads' HO356.out).2.2|(with_reducible refine Kd.C_alloc ?_ _)|(with_reducible refine Kd.C_drewN ?_ _)|(with_reducible refine Kd.C_drew ?_)));(case aB=>exact (hb1_ HB.out GE337.out));(case aF=>exact (fun k_ hk=>Kd.fresh' (Kd.R_lt (by (with_reducible repeat (first|apply ra_|apply rn_|apply re_));exact HO356.out)) k_ hk));(case aO=>exact (by (with_reducible repeat (first|apply ra_|apply rn_|apply re_));exact Kd.R_mono HO_4.out (fun _ hk=>hk.2)));(case aS=>exact (bz_ (hb1_ HB.out GE337.out)));(case aL=>have:=LMc30.out;omega);intro v358 w33 ho hb hg hat;rw [← Ny357.out] at ho;have n0_:=A_ (blk_grown (g:=gb337) (o:=.cells #[.int .i64 0,.int .i64 0,.int .i64 0,.slice none 0 0] 26 (0,0)) (by exact kk_ BK337.out) hg (Kd.R_ne HO_4.out BK337.out (by decide)));have n1_:=A_ (Kd.R_after (ok:=(fun _=>True)) (by (with_reducible repeat (first|apply ra_|apply rn_|apply re_));exact HO356.out) hg hat);have n2_:=A_ (hb);have n3_:=A_ (ho);clear BK337;clear HO356;clear HB;clear HO_4;have BK337:=n0_;have HO356:=n1_;have HB:=n2_;have HO359:=n3_;clear n0_ n1_ n2_ n3_;clear ho hb hg hat))
      go_roundg k2
      case measure=>have:=HJ16.out;have:=HK2.out;omega
      case rel=>exact ⟨(y357),(wrap64 (x5_2 + 1)),(by first|rfl|(simp;done)|(simp [*];done)),H',⟨by have:=HJ16.out;have:=HK2.out;omega⟩,⟨by (with_reducible repeat (first|apply ra_|apply rn_|apply re_));exact Kd.R_mono HO359.out (fun _ hk=>trivial)⟩,⟨by exact kk_ BK337.out⟩,⟨hb1_ HB.out GE337.out⟩⟩
     rw [if_neg c29] at H
     have c29b0 : decide (x5_2<12)=false:=df_ c29;clear c29
     by_cases c35 : 4≤(l0.length : Int)
     rotate_left
     ·rw [if_neg c35] at H
      exact absurd H (by simp)
     rw [if_pos c35] at H
     have c35b0:=eq_true c35;have c35b1 : decide (4≤(l0.length : Int))=true:=dt_ c35;clear c35;replace H:=Option.bind_eq_some_iff.mp H;obtain ⟨⟨t361,t362,t363⟩,A360,H⟩:=H;replace H : (humusref11_Decode.j2 k2 l0 t361 (t363 != 0))=some (r1,r2,r3,r4,r5):=H;have A36:=A_ A360;clear A360;have HC37:=A_ H;clear H;obtain ⟨i038,hi038,_,hsz38,_⟩:=info_parts info5;(try clear hcut24)
     obtain ⟨A38,hcut38,hA38,hC38⟩:=print_drop_of (P:=Tryd.prog) (Value.int .u8) 0 22 5 .i64 Tryd.underlying22 hi038 hsz38 A0 c0 l0 4 (by omega) (od_ (by first|(with_reducible assumption)|assumption)) HC0.out
     have HR360:=A_ (Kd.C_of_reads (h1:=fun _=>rfl) (hA38 _ (Kd.reads_of_C HR0.out)))
     have HC360:=A_ hC38;clear hA38 hC38 hi038 hsz38;obtain ⟨Ao39,co39,eo39⟩:=Kd.R_slice HO_4.out;subst eo39
     go_upto_region 13 with (first|((with_reducible refine gate_callee (f:=26) rfl ?_);refine goesL_ (some 41) rfl rfl Tryd.func26 (by kernel_rfl) rfl #[.slice A38 (l0.drop 4).length (c0 - 4),.slice Ao39 x4_2.length co39] rfl (by (try simp only [List.map_toArray,List.map_cons,List.map_nil]);first|done|(rw [show (l0.drop 4).length=(l0.length - 4) from List.length_drop] <;> rfl)|rfl|(simp only [List.length_drop,List.length_take];rfl)) ?_;(with_reducible refine (humusref03_Take.calls _ _ (l0.drop 4) _ _ x4_2 t361 t362 t363 _ ?side1 ?side2 ?side3 ?side4 A36.out).mono ?_);(case side1=>repeat (first|exact (Kd.C_below HR360.out HB.out)|(with_reducible refine Kd.C_alloc ?_ _)|(with_reducible refine Kd.C_drewN ?_ _)|(with_reducible refine Kd.C_drew ?_)));(case side2=>exact HC360.out);(case side3=>repeat (first|exact (Kd.R_reads' HO_4.out).2.2|(with_reducible refine Kd.C_alloc ?_ _)|(with_reducible refine Kd.C_drewN ?_ _)|(with_reducible refine Kd.C_drew ?_)));(case side4=>exact (Kd.R_reads' HO_4.out).2.1);rintro e w40 ⟨v364,rfl,ho0,hb⟩;refine ⟨_,rfl,?_⟩;have n0_:=A_ (Kd.R_below (by (with_reducible repeat (first|apply ra_|apply rn_|apply re_));exact HO_4.out) hb);have n1_:=A_ (Kd.R_lower ho0 (bz_ (hb1_ HB.out GE337.out)));have n2_:=A_ (bx_ BK337.out kf_ hb);have n3_:=A_ (bp_ (hb1_ HB.out GE337.out) hb);clear HO_4;clear BK337;clear HB;have HO_4:=n0_;have HO365:=n1_;have BK337:=n2_;have HB:=n3_;clear n0_ n1_ n2_ n3_;(try clear hb);(try clear hb2);(try clear hk);(try clear hi);(try clear ho0)))
     (try simp only [Act.put,u1_,u2_,u3_])
     go_cut [46] (fun v46 wc=>∃ (kq : Nat) (x46_36 : Bool),v46=.bool x46_36∧Aside0 (humusref11_Decode.j2 kq l0 t361 x46_36=some (r1,r2,r3,r4,r5))∧Aside0 (kq≤k2)∧Aside0 (Kd.R k51 51 wc w.heap.size (fun _=>True) v364 t361)∧Aside0 (wc.heap[gb337]?=some (.cells #[.int .i64 0,.int .i64 0,.int .i64 0,(.slice none 0 0)] 26 (0,0)))∧Aside0 (Below w.heap.size w wc))
     case first =>
      have H:=HC37.out;clear HC37;have H':=A_ H;clear H;go_wp2;go_meet
      case rel=>exact ⟨_,((t363 != 0)),(by first|rfl|(simp;done)|(simp [*];done)),H',⟨by have:=HJ16.out;have:=HK2.out;first|omega|exact Nat.le_refl _⟩,⟨by (with_reducible repeat (first|apply ra_|apply rn_|apply re_));exact HO365.out⟩,⟨by exact kk_ BK337.out⟩,⟨hb1_ HB.out GE337.out⟩⟩
     case rest =>
      clear HC37;(try clear c1);(try clear hcv1);(try clear c2);(try clear c2b0);(try clear c2b1);(try clear p2);(try clear hcv2);(try clear c3);(try clear c3b0);(try clear c3b1);(try clear c4);(try clear c4b0);(try clear c4b1);(try clear p6);(try clear c7);(try clear c10);(try clear hcv10);(try clear c14);(try clear c14b0);(try clear c14b1);(try clear c16);(try clear c16b0);(try clear c16b1);(try clear hcv22);(try clear c25);(try clear c26);(try clear hcv26);(try clear c29);(try clear c29b0);(try clear c30);(try clear c35);(try clear c35b0);(try clear c35b1);(try clear p2);(try clear z12_0 z12_1 z12_2 z12_3 y12_0 y12_1 y12_2 y12_3);obtain ⟨kq,x46_36,rfl,HA,HJ36,HO_6,BK337,HB⟩:=hcut
      cases kq with
      | zero=>exact absurd HA.out (by simp [humusref11_Decode.j2])
      | succ kj36 =>
       have H:=HA.out;clear HA
       simp only [humusref11_Decode.j2] at H
       by_cases c41 : x46_36=true
       ·subst c41
        have H1 : (some (0,0,0,([] : List (S56)),4))=some (r1,r2,r3,r4,r5):=by rw [if_pos rfl] at H;exact H
        clear H;have H:=H1;clear H1
        simp only [Option.some.injEq,Prod.mk.injEq] at H
        obtain ⟨rfl,rfl,rfl,rfl,rfl⟩:=H;obtain ⟨z42_0,z42_1,z42_2,z42_3⟩:=blkc_4 BK337.out;obtain ⟨y42_0,y42_1,y42_2,y42_3⟩:=blkz_4 BK337.out;go_wp2
        refine bodyPost_ret (results_ct rfl _ _ gb337 26 #[.int .i64 0,.int .i64 0,.int .i64 0,.slice none 0 0] (0,0) _ rfl (by refine kk_ ?_;apply blkf_4_0_3;exact kk_ BK337.out) Tryd.underlying26 rfl (by kernel_rfl)) rfl ?_
        exact ⟨_,by first|rfl|(simp [errW_none,errW_some] <;> rfl)|(simp [*,errW_none,errW_some] <;> rfl),by first|exact Kd.R_nil _ _ _ _ _|exact Kd.N_nil _ _ _ _ _|exact Kd.V_nil _ _ _ _ _|exact Kd.Q_nil _ _ _ _ _|exact Kd.S_nil _ _ _ _ _,hb1_ HB.out GE337.out⟩
       replace c41:=Bool.eq_false_iff.mpr c41
       subst c41
       have H1 : (if 1<(t361.length : Int) then (if 2<(t361.length : Int) then (if 3<(t361.length : Int) then (humusref11_Decode.l1 kj36 l0 t361 0 ((rd_T51 t361 1).f1) ((rd_T51 t361 2).f1) ((rd_T51 t361 3).f1) ([] : List (S56))) else (none)) else (none)) else (none))=some (r1,r2,r3,r4,r5):=by rw [if_neg (show ¬ (false=true) by decide)] at H;exact H
       clear H;have H:=H1;clear H1
       by_cases c43 : 1<(t361.length : Int)
       rotate_left
       ·rw [if_neg c43] at H
        exact absurd H (by simp)
       rw [if_pos c43] at H
       have c43b0 : decide (1<(t361.length : Int))=true:=dt_ c43
       have c43b1 : decide (1<t361.length)=true:=dt_ (by omega)
       clear c43
       by_cases c44 : 2<(t361.length : Int)
       rotate_left
       ·rw [if_neg c44] at H
        exact absurd H (by simp)
       rw [if_pos c44] at H
       have c44b0 : decide (2<(t361.length : Int))=true:=dt_ c44
       have c44b1 : decide (2<t361.length)=true:=dt_ (by omega)
       clear c44
       by_cases c45 : 3<(t361.length : Int)
       rotate_left
       ·rw [if_neg c45] at H
        exact absurd H (by simp)
       rw [if_pos c45] at H
       have c45b0 : decide (3<(t361.length : Int))=true:=dt_ c45
       have c45b1 : decide (3<t361.length)=true:=dt_ (by omega)
       clear c45;have H':=A_ H;clear H
       try go_wp2
       have n0_:=A_ (re_ HO_6.out);have n1_:=A_ (ke_ BK337.out);have n2_:=A_ (be_ HB.out);clear HO_6;clear BK337;clear HB;have HO_6:=n0_;have BK337:=n1_;have HB:=n2_;clear n0_ n1_ n2_;obtain ⟨Ao47,co47,eo47⟩:=Kd.R_slice HO_6.out
       (first|subst eo47|(injection eo47 with f1_ f2_ f3_;have f4_:=f1_.symm;have f5_:=f3_.symm;clear f1_ f2_ f3_;subst f4_;subst f5_))
       have p366 : 0≤(1 : Int):=(by omega)
       have q366 : 1<(t361.length : Int):=od_ (by first|(with_reducible assumption)|assumption)
       obtain ⟨ad366,e366,hx366_0,hx366_1,hx366_2,hx366_3⟩:=at_T51 (Kd.R_reads' HO_6.out).2.2 1 p366 q366
       cases e366
       (try simp only [N1_,Nat.reduceMul,Nat.reduceEqDiff,Go.Addr.add,↓reduceIte] at hx366_0 hx366_1 hx366_2 hx366_3)
       have qi366 : (1<t361.length)=True:=eq_true (by omega)
       replace p366:=eq_true p366;replace q366:=eq_true q366
       have p367 : 0≤(2 : Int):=(by omega)
       have q367 : 2<(t361.length : Int):=od_ (by first|(with_reducible assumption)|assumption)
       obtain ⟨ad367,e367,hx367_0,hx367_1,hx367_2,hx367_3⟩:=at_T51 (Kd.R_reads' HO_6.out).2.2 2 p367 q367
       obtain rfl : ad366=ad367:=(by injection e367)
       (try simp only [N2_,Nat.reduceMul,Nat.reduceEqDiff,Go.Addr.add,↓reduceIte] at hx367_0 hx367_1 hx367_2 hx367_3)
       have qi367 : (2<t361.length)=True:=eq_true (by omega)
       replace p367:=eq_true p367;replace q367:=eq_true q367
       have p368 : 0≤(3 : Int):=(by omega)
       have q368 : 3<(t361.length : Int):=od_ (by first|(with_reducible assumption)|assumption)
       obtain ⟨ad368,e368,hx368_0,hx368_1,hx368_2,hx368_3⟩:=at_T51 (Kd.R_reads' HO_6.out).2.2 3 p368 q368
       obtain rfl : ad366=ad368:=(by injection e368)
       (try simp only [N3_,Nat.reduceMul,Nat.reduceEqDiff,Go.Addr.add,↓reduceIte] at hx368_0 hx368_1 hx368_2 hx368_3)
       have qi368 : (3<t361.length)=True:=eq_true (by omega)
       replace p368:=eq_true p368;replace q368:=eq_true q368
       refine start_ (n:=15) (S:=fun w'=>w'.cell? ⟨ad366.block,ad366.off + 4,none⟩=some (.int .i64 ((rd_T51 t361 1).f0))∧w'.cell? ⟨ad366.block,ad366.off + 4 + 1,none⟩=some (.int .i64 ((rd_T51 t361 1).f1))∧w'.cell? ⟨ad366.block,ad366.off + 4 + 2,none⟩=some (.float .f64 ((rd_T51 t361 1).f2))∧w'.cell? ⟨ad366.block,ad366.off + 4 + 3,none⟩=some (.string ((rd_T51 t361 1).f3))∧w'.cell? ⟨ad366.block,ad366.off + 8,none⟩=some (.int .i64 ((rd_T51 t361 2).f0))∧w'.cell? ⟨ad366.block,ad366.off + 8 + 1,none⟩=some (.int .i64 ((rd_T51 t361 2).f1))∧w'.cell? ⟨ad366.block,ad366.off + 8 + 2,none⟩=some (.float .f64 ((rd_T51 t361 2).f2))∧w'.cell? ⟨ad366.block,ad366.off + 8 + 3,none⟩=some (.string ((rd_T51 t361 2).f3))∧w'.cell? ⟨ad366.block,ad366.off + 12,none⟩=some (.int .i64 ((rd_T51 t361 3).f0))∧w'.cell? ⟨ad366.block,ad366.off + 12 + 1,none⟩=some (.int .i64 ((rd_T51 t361 3).f1))∧w'.cell? ⟨ad366.block,ad366.off + 12 + 2,none⟩=some (.float .f64 ((rd_T51 t361 3).f2))∧w'.cell? ⟨ad366.block,ad366.off + 12 + 3,none⟩=some (.string ((rd_T51 t361 3).f3))) (ds:=[14]) #[Z,Z,Z,Z,Z,Z,Z,Z,Z,Z,Z,Z,Z,Z,Z] (by kernel_rfl) rfl rfl ⟨hx366_0,hx366_1,hx366_2,hx366_3,hx367_0,hx367_1,hx367_2,hx367_3,hx368_0,hx368_1,hx368_2,hx368_3⟩ (fun hHeld=>?_);refine with_tabW humusref11_Decode.tab15 humusref11_Decode.bits15 (fun HT_ HW_=>?_)
       generalize wc.drew=w46 at HO_6 BK337 HB hx366_0 hx366_1 hx366_2 hx366_3 hx367_0 hx367_1 hx367_2 hx367_3 hx368_0 hx368_1 hx368_2 hx368_3 hHeld ⊢
       refine pu_ (i:=0) (N:=some 48) (v:=?_) (a':=?_) #[Y,Z,Z,Z,Z,Z,Z,Z,Z,Z,Z,Z,Z,Z,Z] rfl rfl HT_.out (by kernel_rfl) (fun _ _ _ h=>h) (by rfl) ?_ ?_ ?_;rotate_left;(intro w';go_simp;with_reducible rfl);rotate_left;(simp only [Act.put,q1_,q2_,q3_,i64_w,i32_w];rfl)
       refine pu_ (i:=1) (N:=some 49) (v:=?_) (a':=?_) #[Y,Y,Z,Z,Z,Z,Z,Z,Z,Z,Z,Z,Z,Z,Z] rfl rfl HT_.out (by kernel_rfl) (fun _ _ _ h=>h) (by rfl) ?_ ?_ ?_;rotate_left;(intro w';go_simp;with_reducible rfl);rotate_left;(simp only [Act.put,q1_,q2_,q3_,i64_w,i32_w];rfl)
       refine pu_ (i:=2) (N:=some 50) (v:=?_) (a':=?_) #[Y,Y,Y,Z,Z,Z,Z,Z,Z,Z,Z,Z,Z,Z,Z] rfl rfl HT_.out (by kernel_rfl) (fun _ _ _ h=>h) (by rfl) ?_ ?_ ?_;rotate_left;(intro w';go_simp;with_reducible rfl);rotate_left;(simp only [Act.put,q1_,q2_,q3_,i64_w,i32_w];rfl)
       refine pu_ (i:=4) (N:=some 52) (v:=?_) (a':=?_) #[Y,Y,Y,Z,Y,Z,Z,Z,Z,Z,Z,Z,Z,Z,Z] rfl rfl HT_.out (by kernel_rfl) (fun _ _ _ h=>h) (by rfl) ?_ ?_ ?_;rotate_left;(intro w';go_simp;with_reducible rfl);rotate_left;(simp only [Act.put,q1_,q2_,q3_,i64_w,i32_w];rfl)
       refine pu_ (i:=5) (N:=some 53) (v:=?_) (a':=?_) #[Y,Y,Y,Z,Y,Y,Z,Z,Z,Z,Z,Z,Z,Z,Z] rfl rfl HT_.out (by kernel_rfl) (fun _ _ _ h=>h) (by rfl) ?_ ?_ ?_;rotate_left;(intro w';go_simp;with_reducible rfl);rotate_left;(simp only [Act.put,q1_,q2_,q3_,i64_w,i32_w];rfl)
       refine pu_ (i:=6) (N:=some 54) (v:=?_) (a':=?_) #[Y,Y,Y,Z,Y,Y,Y,Z,Z,Z,Z,Z,Z,Z,Z] rfl rfl HT_.out (by kernel_rfl) (fun _ _ _ h=>h) (by rfl) ?_ ?_ ?_;rotate_left;(intro w';go_simp;with_reducible rfl);rotate_left;(simp only [Act.put,q1_,q2_,q3_,i64_w,i32_w];rfl)
       refine pu_ (i:=8) (N:=some 56) (v:=?_) (a':=?_) #[Y,Y,Y,Z,Y,Y,Y,Z,Y,Z,Z,Z,Z,Z,Z] rfl rfl HT_.out (by kernel_rfl) (fun _ _ _ h=>h) (by rfl) ?_ ?_ ?_;rotate_left;(intro w';go_simp;with_reducible rfl);rotate_left;(simp only [Act.put,q1_,q2_,q3_,i64_w,i32_w];rfl)
       refine pu_ (i:=9) (N:=some 57) (v:=?_) (a':=?_) #[Y,Y,Y,Z,Y,Y,Y,Z,Y,Y,Z,Z,Z,Z,Z] rfl rfl HT_.out (by kernel_rfl) (fun _ _ _ h=>h) (by rfl) ?_ ?_ ?_;rotate_left;(intro w';go_simp;with_reducible rfl);rotate_left;(simp only [Act.put,q1_,q2_,q3_,i64_w,i32_w];rfl)
       refine pu_ (i:=10) (N:=some 58) (v:=?_) (a':=?_) #[Y,Y,Y,Z,Y,Y,Y,Z,Y,Y,Y,Z,Z,Z,Z] rfl rfl HT_.out (by kernel_rfl) (fun _ _ _ h=>h) (by rfl) ?_ ?_ ?_;rotate_left;(intro w';go_simp;with_reducible rfl);rotate_left;(simp only [Act.put,q1_,q2_,q3_,i64_w,i32_w];rfl)
       refine ta_ (i:=3) (N:=some 51) (v:=?_) (a':=?_) #[Y,Y,Y,Y,Y,Y,Y,Z,Y,Y,Y,Z,Z,Z,Z] rfl rfl HT_.out HW_.out (by kernel_rfl) (fun _ _ _ h=>h) (by rfl) ?_ hHeld ?_ ?_;rotate_left;(rintro w' ⟨s0,s1,s2,s3,s4,s5,s6,s7,s8,s9,s10,s11⟩;go_simp;with_reducible rfl);rotate_left;(simp only [Act.put,q1_,q2_,q3_,i64_w,i32_w];rfl)
       refine ta_ (i:=7) (N:=some 55) (v:=?_) (a':=?_) #[Y,Y,Y,Y,Y,Y,Y,Y,Y,Y,Y,Z,Z,Z,Z] rfl rfl HT_.out HW_.out (by kernel_rfl) (fun _ _ _ h=>h) (by rfl) ?_ hHeld ?_ ?_;rotate_left;(rintro w' ⟨s0,s1,s2,s3,s4,s5,s6,s7,s8,s9,s10,s11⟩;go_simp;with_reducible rfl);rotate_left;(simp only [Act.put,q1_,q2_,q3_,i64_w,i32_w];rfl)
       refine ta_ (i:=11) (N:=some 59) (v:=?_) (a':=?_) #[Y,Y,Y,Y,Y,Y,Y,Y,Y,Y,Y,Y,Z,Z,Z] rfl rfl HT_.out HW_.out (by kernel_rfl) (fun _ _ _ h=>h) (by rfl) ?_ hHeld ?_ ?_;rotate_left;(rintro w' ⟨s0,s1,s2,s3,s4,s5,s6,s7,s8,s9,s10,s11⟩;go_simp;with_reducible rfl);rotate_left;(simp only [Act.put,q1_,q2_,q3_,i64_w,i32_w];rfl)
       refine pu_ (i:=12) (N:=some 60) (v:=?_) (a':=?_) #[Y,Y,Y,Y,Y,Y,Y,Y,Y,Y,Y,Y,Y,Z,Z] rfl rfl HT_.out (by kernel_rfl) (fun _ _ _ h=>h) (by rfl) ?_ ?_ ?_;rotate_left;(intro w';go_simp;with_reducible rfl);rotate_left;(simp only [Act.put,q1_,q2_,q3_,i64_w,i32_w];rfl)
       refine one_ (i:=13) (N:=some 9) #[Y,Y,Y,Y,Y,Y,Y,Y,Y,Y,Y,Y,Y,Y,Z] rfl rfl (one_of HT_.out (by kernel_rfl)) (by decide) (fun K hK=>?_)
       refine box_step ?hg (N:=9) ?hd (cs:=#[.int .i64 0,.int .i64 0,.int .i64 0,.slice none 0 0]) (t:=26) ?hr ?_;(case hd=>rfl);(case hg=>rfl);(case hr=>first|(go_simp;done)|(go_simp;rfl))
       intro gb369 hg w48 hbox hb;have HS0_:=(hb.cell (wb_ _ _ (hHeld.1))).trans (hHeld.1);have HS1_:=(hb.cell (wb_ _ _ (hHeld.2.1))).trans (hHeld.2.1);have HS2_:=(hb.cell (wb_ _ _ (hHeld.2.2.1))).trans (hHeld.2.2.1);have HS3_:=(hb.cell (wb_ _ _ (hHeld.2.2.2.1))).trans (hHeld.2.2.2.1);have HS4_:=(hb.cell (wb_ _ _ (hHeld.2.2.2.2.1))).trans (hHeld.2.2.2.2.1);have HS5_:=(hb.cell (wb_ _ _ (hHeld.2.2.2.2.2.1))).trans (hHeld.2.2.2.2.2.1);have HS6_:=(hb.cell (wb_ _ _ (hHeld.2.2.2.2.2.2.1))).trans (hHeld.2.2.2.2.2.2.1);have HS7_:=(hb.cell (wb_ _ _ (hHeld.2.2.2.2.2.2.2.1))).trans (hHeld.2.2.2.2.2.2.2.1);have HS8_:=(hb.cell (wb_ _ _ (hHeld.2.2.2.2.2.2.2.2.1))).trans (hHeld.2.2.2.2.2.2.2.2.1);have HS9_:=(hb.cell (wb_ _ _ (hHeld.2.2.2.2.2.2.2.2.2.1))).trans (hHeld.2.2.2.2.2.2.2.2.2.1);have HS10_:=(hb.cell (wb_ _ _ (hHeld.2.2.2.2.2.2.2.2.2.2.1))).trans (hHeld.2.2.2.2.2.2.2.2.2.2.1);have HS11_:=(hb.cell (wb_ _ _ (hHeld.2.2.2.2.2.2.2.2.2.2.2))).trans (hHeld.2.2.2.2.2.2.2.2.2.2.2)
       have n0_:=A_ (Kd.R_below (by (with_reducible repeat (first|apply ra_|apply rn_|apply re_));exact HO_6.out) hb)
       have n1_:=A_ (bx_ BK337.out kf_ hb);have n2_:=A_ (bp_ (hb1_ HB.out GE337.out) hb);have n3_:=A_ (hbox)
       have n4_:=A_ ((by rw [hg];exact (bz_ (hb1_ HB.out GE337.out)) : w.heap.size≤gb369))
       have n5_:=n4_
       have n6_:=A_ ((by rw [hg];exact Nat.ne_of_lt (bl_ BK337.out kf_) : gb337≠gb369))
       have n7_:=A_ (Ne.symm n6_.out);clear HO_6;clear BK337;clear HB;have HO_6:=n0_;have BK337:=n1_;have HB:=n2_;have BK369:=n3_;have GW369:=n4_;have GE369:=n5_;have NB337_369:=n6_;have NB369_337:=n7_;clear n0_ n1_ n2_ n3_ n4_ n5_ n6_ n7_;clear hb hbox hg
       refine hK.out _ _ ⟨HS0_,HS1_,HS2_,HS3_,HS4_,HS5_,HS6_,HS7_,HS8_,HS9_,HS10_,HS11_⟩ (fun hHeld=>?_)
       clear hK K
       refine norm_ (a':=?_) ?_ ?_;rotate_left;(show Act.put _ (some 9) _=_;simp only [Act.put,q1_,q2_,q3_,i64_w,i32_w];rfl)
       refine last_ (i:=14) (N:=none) #[Y,Y,Y,Y,Y,Y,Y,Y,Y,Y,Y,Y,Y,Y,Y] rfl rfl (one_of HT_.out (by kernel_rfl)) (by decide) (fun K hK=>?_)
       have hs49 : w48.cell? ⟨gb369,0,none⟩=some (.int .i64 0):=(bc_ BK369.out 0).trans rfl;have hfs49:=bf_ BK369.out 0;have hns49_0:=NB337_369.out;have hms49_0:=NB369_337.out;have hs50 : w48.cell? ⟨gb369,1,none⟩=some (.int .i64 0):=(bc_ BK369.out 1).trans rfl;have hfs50:=bf_ BK369.out 1;have hns50_0:=NB337_369.out;have hms50_0:=NB369_337.out;have hs51 : w48.cell? ⟨gb369,2,none⟩=some (.int .i64 0):=(bc_ BK369.out 2).trans rfl;have hfs51:=bf_ BK369.out 2;have hns51_0:=NB337_369.out;have hms51_0:=NB369_337.out;have hs52 : w48.cell? ⟨gb369,3,none⟩=some (.slice none 0 0):=(bc_ BK369.out 3).trans rfl;have hfs52:=bf_ BK369.out 3;have hns52_0:=NB337_369.out;have hms52_0:=NB369_337.out
       refine skip_ (w1:=?_) (by rfl) rfl ?_ ?_
       rotate_left
       ·go_simp
        rfl
       refine hK.out _ _ ?_;clear hK K;refine done_ (done_of HT_.out (by kernel_rfl)) ?_
       try go_wp2
       go_loopg [10] kj36 (fun kq v10 w'=>∃ (x10_4 : Int) (x370003_4 : List (S56)) (u370003 : Value),v10=.int .i64 x10_4∧Aside0 (humusref11_Decode.l1 kq l0 t361 x10_4 ((rd_T51 t361 1).f1) ((rd_T51 t361 2).f1) ((rd_T51 t361 3).f1) x370003_4=some (r1,r2,r3,r4,r5))∧Aside0 (kq≤kj36)∧Aside0 (Kd.R k51 51 w' w.heap.size (fun _=>True) (.slice (some ad366) t361.length co47) t361)∧Aside0 (Kd.R k56 56 w' w.heap.size (fun _=>True) u370003 x370003_4)∧Aside0 (w'.heap[gb337]?=some (.cells #[.int .i64 0,.int .i64 0,.int .i64 0,(.slice none 0 0)] 26 (0,0)))∧Aside0 (w'.heap[gb369]?=some (.cells #[.int .i64 ((rd_T51 t361 1).f1),.int .i64 ((rd_T51 t361 2).f1),.int .i64 ((rd_T51 t361 3).f1),u370003] 26 (0,0)))∧Aside0 (Below w.heap.size w w'))
       case atStart=>exact ⟨(0),(([] : List (S56))),(.slice none 0 0),(by first|rfl|(simp;done)|(simp [*];done)),H',⟨Nat.le_refl _⟩,⟨by (with_reducible repeat (first|apply ra_|apply rn_|apply re_));exact Kd.R_mono (rf_ (p:=⟨gb369,3,none⟩) (rf_ (p:=⟨gb369,2,none⟩) (rf_ (p:=⟨gb369,1,none⟩) (rf_ (p:=⟨gb369,0,none⟩) (Kd.R_types HO_6.out BK369.out (by decide)) (fun _ hk=>hk.2) (.int .i64 ((rd_T51 t361 1).f1))) (fun _ hk=>hk.2) (.int .i64 ((rd_T51 t361 2).f1))) (fun _ hk=>hk.2) (.int .i64 ((rd_T51 t361 3).f1))) (fun _ hk=>hk.2) (.slice none 0 0)) (fun _ hk=>trivial)⟩,⟨by first|exact Kd.R_nil _ _ _ _ _|exact Kd.N_nil _ _ _ _ _|exact Kd.V_nil _ _ _ _ _|exact Kd.Q_nil _ _ _ _ _|exact Kd.S_nil _ _ _ _ _⟩,⟨by refine kk_ ?_;refine blk_far ?_ NB337_369.out _;refine kk_ ?_;refine blk_far ?_ NB337_369.out _;refine kk_ ?_;refine blk_far ?_ NB337_369.out _;refine kk_ ?_;refine blk_far ?_ NB337_369.out _;exact kk_ BK337.out⟩,⟨by refine kk_ ?_;apply blkf_4_0_3;exact kk_ BK369.out⟩,⟨hb2_ HB.out GE337.out GE369.out⟩⟩
       case round =>
        clear H';(try clear c1);(try clear hcv1);(try clear c2);(try clear c2b0);(try clear c2b1);(try clear p2);(try clear hcv2);(try clear c3);(try clear c3b0);(try clear c3b1);(try clear p3);(try clear q3);(try clear hx3);(try clear qi3);(try clear c4);(try clear c4b0);(try clear c4b1);(try clear p6);(try clear c7);(try clear c10);(try clear hcv10);(try clear c14);(try clear c14b0);(try clear c14b1);(try clear c16);(try clear c16b0);(try clear c16b1);(try clear hcv22);(try clear c25);(try clear c26);(try clear hcv26);(try clear c29);(try clear c29b0);(try clear c30);(try clear c35);(try clear c35b0);(try clear c35b1);(try clear p36);(try clear q36);(try clear hx36);(try clear qi36);(try clear c41);(try clear c43);(try clear c43b0);(try clear c43b1);(try clear c44);(try clear c44b0);(try clear c44b1);(try clear c45);(try clear c45b0);(try clear c45b1);(try clear hx366_0);(try clear hx366_1);(try clear hx366_2);(try clear hx366_3);(try clear hx367_0);(try clear hx367_1);(try clear hx367_2);(try clear hx367_3);(try clear hx368_0);(try clear hx368_1);(try clear hx368_2);(try clear hx368_3);(try clear p2);(try clear p366);(try clear p367);(try clear p368);(try clear p6);(try clear q366);(try clear q367);(try clear q368);(try clear z12_0 z12_1 z12_2 z12_3 z42_0 z42_1 z42_2 z42_3 y12_0 y12_1 y12_2 y12_3 y42_0 y42_1 y42_2 y42_3);obtain ⟨x10_4,x370003_4,u370003,rfl,HA,HK4,HO_6,HO_370003,BK337,BK369,HB⟩:=hrel
        cases gk with
        | zero=>exact absurd HA.out (by simp [humusref11_Decode.l1])
        | succ k4 =>
         have H:=HA.out;clear HA
         simp only [humusref11_Decode.l1] at H
         by_cases c53 : x10_4<12
         ·rw [if_pos c53] at H
          have c53b0 : decide (x10_4<12)=true:=dt_ c53;clear c53
          obtain ⟨ji54,hji54⟩ : ∃ j_ : Int,(wrap64 (4 + (wrap64 (4 * x10_4))))=j_:=⟨_,rfl⟩
          replace H : (if 0≤(ji54) then (if (ji54)<(t361.length : Int) then (if 0≤(wrap64 (5 + (wrap64 (4 * x10_4)))) then (if (wrap64 (5 + (wrap64 (4 * x10_4))))<(t361.length : Int) then (if 0≤(wrap64 (6 + (wrap64 (4 * x10_4)))) then (if (wrap64 (6 + (wrap64 (4 * x10_4))))<(t361.length : Int) then (if 0≤(wrap64 (7 + (wrap64 (4 * x10_4)))) then (if (wrap64 (7 + (wrap64 (4 * x10_4))))<(t361.length : Int) then (if x370003_4.length<4398046511104 then (humusref11_Decode.l1 k4 l0 t361 (wrap64 (x10_4 + 1)) ((rd_T51 t361 1).f1) ((rd_T51 t361 2).f1) ((rd_T51 t361 3).f1) (x370003_4++[(⟨(rd_T51 t361 (wrap64 (5 + (wrap64 (4 * x10_4))))).f1,(rd_T51 t361 (ji54)).f1,(rd_T51 t361 (wrap64 (6 + (wrap64 (4 * x10_4))))).f1,(rd_T51 t361 (wrap64 (7 + (wrap64 (4 * x10_4))))).f1⟩ : S56)])) else (none)) else (none)) else (none)) else (none)) else (none)) else (none)) else (none)) else (none)) else (none))=some (r1,r2,r3,r4,r5):=by first|(rw [hji54] at H;exact H)|(simp only [hji54] at H ⊢;exact H)
          have hji54w : (IntKind.i64.wrap (4 + (wrap64 (4 * x10_4))))=ji54:=(i64_w _).trans hji54
          by_cases c55 : 0≤(ji54)
          rotate_left
          ·rw [if_neg c55] at H
           exact absurd H (by simp)
          rw [if_pos c55] at H
          have c55b0 : decide (0≤(ji54))=true:=dt_ c55;clear c55
          by_cases c56 : (ji54)<(t361.length : Int)
          rotate_left
          ·rw [if_neg c56] at H
           exact absurd H (by simp)
          rw [if_pos c56] at H
          have c56b0 : decide ((ji54)<(t361.length : Int))=true:=dt_ c56;clear c56
          obtain ⟨ji57,hji57⟩ : ∃ j_ : Int,(wrap64 (5 + (wrap64 (4 * x10_4))))=j_:=⟨_,rfl⟩
          replace H : (if 0≤(ji57) then (if (ji57)<(t361.length : Int) then (if 0≤(wrap64 (6 + (wrap64 (4 * x10_4)))) then (if (wrap64 (6 + (wrap64 (4 * x10_4))))<(t361.length : Int) then (if 0≤(wrap64 (7 + (wrap64 (4 * x10_4)))) then (if (wrap64 (7 + (wrap64 (4 * x10_4))))<(t361.length : Int) then (if x370003_4.length<4398046511104 then (humusref11_Decode.l1 k4 l0 t361 (wrap64 (x10_4 + 1)) ((rd_T51 t361 1).f1) ((rd_T51 t361 2).f1) ((rd_T51 t361 3).f1) (x370003_4++[(⟨(rd_T51 t361 (ji57)).f1,(rd_T51 t361 (ji54)).f1,(rd_T51 t361 (wrap64 (6 + (wrap64 (4 * x10_4))))).f1,(rd_T51 t361 (wrap64 (7 + (wrap64 (4 * x10_4))))).f1⟩ : S56)])) else (none)) else (none)) else (none)) else (none)) else (none)) else (none)) else (none))=some (r1,r2,r3,r4,r5):=by first|(rw [hji57] at H;exact H)|(simp only [hji57] at H ⊢;exact H)
          have hji57w : (IntKind.i64.wrap (5 + (wrap64 (4 * x10_4))))=ji57:=(i64_w _).trans hji57
          by_cases c58 : 0≤(ji57)
          rotate_left
          ·rw [if_neg c58] at H
           exact absurd H (by simp)
          rw [if_pos c58] at H
          have c58b0 : decide (0≤(ji57))=true:=dt_ c58;clear c58
          by_cases c59 : (ji57)<(t361.length : Int)
          rotate_left
          ·rw [if_neg c59] at H
           exact absurd H (by simp)
          rw [if_pos c59] at H
          have c59b0 : decide ((ji57)<(t361.length : Int))=true:=dt_ c59;clear c59
          obtain ⟨ji60,hji60⟩ : ∃ j_ : Int,(wrap64 (6 + (wrap64 (4 * x10_4))))=j_:=⟨_,rfl⟩
          replace H : (if 0≤(ji60) then (if (ji60)<(t361.length : Int) then (if 0≤(wrap64 (7 + (wrap64 (4 * x10_4)))) then (if (wrap64 (7 + (wrap64 (4 * x10_4))))<(t361.length : Int) then (if x370003_4.length<4398046511104 then (humusref11_Decode.l1 k4 l0 t361 (wrap64 (x10_4 + 1)) ((rd_T51 t361 1).f1) ((rd_T51 t361 2).f1) ((rd_T51 t361 3).f1) (x370003_4++[(⟨(rd_T51 t361 (ji57)).f1,(rd_T51 t361 (ji54)).f1,(rd_T51 t361 (ji60)).f1,(rd_T51 t361 (wrap64 (7 + (wrap64 (4 * x10_4))))).f1⟩ : S56)])) else (none)) else (none)) else (none)) else (none)) else (none))=some (r1,r2,r3,r4,r5):=by first|(rw [hji60] at H;exact H)|(simp only [hji60] at H ⊢;exact H)
          have hji60w : (IntKind.i64.wrap (6 + (wrap64 (4 * x10_4))))=ji60:=(i64_w _).trans hji60
          by_cases c61 : 0≤(ji60)
          rotate_left
          ·rw [if_neg c61] at H
           exact absurd H (by simp)
          rw [if_pos c61] at H
          have c61b0 : decide (0≤(ji60))=true:=dt_ c61;clear c61
          by_cases c62 : (ji60)<(t361.length : Int)
          rotate_left
          ·rw [if_neg c62] at H
           exact absurd H (by simp)
          rw [if_pos c62] at H
          have c62b0 : decide ((ji60)<(t361.length : Int))=true:=dt_ c62;clear c62
          obtain ⟨ji63,hji63⟩ : ∃ j_ : Int,(wrap64 (7 + (wrap64 (4 * x10_4))))=j_:=⟨_,rfl⟩
          replace H : (if 0≤(ji63) then (if (ji63)<(t361.length : Int) then (if x370003_4.length<4398046511104 then (humusref11_Decode.l1 k4 l0 t361 (wrap64 (x10_4 + 1)) ((rd_T51 t361 1).f1) ((rd_T51 t361 2).f1) ((rd_T51 t361 3).f1) (x370003_4++[(⟨(rd_T51 t361 (ji57)).f1,(rd_T51 t361 (ji54)).f1,(rd_T51 t361 (ji60)).f1,(rd_T51 t361 (ji63)).f1⟩ : S56)])) else (none)) else (none)) else (none))=some (r1,r2,r3,r4,r5):=by first|(rw [hji63] at H;exact H)|(simp only [hji63] at H ⊢;exact H)
          have hji63w : (IntKind.i64.wrap (7 + (wrap64 (4 * x10_4))))=ji63:=(i64_w _).trans hji63
          by_cases c64 : 0≤(ji63)
          rotate_left
          ·rw [if_neg c64] at H
           exact absurd H (by simp)
          rw [if_pos c64] at H
          have c64b0 : decide (0≤(ji63))=true:=dt_ c64;clear c64
          by_cases c65 : (ji63)<(t361.length : Int)
          rotate_left
          ·rw [if_neg c65] at H
           exact absurd H (by simp)
          rw [if_pos c65] at H
          have c65b0 : decide ((ji63)<(t361.length : Int))=true:=dt_ c65;clear c65
          by_cases c66 : x370003_4.length<4398046511104
          rotate_left
          ·rw [if_neg c66] at H
           exact absurd H (by simp)
          rw [if_pos c66] at H
          have LMc66:=A_ c66;clear c66
          obtain ⟨y374,hy374⟩ : ∃ y_ : List (S56),y_=(x370003_4++[(⟨(rd_T51 t361 (ji57)).f1,(rd_T51 t361 (ji54)).f1,(rd_T51 t361 (ji60)).f1,(rd_T51 t361 (ji63)).f1⟩ : S56)]):=⟨_,rfl⟩
          replace H : (humusref11_Decode.l1 k4 l0 t361 (wrap64 (x10_4 + 1)) ((rd_T51 t361 1).f1) ((rd_T51 t361 2).f1) ((rd_T51 t361 3).f1) y374)=some (r1,r2,r3,r4,r5):=by first|(rw [hy374];with_reducible exact H)|(have H2_:=(Option.bind_some _ _).symm.trans H;rw [hy374];with_reducible exact H2_)|(have H2_:=(Option.bind_some _ _).symm.trans H;with_reducible exact H2_)|with_reducible exact H|(rw [hy374];exact H)|exact H
          have Ny374:=A_ hy374;clear hy374;have H':=A_ H;clear H
          try go_wp2
          have n0_:=A_ (re_ HO_6.out);have n1_:=A_ (re_ HO_370003.out);have n2_:=A_ (ke_ BK337.out);have n3_:=A_ (ke_ BK369.out);have n4_:=A_ (be_ HB.out);clear HO_6;clear HO_370003;clear BK337;clear BK369;clear HB;have HO_6:=n0_;have HO_370003:=n1_;have BK337:=n2_;have BK369:=n3_;have HB:=n4_;clear n0_ n1_ n2_ n3_ n4_
          have p370 : 0≤((ji54) : Int):=od_ (by first|(with_reducible assumption)|assumption)
          have q370 : (ji54)<(t361.length : Int):=od_ (by first|(with_reducible assumption)|assumption)
          obtain ⟨ad370,e370,hx370_0,hx370_1,hx370_2,hx370_3⟩:=at_T51 (Kd.R_reads' HO_6.out).2.2 (ji54) p370 q370
          obtain rfl : ad366=ad370:=(by injection e370)
          replace p370:=eq_true p370;replace q370:=eq_true q370
          have p371 : 0≤((ji57) : Int):=od_ (by first|(with_reducible assumption)|assumption)
          have q371 : (ji57)<(t361.length : Int):=od_ (by first|(with_reducible assumption)|assumption)
          obtain ⟨ad371,e371,hx371_0,hx371_1,hx371_2,hx371_3⟩:=at_T51 (Kd.R_reads' HO_6.out).2.2 (ji57) p371 q371
          obtain rfl : ad366=ad371:=(by injection e371)
          replace p371:=eq_true p371;replace q371:=eq_true q371
          have p372 : 0≤((ji60) : Int):=od_ (by first|(with_reducible assumption)|assumption)
          have q372 : (ji60)<(t361.length : Int):=od_ (by first|(with_reducible assumption)|assumption)
          obtain ⟨ad372,e372,hx372_0,hx372_1,hx372_2,hx372_3⟩:=at_T51 (Kd.R_reads' HO_6.out).2.2 (ji60) p372 q372
          obtain rfl : ad366=ad372:=(by injection e372)
          replace p372:=eq_true p372;replace q372:=eq_true q372
          have p373 : 0≤((ji63) : Int):=od_ (by first|(with_reducible assumption)|assumption)
          have q373 : (ji63)<(t361.length : Int):=od_ (by first|(with_reducible assumption)|assumption)
          obtain ⟨ad373,e373,hx373_0,hx373_1,hx373_2,hx373_3⟩:=at_T51 (Kd.R_reads' HO_6.out).2.2 (ji63) p373 q373
          obtain rfl : ad366=ad373:=(by injection e373)
          replace p373:=eq_true p373;replace q373:=eq_true q373
          refine start_ (n:=35) (S:=fun w'=>w'.cell? ⟨gb369,0,none⟩=some (.int .i64 ((rd_T51 t361 1).f1))∧w'.cell? ⟨gb369,1,none⟩=some (.int .i64 ((rd_T51 t361 2).f1))∧w'.cell? ⟨gb369,2,none⟩=some (.int .i64 ((rd_T51 t361 3).f1))∧w'.cell? ⟨gb369,3,none⟩=some (u370003)∧w'.cell? (ad366.add (((ji54)).toNat * 4))=some (.int .i64 ((rd_T51 t361 (ji54)).f0))∧w'.cell? ⟨(ad366.add (((ji54)).toNat * 4)).block,(ad366.add (((ji54)).toNat * 4)).off + 1,none⟩=some (.int .i64 ((rd_T51 t361 (ji54)).f1))∧w'.cell? ⟨(ad366.add (((ji54)).toNat * 4)).block,(ad366.add (((ji54)).toNat * 4)).off + 2,none⟩=some (.float .f64 ((rd_T51 t361 (ji54)).f2))∧w'.cell? ⟨(ad366.add (((ji54)).toNat * 4)).block,(ad366.add (((ji54)).toNat * 4)).off + 3,none⟩=some (.string ((rd_T51 t361 (ji54)).f3))∧w'.cell? (ad366.add (((ji57)).toNat * 4))=some (.int .i64 ((rd_T51 t361 (ji57)).f0))∧w'.cell? ⟨(ad366.add (((ji57)).toNat * 4)).block,(ad366.add (((ji57)).toNat * 4)).off + 1,none⟩=some (.int .i64 ((rd_T51 t361 (ji57)).f1))∧w'.cell? ⟨(ad366.add (((ji57)).toNat * 4)).block,(ad366.add (((ji57)).toNat * 4)).off + 2,none⟩=some (.float .f64 ((rd_T51 t361 (ji57)).f2))∧w'.cell? ⟨(ad366.add (((ji57)).toNat * 4)).block,(ad366.add (((ji57)).toNat * 4)).off + 3,none⟩=some (.string ((rd_T51 t361 (ji57)).f3))∧w'.cell? (ad366.add (((ji60)).toNat * 4))=some (.int .i64 ((rd_T51 t361 (ji60)).f0))∧w'.cell? ⟨(ad366.add (((ji60)).toNat * 4)).block,(ad366.add (((ji60)).toNat * 4)).off + 1,none⟩=some (.int .i64 ((rd_T51 t361 (ji60)).f1))∧w'.cell? ⟨(ad366.add (((ji60)).toNat * 4)).block,(ad366.add (((ji60)).toNat * 4)).off + 2,none⟩=some (.float .f64 ((rd_T51 t361 (ji60)).f2))∧w'.cell? ⟨(ad366.add (((ji60)).toNat * 4)).block,(ad366.add (((ji60)).toNat * 4)).off + 3,none⟩=some (.string ((rd_T51 t361 (ji60)).f3))∧w'.cell? (ad366.add (((ji63)).toNat * 4))=some (.int .i64 ((rd_T51 t361 (ji63)).f0))∧w'.cell? ⟨(ad366.add (((ji63)).toNat * 4)).block,(ad366.add (((ji63)).toNat * 4)).off + 1,none⟩=some (.int .i64 ((rd_T51 t361 (ji63)).f1))∧w'.cell? ⟨(ad366.add (((ji63)).toNat * 4)).block,(ad366.add (((ji63)).toNat * 4)).off + 2,none⟩=some (.float .f64 ((rd_T51 t361 (ji63)).f2))∧w'.cell? ⟨(ad366.add (((ji63)).toNat * 4)).block,(ad366.add (((ji63)).toNat * 4)).off + 3,none⟩=some (.string ((rd_T51 t361 (ji63)).f3))) (ds:=[32,34]) #[Z,Z,Z,Z,Z,Z,Z,Z,Z,Z,Z,Z,Z,Z,Z,Z,Z,Z,Z,Z,Z,Z,Z,Z,Z,Z,Z,Z,Z,Z,Z,Z,Z,Z,Z] (by kernel_rfl) rfl rfl ⟨(bc_ BK369.out 0).trans rfl,(bc_ BK369.out 1).trans rfl,(bc_ BK369.out 2).trans rfl,(bc_ BK369.out 3).trans rfl,hx370_0,hx370_1,hx370_2,hx370_3,hx371_0,hx371_1,hx371_2,hx371_3,hx372_0,hx372_1,hx372_2,hx372_3,hx373_0,hx373_1,hx373_2,hx373_3⟩ (fun hHeld=>?_);refine with_tabW humusref11_Decode.tab19 humusref11_Decode.bits19 (fun HT_ HW_=>?_)
          generalize wr.drew=w67 at HO_6 HO_370003 BK337 BK369 HB hx370_0 hx370_1 hx370_2 hx370_3 hx371_0 hx371_1 hx371_2 hx371_3 hx372_0 hx372_1 hx372_2 hx372_3 hx373_0 hx373_1 hx373_2 hx373_3 hHeld ⊢
          refine pu_ (i:=0) (N:=some 65) (v:=?_) (a':=?_) #[Y,Z,Z,Z,Z,Z,Z,Z,Z,Z,Z,Z,Z,Z,Z,Z,Z,Z,Z,Z,Z,Z,Z,Z,Z,Z,Z,Z,Z,Z,Z,Z,Z,Z,Z] rfl rfl HT_.out (by kernel_rfl) (fun _ _ _ h=>h) (by rfl) ?_ ?_ ?_;rotate_left;(intro w';go_simp;with_reducible rfl);rotate_left;(simp only [Act.put,q1_,q2_,q3_,i64_w,i32_w];rfl)
          refine pu_ (i:=2) (N:=some 67) (v:=?_) (a':=?_) #[Y,Z,Y,Z,Z,Z,Z,Z,Z,Z,Z,Z,Z,Z,Z,Z,Z,Z,Z,Z,Z,Z,Z,Z,Z,Z,Z,Z,Z,Z,Z,Z,Z,Z,Z] rfl rfl HT_.out (by kernel_rfl) (fun _ _ _ h=>h) (by rfl) ?_ ?_ ?_;rotate_left;(intro w';go_simp;with_reducible rfl);rotate_left;(simp only [Act.put,q1_,q2_,q3_,i64_w,i32_w];rfl)
          refine pu_ (i:=3) (N:=some 68) (v:=?_) (a':=?_) #[Y,Z,Y,Y,Z,Z,Z,Z,Z,Z,Z,Z,Z,Z,Z,Z,Z,Z,Z,Z,Z,Z,Z,Z,Z,Z,Z,Z,Z,Z,Z,Z,Z,Z,Z] rfl rfl HT_.out (by kernel_rfl) (fun _ _ _ h=>h) (by rfl) ?_ ?_ ?_;rotate_left;(intro w';go_simp;with_reducible rfl);rotate_left;(simp only [Act.put,q1_,q2_,q3_,i64_w,i32_w];rfl)
          refine pu_ (i:=4) (N:=some 69) (v:=?_) (a':=?_) #[Y,Z,Y,Y,Y,Z,Z,Z,Z,Z,Z,Z,Z,Z,Z,Z,Z,Z,Z,Z,Z,Z,Z,Z,Z,Z,Z,Z,Z,Z,Z,Z,Z,Z,Z] rfl rfl HT_.out (by kernel_rfl) (fun _ _ _ h=>h) (by rfl) ?_ ?_ ?_;rotate_left;(intro w';go_simp;with_reducible rfl);rotate_left;(simp only [Act.put,q1_,q2_,q3_,i64_w,i32_w];rfl)
          refine pu_ (i:=5) (N:=some 70) (v:=?_) (a':=?_) #[Y,Z,Y,Y,Y,Y,Z,Z,Z,Z,Z,Z,Z,Z,Z,Z,Z,Z,Z,Z,Z,Z,Z,Z,Z,Z,Z,Z,Z,Z,Z,Z,Z,Z,Z] rfl rfl HT_.out (by kernel_rfl) (fun _ _ _ h=>h) (by rfl) ?_ ?_ ?_;rotate_left;(intro w';go_simp;with_reducible rfl);rotate_left;(simp only [Act.put,q1_,q2_,q3_,i64_w,i32_w];rfl)
          refine pu_ (i:=6) (N:=some 71) (v:=?_) (a':=?_) #[Y,Z,Y,Y,Y,Y,Y,Z,Z,Z,Z,Z,Z,Z,Z,Z,Z,Z,Z,Z,Z,Z,Z,Z,Z,Z,Z,Z,Z,Z,Z,Z,Z,Z,Z] rfl rfl HT_.out (by kernel_rfl) (fun _ _ _ h=>h) (by rfl) ?_ ?_ ?_;rotate_left;(intro w';go_simp;with_reducible rfl);rotate_left;(simp only [Act.put,q1_,q2_,q3_,i64_w,i32_w];rfl)
          refine pu_ (i:=7) (N:=some 72) (v:=?_) (a':=?_) #[Y,Z,Y,Y,Y,Y,Y,Y,Z,Z,Z,Z,Z,Z,Z,Z,Z,Z,Z,Z,Z,Z,Z,Z,Z,Z,Z,Z,Z,Z,Z,Z,Z,Z,Z] rfl rfl HT_.out (by kernel_rfl) (fun _ _ _ h=>h) (by rfl) ?_ ?_ ?_;rotate_left;(intro w';go_simp;with_reducible rfl);rotate_left;(simp only [Act.put,q1_,q2_,q3_,i64_w,i32_w];rfl)
          refine pu_ (i:=9) (N:=some 74) (v:=?_) (a':=?_) #[Y,Z,Y,Y,Y,Y,Y,Y,Z,Y,Z,Z,Z,Z,Z,Z,Z,Z,Z,Z,Z,Z,Z,Z,Z,Z,Z,Z,Z,Z,Z,Z,Z,Z,Z] rfl rfl HT_.out (by kernel_rfl) (fun _ _ _ h=>h) (by rfl) ?_ ?_ ?_;rotate_left;(intro w';go_simp;with_reducible rfl);rotate_left;(simp only [Act.put,q1_,q2_,q3_,i64_w,i32_w];rfl)
          refine pu_ (i:=10) (N:=some 75) (v:=?_) (a':=?_) #[Y,Z,Y,Y,Y,Y,Y,Y,Z,Y,Y,Z,Z,Z,Z,Z,Z,Z,Z,Z,Z,Z,Z,Z,Z,Z,Z,Z,Z,Z,Z,Z,Z,Z,Z] rfl rfl HT_.out (by kernel_rfl) (fun _ _ _ h=>h) (by rfl) ?_ ?_ ?_;rotate_left;(intro w';go_simp;with_reducible rfl);rotate_left;(simp only [Act.put,q1_,q2_,q3_,i64_w,i32_w];rfl)
          refine pu_ (i:=11) (N:=some 76) (v:=?_) (a':=?_) #[Y,Z,Y,Y,Y,Y,Y,Y,Z,Y,Y,Y,Z,Z,Z,Z,Z,Z,Z,Z,Z,Z,Z,Z,Z,Z,Z,Z,Z,Z,Z,Z,Z,Z,Z] rfl rfl HT_.out (by kernel_rfl) (fun _ _ _ h=>h) (by rfl) ?_ ?_ ?_;rotate_left;(intro w';go_simp;with_reducible rfl);rotate_left;(simp only [Act.put,q1_,q2_,q3_,i64_w,i32_w];rfl)
          refine pu_ (i:=12) (N:=some 77) (v:=?_) (a':=?_) #[Y,Z,Y,Y,Y,Y,Y,Y,Z,Y,Y,Y,Y,Z,Z,Z,Z,Z,Z,Z,Z,Z,Z,Z,Z,Z,Z,Z,Z,Z,Z,Z,Z,Z,Z] rfl rfl HT_.out (by kernel_rfl) (fun _ _ _ h=>h) (by rfl) ?_ ?_ ?_;rotate_left;(intro w';go_simp;with_reducible rfl);rotate_left;(simp only [Act.put,q1_,q2_,q3_,i64_w,i32_w];rfl)
          refine pu_ (i:=13) (N:=some 78) (v:=?_) (a':=?_) #[Y,Z,Y,Y,Y,Y,Y,Y,Z,Y,Y,Y,Y,Y,Z,Z,Z,Z,Z,Z,Z,Z,Z,Z,Z,Z,Z,Z,Z,Z,Z,Z,Z,Z,Z] rfl rfl HT_.out (by kernel_rfl) (fun _ _ _ h=>h) (by rfl) ?_ ?_ ?_;rotate_left;(intro w';go_simp;with_reducible rfl);rotate_left;(simp only [Act.put,q1_,q2_,q3_,i64_w,i32_w];rfl)
          refine pu_ (i:=14) (N:=some 79) (v:=?_) (a':=?_) #[Y,Z,Y,Y,Y,Y,Y,Y,Z,Y,Y,Y,Y,Y,Y,Z,Z,Z,Z,Z,Z,Z,Z,Z,Z,Z,Z,Z,Z,Z,Z,Z,Z,Z,Z] rfl rfl HT_.out (by kernel_rfl) (fun _ _ _ h=>h) (by rfl) ?_ ?_ ?_;rotate_left;(intro w';go_simp;with_reducible rfl);rotate_left;(simp only [Act.put,q1_,q2_,q3_,i64_w,i32_w];rfl)
          refine pu_ (i:=16) (N:=some 81) (v:=?_) (a':=?_) #[Y,Z,Y,Y,Y,Y,Y,Y,Z,Y,Y,Y,Y,Y,Y,Z,Y,Z,Z,Z,Z,Z,Z,Z,Z,Z,Z,Z,Z,Z,Z,Z,Z,Z,Z] rfl rfl HT_.out (by kernel_rfl) (fun _ _ _ h=>h) (by rfl) ?_ ?_ ?_;rotate_left;(intro w';go_simp;with_reducible rfl);rotate_left;(simp only [Act.put,q1_,q2_,q3_,i64_w,i32_w];rfl)
          refine pu_ (i:=17) (N:=some 82) (v:=?_) (a':=?_) #[Y,Z,Y,Y,Y,Y,Y,Y,Z,Y,Y,Y,Y,Y,Y,Z,Y,Y,Z,Z,Z,Z,Z,Z,Z,Z,Z,Z,Z,Z,Z,Z,Z,Z,Z] rfl rfl HT_.out (by kernel_rfl) (fun _ _ _ h=>h) (by rfl) ?_ ?_ ?_;rotate_left;(intro w';go_simp;with_reducible rfl);rotate_left;(simp only [Act.put,q1_,q2_,q3_,i64_w,i32_w];rfl)
          refine pu_ (i:=18) (N:=some 83) (v:=?_) (a':=?_) #[Y,Z,Y,Y,Y,Y,Y,Y,Z,Y,Y,Y,Y,Y,Y,Z,Y,Y,Y,Z,Z,Z,Z,Z,Z,Z,Z,Z,Z,Z,Z,Z,Z,Z,Z] rfl rfl HT_.out (by kernel_rfl) (fun _ _ _ h=>h) (by rfl) ?_ ?_ ?_;rotate_left;(intro w';go_simp;with_reducible rfl);rotate_left;(simp only [Act.put,q1_,q2_,q3_,i64_w,i32_w];rfl)
          refine pu_ (i:=19) (N:=some 84) (v:=?_) (a':=?_) #[Y,Z,Y,Y,Y,Y,Y,Y,Z,Y,Y,Y,Y,Y,Y,Z,Y,Y,Y,Y,Z,Z,Z,Z,Z,Z,Z,Z,Z,Z,Z,Z,Z,Z,Z] rfl rfl HT_.out (by kernel_rfl) (fun _ _ _ h=>h) (by rfl) ?_ ?_ ?_;rotate_left;(intro w';go_simp;with_reducible rfl);rotate_left;(simp only [Act.put,q1_,q2_,q3_,i64_w,i32_w];rfl)
          refine pu_ (i:=20) (N:=some 85) (v:=?_) (a':=?_) #[Y,Z,Y,Y,Y,Y,Y,Y,Z,Y,Y,Y,Y,Y,Y,Z,Y,Y,Y,Y,Y,Z,Z,Z,Z,Z,Z,Z,Z,Z,Z,Z,Z,Z,Z] rfl rfl HT_.out (by kernel_rfl) (fun _ _ _ h=>h) (by rfl) ?_ ?_ ?_;rotate_left;(intro w';go_simp;with_reducible rfl);rotate_left;(simp only [Act.put,q1_,q2_,q3_,i64_w,i32_w];rfl)
          refine pu_ (i:=21) (N:=some 86) (v:=?_) (a':=?_) #[Y,Z,Y,Y,Y,Y,Y,Y,Z,Y,Y,Y,Y,Y,Y,Z,Y,Y,Y,Y,Y,Y,Z,Z,Z,Z,Z,Z,Z,Z,Z,Z,Z,Z,Z] rfl rfl HT_.out (by kernel_rfl) (fun _ _ _ h=>h) (by rfl) ?_ ?_ ?_;rotate_left;(intro w';go_simp;with_reducible rfl);rotate_left;(simp only [Act.put,q1_,q2_,q3_,i64_w,i32_w];rfl)
          refine pu_ (i:=23) (N:=some 88) (v:=?_) (a':=?_) #[Y,Z,Y,Y,Y,Y,Y,Y,Z,Y,Y,Y,Y,Y,Y,Z,Y,Y,Y,Y,Y,Y,Z,Y,Z,Z,Z,Z,Z,Z,Z,Z,Z,Z,Z] rfl rfl HT_.out (by kernel_rfl) (fun _ _ _ h=>h) (by rfl) ?_ ?_ ?_;rotate_left;(intro w';go_simp;with_reducible rfl);rotate_left;(simp only [Act.put,q1_,q2_,q3_,i64_w,i32_w];rfl)
          refine pu_ (i:=24) (N:=some 89) (v:=?_) (a':=?_) #[Y,Z,Y,Y,Y,Y,Y,Y,Z,Y,Y,Y,Y,Y,Y,Z,Y,Y,Y,Y,Y,Y,Z,Y,Y,Z,Z,Z,Z,Z,Z,Z,Z,Z,Z] rfl rfl HT_.out (by kernel_rfl) (fun _ _ _ h=>h) (by rfl) ?_ ?_ ?_;rotate_left;(intro w';go_simp;with_reducible rfl);rotate_left;(simp only [Act.put,q1_,q2_,q3_,i64_w,i32_w];rfl)
          refine pu_ (i:=25) (N:=some 90) (v:=?_) (a':=?_) #[Y,Z,Y,Y,Y,Y,Y,Y,Z,Y,Y,Y,Y,Y,Y,Z,Y,Y,Y,Y,Y,Y,Z,Y,Y,Y,Z,Z,Z,Z,Z,Z,Z,Z,Z] rfl rfl HT_.out (by kernel_rfl) (fun _ _ _ h=>h) (by rfl) ?_ ?_ ?_;rotate_left;(intro w';go_simp;with_reducible rfl);rotate_left;(simp only [Act.put,q1_,q2_,q3_,i64_w,i32_w];rfl)
          refine pu_ (i:=26) (N:=some 91) (v:=?_) (a':=?_) #[Y,Z,Y,Y,Y,Y,Y,Y,Z,Y,Y,Y,Y,Y,Y,Z,Y,Y,Y,Y,Y,Y,Z,Y,Y,Y,Y,Z,Z,Z,Z,Z,Z,Z,Z] rfl rfl HT_.out (by kernel_rfl) (fun _ _ _ h=>h) (by rfl) ?_ ?_ ?_;rotate_left;(intro w';go_simp;with_reducible rfl);rotate_left;(simp only [Act.put,q1_,q2_,q3_,i64_w,i32_w];rfl)
          refine pu_ (i:=27) (N:=some 92) (v:=?_) (a':=?_) #[Y,Z,Y,Y,Y,Y,Y,Y,Z,Y,Y,Y,Y,Y,Y,Z,Y,Y,Y,Y,Y,Y,Z,Y,Y,Y,Y,Y,Z,Z,Z,Z,Z,Z,Z] rfl rfl HT_.out (by kernel_rfl) (fun _ _ _ h=>h) (by rfl) ?_ ?_ ?_;rotate_left;(intro w';go_simp;with_reducible rfl);rotate_left;(simp only [Act.put,q1_,q2_,q3_,i64_w,i32_w];rfl)
          refine pu_ (i:=28) (N:=some 93) (v:=?_) (a':=?_) #[Y,Z,Y,Y,Y,Y,Y,Y,Z,Y,Y,Y,Y,Y,Y,Z,Y,Y,Y,Y,Y,Y,Z,Y,Y,Y,Y,Y,Y,Z,Z,Z,Z,Z,Z] rfl rfl HT_.out (by kernel_rfl) (fun _ _ _ h=>h) (by rfl) ?_ ?_ ?_;rotate_left;(intro w';go_simp;with_reducible rfl);rotate_left;(simp only [Act.put,q1_,q2_,q3_,i64_w,i32_w];rfl)
          refine ta_ (i:=1) (N:=some 66) (v:=?_) (a':=?_) #[Y,Y,Y,Y,Y,Y,Y,Y,Z,Y,Y,Y,Y,Y,Y,Z,Y,Y,Y,Y,Y,Y,Z,Y,Y,Y,Y,Y,Y,Z,Z,Z,Z,Z,Z] rfl rfl HT_.out HW_.out (by kernel_rfl) (fun _ _ _ h=>h) (by rfl) ?_ hHeld ?_ ?_;rotate_left;(rintro w' ⟨s0,s1,s2,s3,s4,s5,s6,s7,s8,s9,s10,s11,s12,s13,s14,s15,s16,s17,s18,s19⟩;go_simp;with_reducible rfl);rotate_left;(simp only [Act.put,q1_,q2_,q3_,i64_w,i32_w];rfl)
          refine ta_ (i:=8) (N:=some 73) (v:=?_) (a':=?_) #[Y,Y,Y,Y,Y,Y,Y,Y,Y,Y,Y,Y,Y,Y,Y,Z,Y,Y,Y,Y,Y,Y,Z,Y,Y,Y,Y,Y,Y,Z,Z,Z,Z,Z,Z] rfl rfl HT_.out HW_.out (by kernel_rfl) (fun _ _ _ h=>h) (by rfl) ?_ hHeld ?_ ?_;rotate_left;(rintro w' ⟨s0,s1,s2,s3,s4,s5,s6,s7,s8,s9,s10,s11,s12,s13,s14,s15,s16,s17,s18,s19⟩;go_simp;with_reducible rfl);rotate_left;(simp only [Act.put,q1_,q2_,q3_,i64_w,i32_w];rfl)
          refine ta_ (i:=15) (N:=some 80) (v:=?_) (a':=?_) #[Y,Y,Y,Y,Y,Y,Y,Y,Y,Y,Y,Y,Y,Y,Y,Y,Y,Y,Y,Y,Y,Y,Z,Y,Y,Y,Y,Y,Y,Z,Z,Z,Z,Z,Z] rfl rfl HT_.out HW_.out (by kernel_rfl) (fun _ _ _ h=>h) (by rfl) ?_ hHeld ?_ ?_;rotate_left;(rintro w' ⟨s0,s1,s2,s3,s4,s5,s6,s7,s8,s9,s10,s11,s12,s13,s14,s15,s16,s17,s18,s19⟩;go_simp;with_reducible rfl);rotate_left;(simp only [Act.put,q1_,q2_,q3_,i64_w,i32_w];rfl)
          refine ta_ (i:=22) (N:=some 87) (v:=?_) (a':=?_) #[Y,Y,Y,Y,Y,Y,Y,Y,Y,Y,Y,Y,Y,Y,Y,Y,Y,Y,Y,Y,Y,Y,Y,Y,Y,Y,Y,Y,Y,Z,Z,Z,Z,Z,Z] rfl rfl HT_.out HW_.out (by kernel_rfl) (fun _ _ _ h=>h) (by rfl) ?_ hHeld ?_ ?_;rotate_left;(rintro w' ⟨s0,s1,s2,s3,s4,s5,s6,s7,s8,s9,s10,s11,s12,s13,s14,s15,s16,s17,s18,s19⟩;go_simp;with_reducible rfl);rotate_left;(simp only [Act.put,q1_,q2_,q3_,i64_w,i32_w];rfl)
          refine ta_ (i:=29) (N:=some 94) (v:=?_) (a':=?_) #[Y,Y,Y,Y,Y,Y,Y,Y,Y,Y,Y,Y,Y,Y,Y,Y,Y,Y,Y,Y,Y,Y,Y,Y,Y,Y,Y,Y,Y,Y,Z,Z,Z,Z,Z] rfl rfl HT_.out HW_.out (by kernel_rfl) (fun _ _ _ h=>h) (by rfl) ?_ hHeld ?_ ?_;rotate_left;(rintro w' ⟨s0,s1,s2,s3,s4,s5,s6,s7,s8,s9,s10,s11,s12,s13,s14,s15,s16,s17,s18,s19⟩;go_simp;with_reducible rfl);rotate_left;(simp only [Act.put,q1_,q2_,q3_,i64_w,i32_w];rfl)
          refine pu_ (i:=30) (N:=some 95) (v:=?_) (a':=?_) #[Y,Y,Y,Y,Y,Y,Y,Y,Y,Y,Y,Y,Y,Y,Y,Y,Y,Y,Y,Y,Y,Y,Y,Y,Y,Y,Y,Y,Y,Y,Y,Z,Z,Z,Z] rfl rfl HT_.out (by kernel_rfl) (fun _ _ _ h=>h) (by rfl) ?_ ?_ ?_;rotate_left;(intro w';go_simp;with_reducible rfl);rotate_left;(simp only [Act.put,q1_,q2_,q3_,i64_w,i32_w];rfl)
          refine one_ (i:=31) (N:=some 96) #[Y,Y,Y,Y,Y,Y,Y,Y,Y,Y,Y,Y,Y,Y,Y,Y,Y,Y,Y,Y,Y,Y,Y,Y,Y,Y,Y,Y,Y,Y,Y,Y,Z,Z,Z] rfl rfl (one_of HT_.out (by kernel_rfl)) (by decide) (fun K hK=>?_)
          refine value_ (w1:=?_) (v:=?_) (by rfl) rfl ?_ ?_
          rotate_left 2
          ·go_simp
           constructor
           ·rfl
           ·rfl
          refine hK.out _ _ ⟨(bc_ (ka_ BK369.out _) 0).trans rfl,(bc_ (ka_ BK369.out _) 1).trans rfl,(bc_ (ka_ BK369.out _) 2).trans rfl,(bc_ (ka_ BK369.out _) 3).trans rfl,(World.cell?_alloc_lt _ _ _ (wb_ _ _ (hHeld.2.2.2.2.1))).trans (hHeld.2.2.2.2.1),(World.cell?_alloc_lt _ _ _ (wb_ _ _ (hHeld.2.2.2.2.2.1))).trans (hHeld.2.2.2.2.2.1),(World.cell?_alloc_lt _ _ _ (wb_ _ _ (hHeld.2.2.2.2.2.2.1))).trans (hHeld.2.2.2.2.2.2.1),(World.cell?_alloc_lt _ _ _ (wb_ _ _ (hHeld.2.2.2.2.2.2.2.1))).trans (hHeld.2.2.2.2.2.2.2.1),(World.cell?_alloc_lt _ _ _ (wb_ _ _ (hHeld.2.2.2.2.2.2.2.2.1))).trans (hHeld.2.2.2.2.2.2.2.2.1),(World.cell?_alloc_lt _ _ _ (wb_ _ _ (hHeld.2.2.2.2.2.2.2.2.2.1))).trans (hHeld.2.2.2.2.2.2.2.2.2.1),(World.cell?_alloc_lt _ _ _ (wb_ _ _ (hHeld.2.2.2.2.2.2.2.2.2.2.1))).trans (hHeld.2.2.2.2.2.2.2.2.2.2.1),(World.cell?_alloc_lt _ _ _ (wb_ _ _ (hHeld.2.2.2.2.2.2.2.2.2.2.2.1))).trans (hHeld.2.2.2.2.2.2.2.2.2.2.2.1),(World.cell?_alloc_lt _ _ _ (wb_ _ _ (hHeld.2.2.2.2.2.2.2.2.2.2.2.2.1))).trans (hHeld.2.2.2.2.2.2.2.2.2.2.2.2.1),(World.cell?_alloc_lt _ _ _ (wb_ _ _ (hHeld.2.2.2.2.2.2.2.2.2.2.2.2.2.1))).trans (hHeld.2.2.2.2.2.2.2.2.2.2.2.2.2.1),(World.cell?_alloc_lt _ _ _ (wb_ _ _ (hHeld.2.2.2.2.2.2.2.2.2.2.2.2.2.2.1))).trans (hHeld.2.2.2.2.2.2.2.2.2.2.2.2.2.2.1),(World.cell?_alloc_lt _ _ _ (wb_ _ _ (hHeld.2.2.2.2.2.2.2.2.2.2.2.2.2.2.2.1))).trans (hHeld.2.2.2.2.2.2.2.2.2.2.2.2.2.2.2.1),(World.cell?_alloc_lt _ _ _ (wb_ _ _ (hHeld.2.2.2.2.2.2.2.2.2.2.2.2.2.2.2.2.1))).trans (hHeld.2.2.2.2.2.2.2.2.2.2.2.2.2.2.2.2.1),(World.cell?_alloc_lt _ _ _ (wb_ _ _ (hHeld.2.2.2.2.2.2.2.2.2.2.2.2.2.2.2.2.2.1))).trans (hHeld.2.2.2.2.2.2.2.2.2.2.2.2.2.2.2.2.2.1),(World.cell?_alloc_lt _ _ _ (wb_ _ _ (hHeld.2.2.2.2.2.2.2.2.2.2.2.2.2.2.2.2.2.2.1))).trans (hHeld.2.2.2.2.2.2.2.2.2.2.2.2.2.2.2.2.2.2.1),(World.cell?_alloc_lt _ _ _ (wb_ _ _ (hHeld.2.2.2.2.2.2.2.2.2.2.2.2.2.2.2.2.2.2.2))).trans (hHeld.2.2.2.2.2.2.2.2.2.2.2.2.2.2.2.2.2.2.2)⟩ (fun hHeld=>?_)
          clear hK K
          refine norm_ (a':=?_) ?_ ?_;rotate_left;(show Act.put _ (some 96) _=_;simp only [Act.put,q1_,q2_,q3_,i64_w,i32_w];rfl)
          refine last_ (i:=32) (N:=some 97) #[Y,Y,Y,Y,Y,Y,Y,Y,Y,Y,Y,Y,Y,Y,Y,Y,Y,Y,Y,Y,Y,Y,Y,Y,Y,Y,Y,Y,Y,Y,Y,Y,Y,Z,Z] rfl rfl (one_of HT_.out (by kernel_rfl)) (by decide) (fun K hK=>?_)
          refine Kd.R_append_step k56 (w0:=w) w.heap.size (by rfl) (.tmp 66) (.tmp 96) 24 56 (.agg #[(.int .i64 0),(.int .i64 0),(.int .i64 0),(.int .i64 0)]) 32 rfl Tryd.underlying24 info56 rfl (by decide) (by omega) u370003 x370003_4 (⟨(rd_T51 t361 (ji57)).f1,(rd_T51 t361 (ji54)).f1,(rd_T51 t361 (ji60)).f1,(rd_T51 t361 (ji63)).f1⟩ : S56) [.int .i64 ((rd_T51 t361 (ji57)).f1),.int .i64 ((rd_T51 t361 (ji54)).f1),.int .i64 ((rd_T51 t361 (ji60)).f1),.int .i64 ((rd_T51 t361 (ji63)).f1)] (fun _=>True) (fun _=>False) rfl rfl ?aP (fun _ hk=>hk.elim) ?aF ?aO ?aB ?aS ?aL ?_
          (case aP=>exact k56_mkM _ _ _ (⟨(rd_T51 t361 (ji57)).f1,(rd_T51 t361 (ji54)).f1,(rd_T51 t361 (ji60)).f1,(rd_T51 t361 (ji63)).f1⟩ : S56))
          (case aB=>exact (hb2_ HB.out GE337.out GE369.out))
          (case aF=>exact (fun _ _=>trivial))
          (case aO=>exact (by (with_reducible repeat (first|apply ra_|apply rn_|apply re_));exact HO_370003.out))
          (case aS=>exact (bz_ (hb2_ HB.out GE337.out GE369.out)))
          (case aL=>have:=LMc66.out;omega)
          intro v375 w68 ho hb hg hat;rw [← Ny374.out] at ho
          have n0_:=A_ (Kd.R_over' (by (with_reducible repeat (first|apply ra_|apply rn_|apply re_));exact HO_6.out) (Kd.R_typed (by (with_reducible repeat (first|apply ra_|apply rn_|apply re_));exact HO_370003.out)) (by decide) hg)
          have n1_:=A_ (blk_grown (g:=gb337) (o:=.cells #[.int .i64 0,.int .i64 0,.int .i64 0,.slice none 0 0] 26 (0,0)) (by exact kk_ BK337.out) hg (Kd.R_ne HO_370003.out BK337.out (by decide)))
          have n2_:=A_ (blk_grown (g:=gb369) (o:=.cells #[.int .i64 ((rd_T51 t361 1).f1),.int .i64 ((rd_T51 t361 2).f1),.int .i64 ((rd_T51 t361 3).f1),u370003] 26 (0,0)) (by exact kk_ BK369.out) hg (Kd.R_ne HO_370003.out BK369.out (by decide)))
          have n3_:=A_ (hb);have n4_:=A_ (ho);clear HO_6;clear BK337;clear BK369;clear HB;clear HO_370003;have HO_6:=n0_;have BK337:=n1_;have BK369:=n2_;have HB:=n3_;have HO376:=n4_;clear n0_ n1_ n2_ n3_ n4_;clear ho hb hg hat;obtain ⟨Ao69,co69,eo69⟩:=Kd.R_slice HO376.out
          (first|subst eo69|(injection eo69 with f1_ f2_ f3_;have f4_:=f1_.symm;have f5_:=f3_.symm;clear f1_ f2_ f3_;subst f4_;subst f5_))
          refine hK.out _ _ ?_;clear hK K
          refine norm_ (a':=?_) ?_ ?_;rotate_left;(show Act.put _ (some 97) _=_;simp only [Act.put,q1_,q2_,q3_,i64_w,i32_w];rfl)
          refine pu_ (i:=33) (N:=some 98) (v:=?_) (a':=?_) #[Y,Y,Y,Y,Y,Y,Y,Y,Y,Y,Y,Y,Y,Y,Y,Y,Y,Y,Y,Y,Y,Y,Y,Y,Y,Y,Y,Y,Y,Y,Y,Y,Y,Y,Z] rfl rfl HT_.out (by kernel_rfl) (fun _ _ _ h=>h) (by rfl) ?_ ?_ ?_;rotate_left;(intro w';go_simp;with_reducible rfl);rotate_left;(simp only [Act.put,q1_,q2_,q3_,i64_w,i32_w];rfl)
          refine last_ (i:=34) (N:=none) #[Y,Y,Y,Y,Y,Y,Y,Y,Y,Y,Y,Y,Y,Y,Y,Y,Y,Y,Y,Y,Y,Y,Y,Y,Y,Y,Y,Y,Y,Y,Y,Y,Y,Y,Y] rfl rfl (one_of HT_.out (by kernel_rfl)) (by decide) (fun K hK=>?_)
          have hs70 : w68.cell? ⟨gb369,3,none⟩=some (u370003):=(bc_ BK369.out 3).trans rfl;have hfs70:=bf_ BK369.out 3;have hns70_0:=NB337_369.out;have hms70_0:=NB369_337.out
          refine skip_ (w1:=?_) (by rfl) rfl ?_ ?_
          rotate_left
          ·go_simp
           rfl
          refine hK.out _ _ ?_;clear hK K;refine done_ (done_of HT_.out (by kernel_rfl)) ?_
          try go_wp2
          go_roundg k4
          case measure=>have:=HJ16.out;have:=HK2.out;have:=HJ36.out;have:=HK4.out;omega
          case rel=>exact ⟨(wrap64 (x10_4 + 1)),(y374),(.slice Ao69 y374.length co69),(by first|rfl|(simp;done)|(simp [*];done)),H',⟨by have:=HJ16.out;have:=HK2.out;have:=HJ36.out;have:=HK4.out;omega⟩,⟨by (with_reducible repeat (first|apply ra_|apply rn_|apply re_));exact Kd.R_mono (rf_ (p:=⟨gb369,3,none⟩) (Kd.R_types HO_6.out BK369.out (by decide)) (fun _ hk=>hk.2) (.slice Ao69 y374.length co69)) (fun _ hk=>trivial)⟩,⟨by (with_reducible repeat (first|apply ra_|apply rn_|apply re_));exact Kd.R_mono (rf_ (p:=⟨gb369,3,none⟩) (Kd.R_types HO376.out BK369.out (by decide)) (fun _ hk=>hk.2) (.slice Ao69 y374.length co69)) (fun _ hk=>trivial)⟩,⟨by refine kk_ ?_;refine blk_far ?_ NB337_369.out _;exact kk_ BK337.out⟩,⟨by refine kk_ ?_;refine blk_put (cs:=#[.int .i64 ((rd_T51 t361 1).f1),.int .i64 ((rd_T51 t361 2).f1),.int .i64 ((rd_T51 t361 3).f1),u370003]) ?_ 3 _ rfl;exact kk_ BK369.out⟩,⟨hb2_ HB.out GE337.out GE369.out⟩⟩
         rw [if_neg c53] at H
         have c53b0 : decide (x10_4<12)=false:=df_ c53;clear c53;replace H:=Option.bind_eq_some_iff.mp H;obtain ⟨t377,A710,H⟩:=H
         replace H : (if t377=true then ((humusref11_Page.f k4 ((rd_T51 t361 1).f1) ((rd_T51 t361 2).f1) ((rd_T51 t361 3).f1) x370003_4).bind fun t378=>(if (strOfNums t378).toList=(strOfNums l0).toList then (some (((rd_T51 t361 1).f1),((rd_T51 t361 2).f1),((rd_T51 t361 3).f1),x370003_4,0)) else (some (0,0,0,([] : List (S56)),4)))) else (some (0,0,0,([] : List (S56)),4)))=some (r1,r2,r3,r4,r5):=H
         have A71:=A_ A710;clear A710
         by_cases c72 : t377=true
         rotate_left
         ·replace c72:=Bool.eq_false_iff.mpr c72
          subst c72
          have H1 : (some (0,0,0,([] : List (S56)),4))=some (r1,r2,r3,r4,r5):=by rw [if_neg (show ¬ (false=true) by decide)] at H;exact H
          clear H;have H:=H1;clear H1
          simp only [Option.some.injEq,Prod.mk.injEq] at H
          obtain ⟨rfl,rfl,rfl,rfl,rfl⟩:=H
          try go_wp2
          have n0_:=A_ (re_ HO_6.out);have n1_:=A_ (re_ HO_370003.out);have n2_:=A_ (ke_ BK337.out);have n3_:=A_ (ke_ BK369.out);have n4_:=A_ (be_ HB.out);clear HO_6;clear HO_370003;clear BK337;clear BK369;clear HB;have HO_6:=n0_;have HO_370003:=n1_;have BK337:=n2_;have BK369:=n3_;have HB:=n4_;clear n0_ n1_ n2_ n3_ n4_;obtain ⟨Ao91,co91,eo91⟩:=Kd.R_slice HO_370003.out
          (first|subst eo91|(injection eo91 with f1_ f2_ f3_;have f4_:=f1_.symm;have f5_:=f3_.symm;clear f1_ f2_ f3_;subst f4_;subst f5_))
          refine start_ (n:=11) (S:=fun w'=>w'.cell? ⟨gb369,0,none⟩=some (.int .i64 ((rd_T51 t361 1).f1))∧w'.cell? ⟨gb369,1,none⟩=some (.int .i64 ((rd_T51 t361 2).f1))∧w'.cell? ⟨gb369,2,none⟩=some (.int .i64 ((rd_T51 t361 3).f1))∧w'.cell? ⟨gb369,3,none⟩=some (.slice Ao91 x370003_4.length co91)) (ds:=[1]) #[Z,Z,Z,Z,Z,Z,Z,Z,Z,Z,Z] (by kernel_rfl) rfl rfl ⟨(bc_ BK369.out 0).trans rfl,(bc_ BK369.out 1).trans rfl,(bc_ BK369.out 2).trans rfl,(bc_ BK369.out 3).trans rfl⟩ (fun hHeld=>?_);refine with_tabW humusref11_Decode.tab20 humusref11_Decode.bits20 (fun HT_ HW_=>?_)
          generalize wr.drew=w90 at HO_6 HO_370003 BK337 BK369 HB hHeld ⊢
          refine ta_ (i:=0) (N:=some 99) (v:=?_) (a':=?_) #[Y,Z,Z,Z,Z,Z,Z,Z,Z,Z,Z] rfl rfl HT_.out HW_.out (by kernel_rfl) (fun _ _ _ h=>h) (by rfl) ?_ hHeld ?_ ?_;rotate_left;(rintro w' ⟨s0,s1,s2,s3⟩;go_simp;with_reducible rfl);rotate_left;(simp only [Act.put,q1_,q2_,q3_,i64_w,i32_w];rfl)
          refine last_ (i:=1) (N:=some 100) #[Y,Y,Z,Z,Z,Z,Z,Z,Z,Z,Z] rfl rfl (one_of HT_.out (by kernel_rfl)) (by decide) (fun K hK=>?_)
          refine goes_ Tryd.func12 (by kernel_rfl) rfl #[.agg #[.int .i64 ((rd_T51 t361 1).f1),.int .i64 ((rd_T51 t361 2).f1),.int .i64 ((rd_T51 t361 3).f1),.slice Ao91 x370003_4.length co91]] (by rfl) rfl rfl (by (try simp only [List.map_toArray,List.map_cons,List.map_nil]);first|done|rfl|(simp only [List.length_drop,List.length_take];rfl)) ?_
          with_reducible refine (humusref11_May.calls k4 ((rd_T51 t361 1).f1) ((rd_T51 t361 2).f1) ((rd_T51 t361 3).f1) _ _ x370003_4 false _ ?side1 ?side2 A71.out).mono ?_
          (case side1=>repeat (first|exact (Kd.R_reads' HO_370003.out).2.2|(with_reducible refine Kd.C_alloc ?_ _)|(with_reducible refine Kd.C_drewN ?_ _)|(with_reducible refine Kd.C_drew ?_)))
          (case side2=>exact (Kd.R_reads' HO_370003.out).2.1)
          rintro e w92 ⟨rfl,hb⟩;refine ⟨_,rfl,?_⟩
          have n0_:=A_ (Kd.R_below (by (with_reducible repeat (first|apply ra_|apply rn_|apply re_));exact HO_6.out) hb)
          have n1_:=A_ (Kd.R_below (by (with_reducible repeat (first|apply ra_|apply rn_|apply re_));exact HO_370003.out) hb)
          have n2_:=A_ (bx_ BK337.out kf_ hb);have n3_:=A_ (bx_ BK369.out kf_ hb);have n4_:=A_ (bp_ (hb2_ HB.out GE337.out GE369.out) hb);clear HO_6;clear HO_370003;clear BK337;clear BK369;clear HB;have HO_6:=n0_;have HO_370003:=n1_;have BK337:=n2_;have BK369:=n3_;have HB:=n4_;clear n0_ n1_ n2_ n3_ n4_;(try clear hb);(try clear hb2);(try clear hk);(try clear hi);refine hK.out _ _ ?_;clear hK K
          refine norm_ (a':=?_) ?_ ?_;rotate_left;(show Act.put _ (some 100) _=_;simp only [Act.put,q1_,q2_,q3_,i64_w,i32_w];rfl)
          refine pu_ (i:=2) (N:=some 101) (v:=?_) (a':=?_) #[Y,Y,Y,Z,Z,Z,Z,Z,Z,Z,Z] rfl rfl HT_.out (by kernel_rfl) (fun _ _ _ h=>h) (by rfl) ?_ ?_ ?_;rotate_left;(intro w';go_simp;with_reducible rfl);rotate_left;(simp only [Act.put,q1_,q2_,q3_,i64_w,i32_w];rfl)
          refine pu_ (i:=3) (N:=some 102) (v:=?_) (a':=?_) #[Y,Y,Y,Y,Z,Z,Z,Z,Z,Z,Z] rfl rfl HT_.out (by kernel_rfl) (fun _ _ _ h=>h) (by rfl) ?_ ?_ ?_;rotate_left;(intro w';go_simp;with_reducible rfl);rotate_left;(simp only [Act.put,q1_,q2_,q3_,i64_w,i32_w];rfl)
          refine pv_ (i:=4) (N:=some 103) (a':=?_) #[Y,Y,Y,Y,Y,Z,Z,Z,Z,Z,Z] rfl rfl HT_.out (by kernel_rfl) (fun _ _ _ h=>h) (by rfl) ?_ ?_;rotate_left;(simp only [Act.put,q1_,q2_,q3_,i64_w,i32_w];rfl)
          refine pv_ (i:=5) (N:=some 104) (a':=?_) #[Y,Y,Y,Y,Y,Y,Z,Z,Z,Z,Z] rfl rfl HT_.out (by kernel_rfl) (fun _ _ _ h=>h) (by rfl) ?_ ?_;rotate_left;(simp only [Act.put,q1_,q2_,q3_,i64_w,i32_w];rfl)
          refine pv_ (i:=6) (N:=some 105) (a':=?_) #[Y,Y,Y,Y,Y,Y,Y,Z,Z,Z,Z] rfl rfl HT_.out (by kernel_rfl) (fun _ _ _ h=>h) (by rfl) ?_ ?_;rotate_left;(simp only [Act.put,q1_,q2_,q3_,i64_w,i32_w];rfl)
          refine pv_ (i:=7) (N:=some 106) (a':=?_) #[Y,Y,Y,Y,Y,Y,Y,Y,Z,Z,Z] rfl rfl HT_.out (by kernel_rfl) (fun _ _ _ h=>h) (by rfl) ?_ ?_;rotate_left;(simp only [Act.put,q1_,q2_,q3_,i64_w,i32_w];rfl)
          refine pv_ (i:=8) (N:=some 107) (a':=?_) #[Y,Y,Y,Y,Y,Y,Y,Y,Y,Z,Z] rfl rfl HT_.out (by kernel_rfl) (fun _ _ _ h=>h) (by rfl) ?_ ?_;rotate_left;(simp only [Act.put,q1_,q2_,q3_,i64_w,i32_w];rfl)
          refine pv_ (i:=9) (N:=some 108) (a':=?_) #[Y,Y,Y,Y,Y,Y,Y,Y,Y,Y,Z] rfl rfl HT_.out (by kernel_rfl) (fun _ _ _ h=>h) (by rfl) ?_ ?_;rotate_left;(simp only [Act.put,q1_,q2_,q3_,i64_w,i32_w];rfl)
          refine pu_ (i:=10) (N:=some 109) (v:=?_) (a':=?_) #[Y,Y,Y,Y,Y,Y,Y,Y,Y,Y,Y] rfl rfl HT_.out (by kernel_rfl) (fun _ _ _ h=>h) (by rfl) ?_ ?_ ?_;rotate_left;(intro w';go_simp;with_reducible rfl);rotate_left;(simp only [Act.put,q1_,q2_,q3_,i64_w,i32_w];rfl)
          refine done_ (done_of HT_.out (by kernel_rfl)) ?_;have hnb93:=NB337_369.out;have hnc93:=NB369_337.out;obtain ⟨z94_0,z94_1,z94_2,z94_3⟩:=blkc_4 BK337.out;obtain ⟨y94_0,y94_1,y94_2,y94_3⟩:=blkz_4 BK337.out
          try go_wp2
          refine bodyPost_ret (results_ct rfl _ _ gb337 26 #[.int .i64 0,.int .i64 0,.int .i64 0,.slice none 0 0] (0,0) _ rfl (by refine kk_ ?_;apply blkf_4_0_3;exact kk_ BK337.out) Tryd.underlying26 rfl (by kernel_rfl)) rfl ?_
          exact ⟨_,by first|rfl|(simp [errW_none,errW_some] <;> rfl)|(simp [*,errW_none,errW_some] <;> rfl),by first|exact Kd.R_nil _ _ _ _ _|exact Kd.N_nil _ _ _ _ _|exact Kd.V_nil _ _ _ _ _|exact Kd.Q_nil _ _ _ _ _|exact Kd.S_nil _ _ _ _ _,hb2_ HB.out GE337.out GE369.out⟩
         subst c72
         have H1 : ((humusref11_Page.f k4 ((rd_T51 t361 1).f1) ((rd_T51 t361 2).f1) ((rd_T51 t361 3).f1) x370003_4).bind fun t378=>(if (strOfNums t378).toList=(strOfNums l0).toList then (some (((rd_T51 t361 1).f1),((rd_T51 t361 2).f1),((rd_T51 t361 3).f1),x370003_4,0)) else (some (0,0,0,([] : List (S56)),4))))=some (r1,r2,r3,r4,r5):=by rw [if_pos rfl] at H;exact H
         clear H;have H:=H1;clear H1;replace H:=Option.bind_eq_some_iff.mp H;obtain ⟨t378,A730,H⟩:=H
         replace H : (if (strOfNums t378).toList=(strOfNums l0).toList then (some (((rd_T51 t361 1).f1),((rd_T51 t361 2).f1),((rd_T51 t361 3).f1),x370003_4,0)) else (some (0,0,0,([] : List (S56)),4)))=some (r1,r2,r3,r4,r5):=H
         have A73:=A_ A730;clear A730
         by_cases c74 : (strOfNums t378).toList=(strOfNums l0).toList
         rotate_left
         ·rw [if_neg c74] at H
          have c74b0 : ((strOfNums t378).toList == (strOfNums l0).toList)=false:=beq_eq_false_iff_ne.mpr c74;have c74b1 : ((strOfNums t378).toList != (strOfNums l0).toList)=true:=bne_iff_ne.mpr c74
          simp only [Option.some.injEq,Prod.mk.injEq] at H
          obtain ⟨rfl,rfl,rfl,rfl,rfl⟩:=H
          try go_wp2
          have n0_:=A_ (re_ HO_6.out);have n1_:=A_ (re_ HO_370003.out);have n2_:=A_ (ke_ BK337.out);have n3_:=A_ (ke_ BK369.out);have n4_:=A_ (be_ HB.out);clear HO_6;clear HO_370003;clear BK337;clear BK369;clear HB;have HO_6:=n0_;have HO_370003:=n1_;have BK337:=n2_;have BK369:=n3_;have HB:=n4_;clear n0_ n1_ n2_ n3_ n4_;obtain ⟨Ao84,co84,eo84⟩:=Kd.R_slice HO_370003.out
          (first|subst eo84|(injection eo84 with f1_ f2_ f3_;have f4_:=f1_.symm;have f5_:=f3_.symm;clear f1_ f2_ f3_;subst f4_;subst f5_))
          refine start_ (n:=11) (S:=fun w'=>w'.cell? ⟨gb369,0,none⟩=some (.int .i64 ((rd_T51 t361 1).f1))∧w'.cell? ⟨gb369,1,none⟩=some (.int .i64 ((rd_T51 t361 2).f1))∧w'.cell? ⟨gb369,2,none⟩=some (.int .i64 ((rd_T51 t361 3).f1))∧w'.cell? ⟨gb369,3,none⟩=some (.slice Ao84 x370003_4.length co84)∧(convert 22 9 (.slice A0 l0.length c0)).run Tryd.prog w'=.ok (.string (strOfNums l0)) w') (ds:=[]) #[Z,Z,Z,Z,Z,Z,Z,Z,Z,Z,Z] (by kernel_rfl) rfl rfl ⟨(bc_ BK369.out 0).trans rfl,(bc_ BK369.out 1).trans rfl,(bc_ BK369.out 2).trans rfl,(bc_ BK369.out 3).trans rfl,Kd.C_string (P:=Tryd.prog) (A:=A0) (c:=c0) Tryd.underlying22 Tryd.underlying5 Tryd.underlying9 (Kd.C_below HR0.out HB.out)⟩ (fun hHeld=>?_);refine with_tabW humusref11_Decode.tab20 humusref11_Decode.bits20 (fun HT_ HW_=>?_)
          generalize wr.drew=w83 at HO_6 HO_370003 BK337 BK369 HB hHeld ⊢
          refine ta_ (i:=0) (N:=some 99) (v:=?_) (a':=?_) #[Y,Z,Z,Z,Z,Z,Z,Z,Z,Z,Z] rfl rfl HT_.out HW_.out (by kernel_rfl) (fun _ _ _ h=>h) (by rfl) ?_ hHeld ?_ ?_;rotate_left;(rintro w' ⟨s0,s1,s2,s3,s4⟩;go_simp;with_reducible rfl);rotate_left;(simp only [Act.put,q1_,q2_,q3_,i64_w,i32_w];rfl)
          refine one_ (i:=1) (N:=some 100) #[Y,Y,Z,Z,Z,Z,Z,Z,Z,Z,Z] rfl rfl (one_of HT_.out (by kernel_rfl)) (by decide) (fun K hK=>?_)
          refine goes_ Tryd.func12 (by kernel_rfl) rfl #[.agg #[.int .i64 ((rd_T51 t361 1).f1),.int .i64 ((rd_T51 t361 2).f1),.int .i64 ((rd_T51 t361 3).f1),.slice Ao84 x370003_4.length co84]] (by rfl) rfl rfl (by (try simp only [List.map_toArray,List.map_cons,List.map_nil]);first|done|rfl|(simp only [List.length_drop,List.length_take];rfl)) ?_
          with_reducible refine (humusref11_May.calls k4 ((rd_T51 t361 1).f1) ((rd_T51 t361 2).f1) ((rd_T51 t361 3).f1) _ _ x370003_4 true _ ?side1 ?side2 A71.out).mono ?_
          (case side1=>repeat (first|exact (Kd.R_reads' HO_370003.out).2.2|(with_reducible refine Kd.C_alloc ?_ _)|(with_reducible refine Kd.C_drewN ?_ _)|(with_reducible refine Kd.C_drew ?_)))
          (case side2=>exact (Kd.R_reads' HO_370003.out).2.1)
          rintro e w85 ⟨rfl,hb⟩;refine ⟨_,rfl,?_⟩
          have n0_:=A_ (Kd.R_below (by (with_reducible repeat (first|apply ra_|apply rn_|apply re_));exact HO_6.out) hb)
          have n1_:=A_ (Kd.R_below (by (with_reducible repeat (first|apply ra_|apply rn_|apply re_));exact HO_370003.out) hb)
          have n2_:=A_ (bx_ BK337.out kf_ hb);have n3_:=A_ (bx_ BK369.out kf_ hb);have n4_:=A_ (bp_ (hb2_ HB.out GE337.out GE369.out) hb);clear HO_6;clear HO_370003;clear BK337;clear BK369;clear HB;have HO_6:=n0_;have HO_370003:=n1_;have BK337:=n2_;have BK369:=n3_;have HB:=n4_;clear n0_ n1_ n2_ n3_ n4_;(try clear hb);(try clear hb2);(try clear hk);(try clear hi)
          refine hK.out _ _ ⟨(bc_ BK369.out 0).trans rfl,(bc_ BK369.out 1).trans rfl,(bc_ BK369.out 2).trans rfl,(bc_ BK369.out 3).trans rfl,Kd.C_string (P:=Tryd.prog) (A:=A0) (c:=c0) Tryd.underlying22 Tryd.underlying5 Tryd.underlying9 (Kd.C_below HR0.out HB.out)⟩ (fun hHeld=>?_)
          clear hK K
          refine norm_ (a':=?_) ?_ ?_;rotate_left;(show Act.put _ (some 100) _=_;simp only [Act.put,q1_,q2_,q3_,i64_w,i32_w];rfl)
          refine pu_ (i:=2) (N:=some 101) (v:=?_) (a':=?_) #[Y,Y,Y,Z,Z,Z,Z,Z,Z,Z,Z] rfl rfl HT_.out (by kernel_rfl) (fun _ _ _ h=>h) (by rfl) ?_ ?_ ?_;rotate_left;(intro w';go_simp;with_reducible rfl);rotate_left;(simp only [Act.put,q1_,q2_,q3_,i64_w,i32_w];rfl)
          refine pu_ (i:=3) (N:=some 102) (v:=?_) (a':=?_) #[Y,Y,Y,Y,Z,Z,Z,Z,Z,Z,Z] rfl rfl HT_.out (by kernel_rfl) (fun _ _ _ h=>h) (by rfl) ?_ ?_ ?_;rotate_left;(intro w';go_simp;with_reducible rfl);rotate_left;(simp only [Act.put,q1_,q2_,q3_,i64_w,i32_w];rfl)
          refine pu_ (i:=7) (N:=some 106) (v:=?_) (a':=?_) #[Y,Y,Y,Y,Z,Z,Z,Y,Z,Z,Z] rfl rfl HT_.out (by kernel_rfl) (fun _ _ _ h=>h) (by rfl) ?_ ?_ ?_;rotate_left;(intro w';go_simp;with_reducible rfl);rotate_left;(simp only [Act.put,q1_,q2_,q3_,i64_w,i32_w];rfl)
          refine ta_ (i:=4) (N:=some 103) (v:=?_) (a':=?_) #[Y,Y,Y,Y,Y,Z,Z,Y,Z,Z,Z] rfl rfl HT_.out HW_.out (by kernel_rfl) (fun _ _ _ h=>h) (by rfl) ?_ hHeld ?_ ?_;rotate_left;(rintro w' ⟨s0,s1,s2,s3,s4⟩;go_simp;with_reducible rfl);rotate_left;(simp only [Act.put,q1_,q2_,q3_,i64_w,i32_w];rfl)
          refine ta_ (i:=8) (N:=some 107) (v:=?_) (a':=?_) #[Y,Y,Y,Y,Y,Z,Z,Y,Y,Z,Z] rfl rfl HT_.out HW_.out (by kernel_rfl) (fun _ _ _ h=>h) (by rfl) ?_ hHeld ?_ ?_;rotate_left;(rintro w' ⟨s0,s1,s2,s3,s4⟩;go_simp;with_reducible rfl);rotate_left;(simp only [Act.put,q1_,q2_,q3_,i64_w,i32_w];rfl)
          refine one_ (i:=5) (N:=some 104) #[Y,Y,Y,Y,Y,Y,Z,Y,Y,Z,Z] rfl rfl (one_of HT_.out (by kernel_rfl)) (by decide) (fun K hK=>?_)
          refine goes_ Tryd.func17 (by kernel_rfl) rfl #[.agg #[.int .i64 ((rd_T51 t361 1).f1),.int .i64 ((rd_T51 t361 2).f1),.int .i64 ((rd_T51 t361 3).f1),.slice Ao84 x370003_4.length co84]] (by rfl) rfl rfl (by (try simp only [List.map_toArray,List.map_cons,List.map_nil]);first|done|rfl|(simp only [List.length_drop,List.length_take];rfl)) ?_
          with_reducible refine (humusref11_Page.calls k4 ((rd_T51 t361 1).f1) ((rd_T51 t361 2).f1) ((rd_T51 t361 3).f1) _ _ x370003_4 t378 _ ?side1 ?side2 A73.out).mono ?_
          (case side1=>repeat (first|exact (Kd.R_reads' HO_370003.out).2.2|(with_reducible refine Kd.C_alloc ?_ _)|(with_reducible refine Kd.C_drewN ?_ _)|(with_reducible refine Kd.C_drew ?_)))
          (case side2=>exact (Kd.R_reads' HO_370003.out).2.1)
          rintro e w86 ⟨v379,rfl,ho0,hb⟩;refine ⟨_,rfl,?_⟩
          have n0_:=A_ (Kd.R_below (by (with_reducible repeat (first|apply ra_|apply rn_|apply re_));exact HO_6.out) hb)
          have n1_:=A_ (Kd.R_below (by (with_reducible repeat (first|apply ra_|apply rn_|apply re_));exact HO_370003.out) hb)
          have n2_:=A_ (Kd.R_lower ho0 (bz_ (hb2_ HB.out GE337.out GE369.out)));have n3_:=A_ (bx_ BK337.out kf_ hb);have n4_:=A_ (bx_ BK369.out kf_ hb);have n5_:=A_ (bp_ (hb2_ HB.out GE337.out GE369.out) hb);clear HO_6;clear HO_370003;clear BK337;clear BK369;clear HB;have HO_6:=n0_;have HO_370003:=n1_;have HO380:=n2_;have BK337:=n3_;have BK369:=n4_;have HB:=n5_;clear n0_ n1_ n2_ n3_ n4_ n5_;(try clear hb);(try clear hb2);(try clear hk);(try clear hi);(try clear ho0)
          refine hK.out _ _ ⟨(bc_ BK369.out 0).trans rfl,(bc_ BK369.out 1).trans rfl,(bc_ BK369.out 2).trans rfl,(bc_ BK369.out 3).trans rfl,Kd.C_string (P:=Tryd.prog) (A:=A0) (c:=c0) Tryd.underlying22 Tryd.underlying5 Tryd.underlying9 (Kd.C_below HR0.out HB.out)⟩ (fun hHeld=>?_)
          clear hK K
          refine norm_ (a':=?_) ?_ ?_;rotate_left;(show Act.put _ (some 104) _=_;simp only [Act.put,q1_,q2_,q3_,i64_w,i32_w];rfl)
          refine one_ (i:=6) (N:=some 105) #[Y,Y,Y,Y,Y,Y,Y,Y,Y,Z,Z] rfl rfl (one_of HT_.out (by kernel_rfl)) (by decide) (fun K hK=>?_)
          have hcv87:=own_string (P:=Tryd.prog) Tryd.underlying22 Tryd.underlying5 Tryd.underlying9 (Kd.own_of_R HO380.out)
          refine value_ (w1:=?_) (v:=?_) (by rfl) rfl ?_ ?_
          rotate_left 2
          ·go_simp
           constructor
           ·rfl
           ·rfl
          clear hcv87
          refine hK.out _ _ ⟨(bc_ BK369.out 0).trans rfl,(bc_ BK369.out 1).trans rfl,(bc_ BK369.out 2).trans rfl,(bc_ BK369.out 3).trans rfl,Kd.C_string (P:=Tryd.prog) (A:=A0) (c:=c0) Tryd.underlying22 Tryd.underlying5 Tryd.underlying9 (Kd.C_below HR0.out HB.out)⟩ (fun hHeld=>?_)
          clear hK K
          refine norm_ (a':=?_) ?_ ?_;rotate_left;(show Act.put _ (some 105) _=_;simp only [Act.put,q1_,q2_,q3_,i64_w,i32_w];rfl)
          refine pu_ (i:=9) (N:=some 108) (v:=?_) (a':=?_) #[Y,Y,Y,Y,Y,Y,Y,Y,Y,Y,Z] rfl rfl HT_.out (by kernel_rfl) (fun _ _ _ h=>h) (by rfl) ?_ ?_ ?_;rotate_left;(intro w';go_simp;with_reducible rfl);rotate_left;(simp only [Act.put,q1_,q2_,q3_,i64_w,i32_w];rfl)
          refine pu_ (i:=10) (N:=some 109) (v:=?_) (a':=?_) #[Y,Y,Y,Y,Y,Y,Y,Y,Y,Y,Y] rfl rfl HT_.out (by kernel_rfl) (fun _ _ _ h=>h) (by rfl) ?_ ?_ ?_;rotate_left;(intro w';go_simp;with_reducible rfl);rotate_left;(simp only [Act.put,q1_,q2_,q3_,i64_w,i32_w];rfl)
          refine done_ (done_of HT_.out (by kernel_rfl)) ?_;have hnb88:=NB337_369.out;have hnc88:=NB369_337.out;obtain ⟨z89_0,z89_1,z89_2,z89_3⟩:=blkc_4 BK337.out;obtain ⟨y89_0,y89_1,y89_2,y89_3⟩:=blkz_4 BK337.out
          try go_wp2
          refine bodyPost_ret (results_ct rfl _ _ gb337 26 #[.int .i64 0,.int .i64 0,.int .i64 0,.slice none 0 0] (0,0) _ rfl (by refine kk_ ?_;apply blkf_4_0_3;exact kk_ BK337.out) Tryd.underlying26 rfl (by kernel_rfl)) rfl ?_
          exact ⟨_,by first|rfl|(simp [errW_none,errW_some] <;> rfl)|(simp [*,errW_none,errW_some] <;> rfl),by first|exact Kd.R_nil _ _ _ _ _|exact Kd.N_nil _ _ _ _ _|exact Kd.V_nil _ _ _ _ _|exact Kd.Q_nil _ _ _ _ _|exact Kd.S_nil _ _ _ _ _,hb2_ HB.out GE337.out GE369.out⟩
         rw [if_pos c74] at H
         have c74b0 : ((strOfNums t378).toList == (strOfNums l0).toList)=true:=beq_iff_eq.mpr c74;have c74b1 : ((strOfNums t378).toList != (strOfNums l0).toList)=false:=bne_eq_false_iff_eq.mpr c74;clear c74
         simp only [Option.some.injEq,Prod.mk.injEq] at H
         obtain ⟨rfl,rfl,rfl,rfl,rfl⟩:=H
         try go_wp2
         have n0_:=A_ (re_ HO_6.out);have n1_:=A_ (re_ HO_370003.out);have n2_:=A_ (ke_ BK337.out);have n3_:=A_ (ke_ BK369.out);have n4_:=A_ (be_ HB.out);clear HO_6;clear HO_370003;clear BK337;clear BK369;clear HB;have HO_6:=n0_;have HO_370003:=n1_;have BK337:=n2_;have BK369:=n3_;have HB:=n4_;clear n0_ n1_ n2_ n3_ n4_;obtain ⟨Ao76,co76,eo76⟩:=Kd.R_slice HO_370003.out
         (first|subst eo76|(injection eo76 with f1_ f2_ f3_;have f4_:=f1_.symm;have f5_:=f3_.symm;clear f1_ f2_ f3_;subst f4_;subst f5_))
         refine start_ (n:=11) (S:=fun w'=>w'.cell? ⟨gb369,0,none⟩=some (.int .i64 ((rd_T51 t361 1).f1))∧w'.cell? ⟨gb369,1,none⟩=some (.int .i64 ((rd_T51 t361 2).f1))∧w'.cell? ⟨gb369,2,none⟩=some (.int .i64 ((rd_T51 t361 3).f1))∧w'.cell? ⟨gb369,3,none⟩=some (.slice Ao76 x370003_4.length co76)∧(convert 22 9 (.slice A0 l0.length c0)).run Tryd.prog w'=.ok (.string (strOfNums l0)) w') (ds:=[]) #[Z,Z,Z,Z,Z,Z,Z,Z,Z,Z,Z] (by kernel_rfl) rfl rfl ⟨(bc_ BK369.out 0).trans rfl,(bc_ BK369.out 1).trans rfl,(bc_ BK369.out 2).trans rfl,(bc_ BK369.out 3).trans rfl,Kd.C_string (P:=Tryd.prog) (A:=A0) (c:=c0) Tryd.underlying22 Tryd.underlying5 Tryd.underlying9 (Kd.C_below HR0.out HB.out)⟩ (fun hHeld=>?_);refine with_tabW humusref11_Decode.tab20 humusref11_Decode.bits20 (fun HT_ HW_=>?_)
         generalize wr.drew=w75 at HO_6 HO_370003 BK337 BK369 HB hHeld ⊢
         refine ta_ (i:=0) (N:=some 99) (v:=?_) (a':=?_) #[Y,Z,Z,Z,Z,Z,Z,Z,Z,Z,Z] rfl rfl HT_.out HW_.out (by kernel_rfl) (fun _ _ _ h=>h) (by rfl) ?_ hHeld ?_ ?_;rotate_left;(rintro w' ⟨s0,s1,s2,s3,s4⟩;go_simp;with_reducible rfl);rotate_left;(simp only [Act.put,q1_,q2_,q3_,i64_w,i32_w];rfl)
         refine one_ (i:=1) (N:=some 100) #[Y,Y,Z,Z,Z,Z,Z,Z,Z,Z,Z] rfl rfl (one_of HT_.out (by kernel_rfl)) (by decide) (fun K hK=>?_)
         refine goes_ Tryd.func12 (by kernel_rfl) rfl #[.agg #[.int .i64 ((rd_T51 t361 1).f1),.int .i64 ((rd_T51 t361 2).f1),.int .i64 ((rd_T51 t361 3).f1),.slice Ao76 x370003_4.length co76]] (by rfl) rfl rfl (by (try simp only [List.map_toArray,List.map_cons,List.map_nil]);first|done|rfl|(simp only [List.length_drop,List.length_take];rfl)) ?_
         with_reducible refine (humusref11_May.calls k4 ((rd_T51 t361 1).f1) ((rd_T51 t361 2).f1) ((rd_T51 t361 3).f1) _ _ x370003_4 true _ ?side1 ?side2 A71.out).mono ?_
         (case side1=>repeat (first|exact (Kd.R_reads' HO_370003.out).2.2|(with_reducible refine Kd.C_alloc ?_ _)|(with_reducible refine Kd.C_drewN ?_ _)|(with_reducible refine Kd.C_drew ?_)))
         (case side2=>exact (Kd.R_reads' HO_370003.out).2.1)
         rintro e w77 ⟨rfl,hb⟩;refine ⟨_,rfl,?_⟩
         have n0_:=A_ (Kd.R_below (by (with_reducible repeat (first|apply ra_|apply rn_|apply re_));exact HO_6.out) hb)
         have n1_:=A_ (Kd.R_below (by (with_reducible repeat (first|apply ra_|apply rn_|apply re_));exact HO_370003.out) hb)
         have n2_:=A_ (bx_ BK337.out kf_ hb);have n3_:=A_ (bx_ BK369.out kf_ hb);have n4_:=A_ (bp_ (hb2_ HB.out GE337.out GE369.out) hb);clear HO_6;clear HO_370003;clear BK337;clear BK369;clear HB;have HO_6:=n0_;have HO_370003:=n1_;have BK337:=n2_;have BK369:=n3_;have HB:=n4_;clear n0_ n1_ n2_ n3_ n4_;(try clear hb);(try clear hb2);(try clear hk);(try clear hi)
         refine hK.out _ _ ⟨(bc_ BK369.out 0).trans rfl,(bc_ BK369.out 1).trans rfl,(bc_ BK369.out 2).trans rfl,(bc_ BK369.out 3).trans rfl,Kd.C_string (P:=Tryd.prog) (A:=A0) (c:=c0) Tryd.underlying22 Tryd.underlying5 Tryd.underlying9 (Kd.C_below HR0.out HB.out)⟩ (fun hHeld=>?_)
         clear hK K
         refine norm_ (a':=?_) ?_ ?_;rotate_left;(show Act.put _ (some 100) _=_;simp only [Act.put,q1_,q2_,q3_,i64_w,i32_w];rfl)
         refine pu_ (i:=2) (N:=some 101) (v:=?_) (a':=?_) #[Y,Y,Y,Z,Z,Z,Z,Z,Z,Z,Z] rfl rfl HT_.out (by kernel_rfl) (fun _ _ _ h=>h) (by rfl) ?_ ?_ ?_;rotate_left;(intro w';go_simp;with_reducible rfl);rotate_left;(simp only [Act.put,q1_,q2_,q3_,i64_w,i32_w];rfl)
         refine pu_ (i:=3) (N:=some 102) (v:=?_) (a':=?_) #[Y,Y,Y,Y,Z,Z,Z,Z,Z,Z,Z] rfl rfl HT_.out (by kernel_rfl) (fun _ _ _ h=>h) (by rfl) ?_ ?_ ?_;rotate_left;(intro w';go_simp;with_reducible rfl);rotate_left;(simp only [Act.put,q1_,q2_,q3_,i64_w,i32_w];rfl)
         refine pu_ (i:=7) (N:=some 106) (v:=?_) (a':=?_) #[Y,Y,Y,Y,Z,Z,Z,Y,Z,Z,Z] rfl rfl HT_.out (by kernel_rfl) (fun _ _ _ h=>h) (by rfl) ?_ ?_ ?_;rotate_left;(intro w';go_simp;with_reducible rfl);rotate_left;(simp only [Act.put,q1_,q2_,q3_,i64_w,i32_w];rfl)
         refine ta_ (i:=4) (N:=some 103) (v:=?_) (a':=?_) #[Y,Y,Y,Y,Y,Z,Z,Y,Z,Z,Z] rfl rfl HT_.out HW_.out (by kernel_rfl) (fun _ _ _ h=>h) (by rfl) ?_ hHeld ?_ ?_;rotate_left;(rintro w' ⟨s0,s1,s2,s3,s4⟩;go_simp;with_reducible rfl);rotate_left;(simp only [Act.put,q1_,q2_,q3_,i64_w,i32_w];rfl)
         refine ta_ (i:=8) (N:=some 107) (v:=?_) (a':=?_) #[Y,Y,Y,Y,Y,Z,Z,Y,Y,Z,Z] rfl rfl HT_.out HW_.out (by kernel_rfl) (fun _ _ _ h=>h) (by rfl) ?_ hHeld ?_ ?_;rotate_left;(rintro w' ⟨s0,s1,s2,s3,s4⟩;go_simp;with_reducible rfl);rotate_left;(simp only [Act.put,q1_,q2_,q3_,i64_w,i32_w];rfl)
         refine one_ (i:=5) (N:=some 104) #[Y,Y,Y,Y,Y,Y,Z,Y,Y,Z,Z] rfl rfl (one_of HT_.out (by kernel_rfl)) (by decide) (fun K hK=>?_)
         refine goes_ Tryd.func17 (by kernel_rfl) rfl #[.agg #[.int .i64 ((rd_T51 t361 1).f1),.int .i64 ((rd_T51 t361 2).f1),.int .i64 ((rd_T51 t361 3).f1),.slice Ao76 x370003_4.length co76]] (by rfl) rfl rfl (by (try simp only [List.map_toArray,List.map_cons,List.map_nil]);first|done|rfl|(simp only [List.length_drop,List.length_take];rfl)) ?_
         with_reducible refine (humusref11_Page.calls k4 ((rd_T51 t361 1).f1) ((rd_T51 t361 2).f1) ((rd_T51 t361 3).f1) _ _ x370003_4 t378 _ ?side1 ?side2 A73.out).mono ?_
         (case side1=>repeat (first|exact (Kd.R_reads' HO_370003.out).2.2|(with_reducible refine Kd.C_alloc ?_ _)|(with_reducible refine Kd.C_drewN ?_ _)|(with_reducible refine Kd.C_drew ?_)))
         (case side2=>exact (Kd.R_reads' HO_370003.out).2.1)
         rintro e w78 ⟨v379,rfl,ho0,hb⟩;refine ⟨_,rfl,?_⟩
         have n0_:=A_ (Kd.R_below (by (with_reducible repeat (first|apply ra_|apply rn_|apply re_));exact HO_6.out) hb)
         have n1_:=A_ (Kd.R_below (by (with_reducible repeat (first|apply ra_|apply rn_|apply re_));exact HO_370003.out) hb)
         have n2_:=A_ (Kd.R_lower ho0 (bz_ (hb2_ HB.out GE337.out GE369.out)));have n3_:=A_ (bx_ BK337.out kf_ hb);have n4_:=A_ (bx_ BK369.out kf_ hb);have n5_:=A_ (bp_ (hb2_ HB.out GE337.out GE369.out) hb);clear HO_6;clear HO_370003;clear BK337;clear BK369;clear HB;have HO_6:=n0_;have HO_370003:=n1_;have HO380:=n2_;have BK337:=n3_;have BK369:=n4_;have HB:=n5_;clear n0_ n1_ n2_ n3_ n4_ n5_;(try clear hb);(try clear hb2);(try clear hk);(try clear hi);(try clear ho0)
         refine hK.out _ _ ⟨(bc_ BK369.out 0).trans rfl,(bc_ BK369.out 1).trans rfl,(bc_ BK369.out 2).trans rfl,(bc_ BK369.out 3).trans rfl,Kd.C_string (P:=Tryd.prog) (A:=A0) (c:=c0) Tryd.underlying22 Tryd.underlying5 Tryd.underlying9 (Kd.C_below HR0.out HB.out)⟩ (fun hHeld=>?_)
         clear hK K
         refine norm_ (a':=?_) ?_ ?_;rotate_left;(show Act.put _ (some 104) _=_;simp only [Act.put,q1_,q2_,q3_,i64_w,i32_w];rfl)
         refine one_ (i:=6) (N:=some 105) #[Y,Y,Y,Y,Y,Y,Y,Y,Y,Z,Z] rfl rfl (one_of HT_.out (by kernel_rfl)) (by decide) (fun K hK=>?_)
         have hcv79:=own_string (P:=Tryd.prog) Tryd.underlying22 Tryd.underlying5 Tryd.underlying9 (Kd.own_of_R HO380.out)
         refine value_ (w1:=?_) (v:=?_) (by rfl) rfl ?_ ?_
         rotate_left 2
         ·go_simp
          constructor
          ·rfl
          ·rfl
         clear hcv79
         refine hK.out _ _ ⟨(bc_ BK369.out 0).trans rfl,(bc_ BK369.out 1).trans rfl,(bc_ BK369.out 2).trans rfl,(bc_ BK369.out 3).trans rfl,Kd.C_string (P:=Tryd.prog) (A:=A0) (c:=c0) Tryd.underlying22 Tryd.underlying5 Tryd.underlying9 (Kd.C_below HR0.out HB.out)⟩ (fun hHeld=>?_)
         clear hK K
         refine norm_ (a':=?_) ?_ ?_;rotate_left;(show Act.put _ (some 105) _=_;simp only [Act.put,q1_,q2_,q3_,i64_w,i32_w];rfl)
         refine pu_ (i:=9) (N:=some 108) (v:=?_) (a':=?_) #[Y,Y,Y,Y,Y,Y,Y,Y,Y,Y,Z] rfl rfl HT_.out (by kernel_rfl) (fun _ _ _ h=>h) (by rfl) ?_ ?_ ?_;rotate_left;(intro w';go_simp;with_reducible rfl);rotate_left;(simp only [Act.put,q1_,q2_,q3_,i64_w,i32_w];rfl)
         refine pu_ (i:=10) (N:=some 109) (v:=?_) (a':=?_) #[Y,Y,Y,Y,Y,Y,Y,Y,Y,Y,Y] rfl rfl HT_.out (by kernel_rfl) (fun _ _ _ h=>h) (by rfl) ?_ ?_ ?_;rotate_left;(intro w';go_simp;with_reducible rfl);rotate_left;(simp only [Act.put,q1_,q2_,q3_,i64_w,i32_w];rfl)
         refine done_ (done_of HT_.out (by kernel_rfl)) ?_;have hnb80:=NB369_337.out;have hnc80:=NB337_369.out;obtain ⟨z81_0,z81_1,z81_2,z81_3⟩:=blkc_4 BK369.out;obtain ⟨y81_0,y81_1,y81_2,y81_3⟩:=blkz_4 BK369.out;obtain ⟨z82_0,z82_1,z82_2,z82_3⟩:=blkc_4 BK337.out;obtain ⟨y82_0,y82_1,y82_2,y82_3⟩:=blkz_4 BK337.out
         try go_wp2
         refine bodyPost_ret (results_ct rfl _ _ gb337 26 #[.int .i64 ((rd_T51 t361 1).f1),.int .i64 ((rd_T51 t361 2).f1),.int .i64 ((rd_T51 t361 3).f1),.slice Ao76 x370003_4.length co76] (0,0) _ rfl (by refine kk_ ?_;apply blkf_4_0_3;exact kk_ BK337.out) Tryd.underlying26 rfl (by kernel_rfl)) rfl ?_
         exact ⟨_,by first|rfl|(simp [errW_none,errW_some] <;> rfl)|(simp [*,errW_none,errW_some] <;> rfl),by (with_reducible repeat (first|apply ra_|apply rn_|apply re_));exact Kd.R_mono (rf_ (p:=⟨gb337,3,none⟩) (rf_ (p:=⟨gb337,2,none⟩) (rf_ (p:=⟨gb337,1,none⟩) (rf_ (p:=⟨gb337,0,none⟩) (Kd.R_types HO_370003.out BK337.out (by decide)) (fun _ hk=>hk.2) (.int .i64 ((rd_T51 t361 1).f1))) (fun _ hk=>hk.2) (.int .i64 ((rd_T51 t361 2).f1))) (fun _ hk=>hk.2) (.int .i64 ((rd_T51 t361 3).f1))) (fun _ hk=>hk.2) (.slice Ao76 x370003_4.length co76)) (fun _ hk=>trivial),hb2_ HB.out GE337.out GE369.out⟩
attribute [local go_sem high] eqA56
mutual
def humusref11_Same.j0 : Nat→Bool→Int→Int→Int→List (S56)→Int→Int→Int→List (S56)→Option (Bool)
 | 0,_,_,_,_,_,_,_,_,_=>none
 | k + 1,x33,x382000,x382001,x382002,x382003,x383000,x383001,x383002,x383003=>if x33=true then (some false) else (humusref11_Same.l0 k 0 x382000 x382001 x382002 x382003 x383000 x383001 x383002 x383003)
def humusref11_Same.l0 : Nat→Int→Int→Int→Int→List (S56)→Int→Int→Int→List (S56)→Option (Bool)
 | 0,_,_,_,_,_,_,_,_,_=>none
 | k + 1,x5,x382000,x382001,x382002,x382003,x383000,x383001,x383002,x383003=>if x5<(x382003.length : Int) then (if 0≤x5 then (if x5<(x383003.length : Int) then (if (!(((rd_T56 x382003 x5).f0) == ((rd_T56 x383003 x5).f0)) || (!(((rd_T56 x382003 x5).f1) == ((rd_T56 x383003 x5).f1)) || (!(((rd_T56 x382003 x5).f2) == ((rd_T56 x383003 x5).f2)) || (!(((rd_T56 x382003 x5).f3) == ((rd_T56 x383003 x5).f3))))))=true then (some false) else (humusref11_Same.l0 k (wrap64 (x5 + 1)) x382000 x382001 x382002 x382003 x383000 x383001 x383002 x383003)) else (none)) else (none)) else (some true)
end
def humusref11_Same.f (k : Nat) (a0_0 : Int) (a0_1 : Int) (a0_2 : Int) (l0_3 : List (S56)) (a1_0 : Int) (a1_1 : Int) (a1_2 : Int) (l1_3 : List (S56)) : Option (Bool):=if a0_0=a1_0 then (if a0_1=a1_1 then (if a0_2=a1_2 then (humusref11_Same.j0 k ((l0_3.length : Int) != (l1_3.length : Int)) a0_0 a0_1 a0_2 l0_3 a1_0 a1_1 a1_2 l1_3) else (humusref11_Same.j0 k true a0_0 a0_1 a0_2 l0_3 a1_0 a1_1 a1_2 l1_3)) else (humusref11_Same.j0 k true a0_0 a0_1 a0_2 l0_3 a1_0 a1_1 a1_2 l1_3)) else (humusref11_Same.j0 k true a0_0 a0_1 a0_2 l0_3 a1_0 a1_1 a1_2 l1_3)
set_option maxHeartbeats 8000000 in
set_option maxRecDepth 100000 in
theorem humusref11_Same.calls (k : Nat) (a0_0 : Int) (a0_1 : Int) (a0_2 : Int) (A0_3 : Option Addr) (c0_3 : Nat) (l0_3 : List (S56)) (a1_0 : Int) (a1_1 : Int) (a1_2 : Int) (A1_3 : Option Addr) (c1_3 : Nat) (l1_3 : List (S56)) (r : Bool) (w : World) (hr0_3 : Kd.C k56 w A0_3 l0_3.length l0_3) (hc0_3 : l0_3.length≤c0_3) (hr1_3 : Kd.C k56 w A1_3 l1_3.length l1_3) (hc1_3 : l1_3.length≤c1_3) (h : humusref11_Same.f k a0_0 a0_1 a0_2 l0_3 a1_0 a1_1 a1_2 l1_3=some r) :
  Calls Tryd.prog 8 #[.agg #[.int .i64 a0_0,.int .i64 a0_1,.int .i64 a0_2,.slice A0_3 l0_3.length c0_3],.agg #[.int .i64 a1_0,.int .i64 a1_1,.int .i64 a1_2,.slice A1_3 l1_3.length c1_3]] w fun e w'=>e=.returned (.bool r)∧Below w.heap.size w w':=by
 have hu26:=Tryd.underlying26;have hu56:=Tryd.underlying56;have HR0_3:=A_ hr0_3;have HC0_3:=A_ hc0_3;clear hr0_3 hc0_3;have HR1_3:=A_ hr1_3;have HC1_3:=A_ hc1_3;clear hr1_3 hc1_3;have HB:=A_ (Below.refl w.heap.size w)
 have H : (if a0_0=a1_0 then (if a0_1=a1_1 then (if a0_2=a1_2 then (humusref11_Same.j0 k ((l0_3.length : Int) != (l1_3.length : Int)) a0_0 a0_1 a0_2 l0_3 a1_0 a1_1 a1_2 l1_3) else (humusref11_Same.j0 k true a0_0 a0_1 a0_2 l0_3 a1_0 a1_1 a1_2 l1_3)) else (humusref11_Same.j0 k true a0_0 a0_1 a0_2 l0_3 a1_0 a1_1 a1_2 l1_3)) else (humusref11_Same.j0 k true a0_0 a0_1 a0_2 l0_3 a1_0 a1_1 a1_2 l1_3))=some r:=h
 clear h;have HC3:=A_ H;clear H;go_enter Tryd.func8,Tryd.ntmps8
 go_upto_region 1 with (first|((with_reducible refine gate_dst (N:=2) rfl ?_);(try (refine gate_guard (by rfl) ?_;dsimp only));refine box_event ?hg (N:=2) ?hd (cs:=#[.int .i64 a0_0,.int .i64 a0_1,.int .i64 a0_2,.slice A0_3 l0_3.length c0_3]) (t:=26) ?hr ?_;(case hd=>rfl);(case hg=>rfl);(case hr=>first|(go_simp;done)|(go_simp;rfl));intro gb381 hg w4 hbox hb;have n0_:=A_ (bp_ (hb0_ HB.out) hb);have n1_:=A_ (hbox);have n2_:=A_ ((by rw [hg];exact (bz_ (hb0_ HB.out)) : w.heap.size≤gb381));have n3_:=n2_;clear HB;have HB:=n0_;have BK381:=n1_;have GW381:=n2_;have GE381:=n3_;clear n0_ n1_ n2_ n3_;clear hb hbox hg)|((with_reducible refine gate_dst (N:=3) rfl ?_);(try (refine gate_guard (by rfl) ?_;dsimp only));refine box_event ?hg (N:=3) ?hd (cs:=#[.int .i64 a1_0,.int .i64 a1_1,.int .i64 a1_2,.slice A1_3 l1_3.length c1_3]) (t:=26) ?hr ?_;(case hd=>rfl);(case hg=>rfl);(case hr=>first|(go_simp;done)|(go_simp;rfl));intro gb382 hg w5 hbox hb;have n0_:=A_ (bx_ BK381.out kf_ hb);have n1_:=A_ (bp_ (hb1_ HB.out GE381.out) hb);have n2_:=A_ (hbox);have n3_:=A_ ((by rw [hg];exact (bz_ (hb1_ HB.out GE381.out)) : w.heap.size≤gb382));have n4_:=n3_;have n5_:=A_ ((by rw [hg];exact Nat.ne_of_lt (bl_ BK381.out kf_) : gb381≠gb382));have n6_:=A_ (Ne.symm n5_.out);clear BK381;clear HB;have BK381:=n0_;have HB:=n1_;have BK382:=n2_;have GW382:=n3_;have GE382:=n4_;have NB381_382:=n5_;have NB382_381:=n6_;clear n0_ n1_ n2_ n3_ n4_ n5_ n6_;clear hb hbox hg))
 repeat (go_quiet (first|((with_reducible refine gate_dst (N:=2) rfl ?_);(try (refine gate_guard (by rfl) ?_;dsimp only));refine box_event ?hg (N:=2) ?hd (cs:=#[.int .i64 a0_0,.int .i64 a0_1,.int .i64 a0_2,.slice A0_3 l0_3.length c0_3]) (t:=26) ?hr ?_;(case hd=>rfl);(case hg=>rfl);(case hr=>first|(go_simp;done)|(go_simp;rfl));intro gb381 hg w4 hbox hb;have n0_:=A_ (bp_ (hb0_ HB.out) hb);have n1_:=A_ (hbox);have n2_:=A_ ((by rw [hg];exact (bz_ (hb0_ HB.out)) : w.heap.size≤gb381));have n3_:=n2_;clear HB;have HB:=n0_;have BK381:=n1_;have GW381:=n2_;have GE381:=n3_;clear n0_ n1_ n2_ n3_;clear hb hbox hg)|((with_reducible refine gate_dst (N:=3) rfl ?_);(try (refine gate_guard (by rfl) ?_;dsimp only));refine box_event ?hg (N:=3) ?hd (cs:=#[.int .i64 a1_0,.int .i64 a1_1,.int .i64 a1_2,.slice A1_3 l1_3.length c1_3]) (t:=26) ?hr ?_;(case hd=>rfl);(case hg=>rfl);(case hr=>first|(go_simp;done)|(go_simp;rfl));intro gb382 hg w5 hbox hb;have n0_:=A_ (bx_ BK381.out kf_ hb);have n1_:=A_ (bp_ (hb1_ HB.out GE381.out) hb);have n2_:=A_ (hbox);have n3_:=A_ ((by rw [hg];exact (bz_ (hb1_ HB.out GE381.out)) : w.heap.size≤gb382));have n4_:=n3_;have n5_:=A_ ((by rw [hg];exact Nat.ne_of_lt (bl_ BK381.out kf_) : gb381≠gb382));have n6_:=A_ (Ne.symm n5_.out);clear BK381;clear HB;have BK381:=n0_;have HB:=n1_;have BK382:=n2_;have GW382:=n3_;have GE382:=n4_;have NB381_382:=n5_;have NB382_381:=n6_;clear n0_ n1_ n2_ n3_ n4_ n5_ n6_;clear hb hbox hg));go_upto_region 1 with (first|((with_reducible refine gate_dst (N:=2) rfl ?_);(try (refine gate_guard (by rfl) ?_;dsimp only));refine box_event ?hg (N:=2) ?hd (cs:=#[.int .i64 a0_0,.int .i64 a0_1,.int .i64 a0_2,.slice A0_3 l0_3.length c0_3]) (t:=26) ?hr ?_;(case hd=>rfl);(case hg=>rfl);(case hr=>first|(go_simp;done)|(go_simp;rfl));intro gb381 hg w4 hbox hb;have n0_:=A_ (bp_ (hb0_ HB.out) hb);have n1_:=A_ (hbox);have n2_:=A_ ((by rw [hg];exact (bz_ (hb0_ HB.out)) : w.heap.size≤gb381));have n3_:=n2_;clear HB;have HB:=n0_;have BK381:=n1_;have GW381:=n2_;have GE381:=n3_;clear n0_ n1_ n2_ n3_;clear hb hbox hg)|((with_reducible refine gate_dst (N:=3) rfl ?_);(try (refine gate_guard (by rfl) ?_;dsimp only));refine box_event ?hg (N:=3) ?hd (cs:=#[.int .i64 a1_0,.int .i64 a1_1,.int .i64 a1_2,.slice A1_3 l1_3.length c1_3]) (t:=26) ?hr ?_;(case hd=>rfl);(case hg=>rfl);(case hr=>first|(go_simp;done)|(go_simp;rfl));intro gb382 hg w5 hbox hb;have n0_:=A_ (bx_ BK381.out kf_ hb);have n1_:=A_ (bp_ (hb1_ HB.out GE381.out) hb);have n2_:=A_ (hbox);have n3_:=A_ ((by rw [hg];exact (bz_ (hb1_ HB.out GE381.out)) : w.heap.size≤gb382));have n4_:=n3_;have n5_:=A_ ((by rw [hg];exact Nat.ne_of_lt (bl_ BK381.out kf_) : gb381≠gb382));have n6_:=A_ (Ne.symm n5_.out);clear BK381;clear HB;have BK381:=n0_;have HB:=n1_;have BK382:=n2_;have GW382:=n3_;have GE382:=n4_;have NB381_382:=n5_;have NB382_381:=n6_;clear n0_ n1_ n2_ n3_ n4_ n5_ n6_;clear hb hbox hg)))
 (try simp only [Act.put,u1_,u2_,u3_])
 go_cut [33] (fun v33 wc=>∃ (kq : Nat) (x33_2 : Bool),v33=.bool x33_2∧Aside0 (humusref11_Same.j0 kq x33_2 a0_0 a0_1 a0_2 l0_3 a1_0 a1_1 a1_2 l1_3=some r)∧Aside0 (kq≤k)∧Aside0 (wc.heap[gb381]?=some (.cells #[.int .i64 a0_0,.int .i64 a0_1,.int .i64 a0_2,(.slice A0_3 l0_3.length c0_3)] 26 (0,0)))∧Aside0 (wc.heap[gb382]?=some (.cells #[.int .i64 a1_0,.int .i64 a1_1,.int .i64 a1_2,(.slice A1_3 l1_3.length c1_3)] 26 (0,0)))∧Aside0 (Below w.heap.size w wc))
 case first =>
  have H:=HC3.out;clear HC3
  by_cases c6 : a0_0=a1_0
  rotate_left
  ·rw [if_neg c6] at H
   have c6b0 : (a0_0 == a1_0)=false:=beq_eq_false_iff_ne.mpr c6;have c6b1 : (a0_0 != a1_0)=true:=bne_iff_ne.mpr c6;(first|rw [c6b0]|(simp only [i64_w,i32_w];rw [c6b0])|skip);have H':=A_ H;clear H;have hnb18:=NB381_382.out;have hnc18:=NB382_381.out;obtain ⟨z19_0,z19_1,z19_2,z19_3⟩:=blkc_4 BK381.out;obtain ⟨y19_0,y19_1,y19_2,y19_3⟩:=blkz_4 BK381.out;obtain ⟨z20_0,z20_1,z20_2,z20_3⟩:=blkc_4 BK382.out;obtain ⟨y20_0,y20_1,y20_2,y20_3⟩:=blkz_4 BK382.out;go_wp2
   repeat (go_quiet (fail);try go_wp2)
   go_meet
   case rel=>exact ⟨_,true,rfl,H',⟨by first|omega|exact Nat.le_refl _⟩,⟨by exact kk_ BK381.out⟩,⟨by exact kk_ BK382.out⟩,⟨hb2_ HB.out GE381.out GE382.out⟩⟩
  rw [if_pos c6] at H
  have c6b0 : (a0_0 == a1_0)=true:=beq_iff_eq.mpr c6;have c6b1 : (a0_0 != a1_0)=false:=bne_eq_false_iff_eq.mpr c6;clear c6;(first|rw [c6b0]|(simp only [i64_w,i32_w];rw [c6b0])|skip)
  by_cases c7 : a0_1=a1_1
  rotate_left
  ·rw [if_neg c7] at H
   have c7b0 : (a0_1 == a1_1)=false:=beq_eq_false_iff_ne.mpr c7;have c7b1 : (a0_1 != a1_1)=true:=bne_iff_ne.mpr c7;have H':=A_ H;clear H;have hnb15:=NB381_382.out;have hnc15:=NB382_381.out;obtain ⟨z16_0,z16_1,z16_2,z16_3⟩:=blkc_4 BK381.out;obtain ⟨y16_0,y16_1,y16_2,y16_3⟩:=blkz_4 BK381.out;obtain ⟨z17_0,z17_1,z17_2,z17_3⟩:=blkc_4 BK382.out;obtain ⟨y17_0,y17_1,y17_2,y17_3⟩:=blkz_4 BK382.out;go_wp2
   repeat (go_quiet (fail);try go_wp2)
   go_meet
   case rel=>exact ⟨_,true,rfl,H',⟨by first|omega|exact Nat.le_refl _⟩,⟨by exact kk_ BK381.out⟩,⟨by exact kk_ BK382.out⟩,⟨hb2_ HB.out GE381.out GE382.out⟩⟩
  rw [if_pos c7] at H
  have c7b0 : (a0_1 == a1_1)=true:=beq_iff_eq.mpr c7;have c7b1 : (a0_1 != a1_1)=false:=bne_eq_false_iff_eq.mpr c7;clear c7
  by_cases c8 : a0_2=a1_2
  rotate_left
  ·rw [if_neg c8] at H
   have c8b0 : (a0_2 == a1_2)=false:=beq_eq_false_iff_ne.mpr c8;have c8b1 : (a0_2 != a1_2)=true:=bne_iff_ne.mpr c8;have H':=A_ H;clear H;have hnb12:=NB381_382.out;have hnc12:=NB382_381.out;obtain ⟨z13_0,z13_1,z13_2,z13_3⟩:=blkc_4 BK381.out;obtain ⟨y13_0,y13_1,y13_2,y13_3⟩:=blkz_4 BK381.out;obtain ⟨z14_0,z14_1,z14_2,z14_3⟩:=blkc_4 BK382.out;obtain ⟨y14_0,y14_1,y14_2,y14_3⟩:=blkz_4 BK382.out;go_wp2
   repeat (go_quiet (fail);try go_wp2)
   go_meet
   case rel=>exact ⟨_,true,rfl,H',⟨by first|omega|exact Nat.le_refl _⟩,⟨by exact kk_ BK381.out⟩,⟨by exact kk_ BK382.out⟩,⟨hb2_ HB.out GE381.out GE382.out⟩⟩
  rw [if_pos c8] at H
  have c8b0 : (a0_2 == a1_2)=true:=beq_iff_eq.mpr c8;have c8b1 : (a0_2 != a1_2)=false:=bne_eq_false_iff_eq.mpr c8;clear c8;have H':=A_ H;clear H;have hnb9:=NB381_382.out;have hnc9:=NB382_381.out;obtain ⟨z10_0,z10_1,z10_2,z10_3⟩:=blkc_4 BK381.out;obtain ⟨y10_0,y10_1,y10_2,y10_3⟩:=blkz_4 BK381.out;obtain ⟨z11_0,z11_1,z11_2,z11_3⟩:=blkc_4 BK382.out;obtain ⟨y11_0,y11_1,y11_2,y11_3⟩:=blkz_4 BK382.out;go_wp2
  repeat (go_quiet (fail);try go_wp2)
  go_meet
  case rel=>exact ⟨_,(((l0_3.length : Int) != (l1_3.length : Int))),(by first|rfl|(simp;done)|(simp [*];done)),H',⟨by first|omega|exact Nat.le_refl _⟩,⟨by exact kk_ BK381.out⟩,⟨by exact kk_ BK382.out⟩,⟨hb2_ HB.out GE381.out GE382.out⟩⟩
 case rest =>
  clear HC3;(try clear c1);(try clear p2);(try clear c6);(try clear c6b0);(try clear c6b1);(try clear c7);(try clear c7b0);(try clear c7b1);(try clear c8);(try clear c8b0);(try clear c8b1);(try clear c9);(try clear c12);(try clear c15);(try clear c18);(try clear z10_0 z10_1 z10_2 z10_3 z11_0 z11_1 z11_2 z11_3 z13_0 z13_1 z13_2 z13_3 z14_0 z14_1 z14_2 z14_3 z16_0 z16_1 z16_2 z16_3 z17_0 z17_1 z17_2 z17_3 z19_0 z19_1 z19_2 z19_3 z20_0 z20_1 z20_2 z20_3 y10_0 y10_1 y10_2 y10_3 y11_0 y11_1 y11_2 y11_3 y13_0 y13_1 y13_2 y13_3 y14_0 y14_1 y14_2 y14_3 y16_0 y16_1 y16_2 y16_3 y17_0 y17_1 y17_2 y17_3 y19_0 y19_1 y19_2 y19_3 y20_0 y20_1 y20_2 y20_3);obtain ⟨kq,x33_2,rfl,HA,HJ2,BK381,BK382,HB⟩:=hcut
  cases kq with
  | zero=>exact absurd HA.out (by simp [humusref11_Same.j0])
  | succ kj2 =>
   have H:=HA.out;clear HA
   simp only [humusref11_Same.j0] at H
   by_cases c21 : x33_2=true
   ·subst c21
    have H1 : (some false)=some r:=by rw [if_pos rfl] at H;exact H
    clear H;have H:=H1;clear H1;obtain rfl:=Option.some.inj H;go_wp2
    repeat (go_quiet (fail);try go_wp2)
    go_ret
    exact ⟨by first|rfl|(simp [errW_none,errW_some] <;> rfl)|(simp [*,errW_none,errW_some] <;> rfl),hb2_ HB.out GE381.out GE382.out⟩
   replace c21:=Bool.eq_false_iff.mpr c21
   subst c21
   have H1 : (humusref11_Same.l0 kj2 0 a0_0 a0_1 a0_2 l0_3 a1_0 a1_1 a1_2 l1_3)=some r:=by rw [if_neg (show ¬ (false=true) by decide)] at H;exact H
   clear H;have H:=H1;clear H1;have H':=A_ H;clear H;go_wp2
   repeat (go_quiet (fail);try go_wp2)
   go_loopg [5] kj2 (fun kq v5 w'=>∃ (x5_2 : Int),v5=.int .i64 x5_2∧Aside0 (humusref11_Same.l0 kq x5_2 a0_0 a0_1 a0_2 l0_3 a1_0 a1_1 a1_2 l1_3=some r)∧Aside0 (kq≤kj2)∧Aside0 (w'.heap[gb381]?=some (.cells #[.int .i64 a0_0,.int .i64 a0_1,.int .i64 a0_2,(.slice A0_3 l0_3.length c0_3)] 26 (0,0)))∧Aside0 (w'.heap[gb382]?=some (.cells #[.int .i64 a1_0,.int .i64 a1_1,.int .i64 a1_2,(.slice A1_3 l1_3.length c1_3)] 26 (0,0)))∧Aside0 (Below w.heap.size w w'))
   case atStart=>exact ⟨(0),(by first|rfl|(simp;done)|(simp [*];done)),H',⟨Nat.le_refl _⟩,⟨by exact kk_ BK381.out⟩,⟨by exact kk_ BK382.out⟩,⟨hb2_ HB.out GE381.out GE382.out⟩⟩
   case round =>
    clear H';(try clear c1);(try clear c2);(try clear p2);(try clear c6);(try clear c6b0);(try clear c6b1);(try clear c7);(try clear c7b0);(try clear c7b1);(try clear c8);(try clear c8b0);(try clear c8b1);(try clear c9);(try clear c12);(try clear c15);(try clear c18);(try clear c21);(try clear p2);(try clear z10_0 z10_1 z10_2 z10_3 z11_0 z11_1 z11_2 z11_3 z13_0 z13_1 z13_2 z13_3 z14_0 z14_1 z14_2 z14_3 z16_0 z16_1 z16_2 z16_3 z17_0 z17_1 z17_2 z17_3 z19_0 z19_1 z19_2 z19_3 z20_0 z20_1 z20_2 z20_3 y10_0 y10_1 y10_2 y10_3 y11_0 y11_1 y11_2 y11_3 y13_0 y13_1 y13_2 y13_3 y14_0 y14_1 y14_2 y14_3 y16_0 y16_1 y16_2 y16_3 y17_0 y17_1 y17_2 y17_3 y19_0 y19_1 y19_2 y19_3 y20_0 y20_1 y20_2 y20_3);obtain ⟨x5_2,rfl,HA,HK2,BK381,BK382,HB⟩:=hrel
    cases gk with
    | zero=>exact absurd HA.out (by simp [humusref11_Same.l0])
    | succ k2 =>
     have H:=HA.out;clear HA
     simp only [humusref11_Same.l0] at H
     by_cases c22 : x5_2<(l0_3.length : Int)
     rotate_left
     ·rw [if_neg c22] at H
      have c22b0 : decide (x5_2<(l0_3.length : Int))=false:=df_ c22;clear c22;obtain rfl:=Option.some.inj H;have hnb32:=NB381_382.out;have hnc32:=NB382_381.out;obtain ⟨z33_0,z33_1,z33_2,z33_3⟩:=blkc_4 BK381.out;obtain ⟨y33_0,y33_1,y33_2,y33_3⟩:=blkz_4 BK381.out;go_wp2
      repeat (go_quiet (fail);try go_wp2)
      go_ret
      exact ⟨by first|rfl|(simp [errW_none,errW_some] <;> rfl)|(simp [*,errW_none,errW_some] <;> rfl),hb2_ HB.out GE381.out GE382.out⟩
     rw [if_pos c22] at H
     have c22b0 : decide (x5_2<(l0_3.length : Int))=true:=dt_ c22;clear c22
     by_cases c23 : 0≤x5_2
     rotate_left
     ·rw [if_neg c23] at H
      exact absurd H (by simp)
     rw [if_pos c23] at H
     have c23b0 : decide (0≤x5_2)=true:=dt_ c23;clear c23
     by_cases c24 : x5_2<(l1_3.length : Int)
     rotate_left
     ·rw [if_neg c24] at H
      exact absurd H (by simp)
     rw [if_pos c24] at H
     have c24b0 : decide (x5_2<(l1_3.length : Int))=true:=dt_ c24;clear c24
     by_cases c25 : (!(((rd_T56 l0_3 x5_2).f0) == ((rd_T56 l1_3 x5_2).f0)) || (!(((rd_T56 l0_3 x5_2).f1) == ((rd_T56 l1_3 x5_2).f1)) || (!(((rd_T56 l0_3 x5_2).f2) == ((rd_T56 l1_3 x5_2).f2)) || (!(((rd_T56 l0_3 x5_2).f3) == ((rd_T56 l1_3 x5_2).f3))))))=true
     ·rw [if_pos c25] at H
      have c25b0 : (!(((rd_T56 l0_3 x5_2).f0) == ((rd_T56 l1_3 x5_2).f0)) || (!(((rd_T56 l0_3 x5_2).f1) == ((rd_T56 l1_3 x5_2).f1)) || (!(((rd_T56 l0_3 x5_2).f2) == ((rd_T56 l1_3 x5_2).f2)) || (!(((rd_T56 l0_3 x5_2).f3) == ((rd_T56 l1_3 x5_2).f3))))))=true:=c25;clear c25;obtain rfl:=Option.some.inj H;have hnb26:=NB381_382.out;have hnc26:=NB382_381.out;obtain ⟨z27_0,z27_1,z27_2,z27_3⟩:=blkc_4 BK381.out;obtain ⟨y27_0,y27_1,y27_2,y27_3⟩:=blkz_4 BK381.out
      have p383 : 0≤(x5_2 : Int):=od_ (by first|(with_reducible assumption)|assumption)
      have q383 : x5_2<(l0_3.length : Int):=od_ (by first|(with_reducible assumption)|assumption)
      obtain ⟨ad383,e383,hx383_0,hx383_1,hx383_2,hx383_3⟩:=at_T56 HR0_3.out x5_2 p383 q383
      cases e383
      replace hx383_0:=(HB.out.cell (wb_ w _ hx383_0)).trans hx383_0;replace hx383_1:=(HB.out.cell (wb_ w _ hx383_1)).trans hx383_1;replace hx383_2:=(HB.out.cell (wb_ w _ hx383_2)).trans hx383_2;replace hx383_3:=(HB.out.cell (wb_ w _ hx383_3)).trans hx383_3;replace p383:=eq_true p383;replace q383:=eq_true q383;obtain ⟨z28_0,z28_1,z28_2,z28_3⟩:=blkc_4 BK382.out;obtain ⟨y28_0,y28_1,y28_2,y28_3⟩:=blkz_4 BK382.out
      have p384 : 0≤(x5_2 : Int):=od_ (by first|(with_reducible assumption)|assumption)
      have q384 : x5_2<(l1_3.length : Int):=od_ (by first|(with_reducible assumption)|assumption)
      obtain ⟨ad384,e384,hx384_0,hx384_1,hx384_2,hx384_3⟩:=at_T56 HR1_3.out x5_2 p384 q384
      cases e384
      replace hx384_0:=(HB.out.cell (wb_ w _ hx384_0)).trans hx384_0;replace hx384_1:=(HB.out.cell (wb_ w _ hx384_1)).trans hx384_1;replace hx384_2:=(HB.out.cell (wb_ w _ hx384_2)).trans hx384_2;replace hx384_3:=(HB.out.cell (wb_ w _ hx384_3)).trans hx384_3;replace p384:=eq_true p384;replace q384:=eq_true q384;go_wp2
      repeat (go_quiet (fail);try go_wp2)
      go_ret
      exact ⟨by first|rfl|(simp [errW_none,errW_some] <;> rfl)|(simp [*,errW_none,errW_some] <;> rfl),hb2_ HB.out GE381.out GE382.out⟩
     rw [if_neg c25] at H
     have c25b0 : (!(((rd_T56 l0_3 x5_2).f0) == ((rd_T56 l1_3 x5_2).f0)) || (!(((rd_T56 l0_3 x5_2).f1) == ((rd_T56 l1_3 x5_2).f1)) || (!(((rd_T56 l0_3 x5_2).f2) == ((rd_T56 l1_3 x5_2).f2)) || (!(((rd_T56 l0_3 x5_2).f3) == ((rd_T56 l1_3 x5_2).f3))))))=false:=by simpa using c25
     clear c25;have H':=A_ H;clear H;have hnb29:=NB381_382.out;have hnc29:=NB382_381.out;obtain ⟨z30_0,z30_1,z30_2,z30_3⟩:=blkc_4 BK381.out;obtain ⟨y30_0,y30_1,y30_2,y30_3⟩:=blkz_4 BK381.out
     have p383 : 0≤(x5_2 : Int):=od_ (by first|(with_reducible assumption)|assumption)
     have q383 : x5_2<(l0_3.length : Int):=od_ (by first|(with_reducible assumption)|assumption)
     obtain ⟨ad383,e383,hx383_0,hx383_1,hx383_2,hx383_3⟩:=at_T56 HR0_3.out x5_2 p383 q383
     cases e383
     replace hx383_0:=(HB.out.cell (wb_ w _ hx383_0)).trans hx383_0;replace hx383_1:=(HB.out.cell (wb_ w _ hx383_1)).trans hx383_1;replace hx383_2:=(HB.out.cell (wb_ w _ hx383_2)).trans hx383_2;replace hx383_3:=(HB.out.cell (wb_ w _ hx383_3)).trans hx383_3;replace p383:=eq_true p383;replace q383:=eq_true q383;obtain ⟨z31_0,z31_1,z31_2,z31_3⟩:=blkc_4 BK382.out;obtain ⟨y31_0,y31_1,y31_2,y31_3⟩:=blkz_4 BK382.out
     have p384 : 0≤(x5_2 : Int):=od_ (by first|(with_reducible assumption)|assumption)
     have q384 : x5_2<(l1_3.length : Int):=od_ (by first|(with_reducible assumption)|assumption)
     obtain ⟨ad384,e384,hx384_0,hx384_1,hx384_2,hx384_3⟩:=at_T56 HR1_3.out x5_2 p384 q384
     cases e384
     replace hx384_0:=(HB.out.cell (wb_ w _ hx384_0)).trans hx384_0;replace hx384_1:=(HB.out.cell (wb_ w _ hx384_1)).trans hx384_1;replace hx384_2:=(HB.out.cell (wb_ w _ hx384_2)).trans hx384_2;replace hx384_3:=(HB.out.cell (wb_ w _ hx384_3)).trans hx384_3;replace p384:=eq_true p384;replace q384:=eq_true q384;go_wp2
     repeat (go_quiet (fail);try go_wp2)
     go_roundg k2
     case measure=>have:=HJ2.out;have:=HK2.out;omega
     case rel=>exact ⟨(wrap64 (x5_2 + 1)),(by first|rfl|(simp;done)|(simp [*];done)),H',⟨by have:=HJ2.out;have:=HK2.out;omega⟩,⟨by exact kk_ BK381.out⟩,⟨by exact kk_ BK382.out⟩,⟨hb2_ HB.out GE381.out GE382.out⟩⟩
end Go.Proofs.YtbmcbhpkefjhbaaDoor.P
