/- by wip/prune.py -/
import Derived.Test.YtbmcbhpkefjhbaaDoorMTableDecodes4
import Derived.Laws.Entries
import Derived.RowKit
import Derived.Test.YtbmcbhpkefjhbaaDoorMTableDecodes5
import Derived.Test.YtbmcbhpkefjhbaaDoorMTableDecodes6
import Derived.Test.YtbmcbhpkefjhbaaDoorMTableDecodes7
import Derived.Test.YtbmcbhpkefjhbaaDoorMTableDecodes8
import Derived.Test.YtbmcbhpkefjhbaaDoorMTableDecodes12
import Derived.Test.YtbmcbhpkefjhbaaDoorMTableDecodes13
import Derived.Test.YtbmcbhpkefjhbaaDoorMTableDecodes15
import Derived.Test.YtbmcbhpkefjhbaaDoorMTableDecodes16
import Derived.Test.YtbmcbhpkefjhbaaDoorMTableDecodes17
set_option linter.unusedSimpArgs false
set_option linter.unusedVariables false
namespace Go.Proofs.YtbmcbhpkefjhbaaDoor.P
open Go.RowKit YtbmcbhpkefjhbaaDoorW.PrintWords YtbmcbhpkefjhbaaDoorW.PrintLast YtbmcbhpkefjhbaaDoorW.PrintMore
attribute [local go_sem] max2_int min2_int max_two min_two max_three min_three max_four min_four   -- for this text's walks alone
attribute [local go_sem] run_store_float
def humuslaw11_TableDecodes.j0 : Nat→Bool→Option (Bool)
 | 0,_=>none
 | k + 1,x2=>some x2
def humuslaw11_TableDecodes.f (k : Nat) (l0 : List Int) : Option (Bool):=if (l0.length : Int) > 2000 then ((humuslaw11_awake.f k).bind fun t385=>(some t385)) else ((some (([] : List Int) : List Int)).bind fun y386=>(if y386.length + l0.length<140737488355328 then ((table_Decode.f k (y386++l0)).bind fun bt392=>((humusref11_Decode.f k l0).bind fun bt400=>(if bt392.2.2.2.2=bt400.2.2.2.2 then ((humusref11_Same.f k bt392.1 bt392.2.1 bt392.2.2.1 bt392.2.2.2.1 bt400.1 bt400.2.1 bt400.2.2.1 bt400.2.2.2.1).bind fun t408=>(if t408=true then ((table_First.f).bind fun bt409=>((humusref11_First.f).bind fun bt415=>((humusref11_Same.f k bt409.1 bt409.2.1 bt409.2.2.1 bt409.2.2.2 bt415.1 bt415.2.1 bt415.2.2.1 bt415.2.2.2).bind fun t421=>(if t421=true then ((humuslaw11_awake.f k).bind fun t422=>(humuslaw11_TableDecodes.j0 k t422)) else (none))))) else (none))) else (none)))) else (none)))
set_option maxHeartbeats 8000000 in
set_option maxRecDepth 100000 in
theorem humuslaw11_TableDecodes.calls (k : Nat) (A0 : Option Addr) (c0 : Nat) (l0 : List Int) (r : Bool) (w : World) (hr0 : Kd.C (Kd.int .u8) w A0 l0.length l0) (hc0 : l0.length≤c0) (h : humuslaw11_TableDecodes.f k l0=some r) :
  Calls Tryd.prog 3 #[.slice A0 l0.length c0] w fun e w'=>e=.returned (.bool r)∧Below w.heap.size w w':=by
 have hu26:=Tryd.underlying26;have HR0:=A_ hr0;have HC0:=A_ hc0;clear hr0 hc0;have HB:=A_ (Below.refl w.heap.size w)
 have H : (if (l0.length : Int) > 2000 then ((humuslaw11_awake.f k).bind fun t385=>(some t385)) else ((some (([] : List Int) : List Int)).bind fun y386=>(if y386.length + l0.length<140737488355328 then ((table_Decode.f k (y386++l0)).bind fun bt392=>((humusref11_Decode.f k l0).bind fun bt400=>(if bt392.2.2.2.2=bt400.2.2.2.2 then ((humusref11_Same.f k bt392.1 bt392.2.1 bt392.2.2.1 bt392.2.2.2.1 bt400.1 bt400.2.1 bt400.2.2.1 bt400.2.2.2.1).bind fun t408=>(if t408=true then ((table_First.f).bind fun bt409=>((humusref11_First.f).bind fun bt415=>((humusref11_Same.f k bt409.1 bt409.2.1 bt409.2.2.1 bt409.2.2.2 bt415.1 bt415.2.1 bt415.2.2.1 bt415.2.2.2).bind fun t421=>(if t421=true then ((humuslaw11_awake.f k).bind fun t422=>(humuslaw11_TableDecodes.j0 k t422)) else (none))))) else (none))) else (none)))) else (none))))=some r:=h
 clear h
 by_cases c2 : (l0.length : Int) > 2000
 ·rw [if_pos c2] at H
  have c2b0 : decide (2000<(l0.length : Int))=true:=dt_ c2
  have c2b1 : decide (2000<l0.length)=true:=dt_ (by omega)
  clear c2;replace H:=Option.bind_eq_some_iff.mp H;obtain ⟨t385,A30,H⟩:=H;replace H : (some t385)=some r:=H;have A3:=A_ A30;clear A30;obtain rfl:=Option.some.inj H;go_enter Tryd.func3,Tryd.ntmps3
  go_wp2_with (first|((with_reducible refine gate_callee (f:=5) rfl ?_);refine goesL_ (some 10) rfl rfl Tryd.func5 (by kernel_rfl) rfl #[] rfl (by (try simp only [List.map_toArray,List.map_cons,List.map_nil]);first|done|rfl|(simp only [List.length_drop,List.length_take];rfl)) ?_;(with_reducible refine (humuslaw11_awake.calls k  t385 _ A3.out).mono ?_);rintro e w4 ⟨rfl,hb⟩;refine ⟨_,rfl,?_⟩;have n0_:=A_ (bp_ (hb0_ HB.out) hb);clear HB;have HB:=n0_;clear n0_;(try clear hb);(try clear hb2);(try clear hk);(try clear hi)))
  go_ret
  exact ⟨by first|rfl|(simp [errW_none,errW_some] <;> rfl)|(simp [*,errW_none,errW_some] <;> rfl),hb0_ HB.out⟩
 rw [if_neg c2] at H
 have c2b0 : decide (2000<(l0.length : Int))=false:=df_ c2
 have c2b1 : decide (2000<l0.length)=false:=df_ (by omega)
 clear c2
 obtain ⟨y386,hy386⟩ : ∃ y_ : List Int,y_=(([] : List Int)):=⟨_,rfl⟩
 replace H : (if y386.length + l0.length<140737488355328 then ((table_Decode.f k (y386++l0)).bind fun bt392=>((humusref11_Decode.f k l0).bind fun bt400=>(if bt392.2.2.2.2=bt400.2.2.2.2 then ((humusref11_Same.f k bt392.1 bt392.2.1 bt392.2.2.1 bt392.2.2.2.1 bt400.1 bt400.2.1 bt400.2.2.1 bt400.2.2.2.1).bind fun t408=>(if t408=true then ((table_First.f).bind fun bt409=>((humusref11_First.f).bind fun bt415=>((humusref11_Same.f k bt409.1 bt409.2.1 bt409.2.2.1 bt409.2.2.2 bt415.1 bt415.2.1 bt415.2.2.1 bt415.2.2.2).bind fun t421=>(if t421=true then ((humuslaw11_awake.f k).bind fun t422=>(humuslaw11_TableDecodes.j0 k t422)) else (none))))) else (none))) else (none)))) else (none))=some r:=by first|(rw [hy386];with_reducible exact H)|(have H2_:=(Option.bind_some _ _).symm.trans H;rw [hy386];with_reducible exact H2_)|(have H2_:=(Option.bind_some _ _).symm.trans H;with_reducible exact H2_)|with_reducible exact H|(rw [hy386];exact H)|exact H
 have Ny386:=A_ hy386;clear hy386
 by_cases c5 : y386.length + l0.length<140737488355328
 rotate_left
 ·rw [if_neg c5] at H
  exact absurd H (by simp)
 rw [if_pos c5] at H
 have LMc5:=A_ c5;clear c5
 obtain ⟨y389,hy389⟩ : ∃ y_ : List Int,y_=(y386++l0):=⟨_,rfl⟩
 replace H : ((table_Decode.f k y389).bind fun bt392=>((humusref11_Decode.f k l0).bind fun bt400=>(if bt392.2.2.2.2=bt400.2.2.2.2 then ((humusref11_Same.f k bt392.1 bt392.2.1 bt392.2.2.1 bt392.2.2.2.1 bt400.1 bt400.2.1 bt400.2.2.1 bt400.2.2.2.1).bind fun t408=>(if t408=true then ((table_First.f).bind fun bt409=>((humusref11_First.f).bind fun bt415=>((humusref11_Same.f k bt409.1 bt409.2.1 bt409.2.2.1 bt409.2.2.2 bt415.1 bt415.2.1 bt415.2.2.1 bt415.2.2.2).bind fun t421=>(if t421=true then ((humuslaw11_awake.f k).bind fun t422=>(humuslaw11_TableDecodes.j0 k t422)) else (none))))) else (none))) else (none))))=some r:=by first|(rw [hy389];with_reducible exact H)|(have H2_:=(Option.bind_some _ _).symm.trans H;rw [hy389];with_reducible exact H2_)|(have H2_:=(Option.bind_some _ _).symm.trans H;with_reducible exact H2_)|with_reducible exact H|(rw [hy389];exact H)|exact H
 have Ny389:=A_ hy389;clear hy389;replace H:=Option.bind_eq_some_iff.mp H;obtain ⟨⟨t392,t393,t394,t395,t398⟩,A60,H⟩:=H
 replace H : ((humusref11_Decode.f k l0).bind fun bt400=>(if t398=bt400.2.2.2.2 then ((humusref11_Same.f k t392 t393 t394 t395 bt400.1 bt400.2.1 bt400.2.2.1 bt400.2.2.2.1).bind fun t408=>(if t408=true then ((table_First.f).bind fun bt409=>((humusref11_First.f).bind fun bt415=>((humusref11_Same.f k bt409.1 bt409.2.1 bt409.2.2.1 bt409.2.2.2 bt415.1 bt415.2.1 bt415.2.2.1 bt415.2.2.2).bind fun t421=>(if t421=true then ((humuslaw11_awake.f k).bind fun t422=>(humuslaw11_TableDecodes.j0 k t422)) else (none))))) else (none))) else (none)))=some r:=H
 have A6:=A_ A60;clear A60;replace H:=Option.bind_eq_some_iff.mp H;obtain ⟨⟨t400,t401,t402,t403,t406⟩,A70,H⟩:=H
 replace H : (if t398=t406 then ((humusref11_Same.f k t392 t393 t394 t395 t400 t401 t402 t403).bind fun t408=>(if t408=true then ((table_First.f).bind fun bt409=>((humusref11_First.f).bind fun bt415=>((humusref11_Same.f k bt409.1 bt409.2.1 bt409.2.2.1 bt409.2.2.2 bt415.1 bt415.2.1 bt415.2.2.1 bt415.2.2.2).bind fun t421=>(if t421=true then ((humuslaw11_awake.f k).bind fun t422=>(humuslaw11_TableDecodes.j0 k t422)) else (none))))) else (none))) else (none))=some r:=H
 have A7:=A_ A70;clear A70;have HC8:=A_ H;clear H;go_enter Tryd.func3,Tryd.ntmps3
 go_upto_region 5 with (first|((with_reducible refine gate_dst (N:=12) rfl ?_);refine Kd.R_lit (Kd.int .u8) _ 5 ?hg (N:=12) ?hd (xs:=([] : List Int)) (inner:=[]) (ok:=fun _=>True) (okp:=fun _=>True) ?hr ?hp (fun _ hk=>hk) trivial (Below.refl _ _) (Nat.le_refl _) (by simp) ?_;(case hd=>rfl);(case hg=>rfl);(case hr=>first|(go_simp;done)|(go_simp;rfl));(case hp=>exact (Reps.none _ _));intro v387 w9 ho10 hb hg_ hnew_;clear hg_ hnew_;(first|rw [← Ny386.out] at ho10|(simp only [Int.reduceToNat] at ho10;rw [← Ny386.out] at ho10));have n0_:=A_ (Kd.R_lower ho10 (bz_ (hb0_ HB.out)));have n1_:=A_ (bp_ (hb0_ HB.out) hb);clear HB;have HO388:=n0_;have HB:=n1_;clear n0_ n1_;clear hb ho10)|((with_reducible refine gate_builtin (b:=.append) (xs:=#[.tmp 12,.tmp 13]) rfl ?_);at_builtin;refine Kd.R_append_rows (Kd.int .u8) (w0:=w) w.heap.size rfl (.tmp 12) (.tmp 13) 22 5 (.int .u8 0) 1 rfl Tryd.underlying22 info5 rfl (by decide) (by omega) v387 y386 l0 _ _ _ (fun _=>True) (fun _=>False) rfl rfl ?aO ?aR (fun _ _ h=>h) (fun _ h=>h.elim) ?aF ?aB ?aS ?aL ?_;(case aR=>repeat (first|exact (Kd.C_below HR0.out HB.out)|(with_reducible refine Kd.C_alloc ?_ _)|(with_reducible refine Kd.C_drewN ?_ _)|(with_reducible refine Kd.C_drew ?_)));(case aB=>exact (hb0_ HB.out));(case aF=>exact (fun _ _=>trivial));(case aO=>exact (by (with_reducible repeat (first|apply ra_|apply rn_|apply re_));exact HO388.out));(case aS=>exact (bz_ (hb0_ HB.out)));(case aL=>have:=LMc5.out;omega);intro v390 w11 ho hb hg hat;rw [← Ny389.out] at ho;have n0_:=A_ (hb);have n1_:=A_ (ho);clear HB;clear HO388;have HB:=n0_;have HO391:=n1_;clear n0_ n1_;clear ho hb hg hat;obtain ⟨Ao12,co12,eo12⟩:=Kd.R_slice HO391.out;subst eo12)|((with_reducible refine gate_callee (f:=6) rfl ?_);refine goesL_ (some 15) rfl rfl Tryd.func6 (by kernel_rfl) rfl #[.slice Ao12 y389.length co12] rfl (by (try simp only [List.map_toArray,List.map_cons,List.map_nil]);first|done|rfl|(simp only [List.length_drop,List.length_take];rfl)) ?_;(with_reducible refine (table_Decode.calls k _ _ y389 t392 t393 t394 t395 t398 _ ?side1 ?side2 A6.out).mono ?_);(case side1=>repeat (first|exact (Kd.R_reads' HO391.out).2.2|(with_reducible refine Kd.C_alloc ?_ _)|(with_reducible refine Kd.C_drewN ?_ _)|(with_reducible refine Kd.C_drew ?_)));(case side2=>exact (Kd.R_reads' HO391.out).2.1);rintro e w13 ⟨v396,rfl,ho0,hb⟩;refine ⟨_,rfl,?_⟩;have n0_:=A_ (Kd.R_below (by (with_reducible repeat (first|apply ra_|apply rn_|apply re_));exact HO391.out) hb);have n1_:=A_ (Kd.R_lower ho0 (bz_ (hb0_ HB.out)));have n2_:=A_ (bp_ (hb0_ HB.out) hb);clear HO391;clear HB;have HO391:=n0_;have HO397:=n1_;have HB:=n2_;clear n0_ n1_ n2_;(try clear hb);(try clear hb2);(try clear hk);(try clear hi);(try clear ho0))|((with_reducible refine gate_dst (N:=3) rfl ?_);refine box_event ?hg (N:=3) ?hd (cs:=#[.int .i64 0,.int .i64 0,.int .i64 0,.slice none 0 0]) (t:=26) ?hr ?_;(case hd=>rfl);(case hg=>rfl);(case hr=>first|(go_simp;done)|(go_simp;rfl));intro gb399 hg w14 hbox hb;have n0_:=A_ (Kd.R_below (by (with_reducible repeat (first|apply ra_|apply rn_|apply re_));exact HO391.out) hb);have n1_:=A_ (Kd.R_below (by (with_reducible repeat (first|apply ra_|apply rn_|apply re_));exact HO397.out) hb);have n2_:=A_ (bp_ (hb0_ HB.out) hb);have n3_:=A_ (hbox);have n4_:=A_ ((by rw [hg];exact (bz_ (hb0_ HB.out)) : w.heap.size≤gb399));have n5_:=n4_;clear HO391;clear HO397;clear HB;have HO391:=n0_;have HO397:=n1_;have HB:=n2_;have BK399:=n3_;have GW399:=n4_;have GE399:=n5_;clear n0_ n1_ n2_ n3_ n4_ n5_;clear hb hbox hg;obtain ⟨z15_0,z15_1,z15_2,z15_3⟩:=blkc_4 BK399.out;obtain ⟨y15_0,y15_1,y15_2,y15_3⟩:=blkz_4 BK399.out;obtain ⟨Ao16,co16,eo16⟩:=Kd.R_slice HO397.out;subst eo16)|((with_reducible refine gate_callee (f:=7) rfl ?_);refine goesL_ (some 20) rfl rfl Tryd.func7 (by kernel_rfl) rfl #[.slice A0 l0.length c0] rfl (by (try simp only [List.map_toArray,List.map_cons,List.map_nil]);first|done|rfl|(simp only [List.length_drop,List.length_take];rfl)) ?_;(with_reducible refine (humusref11_Decode.calls k _ _ l0 t400 t401 t402 t403 t406 _ ?side1 ?side2 A7.out).mono ?_);(case side1=>exact Kd.C_below HR0.out (hb1_ HB.out GE399.out));(case side2=>exact HC0.out);rintro e w17 ⟨v404,rfl,ho0,hb⟩;refine ⟨_,rfl,?_⟩;have n0_:=A_ (Kd.R_below (by (with_reducible repeat (first|apply ra_|apply rn_|apply re_));exact (Kd.R_mono (rf_ (p:=⟨gb399,3,none⟩) (rf_ (p:=⟨gb399,2,none⟩) (rf_ (p:=⟨gb399,1,none⟩) (rf_ (p:=⟨gb399,0,none⟩) (Kd.R_types HO391.out BK399.out (by decide)) (fun _ hk=>hk.2) (.int .i64 t392)) (fun _ hk=>hk.2) (.int .i64 t393)) (fun _ hk=>hk.2) (.int .i64 t394)) (fun _ hk=>hk.2) (.slice Ao16 t395.length co16)) (fun _ h_=>h_.1))) hb);have n1_:=A_ (Kd.R_elder' (by (with_reducible repeat (first|apply ra_|apply rn_|apply re_));exact (Kd.R_mono (rf_ (p:=⟨gb399,3,none⟩) (rf_ (p:=⟨gb399,2,none⟩) (rf_ (p:=⟨gb399,1,none⟩) (rf_ (p:=⟨gb399,0,none⟩) (Kd.R_types HO397.out BK399.out (by decide)) (fun _ hk=>hk.2) (.int .i64 t392)) (fun _ hk=>hk.2) (.int .i64 t393)) (fun _ hk=>hk.2) (.int .i64 t394)) (fun _ hk=>hk.2) (.slice Ao16 t395.length co16)) (fun _ h_=>h_.1))) (Kd.R_base ho0) hb);have n2_:=A_ (Kd.R_lower (Kd.R_new' ho0 (Kd.R_lt (by (with_reducible repeat (first|apply ra_|apply rn_|apply re_));exact (Kd.R_mono (rf_ (p:=⟨gb399,3,none⟩) (rf_ (p:=⟨gb399,2,none⟩) (rf_ (p:=⟨gb399,1,none⟩) (rf_ (p:=⟨gb399,0,none⟩) (Kd.R_types HO397.out BK399.out (by decide)) (fun _ hk=>hk.2) (.int .i64 t392)) (fun _ hk=>hk.2) (.int .i64 t393)) (fun _ hk=>hk.2) (.int .i64 t394)) (fun _ hk=>hk.2) (.slice Ao16 t395.length co16)) (fun _ h_=>h_.1))))) (bz_ (hb1_ HB.out GE399.out)));have n3_:=A_ (bb_ (g:=gb399) (o:=.cells #[.int .i64 t392,.int .i64 t393,.int .i64 t394,.slice Ao16 t395.length co16] 26 (0,0)) (by refine kk_ ?_;apply blkf_4_0_3;exact kk_ BK399.out) hb);have n4_:=A_ (bp_ (hb1_ HB.out GE399.out) hb);clear HO391;clear HO397;clear BK399;clear HB;have HO391:=n0_;have HO397:=n1_;have HO405:=n2_;have BK399:=n3_;have HB:=n4_;clear n0_ n1_ n2_ n3_ n4_;(try clear hb);(try clear hb2);(try clear hk);(try clear hi);(try clear ho0))|((with_reducible refine gate_dst (N:=5) rfl ?_);refine box_event ?hg (N:=5) ?hd (cs:=#[.int .i64 0,.int .i64 0,.int .i64 0,.slice none 0 0]) (t:=26) ?hr ?_;(case hd=>rfl);(case hg=>rfl);(case hr=>first|(go_simp;done)|(go_simp;rfl));intro gb407 hg w18 hbox hb;have n0_:=A_ (Kd.R_below (by (with_reducible repeat (first|apply ra_|apply rn_|apply re_));exact HO391.out) hb);have n1_:=A_ (Kd.R_below (by (with_reducible repeat (first|apply ra_|apply rn_|apply re_));exact HO397.out) hb);have n2_:=A_ (Kd.R_below (by (with_reducible repeat (first|apply ra_|apply rn_|apply re_));exact HO405.out) hb);have n3_:=A_ (bx_ BK399.out kf_ hb);have n4_:=A_ (bp_ (hb1_ HB.out GE399.out) hb);have n5_:=A_ (hbox);have n6_:=A_ ((by rw [hg];exact (bz_ (hb1_ HB.out GE399.out)) : w.heap.size≤gb407));have n7_:=n6_;have n8_:=A_ ((by rw [hg];exact Nat.ne_of_lt (bl_ BK399.out kf_) : gb399≠gb407));have n9_:=A_ (Ne.symm n8_.out);clear HO391;clear HO397;clear HO405;clear BK399;clear HB;have HO391:=n0_;have HO397:=n1_;have HO405:=n2_;have BK399:=n3_;have HB:=n4_;have BK407:=n5_;have GW407:=n6_;have GE407:=n7_;have NB399_407:=n8_;have NB407_399:=n9_;clear n0_ n1_ n2_ n3_ n4_ n5_ n6_ n7_ n8_ n9_;clear hb hbox hg;have hnb19:=NB407_399.out;have hnc19:=NB399_407.out;obtain ⟨z20_0,z20_1,z20_2,z20_3⟩:=blkc_4 BK407.out;obtain ⟨y20_0,y20_1,y20_2,y20_3⟩:=blkz_4 BK407.out;obtain ⟨Ao21,co21,eo21⟩:=Kd.R_slice HO405.out;subst eo21))
 (try simp only [Act.put,u1_,u2_,u3_])
 go_cut [2] (fun v2 wc=>∃ (kq : Nat) (x2_7 : Bool),v2=.bool x2_7∧Aside0 (humuslaw11_TableDecodes.j0 kq x2_7=some r)∧Aside0 (kq≤k)∧Aside0 (Kd.R k56 56 wc w.heap.size (fun k_=>some k_≠((.slice Ao21 t403.length co21) : Value).ownBlock) (.slice Ao16 t395.length co16) t395)∧Aside0 (Kd.R k56 56 wc w.heap.size (fun k_=>some k_≠((.slice Ao16 t395.length co16) : Value).ownBlock) (.slice Ao21 t403.length co21) t403)∧Aside0 (wc.heap[gb399]?=some (.cells #[.int .i64 t392,.int .i64 t393,.int .i64 t394,(.slice Ao16 t395.length co16)] 26 (0,0)))∧Aside0 (wc.heap[gb407]?=some (.cells #[.int .i64 t400,.int .i64 t401,.int .i64 t402,(.slice Ao21 t403.length co21)] 26 (0,0)))∧Aside0 (Below w.heap.size w wc))
 case first =>
  have H:=HC8.out;clear HC8
  by_cases c22 : t398=t406
  rotate_left
  ·rw [if_neg c22] at H
   exact absurd H (by simp)
  rw [if_pos c22] at H
  have c22b0 : (t398 == t406)=true:=beq_iff_eq.mpr c22;have c22b1 : (t398 != t406)=false:=bne_eq_false_iff_eq.mpr c22;clear c22;(first|rw [c22b0]|(simp only [i64_w,i32_w];rw [c22b0])|skip);replace H:=Option.bind_eq_some_iff.mp H;obtain ⟨t408,A230,H⟩:=H
  replace H : (if t408=true then ((table_First.f).bind fun bt409=>((humusref11_First.f).bind fun bt415=>((humusref11_Same.f k bt409.1 bt409.2.1 bt409.2.2.1 bt409.2.2.2 bt415.1 bt415.2.1 bt415.2.2.1 bt415.2.2.2).bind fun t421=>(if t421=true then ((humuslaw11_awake.f k).bind fun t422=>(humuslaw11_TableDecodes.j0 k t422)) else (none))))) else (none))=some r:=H
  have A23:=A_ A230;clear A230
  by_cases c24 : t408=true
  rotate_left
  ·replace c24:=Bool.eq_false_iff.mpr c24
   subst c24
   have H1 : (none)=some r:=by rw [if_neg (show ¬ (false=true) by decide)] at H;exact H
   clear H;have H:=H1;clear H1
   exact absurd H (by simp)
  subst c24
  have H1 : ((table_First.f).bind fun bt409=>((humusref11_First.f).bind fun bt415=>((humusref11_Same.f k bt409.1 bt409.2.1 bt409.2.2.1 bt409.2.2.2 bt415.1 bt415.2.1 bt415.2.2.1 bt415.2.2.2).bind fun t421=>(if t421=true then ((humuslaw11_awake.f k).bind fun t422=>(humuslaw11_TableDecodes.j0 k t422)) else (none)))))=some r:=by rw [if_pos rfl] at H;exact H
  clear H;have H:=H1;clear H1;replace H:=Option.bind_eq_some_iff.mp H;obtain ⟨⟨t409,t410,t411,t412⟩,A250,H⟩:=H
  replace H : ((humusref11_First.f).bind fun bt415=>((humusref11_Same.f k t409 t410 t411 t412 bt415.1 bt415.2.1 bt415.2.2.1 bt415.2.2.2).bind fun t421=>(if t421=true then ((humuslaw11_awake.f k).bind fun t422=>(humuslaw11_TableDecodes.j0 k t422)) else (none))))=some r:=H
  have A25:=A_ A250;clear A250;replace H:=Option.bind_eq_some_iff.mp H;obtain ⟨⟨t415,t416,t417,t418⟩,A260,H⟩:=H
  replace H : ((humusref11_Same.f k t409 t410 t411 t412 t415 t416 t417 t418).bind fun t421=>(if t421=true then ((humuslaw11_awake.f k).bind fun t422=>(humuslaw11_TableDecodes.j0 k t422)) else (none)))=some r:=H
  have A26:=A_ A260;clear A260;replace H:=Option.bind_eq_some_iff.mp H;obtain ⟨t421,A270,H⟩:=H
  replace H : (if t421=true then ((humuslaw11_awake.f k).bind fun t422=>(humuslaw11_TableDecodes.j0 k t422)) else (none))=some r:=H
  have A27:=A_ A270;clear A270
  by_cases c28 : t421=true
  rotate_left
  ·replace c28:=Bool.eq_false_iff.mpr c28
   subst c28
   have H1 : (none)=some r:=by rw [if_neg (show ¬ (false=true) by decide)] at H;exact H
   clear H;have H:=H1;clear H1
   exact absurd H (by simp)
  subst c28
  have H1 : ((humuslaw11_awake.f k).bind fun t422=>(humuslaw11_TableDecodes.j0 k t422))=some r:=by rw [if_pos rfl] at H;exact H
  clear H;have H:=H1;clear H1;replace H:=Option.bind_eq_some_iff.mp H;obtain ⟨t422,A290,H⟩:=H;replace H : (humuslaw11_TableDecodes.j0 k t422)=some r:=H;have A29:=A_ A290;clear A290;have H':=A_ H;clear H;have hnb30:=NB399_407.out;have hnc30:=NB407_399.out;obtain ⟨z31_0,z31_1,z31_2,z31_3⟩:=blkc_4 BK399.out;obtain ⟨y31_0,y31_1,y31_2,y31_3⟩:=blkz_4 BK399.out;obtain ⟨z32_0,z32_1,z32_2,z32_3⟩:=blkc_4 BK407.out;obtain ⟨y32_0,y32_1,y32_2,y32_3⟩:=blkz_4 BK407.out
  go_wp2_with (first|(go_at_call 8;(with_reducible refine (humusref11_Same.calls k t392 t393 t394 _ _ t395 t400 t401 t402 _ _ t403 true _ ?side1 ?side2 ?side3 ?side4 A23.out).mono ?_);(case side1=>refine (Kd.R_reads' (e:=56) (base:=w.heap.size) (ok:=fun k_=>(True∧some k_≠(.slice Ao21 t403.length co21 : Value).ownBlock)) (n:=t395.length) (c:=co16) ?_).2.2;exact (by (with_reducible repeat (first|apply ra_|apply rn_|apply re_));exact (Kd.R_mono (rf_ (p:=⟨gb407,3,none⟩) (rf_ (p:=⟨gb407,2,none⟩) (rf_ (p:=⟨gb407,1,none⟩) (rf_ (p:=⟨gb407,0,none⟩) (Kd.R_types HO397.out BK407.out (by decide)) (fun _ hk=>hk.2) (.int .i64 t400)) (fun _ hk=>hk.2) (.int .i64 t401)) (fun _ hk=>hk.2) (.int .i64 t402)) (fun _ hk=>hk.2) (.slice Ao21 t403.length co21)) (fun _ h_=>h_.1))));(case side2=>exact (Kd.R_reads' HO397.out).2.1);(case side3=>refine (Kd.R_reads' (e:=56) (base:=w.heap.size) (ok:=fun k_=>(True∧some k_≠(.slice Ao16 t395.length co16 : Value).ownBlock)) (n:=t403.length) (c:=co21) ?_).2.2;exact (by (with_reducible repeat (first|apply ra_|apply rn_|apply re_));exact (Kd.R_mono (rf_ (p:=⟨gb407,3,none⟩) (rf_ (p:=⟨gb407,2,none⟩) (rf_ (p:=⟨gb407,1,none⟩) (rf_ (p:=⟨gb407,0,none⟩) (Kd.R_types HO405.out BK407.out (by decide)) (fun _ hk=>hk.2) (.int .i64 t400)) (fun _ hk=>hk.2) (.int .i64 t401)) (fun _ hk=>hk.2) (.int .i64 t402)) (fun _ hk=>hk.2) (.slice Ao21 t403.length co21)) (fun _ h_=>h_.1))));(case side4=>exact (Kd.R_reads' HO405.out).2.1);rintro e w33 ⟨rfl,hb⟩;have n0_:=A_ (Kd.R_below (by (with_reducible repeat (first|apply ra_|apply rn_|apply re_));exact (Kd.R_mono (rf_ (p:=⟨gb407,3,none⟩) (rf_ (p:=⟨gb407,2,none⟩) (rf_ (p:=⟨gb407,1,none⟩) (rf_ (p:=⟨gb407,0,none⟩) (Kd.R_types HO391.out BK407.out (by decide)) (fun _ hk=>hk.2) (.int .i64 t400)) (fun _ hk=>hk.2) (.int .i64 t401)) (fun _ hk=>hk.2) (.int .i64 t402)) (fun _ hk=>hk.2) (.slice Ao21 t403.length co21)) (fun _ h_=>h_.1))) hb);have n1_:=A_ (Kd.R_below (by (with_reducible repeat (first|apply ra_|apply rn_|apply re_));exact (Kd.R_mono (rf_ (p:=⟨gb407,3,none⟩) (rf_ (p:=⟨gb407,2,none⟩) (rf_ (p:=⟨gb407,1,none⟩) (rf_ (p:=⟨gb407,0,none⟩) (Kd.R_types HO397.out BK407.out (by decide)) (fun _ hk=>hk.2) (.int .i64 t400)) (fun _ hk=>hk.2) (.int .i64 t401)) (fun _ hk=>hk.2) (.int .i64 t402)) (fun _ hk=>hk.2) (.slice Ao21 t403.length co21)) (fun _ h_=>h_.1))) hb);have n2_:=A_ (Kd.R_below (by (with_reducible repeat (first|apply ra_|apply rn_|apply re_));exact (Kd.R_mono (rf_ (p:=⟨gb407,3,none⟩) (rf_ (p:=⟨gb407,2,none⟩) (rf_ (p:=⟨gb407,1,none⟩) (rf_ (p:=⟨gb407,0,none⟩) (Kd.R_types HO405.out BK407.out (by decide)) (fun _ hk=>hk.2) (.int .i64 t400)) (fun _ hk=>hk.2) (.int .i64 t401)) (fun _ hk=>hk.2) (.int .i64 t402)) (fun _ hk=>hk.2) (.slice Ao21 t403.length co21)) (fun _ h_=>h_.1))) hb);have n3_:=A_ (bb_ (g:=gb399) (o:=.cells #[.int .i64 t392,.int .i64 t393,.int .i64 t394,.slice Ao16 t395.length co16] 26 (0,0)) (by refine kk_ ?_;refine blk_far ?_ NB399_407.out _;refine kk_ ?_;refine blk_far ?_ NB399_407.out _;refine kk_ ?_;refine blk_far ?_ NB399_407.out _;refine kk_ ?_;refine blk_far ?_ NB399_407.out _;exact kk_ BK399.out) hb);have n4_:=A_ (bb_ (g:=gb407) (o:=.cells #[.int .i64 t400,.int .i64 t401,.int .i64 t402,.slice Ao21 t403.length co21] 26 (0,0)) (by refine kk_ ?_;apply blkf_4_0_3;exact kk_ BK407.out) hb);have n5_:=A_ (bp_ (hb2_ HB.out GE399.out GE407.out) hb);clear HO391;clear HO397;clear HO405;clear BK399;clear BK407;clear HB;have HO391:=n0_;have HO397:=n1_;have HO405:=n2_;have BK399:=n3_;have BK407:=n4_;have HB:=n5_;clear n0_ n1_ n2_ n3_ n4_ n5_;(try clear hb);(try clear hb2);(try clear hk);(try clear hi))|(go_at_call 9;(with_reducible refine (table_First.calls  t409 t410 t411 t412 _ A25.out).mono ?_);rintro e w34 ⟨v413,rfl,ho0,hb⟩;have n0_:=A_ (Kd.R_below (by (with_reducible repeat (first|apply ra_|apply rn_|apply re_));exact HO391.out) hb);have n1_:=A_ (Kd.R_elder' (by (with_reducible repeat (first|apply ra_|apply rn_|apply re_));exact HO397.out) (Kd.R_base ho0) hb);have n2_:=A_ (Kd.R_elder' (by (with_reducible repeat (first|apply ra_|apply rn_|apply re_));exact HO405.out) (Kd.R_base ho0) hb);have n3_:=A_ (Kd.R_lower (Kd.R_new' (Kd.R_new' ho0 (Kd.R_lt (by (with_reducible repeat (first|apply ra_|apply rn_|apply re_));exact HO397.out))) (Kd.R_lt (by (with_reducible repeat (first|apply ra_|apply rn_|apply re_));exact HO405.out))) (bz_ (hb2_ HB.out GE399.out GE407.out)));have n4_:=A_ (bx_ BK399.out kf_ hb);have n5_:=A_ (bx_ BK407.out kf_ hb);have n6_:=A_ (bp_ (hb2_ HB.out GE399.out GE407.out) hb);clear HO391;clear HO397;clear HO405;clear BK399;clear BK407;clear HB;have HO391:=n0_;have HO397:=n1_;have HO405:=n2_;have HO414:=n3_;have BK399:=n4_;have BK407:=n5_;have HB:=n6_;clear n0_ n1_ n2_ n3_ n4_ n5_ n6_;(try clear hb);(try clear hb2);(try clear hk);(try clear hi);(try clear ho0))|(go_at_call 10;(with_reducible refine (humusref11_First.calls  t415 t416 t417 t418 _ A26.out).mono ?_);rintro e w35 ⟨v419,rfl,ho0,hb⟩;have n0_:=A_ (Kd.R_below (by (with_reducible repeat (first|apply ra_|apply rn_|apply re_));exact HO391.out) hb);have n1_:=A_ (Kd.R_elder' (by (with_reducible repeat (first|apply ra_|apply rn_|apply re_));exact HO397.out) (Kd.R_base ho0) hb);have n2_:=A_ (Kd.R_elder' (by (with_reducible repeat (first|apply ra_|apply rn_|apply re_));exact HO405.out) (Kd.R_base ho0) hb);have n3_:=A_ (Kd.R_elder' (by (with_reducible repeat (first|apply ra_|apply rn_|apply re_));exact HO414.out) (Kd.R_base ho0) hb);have n4_:=A_ (Kd.R_lower (Kd.R_new' (Kd.R_new' (Kd.R_new' ho0 (Kd.R_lt (by (with_reducible repeat (first|apply ra_|apply rn_|apply re_));exact HO397.out))) (Kd.R_lt (by (with_reducible repeat (first|apply ra_|apply rn_|apply re_));exact HO405.out))) (Kd.R_lt (by (with_reducible repeat (first|apply ra_|apply rn_|apply re_));exact HO414.out))) (bz_ (hb2_ HB.out GE399.out GE407.out)));have n5_:=A_ (bx_ BK399.out kf_ hb);have n6_:=A_ (bx_ BK407.out kf_ hb);have n7_:=A_ (bp_ (hb2_ HB.out GE399.out GE407.out) hb);clear HO391;clear HO397;clear HO405;clear HO414;clear BK399;clear BK407;clear HB;have HO391:=n0_;have HO397:=n1_;have HO405:=n2_;have HO414:=n3_;have HO420:=n4_;have BK399:=n5_;have BK407:=n6_;have HB:=n7_;clear n0_ n1_ n2_ n3_ n4_ n5_ n6_ n7_;(try clear hb);(try clear hb2);(try clear hk);(try clear hi);(try clear ho0);obtain ⟨Ao36,co36,eo36⟩:=Kd.R_slice HO414.out;subst eo36;obtain ⟨Ao37,co37,eo37⟩:=Kd.R_slice HO420.out;subst eo37)|(go_at_call 8;(with_reducible refine (humusref11_Same.calls k t409 t410 t411 _ _ t412 t415 t416 t417 _ _ t418 true _ ?side1 ?side2 ?side3 ?side4 A27.out).mono ?_);(case side1=>repeat (first|exact (Kd.R_reads' HO414.out).2.2|(with_reducible refine Kd.C_alloc ?_ _)|(with_reducible refine Kd.C_drewN ?_ _)|(with_reducible refine Kd.C_drew ?_)));(case side2=>exact (Kd.R_reads' HO414.out).2.1);(case side3=>repeat (first|exact (Kd.R_reads' HO420.out).2.2|(with_reducible refine Kd.C_alloc ?_ _)|(with_reducible refine Kd.C_drewN ?_ _)|(with_reducible refine Kd.C_drew ?_)));(case side4=>exact (Kd.R_reads' HO420.out).2.1);rintro e w38 ⟨rfl,hb⟩;have n0_:=A_ (Kd.R_below (by (with_reducible repeat (first|apply ra_|apply rn_|apply re_));exact HO391.out) hb);have n1_:=A_ (Kd.R_below (by (with_reducible repeat (first|apply ra_|apply rn_|apply re_));exact HO397.out) hb);have n2_:=A_ (Kd.R_below (by (with_reducible repeat (first|apply ra_|apply rn_|apply re_));exact HO405.out) hb);have n3_:=A_ (Kd.R_below (by (with_reducible repeat (first|apply ra_|apply rn_|apply re_));exact HO414.out) hb);have n4_:=A_ (Kd.R_below (by (with_reducible repeat (first|apply ra_|apply rn_|apply re_));exact HO420.out) hb);have n5_:=A_ (bx_ BK399.out kf_ hb);have n6_:=A_ (bx_ BK407.out kf_ hb);have n7_:=A_ (bp_ (hb2_ HB.out GE399.out GE407.out) hb);clear HO391;clear HO397;clear HO405;clear HO414;clear HO420;clear BK399;clear BK407;clear HB;have HO391:=n0_;have HO397:=n1_;have HO405:=n2_;have HO414:=n3_;have HO420:=n4_;have BK399:=n5_;have BK407:=n6_;have HB:=n7_;clear n0_ n1_ n2_ n3_ n4_ n5_ n6_ n7_;(try clear hb);(try clear hb2);(try clear hk);(try clear hi))|(go_at_call 5;(with_reducible refine (humuslaw11_awake.calls k  t422 _ A29.out).mono ?_);rintro e w39 ⟨rfl,hb⟩;have n0_:=A_ (Kd.R_below (by (with_reducible repeat (first|apply ra_|apply rn_|apply re_));exact HO391.out) hb);have n1_:=A_ (Kd.R_below (by (with_reducible repeat (first|apply ra_|apply rn_|apply re_));exact HO397.out) hb);have n2_:=A_ (Kd.R_below (by (with_reducible repeat (first|apply ra_|apply rn_|apply re_));exact HO405.out) hb);have n3_:=A_ (Kd.R_below (by (with_reducible repeat (first|apply ra_|apply rn_|apply re_));exact HO414.out) hb);have n4_:=A_ (Kd.R_below (by (with_reducible repeat (first|apply ra_|apply rn_|apply re_));exact HO420.out) hb);have n5_:=A_ (bx_ BK399.out kf_ hb);have n6_:=A_ (bx_ BK407.out kf_ hb);have n7_:=A_ (bp_ (hb2_ HB.out GE399.out GE407.out) hb);clear HO391;clear HO397;clear HO405;clear HO414;clear HO420;clear BK399;clear BK407;clear HB;have HO391:=n0_;have HO397:=n1_;have HO405:=n2_;have HO414:=n3_;have HO420:=n4_;have BK399:=n5_;have BK407:=n6_;have HB:=n7_;clear n0_ n1_ n2_ n3_ n4_ n5_ n6_ n7_;(try clear hb);(try clear hb2);(try clear hk);(try clear hi)))
  go_meet
  case rel=>exact ⟨_,(t422),(by first|rfl|(simp;done)|(simp [*];done)),H',⟨by first|omega|exact Nat.le_refl _⟩,⟨by (with_reducible repeat (first|apply ra_|apply rn_|apply re_));exact Kd.R_mono HO397.out (fun _ hk=>hk.1.1.2)⟩,⟨by (with_reducible repeat (first|apply ra_|apply rn_|apply re_));exact Kd.R_mono HO405.out (fun _ hk=>hk.1.1.2)⟩,⟨by exact kk_ BK399.out⟩,⟨by exact kk_ BK407.out⟩,⟨hb2_ HB.out GE399.out GE407.out⟩⟩
 case rest =>
  clear HC8;(try clear c1);(try clear c2);(try clear c2b0);(try clear c2b1);(try clear p2);(try clear c3);(try clear c5);(try clear c6);(try clear c7);(try clear c19);(try clear c22);(try clear c22b0);(try clear c22b1);(try clear c24);(try clear c28);(try clear c30);(try clear z15_0 z15_1 z15_2 z15_3 z20_0 z20_1 z20_2 z20_3 z31_0 z31_1 z31_2 z31_3 z32_0 z32_1 z32_2 z32_3 y15_0 y15_1 y15_2 y15_3 y20_0 y20_1 y20_2 y20_3 y31_0 y31_1 y31_2 y31_3 y32_0 y32_1 y32_2 y32_3);obtain ⟨kq,x2_7,rfl,HA,HJ7,HO_400003,HO_408003,BK399,BK407,HB⟩:=hcut
  cases kq with
  | zero=>exact absurd HA.out (by simp [humuslaw11_TableDecodes.j0])
  | succ kj7 =>
   have H:=HA.out;clear HA
   simp only [humuslaw11_TableDecodes.j0] at H
   obtain rfl:=Option.some.inj H;go_wp2;go_ret
   exact ⟨by first|rfl|(simp [errW_none,errW_some] <;> rfl)|(simp [*,errW_none,errW_some] <;> rfl),hb2_ HB.out GE399.out GE407.out⟩
def humuslaw11_TableDecodes.Pure : Prop:=∀ (l0 : List Int),l0.length≤maxLen→l0.length * 1≤140737488351232→(∀ x ∈ l0,(Lit.int .u8 x).wf=true)→∃ k,humuslaw11_TableDecodes.f k l0=some true
theorem humuslaw11_TableDecodes.walk (P : humuslaw11_TableDecodes.Pure) (a0 : Option Addr) (len0 cap0 : Nat) (z0 : List Int) (w : World) (w0 : (a0=none∧len0=0∧cap0=0∧z0=[])∨∃ x,a0=some x∧len0≤cap0∧cap0≤maxLen∧z0.length=cap0∧(∀ i,i<z0.length→w.cell? (x.add i)=some (.int .u8 (z0.getD i 0)))∧∀ n ∈ z0,(Lit.int .u8 n).wf=true) (y0 : len0 * 1≤140737488351232) :
  Calls Tryd.prog 3 #[.slice a0 len0 cap0] w fun e w'=>e=.returned (.bool true)∧Below w.heap.size w w':=by
 obtain ⟨l0,rfl,hr0,hm0,hw0,hc0⟩:=ReadsInt.ofRowC w0;obtain ⟨k,h⟩:=P l0 hm0 y0 hw0
 refine (humuslaw11_TableDecodes.calls k _ _ l0 true w (Kd.C_of_reads (d:=(0 : Int)) (h1:=fun _=>rfl) hr0) hc0 h).mono ?_
 rintro e w' ⟨rfl,hd⟩;exact ⟨rfl,hd⟩
end Go.Proofs.YtbmcbhpkefjhbaaDoor.P
namespace Go.Proofs.YtbmcbhpkefjhbaaDoor.Crc
def poly : BitVec 32:=0x814141AB#32
def s (r : BitVec 32) : BitVec 32:=(r <<< 1) ^^^ (if r.msb then poly else 0#32)
def bitw (b : Bool) : BitVec 32:=if b then 0x80000000#32 else 0#32
def st (r : BitVec 32) (b : Bool) : BitVec 32:=s (r ^^^ bitw b)
def run (r : BitVec 32) (l : List Bool) : BitVec 32:=l.foldl st r
theorem s_xor (a b : BitVec 32) : s (a ^^^ b)=s a ^^^ s b:=by
  unfold s
  rw [BitVec.msb_xor,BitVec.shiftLeft_xor_distrib]
  cases a.msb <;> cases b.msb <;> simp
  · rw [BitVec.xor_assoc]
  · rw [BitVec.xor_assoc,BitVec.xor_assoc]; congr 1; exact BitVec.xor_comm _ _
  · rw [BitVec.xor_assoc,← BitVec.xor_assoc poly,BitVec.xor_comm poly,BitVec.xor_assoc,BitVec.xor_self]; simp
theorem run_append (r : BitVec 32) (l m : List Bool) : run r (l++m)=run (run r l) m:=by simp [run]
theorem run_cons (r : BitVec 32) (a : Bool) (l : List Bool) : run r (a :: l)=run (st r a) l:=rfl
theorem run_nil (r : BitVec 32) : run r []=r:=rfl
def sn : Nat→BitVec 32→BitVec 32
  | 0,r=>r
  | n+1,r=>sn n (s r)
def pack : List Bool→BitVec 32
  | []=>0#32
  | b :: l=>bitw b ^^^ (pack l >>> 1)
theorem pack_low (l : List Bool) (k : Nat) (h : l.length + k≤31) : (pack l).getLsbD k=false:=by
  induction l generalizing k with
  | nil=>simp [pack]
  | cons b l ih =>
    simp only [List.length_cons] at h
    rw [pack,BitVec.getLsbD_xor,BitVec.getLsbD_ushiftRight,show 1 + k=k + 1 by omega,ih (k + 1) (by omega)]
    cases b with
    | false=>simp [bitw]
    | true =>
      simp only [bitw,if_true,Bool.bne_false]
      have : ∀ k : Nat,k<31→(0x80000000#32).getLsbD k=false:=by decide
      exact this k (by omega)
theorem s_shift (x : BitVec 32) (h : x.getLsbD 0=false) : s (x >>> 1)=x:=by
  unfold s
  have hm : (x >>> 1).msb=false:=by simp [BitVec.msb_ushiftRight]
  rw [hm]
  simp only [Bool.false_eq_true,if_false,BitVec.xor_zero]
  apply BitVec.eq_of_getLsbD_eq;intro i hi;rw [BitVec.getLsbD_shiftLeft,BitVec.getLsbD_ushiftRight]
  cases i with
  | zero=>simp; exact h
  | succ i=>simp [hi,show 1 + i=i + 1 by omega]
theorem run_pack (l : List Bool) (h : l.length≤32) (r : BitVec 32) : run r l=sn l.length (r ^^^ pack l):=by
  induction l generalizing r with
  | nil=>simp [run_nil,sn,pack]
  | cons b l ih =>
    simp only [List.length_cons] at h
    rw [run_cons,ih (by omega),List.length_cons,sn,pack,← BitVec.xor_assoc,s_xor,s_shift _ (pack_low l 0 (by omega))]
    rfl
def b8 (x : Int) : List Bool:=[x.toNat.testBit 7,x.toNat.testBit 6,x.toNat.testBit 5,x.toNat.testBit 4,x.toNat.testBit 3,x.toNat.testBit 2,x.toNat.testBit 1,x.toNat.testBit 0]
def tb (l : List Int) : List Bool:=l.flatMap b8
def crc (r : BitVec 32) (l : List Int) : BitVec 32:=run r (tb l)
theorem tb_cons (x : Int) (l : List Int) : tb (x :: l)=b8 x++tb l:=rfl
theorem crc_cons (r : BitVec 32) (x : Int) (l : List Int) : crc r (x :: l)=crc (run r (b8 x)) l:=by
  unfold crc; rw [tb_cons,run_append]
theorem pack_b8 : ∀ n,n<256→pack (b8 (n : Nat))=BitVec.ofNat 32 (n * 16777216):=by decide +kernel
theorem run_b8 (r : BitVec 32) (x : Int) (h0 : 0≤x) (h1 : x≤255) : run r (b8 x)=sn 8 (r ^^^ BitVec.ofNat 32 (x.toNat * 16777216)):=by
  rw [run_pack _ (by simp [b8])]
  obtain ⟨n,rfl⟩:=Int.eq_ofNat_of_zero_le h0
  rw [pack_b8 n (by omega)]
  rfl
theorem xor32 (a b : BitVec 32) : Go.bits .xor .u32 (a.toNat : Int) (b.toNat : Int)=((a ^^^ b).toNat : Int):=by
  have h:=(a ^^^ b).isLt
  have e : ∀ n : Nat,n<4294967296→IntKind.u32.wrap (n : Int)=n:=fun n hn=>by
    simp only [IntKind.wrap,IntKind.bits,IntKind.signed]; simp; omega
  have e1 : BitVec.ofInt IntKind.u32.bits (a.toNat : Int)=a:=by rw [BitVec.ofInt_natCast]; exact BitVec.ofNat_toNat 32 a
  have e2 : BitVec.ofInt IntKind.u32.bits (b.toNat : Int)=b:=by rw [BitVec.ofInt_natCast]; exact BitVec.ofNat_toNat 32 b
  unfold Go.bits
  rw [e1,e2];exact e _ h
theorem dbl (r : BitVec 32) : (r.toNat : Int) * (2 : Int) % (4294967296 : Int)=((r <<< 1).toNat : Int):=by
  rw [BitVec.toNat_shiftLeft,Nat.shiftLeft_eq]; omega
theorem step_hi (r : BitVec 32) (h : (r.toNat : Int) / (2147483648 : Int)=1) : Go.bits .xor .u32 ((r.toNat : Int) * (2 : Int) % (4294967296 : Int)) 2168537515=((s r).toNat : Int):=by
  have hm : r.msb=true:=by rw [BitVec.msb_eq_decide]; simp; omega
  have e2 : (2168537515 : Int)=(poly.toNat : Int):=rfl;rw [dbl,e2,xor32]
  unfold s
  rw [hm]
  simp
theorem step_lo (r : BitVec 32) (h : ¬ (r.toNat : Int) / (2147483648 : Int)=1) : (r.toNat : Int) * (2 : Int) % (4294967296 : Int)=((s r).toNat : Int):=by
  have hr:=r.isLt
  have hm : r.msb=false:=by rw [BitVec.msb_eq_decide]; simp; omega
  rw [dbl]
  unfold s
  rw [hm]
  simp
theorem b8_length (x : Int) : (b8 x).length=8:=rfl
theorem tb_length (l : List Int) : (tb l).length=8 * l.length:=by
  induction l with
  | nil=>rfl
  | cons x l ih=>rw [tb_cons,List.length_append,ih,b8_length,List.length_cons]; omega
theorem b8_get (x : Int) (i : Nat) (h : i<8) : (b8 x)[i]?=some (x.toNat.testBit (7 - i)):=by
  rcases (by omega : i=0∨i=1∨i=2∨i=3∨i=4∨i=5∨i=6∨i=7) with rfl|rfl|rfl|rfl|rfl|rfl|rfl|rfl <;> rfl
theorem tb_get (l : List Int) : ∀ i,i<8 * l.length→(tb l)[i]?=some ((l.getD (i / 8) 0).toNat.testBit (7 - i % 8)):=by
  induction l with
  | nil=>intro i h; simp at h
  | cons x l ih =>
    intro i h;rw [tb_cons]
    by_cases c : i<8
    · rw [List.getElem?_append_left (by rw [b8_length]; exact c),b8_get x i c,Nat.div_eq_of_lt c,Nat.mod_eq_of_lt c]
      rfl
    · rw [List.getElem?_append_right (by rw [b8_length]; omega),b8_length,ih (i - 8) (by simp only [List.length_cons] at h; omega)]
      obtain ⟨k,hk⟩ : ∃ k,i / 8=k + 1:=⟨i / 8 - 1,by omega⟩
      rw [hk,show (i - 8) / 8=k by omega,show (i - 8) % 8=i % 8 by omega]
      rfl
theorem tb_take (l : List Int) (i : Nat) (h : i<8 * l.length) : (tb l).take (i + 1)=(tb l).take i++[(l.getD (i / 8) 0).toNat.testBit (7 - i % 8)]:=by
  have hg:=tb_get l i h;obtain ⟨hl,he⟩:=List.getElem?_eq_some_iff.1 hg;rw [List.take_succ_eq_append_getElem hl,he]
theorem run_snoc (r : BitVec 32) (l : List Bool) (b : Bool) : run r (l++[b])=st (run r l) b:=by rw [run_append]; rfl
theorem xor_u64 (a b : Nat) (ha : a<18446744073709551616) (hb : b<18446744073709551616) : Go.bits .xor .u64 (a : Int) (b : Int)=((a ^^^ b : Nat) : Int):=by
  have w64 : ∀ n : Nat,n<18446744073709551616→IntKind.u64.wrap (n : Int)=n:=fun n hn=>by
    simp only [IntKind.wrap,IntKind.bits,IntKind.signed]; simp; omega
  have e1 : ∀ n : Nat,BitVec.ofInt IntKind.u64.bits (n : Int)=BitVec.ofNat 64 n:=fun n=>by rw [BitVec.ofInt_natCast]; rfl
  have ex : (BitVec.ofNat 64 a ^^^ BitVec.ofNat 64 b).toNat=a ^^^ b:=by
    rw [BitVec.toNat_xor,BitVec.toNat_ofNat,BitVec.toNat_ofNat,Nat.mod_eq_of_lt (by omega),Nat.mod_eq_of_lt (by omega)]
  have hx : a ^^^ b<2 ^ 64:=Nat.xor_lt_two_pow (by omega) (by omega)
  unfold Go.bits
  rw [e1,e1]
  refine Eq.trans (congrArg (fun z : Nat=>IntKind.u64.wrap (z : Int)) ex) ?_
  exact w64 _ (by omega)
theorem st_eq (q : BitVec 32) (b : Bool) : st q b=(q <<< 1) ^^^ (if (q.msb ^^ b) then poly else 0#32):=by
  unfold st s
  rw [BitVec.msb_xor,BitVec.shiftLeft_xor_distrib]
  have h0 : (bitw b <<< 1)=0#32:=by cases b <;> decide
  have h1 : (bitw b).msb=b:=by cases b <;> decide
  rw [h0,h1,BitVec.xor_zero]
theorem msb_div (q : BitVec 32) : (q.toNat : Int) / 2147483648=if q.msb then 1 else 0:=by
  have h:=q.isLt;have hm : q.msb=decide (2 ^ 31≤q.toNat):=BitVec.msb_eq_decide q;rw [hm]
  by_cases c : 2 ^ 31≤q.toNat
  · rw [dt_ c]; simp only [if_true]; omega
  · rw [df_ c]; simp only [Bool.false_eq_true,if_false]; omega
theorem ref_same (q : BitVec 32) (b : Bool) (h : ((q.toNat : Int) / 2147483648 != (if b then 1 else 0))=false) : (q.toNat : Int) * 2 % 4294967296=((st q b).toNat : Int):=by
  rw [msb_div] at h
  have e : q.msb=b:=by revert h; cases q.msb <;> cases b <;> decide
  rw [st_eq,e,Bool.xor_self]
  simp only [Bool.false_eq_true,if_false,BitVec.xor_zero]
  exact dbl q
theorem ref_other (q : BitVec 32) (b : Bool) (h : ((q.toNat : Int) / 2147483648 != (if b then 1 else 0))=true) : Go.bits .xor .u64 ((q.toNat : Int) * 2 % 4294967296) 2168537515=((st q b).toNat : Int):=by
  rw [msb_div] at h
  have e : (q.msb ^^ b)=true:=by revert h; cases q.msb <;> cases b <;> decide
  rw [st_eq,e]
  simp only [if_true]
  have d:=dbl q;have e3 : (2168537515 : Int)=((2168537515 : Nat) : Int):=rfl
  rw [d,e3,xor_u64 _ _ (by have:=(q <<< 1).isLt; omega) (by omega),BitVec.toNat_xor]
  rfl
theorem bit_of (x : Int) (k : Nat) (h0 : 0≤x) : (x / 2 ^ k).tmod 2=if x.toNat.testBit k then 1 else 0:=by
  obtain ⟨n,rfl⟩:=Int.eq_ofNat_of_zero_le h0;rw [Int.toNat_natCast,Nat.testBit_eq_decide_div_mod_eq]
  have e : (n : Int) / 2 ^ k=((n / 2 ^ k : Nat) : Int):=by
    rw [Int.natCast_ediv]; simp
  rw [e]
  generalize n / 2 ^ k=m
  have e2 : ((m : Int)).tmod 2=((m % 2 : Nat) : Int):=by rw [Int.tmod_eq_emod_of_nonneg (by omega)]; omega
  rw [e2]
  rcases Nat.mod_two_eq_zero_or_one m with h|h <;> rw [h] <;> rfl
end Go.Proofs.YtbmcbhpkefjhbaaDoor.Crc
namespace Go.Proofs.YtbmcbhpkefjhbaaDoor.P
open Go.RowKit YtbmcbhpkefjhbaaDoor YtbmcbhpkefjhbaaDoor.Mem YtbmcbhpkefjhbaaDoorW.PrintWords YtbmcbhpkefjhbaaDoorW.PrintLast YtbmcbhpkefjhbaaDoorW.PrintMore
def reg0 : BitVec 32:=BitVec.allOnes 32
def sumL (l : List Int) : BitVec 32:=Crc.crc reg0 l
def fourL (v : BitVec 32) : List Int:=[(v.toNat : Int) / 16777216 % 256,(v.toNat : Int) / 65536 % 256,(v.toNat : Int) / 256 % 256,(v.toNat : Int) % 256]
def sealL (l : List Int) : List Int:=fourL (sumL l)++l
theorem sealL_length (l : List Int) : (sealL l).length=l.length + 4:=by unfold sealL fourL; simp
theorem sealL_take (l : List Int) : (sealL l).take 4=fourL (sumL l):=rfl
theorem sealL_drop (l : List Int) : (sealL l).drop 4=l:=rfl
theorem fourL_bytes (v : BitVec 32) : Bytes (fourL v):=by
  intro x hx
  unfold fourL at hx
  simp only [List.mem_cons,List.not_mem_nil,or_false] at hx
  rcases hx with rfl|rfl|rfl|rfl <;> omega
theorem sealL_bytes {l : List Int} (h : Bytes l) : Bytes (sealL l):=(fourL_bytes _).append h
theorem wsucc {i : Nat} (h : i≤4611686018427387904) : wrap64 ((i : Int) + 1)=((i + 1 : Nat) : Int):=by unfold wrap64; omega
theorem More_l1 (l : List Int) (n i : Int) (k : Nat) : ∀ (d j : Nat) (r : BitVec 32),j + d=8→tally_More.l1 (k + d + 1) (r.toNat : Int) l n i (j : Int)=tally_More.l0 k ((Crc.sn d r).toNat : Int) l n (wrap64 (i + 1)):=by
  intro d
  induction d with
  | zero =>
    intro j r hj
    rw [tally_More.l1,if_neg (by omega)]; rfl
  | succ d ih =>
    intro j r hj
    rw [show k + (d + 1) + 1=(k + d + 1) + 1 by omega,tally_More.l1,if_pos (by omega),wsucc (by omega)]
    by_cases ht : (r.toNat : Int) / 2147483648=1
    · rw [if_pos ht,Crc.step_hi r ht]; exact ih (j + 1) (Crc.s r) (by omega)
    · rw [if_neg ht,Crc.step_lo r ht]; exact ih (j + 1) (Crc.s r) (by omega)
theorem top8L (r : BitVec 32) (x : Int) (h0 : 0≤x) (h1 : x≤255) : Go.bits .xor .u32 (r.toNat : Int) (((x % 4294967296) * 16777216) % 4294967296)=((r ^^^ BitVec.ofNat 32 (x.toNat * 16777216)).toNat : Int):=by
  have e : ((x % 4294967296) * 16777216) % 4294967296=((BitVec.ofNat 32 (x.toNat * 16777216)).toNat : Int):=by
    rw [BitVec.toNat_ofNat]; omega
  rw [e,Crc.xor32]
theorem More_l0 {l : List Int} (hb : Bytes l) (hl : l.length≤1000000) (k : Nat) : ∀ (d i : Nat) (r : BitVec 32),i + d=l.length→tally_More.l0 (k + 10 * d + 1) (r.toNat : Int) l (l.length : Int) (i : Int)=some ((Crc.crc r (l.drop i)).toNat : Int):=by
  intro d
  induction d with
  | zero =>
    intro i r hi
    rw [tally_More.l0,if_neg (by omega),List.drop_eq_nil_of_le (by omega)]; rfl
  | succ d ih =>
    intro i r hi
    have hlt : i<l.length:=by omega
    have hbb:=hb.at_ i hlt
    rw [show k + 10 * (d + 1) + 1=(k + 10 * d + 1) + 8 + 1 + 1 by omega,tally_More.l0,if_pos (by omega),if_pos (by omega),if_pos (by omega),top8L r _ hbb.1 hbb.2]
    refine (More_l1 l (l.length : Int) (i : Int) (k + 10 * d + 1) 8 0 _ rfl).trans ?_
    rw [wsucc (by omega),ih (i + 1) _ (by omega)]
    congr 2
    have he : rd l (i : Int)=l[i]:=by unfold rd; rw [Int.toNat_natCast,List.getD_eq_getElem?_getD,List.getElem?_eq_getElem hlt]; rfl
    rw [List.drop_eq_getElem_cons hlt,Crc.crc_cons,Crc.run_b8 _ _ (by rw [← he]; exact hbb.1) (by rw [← he]; exact hbb.2),he]
theorem tSum_ev {k : Nat} {l : List Int} (hb : Bytes l) (hl : l.length≤1000000) (hk : 10 * l.length + 1≤k) : tally_Sum.f k l=some ((sumL l).toNat : Int):=by
  obtain ⟨m,rfl⟩ : ∃ m,k=m + 10 * l.length + 1:=⟨k - (10 * l.length + 1),by omega⟩
  unfold tally_Sum.f tally_More.f
  have h:=More_l0 hb hl m l.length 0 reg0 (by omega)
  rw [List.drop_zero] at h
  rw [show (4294967295 : Int)=(reg0.toNat : Int) from rfl,show (0 : Int)=((0 : Nat) : Int) from rfl,h]
  rfl
theorem tSeal_ev {k : Nat} {l : List Int} (hb : Bytes l) (hl : l.length≤1000000) (hk : 10 * l.length + 1≤k) : tally_Seal.f k l=some (sealL l):=by
  unfold tally_Seal.f
  rw [tSum_ev hb hl hk]
  simp only [Option.bind_some]
  rw [if_pos (by simp; omega)]
  rfl
theorem tOpen_ev {k : Nat} {l : List Int} (hb : Bytes l) (h4 : 4≤l.length) (hl : l.length≤1000000) (hk : 10 * l.length + 1≤k) : tally_Open.f k l=some (if fourL (sumL (l.drop 4))=l.take 4 then (l.drop 4,0) else ([],5)):=by
  unfold tally_Open.f
  rw [if_neg (by omega),if_pos (by omega),tSeal_ev (hb.drop 4) (by rw [List.length_drop]; omega) (by rw [List.length_drop]; omega),Option.bind_some,if_pos (by rw [sealL_length]; omega),sealL_take]
  have hq:=str_eq (fourL_bytes (sumL (l.drop 4))) (hb.take 4)
  by_cases he : fourL (sumL (l.drop 4))=l.take 4
  · rw [if_pos he,he,if_pos rfl]; rfl
  · rw [if_neg he,if_neg (by intro h; rw [h,beq_self_eq_true] at hq; exact he (od_ hq.symm))]
theorem ref_step (q : BitVec 32) (b : Bool) : (((q.toNat : Int) / 2147483648)=(if b then 1 else 0)→(q.toNat : Int) * 2 % 4294967296=((Crc.st q b).toNat : Int))∧(¬ ((q.toNat : Int) / 2147483648)=(if b then 1 else 0)→Go.bits .xor .u64 ((q.toNat : Int) * 2 % 4294967296) 2168537515=((Crc.st q b).toNat : Int)) :=
  ⟨fun h=>Crc.ref_same q b (by rw [bne_eq_false_iff_eq]; exact h),fun h=>Crc.ref_other q b (by rw [bne_iff_ne]; exact h)⟩
theorem w64u {n : Int} (h0 : 0≤n) (h : n<18446744073709551616) : IntKind.u64.wrap n=n:=by
  simp only [IntKind.wrap,IntKind.bits,IntKind.signed]; simp; omega
theorem rSum_l0 {l : List Int} (hb : Bytes l) (hl : l.length≤1000000) (k : Nat) : ∀ (d i : Nat),i + d=8 * l.length→humusref02_Sum.l0 (k + d + 1) l ((Crc.run reg0 ((Crc.tb l).take i)).toNat : Int) (i : Int)=some ((sumL l).toNat : Int):=by
  intro d
  induction d with
  | zero =>
    intro i hi
    have hw : wrap64 (8 * (l.length : Int))=((8 * l.length : Nat) : Int):=by unfold wrap64; omega
    rw [humusref02_Sum.l0,hw,if_neg (by omega),List.take_of_length_le (by rw [Crc.tb_length]; omega)]
    have h:=(Crc.run reg0 (Crc.tb l)).isLt
    congr 1
    unfold sumL Crc.crc
    omega
  | succ d ih =>
    intro i hi
    have hlt : i<8 * l.length:=by omega
    have hw : wrap64 (8 * (l.length : Int))=((8 * l.length : Nat) : Int):=by unfold wrap64; omega
    have ht1 : Int.tdiv (i : Int) 8=((i / 8 : Nat) : Int):=by rw [Int.tdiv_eq_ediv_of_nonneg (by omega)]; omega
    have ht2 : Int.tmod (i : Int) 8=((i % 8 : Nat) : Int):=by rw [Int.tmod_eq_emod_of_nonneg (by omega)]; omega
    have hw1 : wrap64 ((i / 8 : Nat) : Int)=((i / 8 : Nat) : Int):=by unfold wrap64; omega
    have hw2 : wrap64 (7 - ((i % 8 : Nat) : Int))=((7 - i % 8 : Nat) : Int):=by unfold wrap64; omega
    have hw3 : IntKind.u64.wrap ((7 - i % 8 : Nat) : Int)=((7 - i % 8 : Nat) : Int):=w64u (by omega) (by omega)
    have hbb:=hb.at_ (i / 8) (by omega)
    have hx : IntKind.u64.wrap (rd l ((i / 8 : Nat) : Int))=rd l ((i / 8 : Nat) : Int):=w64u hbb.1 (by omega)
    have hsh : shr .u64 (rd l ((i / 8 : Nat) : Int)) ((7 - i % 8 : Nat) : Int)=rd l ((i / 8 : Nat) : Int) / 2 ^ (7 - i % 8):=by
      unfold shr
      rw [Int.toNat_natCast,Nat.min_eq_left (by simp only [IntKind.bits]; omega)]
    have hbt:=Crc.bit_of (rd l ((i / 8 : Nat) : Int)) (7 - i % 8) hbb.1
    have hsn : Crc.run reg0 ((Crc.tb l).take (i + 1))=Crc.st (Crc.run reg0 ((Crc.tb l).take i)) ((rd l ((i / 8 : Nat) : Int)).toNat.testBit (7 - i % 8)):=by rw [Crc.tb_take l i hlt,Crc.run_snoc]; rfl
    have ih':=ih (i + 1) (by omega)
    rw [hsn] at ih';have hq:=(Crc.run reg0 ((Crc.tb l).take i)).isLt
    generalize Crc.run reg0 ((Crc.tb l).take i)=q at *
    have hd : Int.tdiv (q.toNat : Int) 2147483648=(q.toNat : Int) / 2147483648:=Int.tdiv_eq_ediv_of_nonneg (by omega)
    have hd1 : IntKind.u64.wrap ((q.toNat : Int) / 2147483648)=(q.toNat : Int) / 2147483648:=w64u (by omega) (by omega)
    have hm1 : IntKind.u64.wrap ((q.toNat : Int) * 2)=(q.toNat : Int) * 2:=w64u (by omega) (by omega)
    have hm2 : Int.tmod ((q.toNat : Int) * 2) 4294967296=(q.toNat : Int) * 2 % 4294967296:=Int.tmod_eq_emod_of_nonneg (by omega)
    have hst:=ref_step q ((rd l ((i / 8 : Nat) : Int)).toNat.testBit (7 - i % 8))
    rw [show k + (d + 1) + 1=(k + d + 1) + 1 by omega,humusref02_Sum.l0,hw,if_pos (by omega),ht1,ht2,hw1,if_pos (by omega),if_pos (by omega),hw2,hw3,if_pos (by omega),hx,hsh,hbt,hd,hd1,hm1,hm2,wsucc (by omega)]
    by_cases hc : (q.toNat : Int) / 2147483648=(if (rd l ((i / 8 : Nat) : Int)).toNat.testBit (7 - i % 8)=true then 1 else 0)
    · rw [if_pos hc,hst.1 hc]; exact ih'
    · rw [if_neg hc,hst.2 hc]; exact ih'
theorem rSum_ev {k : Nat} {l : List Int} (hb : Bytes l) (hl : l.length≤1000000) (hk : 8 * l.length + 1≤k) : humusref02_Sum.f k l=some ((sumL l).toNat : Int):=by
  obtain ⟨m,rfl⟩ : ∃ m,k=m + 8 * l.length + 1:=⟨k - (8 * l.length + 1),by omega⟩
  unfold humusref02_Sum.f
  exact rSum_l0 hb hl m (8 * l.length) 0 (by omega)
theorem rFour_ev (v : BitVec 32) : humusref02_Four.f (v.toNat : Int)=some (fourL v):=by
  have h:=v.isLt
  unfold humusref02_Four.f fourL
  have e : ∀ m : Int,0<m→m<4294967296→Int.tdiv (v.toNat : Int) m % 4294967296=(v.toNat : Int) / m:=by
    intro m h0 h1
    rw [Int.tdiv_eq_ediv_of_nonneg (by omega)]
    refine Int.emod_eq_of_lt (Int.ediv_nonneg (by omega) (by omega)) ?_
    have:=Int.ediv_le_self (a:=(v.toNat : Int)) m (by omega)
    omega
  rw [e _ (by decide) (by decide),e _ (by decide) (by decide),e _ (by decide) (by decide)]
theorem rSeal_ev {k : Nat} {l : List Int} (hb : Bytes l) (hl : l.length≤1000000) (hk : 8 * l.length + 1≤k) : humusref02_Seal.f k l=some (sealL l):=by
  unfold humusref02_Seal.f
  rw [rSum_ev hb hl hk,Option.bind_some,rFour_ev,Option.bind_some,if_pos (by unfold fourL; simp; omega)]
  rfl
end Go.Proofs.YtbmcbhpkefjhbaaDoor.P
namespace Go.Proofs.YtbmcbhpkefjhbaaDoor.P
open Go.RowKit YtbmcbhpkefjhbaaDoor YtbmcbhpkefjhbaaDoor.Mem YtbmcbhpkefjhbaaDoorW.PrintWords YtbmcbhpkefjhbaaDoorW.PrintLast YtbmcbhpkefjhbaaDoorW.PrintMore
theorem in_ev (a lo hi : Int) : table_in.f a lo hi=some (decide (lo≤a) && decide (a≤hi)):=by
  unfold table_in.f
  by_cases h : a ≥ lo
  · rw [if_pos h,dt_ h]; simp
  · rw [if_neg h,df_ h]; simp
def okE (nt cm : Int) (e : Ent) : Bool :=
  if e.f1=0 then e.f0 == 0 && (e.f1 == 0 && (e.f2 == 0 && (e.f3 == 0)))
  else if e.f1=1 then e.f3 == 0 && ((decide (1≤e.f0) && decide (e.f0≤nt - 1)) && (decide (0≤e.f2) && decide (e.f2≤65535)))
  else if e.f1=2 then (decide (1≤e.f3) && decide (e.f3≤cm)) && ((decide (1≤e.f0) && decide (e.f0≤nt - 1)) && (decide (0≤e.f2) && decide (e.f2≤65535)))
  else false
theorem entry_all {k : Nat} {nt nn cm : Int} {l : List Ent} {e : Ent} (hk : 2≤k) (h1 : 1≤nt) (h2 : nt≤2147483647) : table_entry.f k nt nn cm l e.f0 e.f1 e.f2 e.f3=some (okE nt cm e):=by
  have hw : wrap64 (nt - 1)=nt - 1:=by unfold wrap64; omega
  obtain ⟨k,rfl⟩ : ∃ m,k=m + 2:=⟨k - 2,by omega⟩
  unfold table_entry.f okE
  by_cases c0 : e.f1=0
  · rw [if_pos c0,if_pos c0]
  rw [if_neg c0,if_neg c0]
  by_cases c1 : e.f1=1
  · rw [if_pos c1,if_pos c1]
    by_cases c3 : e.f3=0
    · rw [if_pos c3,in_ev,hw,Option.bind_some,show (e.f3 == 0)=true from beq_iff_eq.mpr c3,Bool.true_and]
      cases hb : (decide (1≤e.f0) && decide (e.f0≤nt - 1)) with
      | true=>rw [if_pos rfl,in_ev,Option.bind_some,Bool.true_and]
      | false=>rw [if_neg (by decide),Bool.false_and]
    · rw [if_neg c3,show (e.f3 == 0)=false from beq_eq_false_iff_ne.mpr c3,Bool.false_and]
  rw [if_neg c1,if_neg c1]
  by_cases c2 : e.f1=2
  · rw [if_pos c2,show (e.f1 == 2)=true from beq_iff_eq.mpr c2,table_entry.j0,if_pos rfl,in_ev,Option.bind_some]
    cases ha : (decide (1≤e.f3) && decide (e.f3≤cm)) with
    | false=>rw [if_neg (by decide),Bool.false_and]
    | true =>
      rw [if_pos rfl,in_ev,hw,Option.bind_some,Bool.true_and]
      cases hb : (decide (1≤e.f0) && decide (e.f0≤nt - 1)) with
      | true=>rw [if_pos rfl,in_ev,Option.bind_some,Bool.true_and]
      | false=>rw [if_neg (by decide),Bool.false_and]
  · rw [if_neg c2,show (e.f1 == 2)=false from beq_eq_false_iff_ne.mpr c2,table_entry.j0,if_neg (by decide),table_entry.j1]
def rdE (l : List Ent) (i : Nat) : Ent:=rd_T56 l (i : Int)
def gAll (nt cm : Int) (l : List Ent) : Nat→Nat→Bool
  | 0,_=>true
  | d + 1,i=>(okE nt cm (rdE l i) && !((l.take i).any (twiceE (rdE l i).f0 (rdE l i).f3))) && gAll nt cm l d (i + 1)
def MayT (nt nn cm : Int) (l : List Ent) : Bool :=
  (decide (1≤nt) && decide (nt≤2147483647)) && ((decide (1≤nn) && decide (nn≤2147483647)) && ((decide (0≤cm) && decide (cm≤2147483647)) && ((l.length == 12) && gAll nt cm l 12 0)))
theorem Chk_l0 {nt nn cm : Int} {l : List Ent} (h1 : 1≤nt) (h2 : nt≤2147483647) (hl : l.length=12) : ∀ (d i k : Nat),d + i=12→2 * d + 6≤k→table_Check.l0 k l (l.length : Int) (i : Int) nt nn cm l=some (if gAll nt cm l d i=true then 0 else 1):=by
  intro d
  induction d with
  | zero =>
    intro i k hd hk
    obtain ⟨k,rfl⟩ : ∃ m,k=m + 1:=⟨k - 1,by omega⟩
    rw [table_Check.l0,if_neg (by omega)]; rfl
  | succ d ih =>
    intro i k hd hk
    obtain ⟨k,rfl⟩ : ∃ m,k=m + 3:=⟨k - 3,by omega⟩
    have hw : wrap64 ((i : Int) + 1)=((i + 1 : Nat) : Int):=by unfold wrap64; omega
    have hct : containsFunc_table_Check_1.f (l.take (i : Int).toNat) (rdE l i).f0 (rdE l i).f1 (rdE l i).f2 (rdE l i).f3=some ((l.take i).any (twiceE (rdE l i).f0 (rdE l i).f3)):=by
      unfold containsFunc_table_Check_1.f
      rw [if_pos (by rw [List.length_take]; omega),Int.toNat_natCast]
    have hj3 : ∀ b : Bool,table_Check.j3 (k + 2) l (l.length : Int) (i : Int) b nt nn cm l=if b=true then some 1 else table_Check.l0 (k + 1) l (l.length : Int) ((i + 1 : Nat) : Int) nt nn cm l:=by
      intro b;rw [table_Check.j3,table_Check.j4,hw]
    rw [table_Check.l0,if_pos (by omega),if_pos (by omega),if_pos (by omega),if_pos (by omega)]
    show (containsFunc_table_Check_1.f (l.take (i : Int).toNat) (rdE l i).f0 (rdE l i).f1 (rdE l i).f2 (rdE l i).f3).bind _=_
    rw [hct,Option.bind_some,gAll]
    cases ht : (l.take i).any (twiceE (rdE l i).f0 (rdE l i).f3) with
    | true=>rw [if_pos rfl,hj3,if_pos rfl,Bool.not_true,Bool.and_false,Bool.false_and]; rfl
    | false =>
      rw [if_neg (by decide)]
      show (table_entry.f (k + 2) nt nn cm l (rdE l i).f0 (rdE l i).f1 (rdE l i).f2 (rdE l i).f3).bind _=_
      rw [entry_all (by omega) h1 h2,Option.bind_some,hj3,Bool.not_false,Bool.and_true]
      cases ho : okE nt cm (rdE l i) with
      | true=>rw [Bool.not_true,if_neg (by decide),Bool.true_and]; exact ih (i + 1) (k + 1) (by omega) (by omega)
      | false=>rw [Bool.not_false,if_pos rfl,Bool.false_and]; rfl
theorem Chk_ev {k : Nat} {nt nn cm : Int} {l : List Ent} (hk : 60≤k) : table_Check.f k nt nn cm l=some (if MayT nt nn cm l=true then 0 else 1):=by
  obtain ⟨k,rfl⟩ : ∃ m,k=m + 2:=⟨k - 2,by omega⟩
  have hT : table_Check.j0 (k + 2) true nt nn cm l=some 1:=by rw [table_Check.j0,if_pos rfl,table_Check.j1]
  unfold table_Check.f MayT
  rw [in_ev,Option.bind_some]
  cases ha : (decide (1≤nt) && decide (nt≤2147483647)) with
  | false=>rw [if_neg (by decide),hT,Bool.false_and]; rfl
  | true =>
    rw [if_pos rfl,in_ev,Option.bind_some,Bool.true_and]
    cases hb : (decide (1≤nn) && decide (nn≤2147483647)) with
    | false=>rw [if_neg (by decide),hT,Bool.false_and]; rfl
    | true =>
      rw [if_pos rfl,in_ev,Option.bind_some,Bool.true_and]
      cases hc : (decide (0≤cm) && decide (cm≤2147483647)) with
      | false=>rw [if_neg (by decide),hT,Bool.false_and]; rfl
      | true =>
        rw [if_pos rfl,Bool.true_and]
        simp only [Bool.and_eq_true,decide_eq_true_eq] at ha
        by_cases hl : l.length=12
        · rw [show (((l.length : Int)) != 12)=false from by rw [hl]; rfl,table_Check.j0,if_neg (by decide),show (l.length == 12)=true from beq_iff_eq.mpr hl,Bool.true_and]
          exact Chk_l0 ha.1 ha.2 hl 12 0 (k + 1) (by omega) (by omega)
        · rw [show (((l.length : Int)) != 12)=true from bne_iff_ne.mpr (by omega),hT,show (l.length == 12)=false from beq_eq_false_iff_ne.mpr hl,Bool.false_and]; rfl
theorem rd_drop {l : List Ent} {i j : Nat} (h : j<i) (hl : i≤l.length) : (l.take i).drop j=rdE l j :: (l.take i).drop (j + 1):=by
  rw [List.drop_eq_getElem_cons (by rw [List.length_take]; omega),List.getElem_take]
  congr 1
  have:=rdE_at (l:=l) (i:=j) (by omega)
  rw [List.getElem?_eq_getElem (by omega)] at this
  exact Option.some.inj this
theorem May_l1 {nt nn cm f0 f1 f2 f3 : Int} {l : List Ent} {i : Nat} (hi : i<12) (hl : l.length=12) (h0 : 1≤f0) : ∀ (d j k : Nat),d + j=i→d + 1≤k→humusref11_May.l1 k (i : Int) (j : Int) nt nn cm l f0 f1 f2 f3=if ((l.take i).drop j).any (twiceE f0 f3)=true then some false else humusref11_May.l0 (k - d - 1) ((i + 1 : Nat) : Int) nt nn cm l:=by
  intro d
  induction d with
  | zero =>
    intro j k hj hk
    obtain ⟨k,rfl⟩ : ∃ m,k=m + 1:=⟨k - 1,by omega⟩
    have hw : wrap64 ((i : Int) + 1)=((i + 1 : Nat) : Int):=by unfold wrap64; omega
    rw [humusref11_May.l1,if_neg (by omega),hw,List.drop_eq_nil_of_le (by rw [List.length_take]; omega),List.any_nil,if_neg (by decide)]; rfl
  | succ d ih =>
    intro j k hj hk
    obtain ⟨k,rfl⟩ : ∃ m,k=m + 1:=⟨k - 1,by omega⟩
    have hw : wrap64 ((j : Int) + 1)=((j + 1 : Nat) : Int):=by unfold wrap64; omega
    have e : k + 1 - (d + 1) - 1=k - d - 1:=by omega
    rw [rd_drop (l:=l) (i:=i) (j:=j) (by omega) (by omega),List.any_cons,humusref11_May.l1,if_pos (by omega),if_pos (by omega),if_pos (by omega),hw,ih (j + 1) k (by omega) (by omega),e]
    show (if (rdE l j).f0=f0 then _ else if f3 > 0 then if (rdE l j).f3=f3 then _ else _ else _)=_
    generalize ((l.take i).drop (j + 1)).any (twiceE f0 f3)=q
    unfold twiceE
    rw [dt_ (show (0 : Int)<f0 by omega),Bool.true_and]
    by_cases c0 : (rdE l j).f0=f0
    · rw [if_pos c0,show ((rdE l j).f0 == f0)=true from beq_iff_eq.mpr c0,Bool.true_or,Bool.true_or,if_pos rfl]
    · rw [if_neg c0,show ((rdE l j).f0 == f0)=false from beq_eq_false_iff_ne.mpr c0,Bool.false_or]
      by_cases c3 : f3 > 0
      · rw [if_pos c3,dt_ (show (0 : Int)<f3 by omega),Bool.true_and]
        by_cases c4 : (rdE l j).f3=f3
        · rw [if_pos c4,show ((rdE l j).f3 == f3)=true from beq_iff_eq.mpr c4,Bool.true_or,if_pos rfl]
        · rw [if_neg c4,show ((rdE l j).f3 == f3)=false from beq_eq_false_iff_ne.mpr c4,Bool.false_or]
      · rw [if_neg c3,df_ (show ¬ (0 : Int)<f3 by omega),Bool.false_and,Bool.false_or]
theorem May_l0 {nt nn cm : Int} {l : List Ent} (hn : nt≤2147483647) (hl : l.length=12) : ∀ (d i k : Nat),d + i=12→20 * d + 6≤k→humusref11_May.l0 k (i : Int) nt nn cm l=some (gAll nt cm l d i):=by
  intro d
  induction d with
  | zero =>
    intro i k hd hk
    obtain ⟨k,rfl⟩ : ∃ m,k=m + 1:=⟨k - 1,by omega⟩
    rw [humusref11_May.l0,if_neg (by omega)]; rfl
  | succ d ih =>
    intro i k hd hk
    obtain ⟨k,rfl⟩ : ∃ m,k=m + 3:=⟨k - 3,by omega⟩
    have hw : wrap64 ((i : Int) + 1)=((i + 1 : Nat) : Int):=by unfold wrap64; omega
    rw [humusref11_May.l0,if_pos (by omega),if_pos (by omega),if_pos (by omega),gAll]
    show (if (rdE l i).f1<0 then humusref11_May.j2 (k + 2) (i : Int) true nt nn cm l (rdE l i).f0 (rdE l i).f1 (rdE l i).f2 (rdE l i).f3 else humusref11_May.j2 (k + 2) (i : Int) (decide ((rdE l i).f1 > 2)) nt nn cm l (rdE l i).f0 (rdE l i).f1 (rdE l i).f2 (rdE l i).f3)=_
    generalize he : rdE l i=e
    have hT : humusref11_May.j2 (k + 2) (i : Int) true nt nn cm l e.f0 e.f1 e.f2 e.f3=some false:=by rw [humusref11_May.j2,if_pos rfl]
    have hj3T : humusref11_May.j3 (k + 1) (i : Int) true nt nn cm l e.f0 e.f1 e.f2 e.f3=some false:=by rw [humusref11_May.j3,if_pos rfl]
    unfold okE
    by_cases n0 : e.f1<0
    · rw [if_pos n0,hT,if_neg (by omega),if_neg (by omega),if_neg (by omega)]; rfl
    rw [if_neg n0]
    by_cases n2 : e.f1 > 2
    · rw [dt_ n2,hT,if_neg (by omega),if_neg (by omega),if_neg (by omega)]; rfl
    rw [df_ n2,humusref11_May.j2,if_neg (by decide),hw,ih (i + 1) (k + 1) (by omega) (by omega)]
    by_cases c0 : e.f1=0
    · rw [if_pos c0,if_pos c0]
      have eq : (!(e.f0 == 0) || (!(e.f1 == 0) || (!(e.f2 == 0) || (!(e.f3 == 0)))))=!(e.f0 == 0 && (e.f1 == 0 && (e.f2 == 0 && (e.f3 == 0)))):=by
        cases (e.f0 == 0) <;> cases (e.f1 == 0) <;> cases (e.f2 == 0) <;> cases (e.f3 == 0) <;> rfl
      rw [eq]
      cases hz : (e.f0 == 0 && (e.f1 == 0 && (e.f2 == 0 && (e.f3 == 0)))) with
      | false=>rw [Bool.not_false,if_pos rfl]; rfl
      | true =>
        rw [Bool.not_true,if_neg (by decide),Bool.true_and]
        simp only [Bool.and_eq_true,beq_iff_eq] at hz
        have ht : (l.take i).any (twiceE e.f0 e.f3)=false:=by
          rw [List.any_eq_false];intro x _
          unfold twiceE
          rw [hz.1,hz.2.2.2]
          simp
        rw [ht]; rfl
    rw [if_neg c0,if_neg c0]
    by_cases a1 : e.f0<1
    · rw [if_pos a1,hj3T,df_ (show ¬ 1≤e.f0 by omega)]
      simp
    rw [if_neg a1]
    by_cases a2 : e.f0 ≥ nt
    · rw [if_pos a2,hj3T,df_ (show ¬ e.f0≤nt - 1 by omega)]
      simp
    rw [if_neg a2]
    by_cases a3 : e.f2<0
    · rw [if_pos a3,hj3T,df_ (show ¬ 0≤e.f2 by omega)]
      simp
    rw [if_neg a3]
    by_cases a4 : e.f2 > 65535
    · rw [if_pos a4,hj3T,df_ (show ¬ e.f2≤65535 by omega)]
      simp
    rw [if_neg a4,dt_ (show 1≤e.f0 by omega),dt_ (show e.f0≤nt - 1 by omega),dt_ (show 0≤e.f2 by omega),dt_ (show e.f2≤65535 by omega)]
    have hgo : humusref11_May.j3 (k + 1) (i : Int) false nt nn cm l e.f0 e.f1 e.f2 e.f3=some (!((l.take i).any (twiceE e.f0 e.f3)) && gAll nt cm l d (i + 1)):=by
      rw [humusref11_May.j3,if_neg (by decide)]
      refine (May_l1 (by omega) hl (by omega) i 0 k (by omega) (by omega)).trans ?_
      rw [List.drop_zero,ih (i + 1) (k - i - 1) (by omega) (by omega)]
      cases (l.take i).any (twiceE e.f0 e.f3) with
      | true=>rfl
      | false=>rfl
    by_cases c1 : e.f1=1
    · rw [if_pos c1,if_pos c1]
      by_cases b3 : e.f3=0
      · rw [if_pos b3,if_neg (by omega),hgo,show (e.f3 == 0)=true from beq_iff_eq.mpr b3]
        simp
      · rw [if_neg b3,hj3T,show (e.f3 == 0)=false from beq_eq_false_iff_ne.mpr b3]
        simp
    · have c2 : e.f1=2:=by omega
      rw [if_neg c1,if_neg c1,if_pos c2,if_pos c2]
      by_cases b3 : e.f3<1
      · rw [if_pos b3,hj3T,df_ (show ¬ 1≤e.f3 by omega)]
        simp
      rw [if_neg b3,dt_ (show 1≤e.f3 by omega)]
      by_cases b4 : e.f3 > cm
      · rw [dt_ b4,hj3T,df_ (show ¬ e.f3≤cm by omega)]
        simp
      · rw [df_ b4,hgo,dt_ (show e.f3≤cm by omega)]
        simp
theorem May_ev {k : Nat} {nt nn cm : Int} {l : List Ent} (hk : 300≤k) : humusref11_May.f k nt nn cm l=some (MayT nt nn cm l):=by
  obtain ⟨k,rfl⟩ : ∃ m,k=m + 1:=⟨k - 1,by omega⟩
  have hT : humusref11_May.j0 (k + 1) true nt nn cm l=some false:=by rw [humusref11_May.j0,if_pos rfl]
  unfold humusref11_May.f MayT
  by_cases a1 : nt<1
  · rw [if_pos a1,hT,df_ (show ¬ 1≤nt by omega)]; rfl
  rw [if_neg a1,dt_ (show 1≤nt by omega)]
  by_cases a2 : nt > 2147483647
  · rw [if_pos a2,hT,df_ (show ¬ nt≤2147483647 by omega)]; rfl
  rw [if_neg a2,dt_ (show nt≤2147483647 by omega)]
  by_cases a3 : nn<1
  · rw [if_pos a3,hT,df_ (show ¬ 1≤nn by omega)]; rfl
  rw [if_neg a3,dt_ (show 1≤nn by omega)]
  by_cases a4 : nn > 2147483647
  · rw [if_pos a4,hT,df_ (show ¬ nn≤2147483647 by omega)]; rfl
  rw [if_neg a4,dt_ (show nn≤2147483647 by omega)]
  by_cases a5 : cm<0
  · rw [if_pos a5,hT,df_ (show ¬ 0≤cm by omega)]; rfl
  rw [if_neg a5,dt_ (show 0≤cm by omega)]
  by_cases a6 : cm > 2147483647
  · rw [if_pos a6,hT,df_ (show ¬ cm≤2147483647 by omega)]; rfl
  rw [if_neg a6,dt_ (show cm≤2147483647 by omega)]
  simp only [Bool.and_self,Bool.true_and]
  by_cases hl : l.length=12
  · rw [show (((l.length : Int)) != 12)=false from by rw [hl]; rfl,humusref11_May.j0,if_neg (by decide),show (l.length == 12)=true from beq_iff_eq.mpr hl,Bool.true_and]
    exact May_l0 (by omega) hl 12 0 k (by omega) (by omega)
  · rw [show (((l.length : Int)) != 12)=true from bne_iff_ne.mpr (by omega),hT,show (l.length == 12)=false from beq_eq_false_iff_ne.mpr hl,Bool.false_and]
theorem same11_l0 {a b c : Int} {l : List Ent} (hl : l.length≤1000000) : ∀ (n i k : Nat),n=l.length - i→i≤l.length→n + 1≤k→humusref11_Same.l0 k (i : Int) a b c l a b c l=some true:=by
  intro n
  induction n with
  | zero =>
    intro i k hd hi hk
    obtain ⟨k,rfl⟩ : ∃ m,k=m + 1:=⟨k - 1,by omega⟩
    rw [humusref11_Same.l0,if_neg (by omega)]
  | succ n ih =>
    intro i k hd hi hk
    obtain ⟨k,rfl⟩ : ∃ m,k=m + 1:=⟨k - 1,by omega⟩
    have hw : wrap64 ((i : Int) + 1)=((i + 1 : Nat) : Int):=by unfold wrap64; omega
    rw [humusref11_Same.l0,if_pos (by omega),if_pos (by omega),if_pos (by omega),hw,if_neg (by simp)]
    exact ih (i + 1) k (by omega) (by omega) (by omega)
theorem same11_refl {k : Nat} {a b c : Int} {l : List Ent} (hl : l.length≤1000000) (hk : l.length + 2≤k) : humusref11_Same.f k a b c l a b c l=some true:=by
  obtain ⟨k,rfl⟩ : ∃ m,k=m + 1:=⟨k - 1,by omega⟩
  unfold humusref11_Same.f
  rw [if_pos rfl,if_pos rfl,if_pos rfl,show (((l.length : Int)) != (l.length : Int))=false from bne_self_eq_false _,humusref11_Same.j0,if_neg (by decide)]
  exact same11_l0 hl l.length 0 k (by omega) (by omega) (by omega)
theorem awake11_at : humuslaw11_awake.f 60=some true:=by kernel_rfl
theorem awake11_ev {k : Nat} (hk : 60≤k) : humuslaw11_awake.f k=some true:=by
  obtain ⟨d,rfl⟩ : ∃ d,k=60 + d:=⟨k - 60,by omega⟩
  clear hk
  induction d with
  | zero=>exact awake11_at
  | succ d ih=>exact humuslaw11_awake.mono (60 + d) _ ih
theorem rd_zero (x : Int) (l : List Int) : rd (x :: l) 0=x:=rfl
theorem trimL_ev : ∀ (l : List Int) (k : Nat),l.length + 1≤k→∃ r,bytes_trimLeftByte.l0 k l 0=some r∧((r.length : Int) == 0)=!(l.any fun e=>e != 0)
  | [],k,hk=>by
    obtain ⟨k,rfl⟩ : ∃ m,k=m + 1:=⟨k - 1,by omega⟩
    refine ⟨[],?_,rfl⟩
    rw [bytes_trimLeftByte.l0,if_neg (by decide),if_pos (show (([] : List Int).length : Int)=0 from rfl)]
  | x :: l,k,hk=>by
    obtain ⟨k,rfl⟩ : ∃ m,k=m + 1:=⟨k - 1,by omega⟩
    have hl : 0<((x :: l).length : Int):=by simp only [List.length_cons]; omega
    rw [bytes_trimLeftByte.l0,if_pos hl,if_pos hl,rd_zero,List.any_cons]
    by_cases h : x=0
    · obtain ⟨r,h1,h2⟩:=trimL_ev l k (by simp only [List.length_cons] at hk; omega)
      rw [if_pos h,if_pos (by omega),List.drop_succ_cons,List.drop_zero]
      refine ⟨r,h1,?_⟩
      rw [h2,show (x != 0)=false from bne_eq_false_iff_eq.mpr h,Bool.false_or]
    · rw [if_neg h,if_neg (by omega)]
      refine ⟨_,rfl,?_⟩
      rw [show (x != 0)=true from bne_iff_ne.mpr h,Bool.true_or,beq_eq_false_iff_ne.mpr (by omega)]; rfl
theorem trimR_ev : ∀ (n : Nat) (l : List Int) (k : Nat),l.length=n→n≤1000000→n + 1≤k→∃ r,bytes_trimRightByte.l0 k l 0=some r∧r.length≤n∧(r.any fun e=>e != 0)=(l.any fun e=>e != 0):=by
  intro n
  induction n with
  | zero =>
    intro l k hl hn hk
    obtain ⟨k,rfl⟩ : ∃ m,k=m + 1:=⟨k - 1,by omega⟩
    rw [bytes_trimRightByte.l0,if_neg (by omega)]
    exact ⟨l,rfl,by omega,rfl⟩
  | succ n ih =>
    intro l k hl hn hk
    obtain ⟨k,rfl⟩ : ∃ m,k=m + 1:=⟨k - 1,by omega⟩
    have hw : wrap64 ((l.length : Int) - 1)=(n : Int):=by unfold wrap64; omega
    rw [bytes_trimRightByte.l0,if_pos (by omega),hw,if_pos (by omega),if_pos (by omega),Int.toNat_natCast]
    have hlast : l=l.take n++[rd l (n : Int)]:=by
      have h1 : l.drop n=[rd l (n : Int)]:=by
        rw [List.drop_eq_getElem_cons (by omega),List.drop_eq_nil_of_le (by omega)]
        unfold rd
        rw [Int.toNat_natCast,List.getD_eq_getElem?_getD,List.getElem?_eq_getElem (by omega)]; rfl
      rw [← h1,List.take_append_drop]
    by_cases h : rd l (n : Int)=0
    · obtain ⟨r,h1,h2,h3⟩:=ih (l.take n) k (by rw [List.length_take]; omega) (by omega) (by omega)
      rw [if_pos h,if_pos (by omega)]
      refine ⟨r,h1,by omega,?_⟩
      rw [h3]
      conv=>rhs; rw [hlast]
      rw [List.any_append,List.any_cons,List.any_nil,h]
      simp
    · rw [if_neg h]
      exact ⟨l,rfl,by omega,rfl⟩
theorem noughtT_ev {k : Nat} {l : List Int} (hl : l.length≤1000000) (hk : l.length + 3≤k) : table_nought.f k l=some (!(l.any fun e=>e != 0)):=by
  obtain ⟨k,rfl⟩ : ∃ m,k=m + 1:=⟨k - 1,by omega⟩
  unfold table_nought.f bytes_Trim.f
  by_cases h0 : (l.length : Int)=0
  · have : l=[]:=List.eq_nil_of_length_eq_zero (by omega)
    subst this;rw [if_pos h0]; rfl
  · have hb : bt (⟨#[0]⟩ : ByteArray) 0=0:=by kernel_rfl
    have hs : ((⟨#[0]⟩ : ByteArray).size : Int)=1:=by kernel_rfl
    have ht : ¬ ((⟨#[0]⟩ : ByteArray).toList=([] : List UInt8)):=by
      intro h
      have : ((⟨#[0]⟩ : ByteArray).toList.length == 0)=true:=by rw [h]; rfl
      rw [show ((⟨#[0]⟩ : ByteArray).toList.length == 0)=false by kernel_rfl] at this
      cases this
    obtain ⟨r,h1,h2,h3⟩:=trimR_ev l.length l k rfl hl (by omega)
    obtain ⟨q,g1,g2⟩:=trimL_ev r k (by omega)
    rw [if_neg h0,if_neg ht,if_pos hs,if_pos (by rw [hs]; decide),hb,dt_ (show (0 : Int)<128 by decide),bytes_Trim.j0,if_pos rfl,if_pos (by rw [hs]; decide),hb]
    unfold bytes_trimRightByte.f bytes_trimLeftByte.f
    rw [h1,Option.bind_some,g1]
    simp only [Option.bind_some]
    rw [g2,h3]
end Go.Proofs.YtbmcbhpkefjhbaaDoor.P
namespace Go.Proofs.YtbmcbhpkefjhbaaDoor.Pac
open Go.RowKit YtbmcbhpkefjhbaaDoor YtbmcbhpkefjhbaaDoor.Mem YtbmcbhpkefjhbaaDoorW.PrintWords YtbmcbhpkefjhbaaDoorW.PrintLast YtbmcbhpkefjhbaaDoorW.PrintMore
theorem nil_str : (⟨#[]⟩ : ByteArray).toList=[]:=by kernel_rfl
theorem item1_spec {b : List Int} {p q : Nat} {k : Int} {a : It} (hb : Bytes b) (h : item1 b p k=some (a,q)) (hk : 1≤k∧k≤5) :
    p≤q∧q≤b.length∧a.k=k∧may a=true∧norm a=a∧a.x<18446744073709551616∧one a=(b.drop p).take (q - p):=by
  have hx:=item1_x hb h;have hq:=item1_le h;have hv0:=val0
  unfold item1 at h
  split at h
  · rename_i hk4
    split at h
    · rename_i h1
      injection h with h; injection h with h2 h3
      subst h2 h3
      refine ⟨by omega,hq,hk4.symm,?_,?_,hx,?_⟩
      · rw [may_4,nil_str]; rfl
      · unfold norm; simp only [h1.2]
      · have:=rt4 hb h1.1
        rw [dt_ h1.2] at this
        rw [od_ this,show p + 8 - p=8 by omega]
    · cases h
  · split at h
    · rename_i hk4 hk5
      split at h
      · rename_i h1
        injection h with h; injection h with h2 h3
        subst h2 h3;have hn:=num_bd ((hb.drop p).take 1)
        have hl1 : ((b.drop p).take 1).length=1:=by rw [List.length_take,List.length_drop]; omega
        rw [hl1] at hn
        have hm : num ((b.drop p).take 1)=(((num ((b.drop p).take 1)).toNat : Nat) : Int):=by omega
        generalize (num ((b.drop p).take 1)).toNat=m at *
        have hsz : (strOfNums ((b.drop (p + 1)).take m)).size=m:=by rw [size_strOf,List.length_take,List.length_drop]; omega
        refine ⟨by omega,hq,hk5.symm,?_,?_,hx,?_⟩
        · rw [may_5,hsz]; simp; omega
        · unfold norm; simp only [hv0]
        · rw [rt5 hb h1.2 hm,show p + 1 + m - p=1 + m by omega]
      · cases h
    · rename_i hk4 hk5
      split at h
      · rename_i h1
        injection h with h; injection h with h2 h3
        subst h2 h3
        have hk3 : k=1∨k=2∨k=3:=by omega
        refine ⟨by omega,hq,rfl,h1.2,?_,hx,?_⟩
        · unfold norm; simp only [hv0]
        · have hw : wid k=(((wid k).toNat : Nat) : Int):=by unfold wid; rcases hk3 with rfl|rfl|rfl <;> rfl
          rw [rt3 hb h1.1 hk3 hw,show p + (wid k).toNat - p=(wid k).toNat by omega]
      · cases h
theorem takes_spec {b : List Int} (hb : Bytes b) : ∀ (ks : List Int) (p r : Nat) (l : List It),p≤b.length→kindsOk ks=true→takes b p ks=some (l,r) →
    p≤r∧r≤b.length∧l.map (·.k)=ks∧(∀ a ∈ l,may a=true)∧l.map norm=l∧(∀ a ∈ l,a.x<18446744073709551616)∧ones l=(b.drop p).take (r - p):=by
  intro ks
  induction ks with
  | nil =>
    intro p r l hp _ h
    simp only [takes] at h
    injection h with h; injection h with h1 h2
    subst h1 h2
    exact ⟨Nat.le_refl _,hp,rfl,(fun a h=>by cases h),rfl,(fun a h=>by cases h),by simp [ones]⟩
  | cons k ks ih =>
    intro p r l hp hks h
    simp only [takes] at h
    split at h
    · cases h
    rename_i a q hi
    split at h
    · cases h
    rename_i m r' ht
    injection h with h; injection h with h1 h2
    subst h1 h2
    unfold kindsOk at hks
    rw [List.all_cons,Bool.and_eq_true] at hks
    have hk1 : 1≤k∧k≤5:=by simpa using hks.1
    obtain ⟨a1,a2,a3,a4,a5,a6,a7⟩:=item1_spec hb hi hk1;obtain ⟨b1,b2,b3,b4,b5,b6,b7⟩:=ih q r' m a2 hks.2 ht
    refine ⟨by omega,b2,by rw [List.map_cons,a3,b3],?_,by rw [List.map_cons,a5,b5],?_,?_⟩
    · intro x hx; rcases List.mem_cons.1 hx with rfl|hx
      · exact a4
      · exact b4 x hx
    · intro x hx; rcases List.mem_cons.1 hx with rfl|hx
      · exact a6
      · exact b6 x hx
    · unfold ones at b7 ⊢
      rw [List.flatMap_cons,a7,b7]
      rw [show r' - p=(q - p) + (r' - q) by omega,← List.take_append_drop (q - p) ((b.drop p).take ((q - p) + (r' - q)))]
      rw [List.take_take,Nat.min_eq_left (by omega),List.drop_take,List.drop_drop,show p + (q - p)=q by omega,show (q - p) + (r' - q) - (q - p)=r' - q by omega]
theorem form123 {a : It} (h : may a=true) (hk : a.k=1∨a.k=2∨a.k=3) : a=⟨a.k,a.n,0,⟨#[]⟩⟩∧0≤a.n∧a.n≤lim a.k:=by
  obtain ⟨k,n,x,s⟩:=a
  rcases hk with rfl|rfl|rfl
  · rw [may_1] at h
    simp only [Bool.and_eq_true,decide_eq_true_eq,beq_iff_eq] at h
    obtain ⟨⟨⟨h1,h2⟩,h3⟩,h4⟩:=h
    rw [sz0 h4,show x=0 by omega]
    exact ⟨rfl,h1,by show n≤255; omega⟩
  · rw [may_2] at h
    simp only [Bool.and_eq_true,decide_eq_true_eq,beq_iff_eq] at h
    obtain ⟨⟨⟨h1,h2⟩,h3⟩,h4⟩:=h
    rw [sz0 h4,show x=0 by omega]
    exact ⟨rfl,h1,by show n≤65535; omega⟩
  · rw [may_3] at h
    simp only [Bool.and_eq_true,decide_eq_true_eq,beq_iff_eq] at h
    obtain ⟨⟨⟨h1,h2⟩,h3⟩,h4⟩:=h
    rw [sz0 h4,show x=0 by omega]
    exact ⟨rfl,h1,by show n≤2147483647; omega⟩
end Go.Proofs.YtbmcbhpkefjhbaaDoor.Pac
namespace Go.Proofs.YtbmcbhpkefjhbaaDoor.P
open Go.RowKit YtbmcbhpkefjhbaaDoor YtbmcbhpkefjhbaaDoor.Mem YtbmcbhpkefjhbaaDoor.Pac YtbmcbhpkefjhbaaDoorW.PrintWords YtbmcbhpkefjhbaaDoorW.PrintLast YtbmcbhpkefjhbaaDoorW.PrintMore
def mkI (k n : Int) : It:=⟨k,n,0,⟨#[]⟩⟩
def entI (e : Ent) : List It:=[mkI 1 e.f1,mkI 3 e.f0,mkI 2 e.f2,mkI 3 e.f3]
def entsI (E : List Ent) : List It:=E.flatMap entI
def tabI (m a b c : Int) (E : List Ent) : List It:=mkI 1 m :: mkI 3 a :: mkI 3 b :: mkI 3 c :: entsI E
theorem entsI_cons (e : Ent) (E : List Ent) : entsI (e :: E)=mkI 1 e.f1 :: mkI 3 e.f0 :: mkI 2 e.f2 :: mkI 3 e.f3 :: entsI E:=by unfold entsI; rw [List.flatMap_cons]; rfl
theorem tones_cons (a : It) (l : List It) : ones (a :: l)=one a++ones l:=by unfold ones; rw [List.flatMap_cons]
theorem one_mk {k n : Int} (hk : k=1∨k=2∨k=3) : (one (mkI k n)).length=(wid k).toNat:=by
  unfold one mkI
  rw [if_pos (by exact hk),bigs_length]
theorem entsI_len : ∀ E : List Ent,(ones (entsI E)).length=11 * E.length
  | []=>rfl
  | e :: E=>by
    have ih:=entsI_len E;rw [entsI_cons,tones_cons,tones_cons,tones_cons,tones_cons]
    simp only [List.length_append,List.length_cons,one_mk (.inl rfl),one_mk (.inr (.inl rfl)),one_mk (.inr (.inr rfl)),ih]
    rw [show (wid 1).toNat=1 from rfl,show (wid 2).toNat=2 from rfl,show (wid 3).toNat=4 from rfl]; omega
theorem tabI_len (m a b c : Int) (E : List Ent) : (ones (tabI m a b c E)).length=13 + 11 * E.length:=by
  have ih:=entsI_len E
  unfold tabI
  rw [tones_cons,tones_cons,tones_cons,tones_cons]
  simp only [List.length_append,one_mk (.inl rfl),one_mk (.inr (.inr rfl)),ih]
  rw [show (wid 1).toNat=1 from rfl,show (wid 3).toNat=4 from rfl]; omega
theorem entsI_count : ∀ E : List Ent,(entsI E).length=4 * E.length
  | []=>rfl
  | e :: E=>by have ih:=entsI_count E; rw [entsI_cons]; simp only [List.length_cons,ih]; omega
theorem tabI_count (m a b c : Int) (E : List Ent) : (tabI m a b c E).length=4 + 4 * E.length:=by
  have:=entsI_count E
  unfold tabI; simp only [List.length_cons,this]; omega
abbrev eK : List Int:=[1,3,2,3]
theorem reps_succ (n : Nat) (l : List Int) : reps (n + 1) l=l++reps n l:=by unfold reps; rw [List.replicate_succ,List.flatten_cons]
abbrev tKs : List Int:=[1,3,3,3]++reps 12 eK
theorem tKs_ok : kindsOk tKs=true:=by decide
theorem tKs_len : (tKs : List Int).length=52:=by decide
theorem kinds_ev : table_kinds.f=some tKs:=by
  have h : slices_Repeat_int_int.f [1,3,2,3] 12=some (reps 12 eK):=by
    unfold slices_Repeat_int_int.f
    rw [if_pos ⟨by decide,by decide,by decide⟩]; rfl
  unfold table_kinds.f
  rw [Option.bind_some,h,Option.bind_some,if_pos (by decide)]
theorem may_mk1 {n : Int} (h0 : 0≤n) (h1 : n≤255) : may (mkI 1 n)=true:=by unfold mkI; rw [may_1,nil_str]; simp; omega
theorem may_mk2 {n : Int} (h0 : 0≤n) (h1 : n≤65535) : may (mkI 2 n)=true:=by unfold mkI; rw [may_2,nil_str]; simp; omega
theorem may_mk3 {n : Int} (h0 : 0≤n) (h1 : n≤2147483647) : may (mkI 3 n)=true:=by unfold mkI; rw [may_3,nil_str]; simp; omega
def Fits (e : Ent) : Prop:=(0≤e.f1∧e.f1≤255)∧(0≤e.f0∧e.f0≤2147483647)∧(0≤e.f2∧e.f2≤65535)∧(0≤e.f3∧e.f3≤2147483647)
theorem okE_fits {nt cm : Int} {e : Ent} (h1 : nt≤2147483647) (h2 : cm≤2147483647) (h : okE nt cm e=true) : Fits e:=by
  unfold okE at h
  unfold Fits
  split at h
  · simp only [Bool.and_eq_true,beq_iff_eq] at h; omega
  · split at h
    · simp only [Bool.and_eq_true,beq_iff_eq,decide_eq_true_eq] at h; omega
    · split at h
      · simp only [Bool.and_eq_true,decide_eq_true_eq] at h; omega
      · cases h
theorem gAll_at {nt cm : Int} {l : List Ent} : ∀ (d i : Nat),gAll nt cm l d i=true→∀ j,i≤j→j<i + d→okE nt cm (rdE l j)=true:=by
  intro d
  induction d with
  | zero=>intro i _ j h1 h2; omega
  | succ d ih =>
    intro i h j h1 h2;rw [gAll] at h
    simp only [Bool.and_eq_true] at h
    by_cases e : j=i
    · subst e; exact h.1.1
    · exact ih (i + 1) h.2 j (by omega) (by omega)
theorem MayT_parts {a b c : Int} {E : List Ent} (h : MayT a b c E=true) : (1≤a∧a≤2147483647)∧(1≤b∧b≤2147483647)∧(0≤c∧c≤2147483647)∧E.length=12∧∀ e ∈ E,Fits e:=by
  unfold MayT at h
  simp only [Bool.and_eq_true,decide_eq_true_eq,beq_iff_eq] at h
  obtain ⟨ha,hb,hc,hl,hg⟩:=h
  refine ⟨ha,hb,hc,hl,fun e he=>?_⟩
  obtain ⟨j,hj,rfl⟩:=List.mem_iff_getElem.1 he
  have h1:=gAll_at 12 0 hg j (Nat.zero_le _) (by omega)
  have h2:=rdE_at hj;rw [List.getElem?_eq_getElem hj] at h2;have h3 : E[j]=rdE E j:=Option.some.inj h2;rw [h3];exact okE_fits ha.2 hc.2 h1
theorem entsI_may : ∀ E : List Ent,(∀ e ∈ E,Fits e)→∀ x ∈ entsI E,may x=true∧x.x=0
  | [],_,x,hx=>by cases hx
  | e :: E,h,x,hx=>by
    obtain ⟨h1,h2,h3,h4⟩:=h e (List.mem_cons_self);rw [entsI_cons] at hx
    rcases List.mem_cons.1 hx with rfl|hx; · exact ⟨may_mk1 h1.1 h1.2,rfl⟩
    rcases List.mem_cons.1 hx with rfl|hx; · exact ⟨may_mk3 h2.1 h2.2,rfl⟩
    rcases List.mem_cons.1 hx with rfl|hx; · exact ⟨may_mk2 h3.1 h3.2,rfl⟩
    rcases List.mem_cons.1 hx with rfl|hx; · exact ⟨may_mk3 h4.1 h4.2,rfl⟩
    exact entsI_may E (fun e he=>h e (List.mem_cons_of_mem _ he)) x hx
theorem tabI_may {a b c : Int} {E : List Ent} (h : MayT a b c E=true) : ∀ x ∈ tabI 84 a b c E,may x=true∧x.x=0:=by
  obtain ⟨ha,hb,hc,hl,hE⟩:=MayT_parts h;intro x hx
  unfold tabI at hx
  rcases List.mem_cons.1 hx with rfl|hx; · exact ⟨may_mk1 (by decide) (by decide),rfl⟩
  rcases List.mem_cons.1 hx with rfl|hx; · exact ⟨may_mk3 (by omega) ha.2,rfl⟩
  rcases List.mem_cons.1 hx with rfl|hx; · exact ⟨may_mk3 (by omega) hb.2,rfl⟩
  rcases List.mem_cons.1 hx with rfl|hx; · exact ⟨may_mk3 hc.1 hc.2,rfl⟩
  exact entsI_may E hE x hx
theorem tput_rows {l : List SIt} (hl : l.length≤1000) (hm : ∀ a ∈ l.map itOf,may a=true) (hx : ∀ a ∈ l.map itOf,a.x=0) : pack_Put.f l=some (ones (l.map itOf),0)∧humusref03_Put.f l=some (ones (l.map itOf),true):=by
  have ha : (l.map itOf).all may=true:=by rw [List.all_eq_true]; exact hm
  have hbd : bdX l=true:=by
    unfold bdX
    rw [List.all_eq_true];intro x h;have:=hx (itOf x) (List.mem_map.2 ⟨x,h,rfl⟩);refine dt_ ?_
    rw [show x.f2=0 from this]; decide
  unfold pack_Put.f humusref03_Put.f
  have hb : l.length≤1000∧bdX l=true:=⟨hl,hbd⟩;rw [if_pos hb,if_pos hb,ha,if_pos rfl];exact ⟨rfl,rfl⟩
theorem it_back (l : List It) : (l.map ofIt).map itOf=l:=by
  rw [List.map_map]
  exact (List.map_congr_left (fun a _=>rfl)).trans (List.map_id l)
theorem put_tab {a b c : Int} {E : List Ent} (h : MayT a b c E=true) : pack_Put.f ((tabI 84 a b c E).map ofIt)=some (ones (tabI 84 a b c E),0)∧humusref03_Put.f ((tabI 84 a b c E).map ofIt)=some (ones (tabI 84 a b c E),true):=by
  have hl:=(MayT_parts h).2.2.2.1;have hm:=tabI_may h
  have:=tput_rows (l:=(tabI 84 a b c E).map ofIt) (by rw [List.length_map,tabI_count]; omega) (by rw [it_back]; exact fun x hx=>(hm x hx).1) (by rw [it_back]; exact fun x hx=>(hm x hx).2)
  rw [it_back] at this;exact this
def pageT (a b c : Int) (E : List Ent) : List Int:=ones (tabI 84 a b c E)++List.replicate 363 0
theorem zeros_bytes (n : Nat) : Bytes (List.replicate n 0):=by
  intro x hx;rw [List.mem_replicate] at hx;omega
theorem pageT_bytes {a b c : Int} {E : List Ent} (h : MayT a b c E=true) : Bytes (ones (tabI 84 a b c E))∧(ones (tabI 84 a b c E)).length=145∧Bytes (pageT a b c E)∧(pageT a b c E).length=508:=by
  have hl:=(MayT_parts h).2.2.2.1
  have h1:=ones_bytes (fun x hx=>(tabI_may h x hx).1)
  have h2:=tabI_len 84 a b c E
  refine ⟨h1,by omega,h1.append (zeros_bytes _),?_⟩
  unfold pageT
  rw [List.length_append,List.length_replicate]; omega
theorem tpag_l1 {k : Nat} (hk : 5000≤k) : ∀ (d : Nat) (l : List Int),Bytes l→l.length + d=508→humusref11_Page.l1 (k + d + 1) l=some (sealL (l++List.replicate d 0)):=by
  intro d
  induction d with
  | zero =>
    intro l hb hl
    rw [show k + 0 + 1=k + 1 from rfl,humusref11_Page.l1_s,if_neg (by omega),rSeal_ev hb (by omega) (by omega),show List.replicate 0 (0 : Int)=[] from rfl,List.append_nil]; rfl
  | succ d ih =>
    intro l hb hl
    rw [show k + (d + 1) + 1=(k + d + 1) + 1 by omega,humusref11_Page.l1_s,if_pos (by omega),if_pos (by omega),ih (l++[0]) (hb.append (zeros_bytes 1)) (by rw [List.length_append,List.length_singleton]; omega),List.append_assoc,List.replicate_succ]; rfl
theorem drop_E {E : List Ent} {i : Nat} (h : i<E.length) : E.drop i=rd_T56 E (i : Int) :: E.drop (i + 1):=by
  rw [List.drop_eq_getElem_cons h]
  congr 1
  have h2:=rdE_at h;rw [List.getElem?_eq_getElem h] at h2;exact Option.some.inj h2
theorem tpag_l0 {k : Nat} {a b c : Int} {E : List Ent} (hE : E.length≤1000) : ∀ (d i : Nat) (xs : List SIt),i + d=E.length→xs.length + 4 * d≤10000→humusref11_Page.l0 (k + d + 1) xs (i : Int) a b c E=(humusref03_Put.f (xs++(entsI (E.drop i)).map ofIt)).bind fun bt=>humusref11_Page.l1 k bt.1:=by
  intro d
  induction d with
  | zero =>
    intro i xs hi hx
    rw [show k + 0 + 1=k + 1 from rfl,humusref11_Page.l0,if_neg (by omega),List.drop_eq_nil_of_le (by omega)]
    show _=(humusref03_Put.f (xs++[])).bind _
    rw [List.append_nil]
  | succ d ih =>
    intro i xs hi hx
    rw [show k + (d + 1) + 1=(k + d + 1) + 1 by omega,humusref11_Page.l0,if_pos (by omega),if_pos (by omega),Option.bind_some,if_pos (by simp only [List.length_cons,List.length_nil]; omega),wsucc (by omega),ih (i + 1) _ (by omega) (by rw [List.length_append]; simp only [List.length_cons,List.length_nil]; omega),drop_E (E:=E) (i:=i) (by omega),entsI_cons]
    simp only [List.append_assoc,List.cons_append,List.nil_append,List.map_cons]
    rfl
theorem TPage_ev {k : Nat} {a b c : Int} {E : List Ent} (h : MayT a b c E=true) (hk : 8000≤k) : humusref11_Page.f k a b c E=some (sealL (pageT a b c E)):=by
  obtain ⟨ha,hb,hc,hl,hE⟩:=MayT_parts h;obtain ⟨h1,h2,h3,h4⟩:=pageT_bytes h
  unfold humusref11_Page.f
  obtain ⟨m,rfl⟩ : ∃ m,k=(m + 363 + 1) + 12 + 1:=⟨k - 377,by omega⟩
  refine (tpag_l0 (by omega) 12 0 _ (by omega) (by simp)).trans ?_
  rw [List.drop_zero];have hp:=(put_tab h).2;have e : ([(⟨1,84,0,(⟨#[]⟩ : ByteArray)⟩ : SIt),(⟨3,a,0,(⟨#[]⟩ : ByteArray)⟩ : SIt),(⟨3,b,0,(⟨#[]⟩ : ByteArray)⟩ : SIt),(⟨3,c,0,(⟨#[]⟩ : ByteArray)⟩ : SIt)] : List SIt)++(entsI E).map ofIt=(tabI 84 a b c E).map ofIt:=rfl;rw [e,hp,Option.bind_some]
  exact tpag_l1 (by omega) 363 _ h1 (by show (ones (tabI 84 a b c E)).length + 363=508; omega)
end Go.Proofs.YtbmcbhpkefjhbaaDoor.P
namespace Go.Proofs.YtbmcbhpkefjhbaaDoor.P
open Go.RowKit YtbmcbhpkefjhbaaDoor YtbmcbhpkefjhbaaDoor.Mem YtbmcbhpkefjhbaaDoor.Pac YtbmcbhpkefjhbaaDoorW.PrintWords YtbmcbhpkefjhbaaDoorW.PrintLast YtbmcbhpkefjhbaaDoorW.PrintMore
abbrev TbT:=Int × Int × Int × List Ent × Int
def tErr : TbT:=(0,0,0,[],4)
theorem tTake_none {b ks : List Int} (hb : Bytes b) (hl : b.length≤1000000) (hks : ks.length≤1000000) (hok : kindsOk ks=true) (h : takes b 0 ks=none) : takeF b ks=some ([],0,4):=by
  unfold takeF takeR
  rw [if_pos ⟨byB_bytes.2 hb,hl,hks⟩,if_pos hok,h]; rfl
theorem tTake_some {b ks : List Int} {l : List It} {r : Nat} (hb : Bytes b) (hl : b.length≤1000000) (hks : ks.length≤1000000) (hok : kindsOk ks=true) (h : takes b 0 ks=some (l,r)) : takeF b ks=some (l.map ofIt,(r : Int),0):=by
  unfold takeF takeR
  rw [if_pos ⟨byB_bytes.2 hb,hl,hks⟩,if_pos hok,h]
theorem it_form {a : It} {k : Int} (h : may a=true) (hk : a.k=k) (h3 : k=1∨k=2∨k=3) : a=mkI k a.n:=by
  have:=(form123 h (by rw [hk]; exact h3)).1
  rw [hk] at this;exact this
theorem ents_of : ∀ (d : Nat) (R : List It),R.map (·.k)=reps d eK→(∀ a ∈ R,may a=true)→∃ E : List Ent,E.length=d∧R=entsI E
  | 0,R,hk,hm=>by
    have : R=[]:=by
      have h : (R.map (·.k)).length=0:=by rw [hk]; rfl
      rw [List.length_map] at h;exact List.eq_nil_of_length_eq_zero h
    subst this;exact ⟨[],rfl,rfl⟩
  | d + 1,R,hk,hm=>by
    rw [reps_succ] at hk
    match R,hk,hm with
    | [],hk,_=>cases hk
    | [_],hk,_=>simp at hk
    | [_,_],hk,_=>simp at hk
    | [_,_,_],hk,_=>simp at hk
    | a0 :: a1 :: a2 :: a3 :: R,hk,hm =>
      simp only [List.map_cons,List.cons_append,List.nil_append,List.cons.injEq] at hk
      obtain ⟨k0,k1,k2,k3,hk⟩:=hk
      obtain ⟨E,hl,he⟩:=ents_of d R hk (fun a ha=>hm a (by simp [ha]))
      refine ⟨⟨a1.n,a0.n,a2.n,a3.n⟩ :: E,by rw [List.length_cons,hl],?_⟩
      rw [entsI_cons,← he]
      have f0:=it_form (hm a0 (by simp)) k0 (.inl rfl)
      have f1:=it_form (hm a1 (by simp)) k1 (.inr (.inr rfl))
      have f2:=it_form (hm a2 (by simp)) k2 (.inr (.inl rfl))
      have f3:=it_form (hm a3 (by simp)) k3 (.inr (.inr rfl))
      rw [← f0,← f1,← f2,← f3]
theorem tab_of {l : List It} (hk : l.map (·.k)=tKs) (hm : ∀ a ∈ l,may a=true) : ∃ m a b c E,E.length=12∧l=tabI m a b c E∧0≤m∧m≤255:=by
  match l,hk,hm with
  | [],hk,_=>cases hk
  | [_],hk,_=>simp at hk
  | [_,_],hk,_=>simp at hk
  | [_,_,_],hk,_=>simp at hk
  | a0 :: a1 :: a2 :: a3 :: R,hk,hm =>
    have hk2 : a0.k=1∧a1.k=3∧a2.k=3∧a3.k=3∧R.map (·.k)=reps 12 eK:=by
      simp only [List.map_cons,tKs,List.cons_append,List.nil_append,List.cons.injEq] at hk
      exact hk
    obtain ⟨k0,k1,k2,k3,hk⟩:=hk2
    obtain ⟨E,hl,he⟩:=ents_of 12 R hk (fun a ha=>hm a (by simp [ha]))
    have f0:=it_form (hm a0 (by simp)) k0 (.inl rfl)
    have f1:=it_form (hm a1 (by simp)) k1 (.inr (.inr rfl))
    have f2:=it_form (hm a2 (by simp)) k2 (.inr (.inr rfl))
    have f3:=it_form (hm a3 (by simp)) k3 (.inr (.inr rfl))
    have g0:=(form123 (hm a0 (by simp)) (.inl k0)).2
    rw [k0] at g0;refine ⟨a0.n,a1.n,a2.n,a3.n,E,hl,?_,g0.1,g0.2⟩
    unfold tabI
    rw [← f0,← f1,← f2,← f3,he]
def rdI (M : List SIt) (i : Nat) : Int:=(rd_T51 M (i : Int)).f1
theorem rdI_cons (x : SIt) (M : List SIt) (i : Nat) : rdI (x :: M) (i + 1)=rdI M i:=by
  unfold rdI rd_T51
  rw [Int.toNat_natCast,Int.toNat_natCast,List.getD_cons_succ]
theorem rdI_ents : ∀ (E : List Ent) (j : Nat),j<E.length→rdI ((entsI E).map ofIt) (4 * j)=(rdE E j).f1∧rdI ((entsI E).map ofIt) (4 * j + 1)=(rdE E j).f0∧rdI ((entsI E).map ofIt) (4 * j + 2)=(rdE E j).f2∧rdI ((entsI E).map ofIt) (4 * j + 3)=(rdE E j).f3
  | [],j,h=>by cases h
  | e :: E,0,h=>by
    rw [entsI_cons];exact ⟨rfl,rfl,rfl,rfl⟩
  | e :: E,j + 1,h=>by
    have ih:=rdI_ents E j (by simpa using h)
    have hr : rdE (e :: E) (j + 1)=rdE E j:=by
      unfold rdE rd_T56
      rw [Int.toNat_natCast,Int.toNat_natCast,List.getD_cons_succ]
    rw [entsI_cons,hr]
    simp only [List.map_cons]
    rw [show 4 * (j + 1)=4 * j + 3 + 1 by omega]
    have s : ∀ i x0 x1 x2 x3,rdI (x0 :: x1 :: x2 :: x3 :: (entsI E).map ofIt) (i + 4)=rdI ((entsI E).map ofIt) i:=by
      intro i x0 x1 x2 x3
      rw [show i + 4=i + 3 + 1 by omega,rdI_cons,show i + 3=i + 2 + 1 by omega,rdI_cons,show i + 2=i + 1 + 1 by omega,rdI_cons,rdI_cons]
    rw [show 4 * j + 3 + 1=4 * j + 4 by omega,show 4 * j + 4 + 1=(4 * j + 1) + 4 by omega,show 4 * j + 4 + 2=(4 * j + 2) + 4 by omega,show 4 * j + 4 + 3=(4 * j + 3) + 4 by omega,s,s,s,s]
    exact ih
theorem rdI_tab {m a b c : Int} {E : List Ent} (i : Nat) : rdI ((tabI m a b c E).map ofIt) (4 + i)=rdI ((entsI E).map ofIt) i:=by
  unfold tabI
  simp only [List.map_cons]
  rw [show 4 + i=i + 3 + 1 by omega,rdI_cons,show i + 3=i + 2 + 1 by omega,rdI_cons,show i + 2=i + 1 + 1 by omega,rdI_cons,rdI_cons]
theorem chE_tab {m a b c : Int} {E : List Ent} {j : Nat} (h : j<E.length) : chE (((tabI m a b c E).map ofIt).drop 4) j=rdE E j:=by
  have e : ((tabI m a b c E).map ofIt).drop 4=(entsI E).map ofIt:=rfl;obtain ⟨h0,h1,h2,h3⟩:=rdI_ents E j h;rw [e]
  unfold chE
  unfold rdI at h0 h1 h2 h3
  rw [h0,h1,h2,h3]
theorem map_rdE (E : List Ent) : (List.finRange E.length).map (fun x=>rdE E x.1)=E:=by
  apply List.ext_getElem
  · simp
  · intro i h1 h2
    rw [List.getElem_map,List.getElem_finRange];have h3:=rdE_at h2;rw [List.getElem?_eq_getElem h2] at h3;exact (Option.some.inj h3).symm
theorem Chunk_ev {m a b c : Int} {E : List Ent} (h : E.length=12) : slices_Chunk_api_Item_api_Item.f (((tabI m a b c E).map ofIt).drop 4) 4=some E:=by
  have hl : (((tabI m a b c E).map ofIt).drop 4).length=48:=by rw [List.length_drop,List.length_map,tabI_count]; omega
  unfold slices_Chunk_api_Item_api_Item.f
  rw [if_pos ⟨rfl,by omega,by omega,by omega⟩]
  congr 1
  rw [hl]
  have e : (48 / 4 : Nat)=E.length:=by rw [h]
  have hm:=map_rdE E;rw [← e] at hm
  refine (List.map_congr_left (fun x _=>?_)).trans hm
  exact chE_tab (by have:=x.2; omega)
theorem zeros_any {x : List Int} : (x.any fun e=>e != 0)=false ↔ x=List.replicate x.length 0:=by
  constructor
  · intro h
    rw [List.any_eq_false] at h
    refine List.eq_replicate_iff.2 ⟨rfl,fun b hb=>?_⟩
    have:=h b hb
    simpa using this
  · intro h
    rw [List.any_eq_false];intro e he;rw [h,List.mem_replicate] at he;rw [he.2]; decide
def decX (x : List Int) : TbT :=
  match takes x 0 tKs with
  | none=>tErr
  | some (l,n)=>match l with
    | i0 :: i1 :: i2 :: i3 :: R=>if i0.n=84∧(x.drop n).any (fun e=>e != 0)=false∧MayT i1.n i2.n i3.n ((List.finRange 12).map fun j=>chE (R.map ofIt) j.1)=true then (i1.n,i2.n,i3.n,(List.finRange 12).map fun j=>chE (R.map ofIt) j.1,0) else tErr
    | _=>tErr
theorem decX_tab {x : List Int} {m a b c : Int} {E : List Ent} {n : Nat} (h : takes x 0 tKs=some (tabI m a b c E,n)) (hE : E.length=12) : decX x=if m=84∧(x.drop n).any (fun e=>e != 0)=false∧MayT a b c E=true then (a,b,c,E,0) else tErr:=by
  unfold decX
  rw [h]
  have e : (List.finRange 12).map (fun j=>chE ((entsI E).map ofIt) j.1)=E:=by
    have hm:=map_rdE E;rw [hE] at hm
    refine (List.map_congr_left (fun x _=>?_)).trans hm
    exact chE_tab (m:=m) (a:=a) (b:=b) (c:=c) (by have:=x.2; omega)
  unfold tabI
  simp only
  rw [e];rfl
theorem dec_j1 {k : Nat} {m a b c : Int} {E : List Ent} (hE : E.length=12) (bad : Bool) (hk : 61≤k) : table_Decode.j1 k ((tabI m a b c E).map ofIt) bad=some (if bad=false∧MayT a b c E=true then (a,b,c,E,0) else tErr):=by
  obtain ⟨k,rfl⟩ : ∃ q,k=q + 1:=⟨k - 1,by omega⟩
  have hl : ((tabI m a b c E).map ofIt).length=52:=by rw [List.length_map,tabI_count]; omega
  rw [table_Decode.j1]
  cases bad with
  | true=>rw [if_pos rfl,if_neg (by simp)]; rfl
  | false =>
    rw [if_neg (by decide),if_pos (by omega),if_pos (by omega),if_pos (by omega),if_pos (by omega),Chunk_ev hE,Option.bind_some]
    have e1 : (rd_T51 ((tabI m a b c E).map ofIt) 1).f1=a:=rfl;have e2 : (rd_T51 ((tabI m a b c E).map ofIt) 2).f1=b:=rfl;have e3 : (rd_T51 ((tabI m a b c E).map ofIt) 3).f1=c:=rfl
    rw [e1,e2,e3,Chk_ev (by omega),Option.bind_some]
    cases MayT a b c E with
    | true=>rw [if_pos rfl,if_pos rfl,if_pos ⟨rfl,rfl⟩]
    | false=>rfl
theorem tdec_j0 {k : Nat} {x : List Int} (hb : Bytes x) (hl : x.length=508) (hk : 1000≤k) : table_Decode.j0 k x 0 false=some (decX x):=by
  obtain ⟨k,rfl⟩ : ∃ q,k=q + 1:=⟨k - 1,by omega⟩
  rw [table_Decode.j0,if_neg (by decide),kinds_ev,Option.bind_some]
  unfold pack_Take.f
  cases ht : takes x 0 tKs with
  | none =>
    have : decX x=tErr:=by unfold decX; rw [ht]
    obtain ⟨k,rfl⟩ : ∃ q,k=q + 1:=⟨k - 1,by omega⟩
    rw [tTake_none hb (by omega) (by rw [tKs_len]; decide) tKs_ok ht,Option.bind_some,if_neg (by decide),table_Decode.j1,if_pos rfl,this]; rfl
  | some p =>
    obtain ⟨l,n⟩:=p;obtain ⟨t1,t2,t3,t4,t5,t6,t7⟩:=takes_spec hb _ _ _ _ (Nat.zero_le _) tKs_ok ht;obtain ⟨m,a,b,c,E,hE,rfl,h0,h1⟩:=tab_of t3 t4
    have hM : ((tabI m a b c E).map ofIt).length=52:=by rw [List.length_map,tabI_count]; omega
    rw [tTake_some hb (by omega) (by rw [tKs_len]; decide) tKs_ok ht,Option.bind_some,if_pos rfl,if_pos (by show (0 : Int)<(((tabI m a b c E).map ofIt).length : Int); omega),decX_tab ht hE]
    have e0 : (rd_T51 ((tabI m a b c E).map ofIt) 0).f1=m:=rfl
    show (if (rd_T51 ((tabI m a b c E).map ofIt) 0).f1=84 then _ else _)=_
    rw [e0]
    by_cases hm : m=84
    · rw [if_pos hm,if_pos (by show (0 : Int)≤(n : Int); omega),if_pos (by show (n : Int)≤_; omega)]
      show (table_nought.f k (x.drop ((n : Int)).toNat)).bind _=_
      rw [Int.toNat_natCast,noughtT_ev (by rw [List.length_drop]; omega) (by rw [List.length_drop]; omega),Option.bind_some,Bool.not_not,dec_j1 hE _ (by omega)]
      congr 1
      simp only [hm,true_and]
    · rw [if_neg hm,dec_j1 hE _ (by omega),if_neg (by simp),if_neg (fun h=>hm h.1)]
theorem rdE_eta {E : List Ent} {i : Nat} (h : i<E.length) : E.take (i + 1)=E.take i++[rdE E i]:=by
  have h2:=rdE_at h;rw [List.getElem?_eq_getElem h] at h2;rw [List.take_add_one,List.getElem?_eq_getElem h];have h3 : E[i]=rdE E i:=Option.some.inj h2;rw [h3]; rfl
def refEnd (k : Nat) (l0 : List Int) (a b c : Int) (E : List Ent) : Option TbT :=
  (humusref11_May.f k a b c E).bind fun t=>(if t=true then ((humusref11_Page.f k a b c E).bind fun p=>(if (strOfNums p).toList=(strOfNums l0).toList then (some (a,b,c,E,0)) else (some (0,0,0,([] : List Ent),4)))) else (some (0,0,0,([] : List Ent),4)))
theorem ref_l1 {m a b c a' b' c' : Int} {E : List Ent} (hE : E.length=12) (l0 : List Int) : ∀ (d i k : Nat),d + i=12→d + 1≤k→humusref11_Decode.l1 k l0 ((tabI m a b c E).map ofIt) (i : Int) a' b' c' (E.take i)=refEnd (k - d - 1) l0 a' b' c' E:=by
  intro d
  induction d with
  | zero =>
    intro i k hd hk
    obtain ⟨k,rfl⟩ : ∃ q,k=q + 1:=⟨k - 1,by omega⟩
    rw [humusref11_Decode.l1,if_neg (by omega),List.take_of_length_le (by omega)]; rfl
  | succ d ih =>
    intro i k hd hk
    obtain ⟨k,rfl⟩ : ∃ q,k=q + 1:=⟨k - 1,by omega⟩
    have hl : ((tabI m a b c E).map ofIt).length=52:=by rw [List.length_map,tabI_count]; omega
    have w : ∀ j : Nat,j<8→wrap64 ((j : Int) + wrap64 (4 * (i : Int)))=((j + 4 * i : Nat) : Int):=by intro j hj; unfold wrap64; omega
    have w4 : wrap64 (4 + wrap64 (4 * (i : Int)))=((4 + 4 * i : Nat) : Int):=w 4 (by omega)
    have w5 : wrap64 (5 + wrap64 (4 * (i : Int)))=((5 + 4 * i : Nat) : Int):=w 5 (by omega)
    have w6 : wrap64 (6 + wrap64 (4 * (i : Int)))=((6 + 4 * i : Nat) : Int):=w 6 (by omega)
    have w7 : wrap64 (7 + wrap64 (4 * (i : Int)))=((7 + 4 * i : Nat) : Int):=w 7 (by omega)
    have hw : wrap64 ((i : Int) + 1)=((i + 1 : Nat) : Int):=by unfold wrap64; omega
    obtain ⟨h0,h1,h2,h3⟩:=rdI_ents E i (by omega)
    have r0:=rdI_tab (m:=m) (a:=a) (b:=b) (c:=c) (E:=E) (4 * i);have r1:=rdI_tab (m:=m) (a:=a) (b:=b) (c:=c) (E:=E) (4 * i + 1);have r2:=rdI_tab (m:=m) (a:=a) (b:=b) (c:=c) (E:=E) (4 * i + 2);have r3:=rdI_tab (m:=m) (a:=a) (b:=b) (c:=c) (E:=E) (4 * i + 3)
    rw [h0] at r0; rw [h1,show 4 + (4 * i + 1)=5 + 4 * i by omega] at r1; rw [h2,show 4 + (4 * i + 2)=6 + 4 * i by omega] at r2; rw [h3,show 4 + (4 * i + 3)=7 + 4 * i by omega] at r3
    unfold rdI at r0 r1 r2 r3
    have g : ∀ j : Nat,j<8→j + 4 * i<52:=by intro j hj; omega
    rw [humusref11_Decode.l1,if_pos (by omega)]
    simp only [w4,w5,w6,w7]
    rw [if_pos (by omega),if_pos (by omega),if_pos (by omega),if_pos (by omega),if_pos (by omega),if_pos (by omega),if_pos (by omega),if_pos (by omega),if_pos (by rw [List.length_take]; omega),hw,r0,r1,r2,r3,← rdE_eta (E:=E) (i:=i) (by omega),ih (i + 1) k (by omega) (by omega),show k + 1 - (d + 1) - 1=k - d - 1 by omega]
theorem ref_kinds (x : List Int) : ∀ (d i k : Nat) (ks : List Int),d + i=12→ks.length + 4 * d≤1000→d + 1≤k→humusref11_Decode.l0 k x ks (i : Int)=humusref11_Decode.l0 (k - d) x (ks++reps d eK) 12:=by
  intro d
  induction d with
  | zero =>
    intro i k ks hd hk hkk
    obtain rfl : i=12:=by omega
    rw [show reps 0 eK=[] from rfl,List.append_nil]; rfl
  | succ d ih =>
    intro i k ks hd hk hkk
    obtain ⟨k,rfl⟩ : ∃ q,k=q + 1:=⟨k - 1,by omega⟩
    rw [humusref11_Decode.l0,if_pos (by omega),Option.bind_some,if_pos (by simp only [List.length_cons,List.length_nil]; omega),wsucc (by omega),ih (i + 1) k _ (by omega) (by rw [List.length_append]; simp only [List.length_cons,List.length_nil]; omega) (by omega),reps_succ,List.append_assoc,show k + 1 - (d + 1)=k - d by omega]
theorem pageT_iff {x : List Int} {m a b c : Int} {E : List Ent} {n : Nat} (hl : x.length=508) (hE : E.length=12) (h0 : 0≤m) (h1 : m≤255) (hn : n≤508) (ho : ones (tabI m a b c E)=x.take n) : pageT a b c E=x ↔ m=84∧(x.drop n).any (fun e=>e != 0)=false:=by
  have hlen:=tabI_len m a b c E
  have hn145 : n=145:=by
    have : (x.take n).length=145:=by rw [← ho,hlen,hE]
    rw [List.length_take] at this; omega
  subst hn145
  have hx : x=ones (tabI m a b c E)++x.drop 145:=by rw [ho,List.take_append_drop]
  have t1 : ∀ q : Int,0≤q→q≤255→ones (tabI q a b c E)=q :: ones (mkI 3 a :: mkI 3 b :: mkI 3 c :: entsI E):=by
    intro q q0 q1
    unfold tabI
    rw [tones_cons]
    have : one (mkI 1 q)=[q]:=by
      unfold one mkI
      rw [if_pos (.inl rfl),show (wid 1).toNat=1 from rfl]
      unfold bigs bigs
      simp
      omega
    rw [this]; rfl
  have hd : (x.drop 145).length=363:=by rw [List.length_drop]; omega
  unfold pageT
  rw [zeros_any,hd]
  constructor
  · intro h
    rw [hx,t1 84 (by decide) (by decide),t1 m h0 h1,List.cons_append,List.cons_append] at h
    injection h with h2 h3
    refine ⟨h2.symm,?_⟩;have h4:=List.append_cancel_left h3;exact h4.symm
  · rintro ⟨rfl,h⟩
    rw [← h];exact hx.symm
theorem str_iff {p b : List Int} (hp : Bytes p) (hb : Bytes b) : (strOfNums p).toList=(strOfNums b).toList ↔ p=b:=by
  have hq:=str_eq hp hb
  constructor
  · intro h; rw [h,beq_self_eq_true] at hq; exact od_ hq.symm
  · rintro rfl; rfl
theorem ref_j {k : Nat} {b : List Int} (hb : Bytes b) (hl : b.length=512) (hs : b=sealL (b.drop 4)) (hk : 9000≤k) : humusref11_Decode.j0 k b [1,3,3,3] 0=some (decX (b.drop 4)):=by
  obtain ⟨k,rfl⟩ : ∃ q,k=q + 14:=⟨k - 14,by omega⟩
  have hx:=hb.drop 4
  have hxl : (b.drop 4).length=508:=by rw [List.length_drop]; omega
  rw [humusref11_Decode.j0,show (0 : Int)=((0 : Nat) : Int) from rfl,ref_kinds b 12 0 (k + 13) _ (by omega) (by decide) (by omega),show k + 13 - 12=k + 1 by omega,humusref11_Decode.l0,if_neg (by decide),if_pos (by omega)]
  unfold humusref03_Take.f
  rw [show ([1,3,3,3] : List Int)++reps 12 eK=tKs from rfl]
  cases ht : takes (b.drop 4) 0 tKs with
  | none =>
    have : decX (b.drop 4)=tErr:=by unfold decX; rw [ht]
    obtain ⟨k,rfl⟩ : ∃ q,k=q + 1:=⟨k - 1,by omega⟩
    rw [tTake_none hx (by omega) (by rw [tKs_len]; decide) tKs_ok ht,Option.bind_some,humusref11_Decode.j2,if_pos (by decide),this]; rfl
  | some p =>
    obtain ⟨l,n⟩:=p;obtain ⟨t1,t2,t3,t4,t5,t6,t7⟩:=takes_spec hx _ _ _ _ (Nat.zero_le _) tKs_ok ht;obtain ⟨m,a,e,c,E,hE,rfl,h0,h1⟩:=tab_of t3 t4
    have hM : ((tabI m a e c E).map ofIt).length=52:=by rw [List.length_map,tabI_count]; omega
    rw [List.drop_zero,Nat.sub_zero] at t7
    obtain ⟨k,rfl⟩ : ∃ q,k=q + 1:=⟨k - 1,by omega⟩
    rw [tTake_some hx (by omega) (by rw [tKs_len]; decide) tKs_ok ht,Option.bind_some]
    show humusref11_Decode.j2 (k + 1) b ((tabI m a e c E).map ofIt) ((0 : Int) != 0)=_
    rw [humusref11_Decode.j2,if_neg (by decide),if_pos (by omega),if_pos (by omega),if_pos (by omega),decX_tab ht hE]
    have e1 : (rd_T51 ((tabI m a e c E).map ofIt) 1).f1=a:=rfl;have e2 : (rd_T51 ((tabI m a e c E).map ofIt) 2).f1=e:=rfl;have e3 : (rd_T51 ((tabI m a e c E).map ofIt) 3).f1=c:=rfl;rw [e1,e2,e3]
    have hL:=ref_l1 (m:=m) (a:=a) (b:=e) (c:=c) (a':=a) (b':=e) (c':=c) hE b 12 0 k (by omega) (by omega)
    rw [List.take_zero] at hL;refine hL.trans ?_
    unfold refEnd
    rw [May_ev (by omega),Option.bind_some]
    have hP:=pageT_iff (a:=a) (b:=e) (c:=c) hxl hE h0 h1 (by omega) t7.symm.symm
    cases hM : MayT a e c E with
    | false=>rw [if_neg (by decide),if_neg (by simp)]; rfl
    | true =>
      have hb2:=(pageT_bytes hM).2.2.1
      have hq : (strOfNums (sealL (pageT a e c E))).toList=(strOfNums b).toList ↔ (m=84∧((b.drop 4).drop n).any (fun e=>e != 0)=false):=by
        rw [str_iff (sealL_bytes hb2) hb,← hP]
        constructor
        · intro h
          have:=congrArg (List.drop 4) h
          rwa [sealL_drop] at this
        · intro h
          rw [h]; exact hs.symm
      rw [if_pos rfl,TPage_ev hM (by omega),Option.bind_some]
      by_cases hc : (m=84∧((b.drop 4).drop n).any (fun e=>e != 0)=false)
      · rw [if_pos (hq.2 hc),if_pos ⟨hc.1,hc.2,rfl⟩]
      · rw [if_neg (fun h=>hc (hq.1 h)),if_neg (fun h=>hc ⟨h.1,h.2.1⟩)]; rfl
theorem decX_len (x : List Int) : (decX x).2.2.2.1.length≤12:=by
  unfold decX
  split
  · exact (by decide)
  · split
    · split
      · show ((List.finRange 12).map _).length≤12
        rw [List.length_map]; simp
      · exact (by decide)
    · exact (by decide)
theorem tboth_dec {k : Nat} {b : List Int} (hb : Bytes b) (hl : b.length≤2000) (hk : 30000≤k) : ∃ t : TbT,table_Decode.f k b=some t∧humusref11_Decode.f k b=some t∧t.2.2.2.1.length≤12:=by
  unfold table_Decode.f humusref11_Decode.f
  by_cases h5 : (b.length : Int)=512
  rotate_left
  · rw [if_neg h5,if_neg h5]
    exact ⟨_,rfl,rfl,by decide⟩
  have h5' : b.length=512:=by omega
  rw [if_pos h5,if_pos h5,if_pos (by decide),noughtT_ev (by omega) (by omega),Option.bind_some]
  have hz : (strOfNums b).toList=(strOfNums (List.replicate 512 0)).toList ↔ (b.any fun e=>e != 0)=false:=by
    rw [str_iff hb (zeros_bytes _),zeros_any,h5']
  cases hany : b.any fun e=>e != 0 with
  | false =>
    rw [Bool.not_false,if_pos rfl,if_pos (hz.2 hany)]
    unfold table_First.f humusref11_First.f
    rw [if_pos (by decide),Option.bind_some]
    exact ⟨_,rfl,rfl,by show (List.replicate 12 _).length≤12; rw [List.length_replicate]; decide⟩
  | true =>
    rw [Bool.not_true,if_neg (by decide),if_neg (fun h=>by have:=hz.1 h; rw [hany] at this; cases this),tOpen_ev hb (by omega) (by omega) (by omega),Option.bind_some]
    have hS : humusref02_Seal.f k (b.drop 4)=some (sealL (b.drop 4)):=rSeal_ev (hb.drop 4) (by rw [List.length_drop]; omega) (by rw [List.length_drop]; omega)
    have h44 : (4 : Int)≤(b.length : Int):=by omega
    have hse : (strOfNums (sealL (b.drop 4))).toList=(strOfNums b).toList ↔ fourL (sumL (b.drop 4))=b.take 4:=by
      rw [str_iff (sealL_bytes (hb.drop 4)) hb]
      constructor
      · intro h
        have:=congrArg (List.take 4) h
        rwa [sealL_take] at this
      · intro h
        unfold sealL
        rw [h,List.take_append_drop]
    by_cases he : fourL (sumL (b.drop 4))=b.take 4
    · rw [if_pos he,if_pos h44,hS,Option.bind_some,if_pos (hse.2 he)]
      have hx:=hb.drop 4
      have hxl : (b.drop 4).length=508:=by rw [List.length_drop]; omega
      have hbs : b=sealL (b.drop 4):=by unfold sealL; rw [he,List.take_append_drop]
      refine ⟨decX (b.drop 4),?_,ref_j hb h5' hbs (by omega),decX_len _⟩
      exact tdec_j0 hx hxl (by omega)
    · rw [if_neg he,if_pos h44,hS,Option.bind_some,if_neg (fun h=>he (hse.1 h))]
      obtain ⟨k,rfl⟩ : ∃ q,k=q + 1:=⟨k - 1,by omega⟩
      refine ⟨(0,0,0,[],5),?_,rfl,by decide⟩
      show table_Decode.j0 (k + 1) [] 5 true=_
      rw [table_Decode.j0,if_pos rfl]
end Go.Proofs.YtbmcbhpkefjhbaaDoor.P
namespace Go.Proofs.YtbmcbhpkefjhbaaDoor.Pure
open Go.RowKit YtbmcbhpkefjhbaaDoor YtbmcbhpkefjhbaaDoor.P YtbmcbhpkefjhbaaDoor.Mem YtbmcbhpkefjhbaaDoorW.PrintWords YtbmcbhpkefjhbaaDoorW.PrintLast YtbmcbhpkefjhbaaDoorW.PrintMore
theorem TableDecodes : humuslaw11_TableDecodes.Pure:=by
  intro l _ _ hw;refine ⟨30000,?_⟩
  have hb : Bytes l:=fun x hx=>by
    have:=hw x hx
    simp only [Lit.wf,Bool.and_eq_true,decide_eq_true_eq] at this
    exact this
  have aw : humuslaw11_awake.f 30000=some true:=awake11_ev (by decide)
  unfold humuslaw11_TableDecodes.f
  by_cases h2 : (l.length : Int) > 2000
  · rw [if_pos h2,aw,Option.bind_some]
  · obtain ⟨⟨a,b,c,E,e⟩,h3,h4,h5⟩:=@tboth_dec 30000 l hb (by omega) (by decide)
    have h5' : E.length≤12:=h5
    have sr : humusref11_Same.f 30000 a b c E a b c E=some true:=same11_refl (by omega) (by omega)
    have hF : table_First.f=some (1,1,0,List.replicate 12 z56):=by unfold table_First.f; rw [if_pos (by decide)]
    have hG : humusref11_First.f=some (1,1,0,List.replicate 12 z56):=by unfold humusref11_First.f; rw [if_pos (by decide)]
    have sf : humusref11_Same.f 30000 1 1 0 (List.replicate 12 z56) 1 1 0 (List.replicate 12 z56)=some true:=same11_refl (by rw [List.length_replicate]; decide) (by rw [List.length_replicate]; decide)
    rw [if_neg h2,Option.bind_some,List.nil_append,if_pos (by simp only [List.length_nil]; omega),h3,Option.bind_some,h4,Option.bind_some]
    simp only
    rw [if_pos trivial,sr,Option.bind_some,if_pos rfl,hF,Option.bind_some,hG,Option.bind_some]
    simp only
    rw [sf,Option.bind_some,if_pos rfl,aw,Option.bind_some];rfl
end Go.Proofs.YtbmcbhpkefjhbaaDoor.Pure
