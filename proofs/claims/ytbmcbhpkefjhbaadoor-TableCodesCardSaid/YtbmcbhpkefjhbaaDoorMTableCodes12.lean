/- by wip/prune.py -/
import Derived.Test.YtbmcbhpkefjhbaaDoorMTableCodes8
import Derived.Test.YtbmcbhpkefjhbaaDoorMTableCodes9
import Derived.Test.YtbmcbhpkefjhbaaDoorMTableCodes10
import Derived.Test.YtbmcbhpkefjhbaaDoorMTableCodes11
set_option linter.unusedSimpArgs false
set_option linter.unusedVariables false
namespace Go.Proofs.YtbmcbhpkefjhbaaDoor.P
open Go.RowKit YtbmcbhpkefjhbaaDoorW.PrintWords YtbmcbhpkefjhbaaDoorW.PrintLast YtbmcbhpkefjhbaaDoorW.PrintMore
attribute [local go_sem] max2_int min2_int max_two min_two max_three min_three max_four min_four   -- for this text's walks alone
attribute [local go_sem] run_store_float
def table_own.f (a0_0 : Int) (a0_1 : Int) (a0_2 : Int) (l0_3 : List (S56)) : Option (Int × Int × Int × (List (S56))):=(slices_Clone_api_Entry_api_Entry.f l0_3).bind fun t143=>(some (a0_0,a0_1,a0_2,t143))
set_option maxHeartbeats 8000000 in
set_option maxRecDepth 100000 in
theorem table_own.calls (a0_0 : Int) (a0_1 : Int) (a0_2 : Int) (A0_3 : Option Addr) (c0_3 : Nat) (l0_3 : List (S56)) (r1 : Int) (r2 : Int) (r3 : Int) (r4 : List (S56)) (w : World) (hr0_3 : Kd.C k56 w A0_3 l0_3.length l0_3) (hc0_3 : l0_3.length≤c0_3) (h : table_own.f a0_0 a0_1 a0_2 l0_3=some (r1,r2,r3,r4)) :
  Calls Tryd.prog 37 #[.agg #[.int .i64 a0_0,.int .i64 a0_1,.int .i64 a0_2,.slice A0_3 l0_3.length c0_3]] w fun e w'=>∃ v3_ : Value,e=.returned (.agg #[.int .i64 r1,.int .i64 r2,.int .i64 r3,v3_])∧Kd.R k56 56 w' w.heap.size (fun _=>True) v3_ r4∧Below w.heap.size w w':=by
 have hu26:=Tryd.underlying26;have HR0_3:=A_ hr0_3;have HC0_3:=A_ hc0_3;clear hr0_3 hc0_3;have HB:=A_ (Below.refl w.heap.size w)
 have H : ((slices_Clone_api_Entry_api_Entry.f l0_3).bind fun t143=>(some (a0_0,a0_1,a0_2,t143)))=some (r1,r2,r3,r4):=h
 clear h;replace H:=Option.bind_eq_some_iff.mp H;obtain ⟨t143,A20,H⟩:=H;replace H : (some (a0_0,a0_1,a0_2,t143))=some (r1,r2,r3,r4):=H;have A2:=A_ A20;clear A20
 simp only [Option.some.injEq,Prod.mk.injEq] at H
 obtain ⟨rfl,rfl,rfl,rfl⟩:=H;go_enter Tryd.func37,Tryd.ntmps37
 go_wp2_with (first|((with_reducible refine gate_dst (N:=1) rfl ?_);refine box_event ?hg (N:=1) ?hd (cs:=#[.int .i64 a0_0,.int .i64 a0_1,.int .i64 a0_2,.slice A0_3 l0_3.length c0_3]) (t:=26) ?hr ?_;(case hd=>rfl);(case hg=>rfl);(case hr=>first|(go_simp;done)|(go_simp;rfl));intro gb141 hg w3 hbox hb;have n0_:=A_ (bp_ (hb0_ HB.out) hb);have n1_:=A_ (hbox);have n2_:=A_ ((by rw [hg];exact (bz_ (hb0_ HB.out)) : w.heap.size≤gb141));have n3_:=n2_;clear HB;have HB:=n0_;have BK141:=n1_;have GW141:=n2_;have GE141:=n3_;clear n0_ n1_ n2_ n3_;clear hb hbox hg)|((with_reducible refine gate_dst (N:=2) rfl ?_);refine box_event ?hg (N:=2) ?hd (cs:=#[.int .i64 0,.int .i64 0,.int .i64 0,.slice none 0 0]) (t:=26) ?hr ?_;(case hd=>rfl);(case hg=>rfl);(case hr=>first|(go_simp;done)|(go_simp;rfl));intro gb142 hg w4 hbox hb;have n0_:=A_ (bx_ BK141.out kf_ hb);have n1_:=A_ (bp_ (hb1_ HB.out GE141.out) hb);have n2_:=A_ (hbox);have n3_:=A_ ((by rw [hg];exact (bz_ (hb1_ HB.out GE141.out)) : w.heap.size≤gb142));have n4_:=n3_;have n5_:=A_ ((by rw [hg];exact Nat.ne_of_lt (bl_ BK141.out kf_) : gb141≠gb142));have n6_:=A_ (Ne.symm n5_.out);clear BK141;clear HB;have BK141:=n0_;have HB:=n1_;have BK142:=n2_;have GW142:=n3_;have GE142:=n4_;have NB141_142:=n5_;have NB142_141:=n6_;clear n0_ n1_ n2_ n3_ n4_ n5_ n6_;clear hb hbox hg;have hnb5:=NB141_142.out;have hnc5:=NB142_141.out;obtain ⟨z6_0,z6_1,z6_2,z6_3⟩:=blkc_4 BK141.out;obtain ⟨y6_0,y6_1,y6_2⟩:=blkz_3 BK141.out;have y6_3:=bf_ BK141.out 3)|((with_reducible refine gate_callee (f:=54) rfl ?_);refine goesL_ (some 5) rfl rfl Tryd.func54 (by kernel_rfl) rfl #[.slice A0_3 l0_3.length c0_3] rfl (by (try simp only [List.map_toArray,List.map_cons,List.map_nil]);first|done|rfl|(simp only [List.length_drop,List.length_take];rfl)) ?_;(with_reducible refine (slices_Clone_api_Entry_api_Entry.calls _ _ l0_3 t143 _ ?side1 ?side2 A2.out).mono ?_);(case side1=>repeat (first|exact (Kd.C_below HR0_3.out HB.out)|(with_reducible refine Kd.C_alloc ?_ _)|(with_reducible refine Kd.C_drewN ?_ _)|(with_reducible refine Kd.C_drew ?_)));(case side2=>exact HC0_3.out);rintro e w7 ⟨v144,rfl,ho0,hb⟩;refine ⟨_,rfl,?_⟩;have n0_:=A_ (Kd.R_lower ho0 (bz_ (hb2_ HB.out GE141.out GE142.out)));have n1_:=A_ (bx_ BK141.out kf_ hb);have n2_:=A_ (bx_ BK142.out kf_ hb);have n3_:=A_ (bp_ (hb2_ HB.out GE141.out GE142.out) hb);clear BK141;clear BK142;clear HB;have HO145:=n0_;have BK141:=n1_;have BK142:=n2_;have HB:=n3_;clear n0_ n1_ n2_ n3_;(try clear hb);(try clear hb2);(try clear hk);(try clear hi);(try clear ho0);obtain ⟨Ao8,co8,eo8⟩:=Kd.R_slice HO145.out;subst eo8;obtain ⟨z9_0,z9_1,z9_2,z9_3⟩:=blkc_4 BK141.out;obtain ⟨y9_0,y9_1,y9_2,y9_3⟩:=blkz_4 BK141.out;obtain ⟨z10_0,z10_1,z10_2,z10_3⟩:=blkc_4 BK142.out;obtain ⟨y10_0,y10_1,y10_2⟩:=blkz_3 BK142.out;have y10_3:=bf_ BK142.out 3))
 refine bodyPost_ret (results_cell_row rfl _ _ gb142 26 #[.int .i64 a0_0,.int .i64 a0_1,.int .i64 a0_2,.slice Ao8 t143.length co8] (0,0) _ rfl (by refine kk_ ?_;apply blkf_4_0_3;refine kk_ ?_;refine blk_far ?_ NB142_141.out _;exact kk_ BK142.out) Tryd.underlying26 rfl (by kernel_rfl)) rfl ?_
 exact ⟨_,by first|rfl|(simp [errW_none,errW_some] <;> rfl)|(simp [*,errW_none,errW_some] <;> rfl),by (with_reducible repeat (first|apply ra_|apply rn_|apply re_));exact Kd.R_mono (rf_ (p:=⟨gb142,3,none⟩) (rf_ (p:=⟨gb142,2,none⟩) (rf_ (p:=⟨gb142,1,none⟩) (rf_ (p:=⟨gb142,0,none⟩) (rf_ (p:=⟨gb141,3,none⟩) (Kd.R_types (Kd.R_types HO145.out BK141.out (by decide)) BK142.out (by decide)) (fun _ hk=>hk.1.2) (.slice Ao8 t143.length co8)) (fun _ hk=>hk.2) (.int .i64 a0_0)) (fun _ hk=>hk.2) (.int .i64 a0_1)) (fun _ hk=>hk.2) (.int .i64 a0_2)) (fun _ hk=>hk.2) (.slice Ao8 t143.length co8)) (fun _ hk=>trivial),hb2_ HB.out GE141.out GE142.out⟩
def table_Enter.f (k : Nat) (a0_0 : Int) (a0_1 : Int) (a0_2 : Int) (l0_3 : List (S56)) (a1 : Int) : Option (Int × Int × Int × (List (S56)) × Int × Int):=(table_Check.f k a0_0 a0_1 a0_2 l0_3).bind fun t148=>(if t148=0 then ((slices_Index_api_Entry_api_Entry.f k l0_3 0 0 0 0).bind fun t149=>((table_own.f a0_0 a0_1 a0_2 l0_3).bind fun bt150=>((table_in.f a1 1 2147483646).bind fun t156=>(if t156=true then ((table_Find.f k bt150.1 bt150.2.1 bt150.2.2.1 bt150.2.2.2 a1).bind fun t157=>(if t157 ≥ 0 then (some (bt150.1,bt150.2.1,bt150.2.2.1,bt150.2.2.2,(-1),2)) else (if t149<0 then (some (bt150.1,bt150.2.1,bt150.2.2.1,bt150.2.2.2,(-1),12)) else (if 0≤t149 then (if t149<(bt150.2.2.2.length : Int) then (some (mx bt150.1 (wrap64 (a1 + 1)),bt150.2.1,bt150.2.2.1,(bt150.2.2.2.set (t149 : Int).toNat (⟨a1,1,0,0⟩ : S56)),t149,0)) else (none)) else (none))))) else (some (bt150.1,bt150.2.1,bt150.2.2.1,bt150.2.2.2,(-1),1)))))) else (some (0,0,0,([] : List (S56)),(-1),t148)))
theorem table_Enter.mono : ∀ a0 a1 a2 a3 a4 k,LeO (table_Enter.f k a0 a1 a2 a3 a4) (table_Enter.f (k + 1) a0 a1 a2 a3 a4):=by
 intro a0 a1 a2 a3 a4 k
 unfold table_Enter.f
 repeat' first
   | (with_reducible exact slices_Index_api_Entry_api_Entry.mono _ _ _ _ _ _)
   | (with_reducible exact table_Check.mono _ _ _ _ _)
   | (with_reducible exact table_Find.mono _ _ _ _ _ _)
   | (with_reducible exact LeO.refl _)
   | (with_reducible exact LeO.none _)
   | (with_reducible refine LeO.ite ?_ ?_)
   | (with_reducible refine LeO.bind ?_ (fun _=>?_))
   | exact slices_Index_api_Entry_api_Entry.mono _ _ _ _ _ _
   | exact table_Check.mono _ _ _ _ _
   | exact table_Find.mono _ _ _ _ _ _
   | exact LeO.none _
   | refine LeO.ite ?_ ?_
   | refine LeO.bind ?_ (fun _=>?_)
set_option maxHeartbeats 8000000 in
set_option maxRecDepth 100000 in
theorem table_Enter.calls (k : Nat) (a0_0 : Int) (a0_1 : Int) (a0_2 : Int) (A0_3 : Option Addr) (c0_3 : Nat) (l0_3 : List (S56)) (a1 : Int) (r1 : Int) (r2 : Int) (r3 : Int) (r4 : List (S56)) (r5 : Int) (r6 : Int) (w : World) (hr0_3 : Kd.C k56 w A0_3 l0_3.length l0_3) (hc0_3 : l0_3.length≤c0_3) (h : table_Enter.f k a0_0 a0_1 a0_2 l0_3 a1=some (r1,r2,r3,r4,r5,r6)) :
  Calls Tryd.prog 18 #[.agg #[.int .i64 a0_0,.int .i64 a0_1,.int .i64 a0_2,.slice A0_3 l0_3.length c0_3],.int .i64 a1] w fun e w'=>∃ v3_ : Value,e=.returned (.tuple #[.agg #[.int .i64 r1,.int .i64 r2,.int .i64 r3,v3_],.int .i64 r5,.int .i64 r6])∧Kd.R k56 56 w' w.heap.size (fun _=>True) v3_ r4∧Below w.heap.size w w':=by
 have hu26:=Tryd.underlying26;have hu56:=Tryd.underlying56;have HR0_3:=A_ hr0_3;have HC0_3:=A_ hc0_3;clear hr0_3 hc0_3;have HB:=A_ (Below.refl w.heap.size w)
 have H : ((table_Check.f k a0_0 a0_1 a0_2 l0_3).bind fun t148=>(if t148=0 then ((slices_Index_api_Entry_api_Entry.f k l0_3 0 0 0 0).bind fun t149=>((table_own.f a0_0 a0_1 a0_2 l0_3).bind fun bt150=>((table_in.f a1 1 2147483646).bind fun t156=>(if t156=true then ((table_Find.f k bt150.1 bt150.2.1 bt150.2.2.1 bt150.2.2.2 a1).bind fun t157=>(if t157 ≥ 0 then (some (bt150.1,bt150.2.1,bt150.2.2.1,bt150.2.2.2,(-1),2)) else (if t149<0 then (some (bt150.1,bt150.2.1,bt150.2.2.1,bt150.2.2.2,(-1),12)) else (if 0≤t149 then (if t149<(bt150.2.2.2.length : Int) then (some (mx bt150.1 (wrap64 (a1 + 1)),bt150.2.1,bt150.2.2.1,(bt150.2.2.2.set (t149 : Int).toNat (⟨a1,1,0,0⟩ : S56)),t149,0)) else (none)) else (none))))) else (some (bt150.1,bt150.2.1,bt150.2.2.1,bt150.2.2.2,(-1),1)))))) else (some (0,0,0,([] : List (S56)),(-1),t148))))=some (r1,r2,r3,r4,r5,r6):=h
 clear h;replace H:=Option.bind_eq_some_iff.mp H;obtain ⟨t148,A30,H⟩:=H
 replace H : (if t148=0 then ((slices_Index_api_Entry_api_Entry.f k l0_3 0 0 0 0).bind fun t149=>((table_own.f a0_0 a0_1 a0_2 l0_3).bind fun bt150=>((table_in.f a1 1 2147483646).bind fun t156=>(if t156=true then ((table_Find.f k bt150.1 bt150.2.1 bt150.2.2.1 bt150.2.2.2 a1).bind fun t157=>(if t157 ≥ 0 then (some (bt150.1,bt150.2.1,bt150.2.2.1,bt150.2.2.2,(-1),2)) else (if t149<0 then (some (bt150.1,bt150.2.1,bt150.2.2.1,bt150.2.2.2,(-1),12)) else (if 0≤t149 then (if t149<(bt150.2.2.2.length : Int) then (some (mx bt150.1 (wrap64 (a1 + 1)),bt150.2.1,bt150.2.2.1,(bt150.2.2.2.set (t149 : Int).toNat (⟨a1,1,0,0⟩ : S56)),t149,0)) else (none)) else (none))))) else (some (bt150.1,bt150.2.1,bt150.2.2.1,bt150.2.2.2,(-1),1)))))) else (some (0,0,0,([] : List (S56)),(-1),t148)))=some (r1,r2,r3,r4,r5,r6):=H
 have A3:=A_ A30;clear A30
 by_cases c4 : t148=0
 rotate_left
 ·rw [if_neg c4] at H
  have c4b0 : (t148 == 0)=false:=beq_eq_false_iff_ne.mpr c4;have c4b1 : (t148 != 0)=true:=bne_iff_ne.mpr c4
  simp only [Option.some.injEq,Prod.mk.injEq] at H
  obtain ⟨rfl,rfl,rfl,rfl,rfl,rfl⟩:=H;go_enter Tryd.func18,Tryd.ntmps18
  go_wp2_with (first|((with_reducible refine gate_dst (N:=2) rfl ?_);refine box_event ?hg (N:=2) ?hd (cs:=#[.int .i64 a0_0,.int .i64 a0_1,.int .i64 a0_2,.slice A0_3 l0_3.length c0_3]) (t:=26) ?hr ?_;(case hd=>rfl);(case hg=>rfl);(case hr=>first|(go_simp;done)|(go_simp;rfl));intro gb146 hg w73 hbox hb;have n0_:=A_ (bp_ (hb0_ HB.out) hb);have n1_:=A_ (hbox);have n2_:=A_ ((by rw [hg];exact (bz_ (hb0_ HB.out)) : w.heap.size≤gb146));have n3_:=n2_;clear HB;have HB:=n0_;have BK146:=n1_;have GW146:=n2_;have GE146:=n3_;clear n0_ n1_ n2_ n3_;clear hb hbox hg)|((with_reducible refine gate_dst (N:=4) rfl ?_);refine box_event ?hg (N:=4) ?hd (cs:=#[.int .i64 0,.int .i64 0,.int .i64 0,.slice none 0 0]) (t:=26) ?hr ?_;(case hd=>rfl);(case hg=>rfl);(case hr=>first|(go_simp;done)|(go_simp;rfl));intro gb147 hg w74 hbox hb;have n0_:=A_ (bx_ BK146.out kf_ hb);have n1_:=A_ (bp_ (hb1_ HB.out GE146.out) hb);have n2_:=A_ (hbox);have n3_:=A_ ((by rw [hg];exact (bz_ (hb1_ HB.out GE146.out)) : w.heap.size≤gb147));have n4_:=n3_;have n5_:=A_ ((by rw [hg];exact Nat.ne_of_lt (bl_ BK146.out kf_) : gb146≠gb147));have n6_:=A_ (Ne.symm n5_.out);clear BK146;clear HB;have BK146:=n0_;have HB:=n1_;have BK147:=n2_;have GW147:=n3_;have GE147:=n4_;have NB146_147:=n5_;have NB147_146:=n6_;clear n0_ n1_ n2_ n3_ n4_ n5_ n6_;clear hb hbox hg;have hnb75:=NB146_147.out;have hnc75:=NB147_146.out;obtain ⟨z76_0,z76_1,z76_2,z76_3⟩:=blkc_4 BK146.out;obtain ⟨y76_0,y76_1,y76_2⟩:=blkz_3 BK146.out;have y76_3:=bf_ BK146.out 3)|((with_reducible refine gate_callee (f:=13) rfl ?_);refine goesL_ (some 10) rfl rfl Tryd.func13 (by kernel_rfl) rfl #[.agg #[.int .i64 a0_0,.int .i64 a0_1,.int .i64 a0_2,.slice A0_3 l0_3.length c0_3]] rfl (by (try simp only [List.map_toArray,List.map_cons,List.map_nil]);first|done|rfl|(simp only [List.length_drop,List.length_take];rfl)) ?_;(with_reducible refine (table_Check.calls k a0_0 a0_1 a0_2 _ _ l0_3 t148 _ ?side1 ?side2 A3.out).mono ?_);(case side1=>repeat (first|exact (Kd.C_below HR0_3.out HB.out)|(with_reducible refine Kd.C_alloc ?_ _)|(with_reducible refine Kd.C_drewN ?_ _)|(with_reducible refine Kd.C_drew ?_)));(case side2=>exact HC0_3.out);rintro e w77 ⟨rfl,hb⟩;refine ⟨_,rfl,?_⟩;have n0_:=A_ (bx_ BK146.out kf_ hb);have n1_:=A_ (bx_ BK147.out kf_ hb);have n2_:=A_ (bp_ (hb2_ HB.out GE146.out GE147.out) hb);clear BK146;clear BK147;clear HB;have BK146:=n0_;have BK147:=n1_;have HB:=n2_;clear n0_ n1_ n2_;(try clear hb);(try clear hb2);(try clear hk);(try clear hi);obtain ⟨z78_0,z78_1,z78_2,z78_3⟩:=blkc_4 BK147.out;obtain ⟨y78_0,y78_1,y78_2⟩:=blkz_3 BK147.out;have y78_3:=bf_ BK147.out 3))
  refine bodyPost_ret (results_ctt rfl _ _ gb147 26 #[.int .i64 0,.int .i64 0,.int .i64 0,.slice none 0 0] (0,0) _ rfl (by refine kk_ ?_;apply blkf_4_0_3;exact kk_ BK147.out) Tryd.underlying26 rfl (by kernel_rfl)) rfl ?_
  exact ⟨_,by first|rfl|(simp [errW_none,errW_some] <;> rfl)|(simp [*,errW_none,errW_some] <;> rfl),by first|exact Kd.R_nil _ _ _ _ _|exact Kd.N_nil _ _ _ _ _|exact Kd.V_nil _ _ _ _ _|exact Kd.Q_nil _ _ _ _ _|exact Kd.S_nil _ _ _ _ _,hb2_ HB.out GE146.out GE147.out⟩
 rw [if_pos c4] at H
 have c4b0 : (t148 == 0)=true:=beq_iff_eq.mpr c4;have c4b1 : (t148 != 0)=false:=bne_eq_false_iff_eq.mpr c4;clear c4;replace H:=Option.bind_eq_some_iff.mp H;obtain ⟨t149,A50,H⟩:=H
 replace H : ((table_own.f a0_0 a0_1 a0_2 l0_3).bind fun bt150=>((table_in.f a1 1 2147483646).bind fun t156=>(if t156=true then ((table_Find.f k bt150.1 bt150.2.1 bt150.2.2.1 bt150.2.2.2 a1).bind fun t157=>(if t157 ≥ 0 then (some (bt150.1,bt150.2.1,bt150.2.2.1,bt150.2.2.2,(-1),2)) else (if t149<0 then (some (bt150.1,bt150.2.1,bt150.2.2.1,bt150.2.2.2,(-1),12)) else (if 0≤t149 then (if t149<(bt150.2.2.2.length : Int) then (some (mx bt150.1 (wrap64 (a1 + 1)),bt150.2.1,bt150.2.2.1,(bt150.2.2.2.set (t149 : Int).toNat (⟨a1,1,0,0⟩ : S56)),t149,0)) else (none)) else (none))))) else (some (bt150.1,bt150.2.1,bt150.2.2.1,bt150.2.2.2,(-1),1)))))=some (r1,r2,r3,r4,r5,r6):=H
 have A5:=A_ A50;clear A50;replace H:=Option.bind_eq_some_iff.mp H;obtain ⟨⟨t150,t151,t152,t153⟩,A60,H⟩:=H
 replace H : ((table_in.f a1 1 2147483646).bind fun t156=>(if t156=true then ((table_Find.f k t150 t151 t152 t153 a1).bind fun t157=>(if t157 ≥ 0 then (some (t150,t151,t152,t153,(-1),2)) else (if t149<0 then (some (t150,t151,t152,t153,(-1),12)) else (if 0≤t149 then (if t149<(t153.length : Int) then (some (mx t150 (wrap64 (a1 + 1)),t151,t152,(t153.set (t149 : Int).toNat (⟨a1,1,0,0⟩ : S56)),t149,0)) else (none)) else (none))))) else (some (t150,t151,t152,t153,(-1),1))))=some (r1,r2,r3,r4,r5,r6):=H
 have A6:=A_ A60;clear A60;replace H:=Option.bind_eq_some_iff.mp H;obtain ⟨t156,A70,H⟩:=H
 replace H : (if t156=true then ((table_Find.f k t150 t151 t152 t153 a1).bind fun t157=>(if t157 ≥ 0 then (some (t150,t151,t152,t153,(-1),2)) else (if t149<0 then (some (t150,t151,t152,t153,(-1),12)) else (if 0≤t149 then (if t149<(t153.length : Int) then (some (mx t150 (wrap64 (a1 + 1)),t151,t152,(t153.set (t149 : Int).toNat (⟨a1,1,0,0⟩ : S56)),t149,0)) else (none)) else (none))))) else (some (t150,t151,t152,t153,(-1),1)))=some (r1,r2,r3,r4,r5,r6):=H
 have A7:=A_ A70;clear A70
 by_cases c8 : t156=true
 rotate_left
 ·replace c8:=Bool.eq_false_iff.mpr c8
  subst c8
  have H1 : (some (t150,t151,t152,t153,(-1),1))=some (r1,r2,r3,r4,r5,r6):=by rw [if_neg (show ¬ (false=true) by decide)] at H;exact H
  clear H;have H:=H1;clear H1
  simp only [Option.some.injEq,Prod.mk.injEq] at H
  obtain ⟨rfl,rfl,rfl,rfl,rfl,rfl⟩:=H;go_enter Tryd.func18,Tryd.ntmps18
  go_wp2_with (first|((with_reducible refine gate_dst (N:=2) rfl ?_);refine box_event ?hg (N:=2) ?hd (cs:=#[.int .i64 a0_0,.int .i64 a0_1,.int .i64 a0_2,.slice A0_3 l0_3.length c0_3]) (t:=26) ?hr ?_;(case hd=>rfl);(case hg=>rfl);(case hr=>first|(go_simp;done)|(go_simp;rfl));intro gb146 hg w61 hbox hb;have n0_:=A_ (bp_ (hb0_ HB.out) hb);have n1_:=A_ (hbox);have n2_:=A_ ((by rw [hg];exact (bz_ (hb0_ HB.out)) : w.heap.size≤gb146));have n3_:=n2_;clear HB;have HB:=n0_;have BK146:=n1_;have GW146:=n2_;have GE146:=n3_;clear n0_ n1_ n2_ n3_;clear hb hbox hg)|((with_reducible refine gate_dst (N:=4) rfl ?_);refine box_event ?hg (N:=4) ?hd (cs:=#[.int .i64 0,.int .i64 0,.int .i64 0,.slice none 0 0]) (t:=26) ?hr ?_;(case hd=>rfl);(case hg=>rfl);(case hr=>first|(go_simp;done)|(go_simp;rfl));intro gb147 hg w62 hbox hb;have n0_:=A_ (bx_ BK146.out kf_ hb);have n1_:=A_ (bp_ (hb1_ HB.out GE146.out) hb);have n2_:=A_ (hbox);have n3_:=A_ ((by rw [hg];exact (bz_ (hb1_ HB.out GE146.out)) : w.heap.size≤gb147));have n4_:=n3_;have n5_:=A_ ((by rw [hg];exact Nat.ne_of_lt (bl_ BK146.out kf_) : gb146≠gb147));have n6_:=A_ (Ne.symm n5_.out);clear BK146;clear HB;have BK146:=n0_;have HB:=n1_;have BK147:=n2_;have GW147:=n3_;have GE147:=n4_;have NB146_147:=n5_;have NB147_146:=n6_;clear n0_ n1_ n2_ n3_ n4_ n5_ n6_;clear hb hbox hg;have hnb63:=NB146_147.out;have hnc63:=NB147_146.out;obtain ⟨z64_0,z64_1,z64_2,z64_3⟩:=blkc_4 BK146.out;obtain ⟨y64_0,y64_1,y64_2⟩:=blkz_3 BK146.out;have y64_3:=bf_ BK146.out 3)|((with_reducible refine gate_callee (f:=13) rfl ?_);refine goesL_ (some 10) rfl rfl Tryd.func13 (by kernel_rfl) rfl #[.agg #[.int .i64 a0_0,.int .i64 a0_1,.int .i64 a0_2,.slice A0_3 l0_3.length c0_3]] rfl (by (try simp only [List.map_toArray,List.map_cons,List.map_nil]);first|done|rfl|(simp only [List.length_drop,List.length_take];rfl)) ?_;(with_reducible refine (table_Check.calls k a0_0 a0_1 a0_2 _ _ l0_3 t148 _ ?side1 ?side2 A3.out).mono ?_);(case side1=>repeat (first|exact (Kd.C_below HR0_3.out HB.out)|(with_reducible refine Kd.C_alloc ?_ _)|(with_reducible refine Kd.C_drewN ?_ _)|(with_reducible refine Kd.C_drew ?_)));(case side2=>exact HC0_3.out);rintro e w65 ⟨rfl,hb⟩;refine ⟨_,rfl,?_⟩;have n0_:=A_ (bx_ BK146.out kf_ hb);have n1_:=A_ (bx_ BK147.out kf_ hb);have n2_:=A_ (bp_ (hb2_ HB.out GE146.out GE147.out) hb);clear BK146;clear BK147;clear HB;have BK146:=n0_;have BK147:=n1_;have HB:=n2_;clear n0_ n1_ n2_;(try clear hb);(try clear hb2);(try clear hk);(try clear hi);obtain ⟨z66_0,z66_1,z66_2,z66_3⟩:=blkc_4 BK146.out;obtain ⟨y66_0,y66_1,y66_2⟩:=blkz_3 BK146.out;have y66_3:=bf_ BK146.out 3)|((with_reducible refine gate_callee (f:=36) rfl ?_);refine goesL_ (some 18) rfl rfl Tryd.func36 (by kernel_rfl) rfl #[.slice A0_3 l0_3.length c0_3,.agg #[.int .i64 0,.int .i64 0,.int .i64 0,.int .i64 0]] rfl (by (try simp only [List.map_toArray,List.map_cons,List.map_nil]);first|done|rfl|(simp only [List.length_drop,List.length_take];rfl)) ?_;(with_reducible refine (slices_Index_api_Entry_api_Entry.calls k _ _ l0_3 0 0 0 0 t149 _ ?side1 ?side2 A5.out).mono ?_);(case side1=>repeat (first|exact (Kd.C_below HR0_3.out HB.out)|(with_reducible refine Kd.C_alloc ?_ _)|(with_reducible refine Kd.C_drewN ?_ _)|(with_reducible refine Kd.C_drew ?_)));(case side2=>exact HC0_3.out);rintro e w67 ⟨rfl,hb⟩;refine ⟨_,rfl,?_⟩;have n0_:=A_ (bx_ BK146.out kf_ hb);have n1_:=A_ (bx_ BK147.out kf_ hb);have n2_:=A_ (bp_ (hb2_ HB.out GE146.out GE147.out) hb);clear BK146;clear BK147;clear HB;have BK146:=n0_;have BK147:=n1_;have HB:=n2_;clear n0_ n1_ n2_;(try clear hb);(try clear hb2);(try clear hk);(try clear hi);obtain ⟨z68_0,z68_1,z68_2,z68_3⟩:=blkc_4 BK146.out;obtain ⟨y68_0,y68_1,y68_2⟩:=blkz_3 BK146.out;have y68_3:=bf_ BK146.out 3)|((with_reducible refine gate_callee (f:=37) rfl ?_);refine goesL_ (some 20) rfl rfl Tryd.func37 (by kernel_rfl) rfl #[.agg #[.int .i64 a0_0,.int .i64 a0_1,.int .i64 a0_2,.slice A0_3 l0_3.length c0_3]] rfl (by (try simp only [List.map_toArray,List.map_cons,List.map_nil]);first|done|rfl|(simp only [List.length_drop,List.length_take];rfl)) ?_;(with_reducible refine (table_own.calls a0_0 a0_1 a0_2 _ _ l0_3 t150 t151 t152 t153 _ ?side1 ?side2 A6.out).mono ?_);(case side1=>repeat (first|exact (Kd.C_below HR0_3.out HB.out)|(with_reducible refine Kd.C_alloc ?_ _)|(with_reducible refine Kd.C_drewN ?_ _)|(with_reducible refine Kd.C_drew ?_)));(case side2=>exact HC0_3.out);rintro e w69 ⟨v154,rfl,ho0,hb⟩;refine ⟨_,rfl,?_⟩;have n0_:=A_ (Kd.R_lower ho0 (bz_ (hb2_ HB.out GE146.out GE147.out)));have n1_:=A_ (bx_ BK146.out kf_ hb);have n2_:=A_ (bx_ BK147.out kf_ hb);have n3_:=A_ (bp_ (hb2_ HB.out GE146.out GE147.out) hb);clear BK146;clear BK147;clear HB;have HO155:=n0_;have BK146:=n1_;have BK147:=n2_;have HB:=n3_;clear n0_ n1_ n2_ n3_;(try clear hb);(try clear hb2);(try clear hk);(try clear hi);(try clear ho0);obtain ⟨z70_0,z70_1,z70_2,z70_3⟩:=blkc_4 BK146.out;obtain ⟨y70_0,y70_1,y70_2,y70_3⟩:=blkz_4 BK146.out;obtain ⟨Ao71,co71,eo71⟩:=Kd.R_slice HO155.out;subst eo71)|((with_reducible refine gate_callee (f:=29) rfl ?_);refine goesL_ (some 23) rfl rfl Tryd.func29 (by kernel_rfl) rfl #[.int .i64 a1,.int .i64 1,.int .i64 2147483646] rfl (by (try simp only [List.map_toArray,List.map_cons,List.map_nil]);first|done|rfl|(simp only [List.length_drop,List.length_take];rfl)) ?_;(with_reducible refine (table_in.calls a1 1 2147483646 false _ A7.out).mono ?_);rintro e w' ⟨rfl,⟨nd,rfl⟩⟩;refine ⟨_,rfl,?_⟩;obtain ⟨z72_0,z72_1,z72_2,z72_3⟩:=blkc_4 BK147.out;obtain ⟨y72_0,y72_1,y72_2⟩:=blkz_3 BK147.out;have y72_3:=bf_ BK147.out 3))
  refine bodyPost_ret (results_ctt rfl _ _ gb147 26 #[.int .i64 t150,.int .i64 t151,.int .i64 t152,.slice Ao71 t153.length co71] (0,0) _ rfl (by refine kk_ ?_;apply blkf_4_0_3;refine kk_ ?_;refine blk_far ?_ NB147_146.out _;refine kk_ ?_;refine blk_far ?_ NB147_146.out _;refine kk_ ?_;refine blk_far ?_ NB147_146.out _;refine kk_ ?_;refine blk_far ?_ NB147_146.out _;exact kk_ BK147.out) Tryd.underlying26 rfl (by kernel_rfl)) rfl ?_
  exact ⟨_,by first|rfl|(simp [errW_none,errW_some] <;> rfl)|(simp [*,errW_none,errW_some] <;> rfl),by (with_reducible repeat (first|apply ra_|apply rn_|apply re_));exact Kd.R_mono (rf_ (p:=⟨gb147,3,none⟩) (rf_ (p:=⟨gb147,2,none⟩) (rf_ (p:=⟨gb147,1,none⟩) (rf_ (p:=⟨gb147,0,none⟩) (rf_ (p:=⟨gb146,3,none⟩) (rf_ (p:=⟨gb146,2,none⟩) (rf_ (p:=⟨gb146,1,none⟩) (rf_ (p:=⟨gb146,0,none⟩) (Kd.R_types (Kd.R_types HO155.out BK146.out (by decide)) BK147.out (by decide)) (fun _ hk=>hk.1.2) (.int .i64 t150)) (fun _ hk=>hk.1.2) (.int .i64 t151)) (fun _ hk=>hk.1.2) (.int .i64 t152)) (fun _ hk=>hk.1.2) (.slice Ao71 t153.length co71)) (fun _ hk=>hk.2) (.int .i64 t150)) (fun _ hk=>hk.2) (.int .i64 t151)) (fun _ hk=>hk.2) (.int .i64 t152)) (fun _ hk=>hk.2) (.slice Ao71 t153.length co71)) (fun _ hk=>trivial),hb2_ HB.out GE146.out GE147.out⟩
 subst c8
 have H1 : ((table_Find.f k t150 t151 t152 t153 a1).bind fun t157=>(if t157 ≥ 0 then (some (t150,t151,t152,t153,(-1),2)) else (if t149<0 then (some (t150,t151,t152,t153,(-1),12)) else (if 0≤t149 then (if t149<(t153.length : Int) then (some (mx t150 (wrap64 (a1 + 1)),t151,t152,(t153.set (t149 : Int).toNat (⟨a1,1,0,0⟩ : S56)),t149,0)) else (none)) else (none)))))=some (r1,r2,r3,r4,r5,r6):=by rw [if_pos rfl] at H;exact H
 clear H;have H:=H1;clear H1;replace H:=Option.bind_eq_some_iff.mp H;obtain ⟨t157,A90,H⟩:=H
 replace H : (if t157 ≥ 0 then (some (t150,t151,t152,t153,(-1),2)) else (if t149<0 then (some (t150,t151,t152,t153,(-1),12)) else (if 0≤t149 then (if t149<(t153.length : Int) then (some (mx t150 (wrap64 (a1 + 1)),t151,t152,(t153.set (t149 : Int).toNat (⟨a1,1,0,0⟩ : S56)),t149,0)) else (none)) else (none))))=some (r1,r2,r3,r4,r5,r6):=H
 have A9:=A_ A90;clear A90
 by_cases c10 : t157 ≥ 0
 ·rw [if_pos c10] at H
  have c10b0 : decide (0≤t157)=true:=dt_ c10;clear c10
  simp only [Option.some.injEq,Prod.mk.injEq] at H
  obtain ⟨rfl,rfl,rfl,rfl,rfl,rfl⟩:=H;go_enter Tryd.func18,Tryd.ntmps18
  go_wp2_with (first|((with_reducible refine gate_dst (N:=2) rfl ?_);refine box_event ?hg (N:=2) ?hd (cs:=#[.int .i64 a0_0,.int .i64 a0_1,.int .i64 a0_2,.slice A0_3 l0_3.length c0_3]) (t:=26) ?hr ?_;(case hd=>rfl);(case hg=>rfl);(case hr=>first|(go_simp;done)|(go_simp;rfl));intro gb146 hg w11 hbox hb;have n0_:=A_ (bp_ (hb0_ HB.out) hb);have n1_:=A_ (hbox);have n2_:=A_ ((by rw [hg];exact (bz_ (hb0_ HB.out)) : w.heap.size≤gb146));have n3_:=n2_;clear HB;have HB:=n0_;have BK146:=n1_;have GW146:=n2_;have GE146:=n3_;clear n0_ n1_ n2_ n3_;clear hb hbox hg)|((with_reducible refine gate_dst (N:=4) rfl ?_);refine box_event ?hg (N:=4) ?hd (cs:=#[.int .i64 0,.int .i64 0,.int .i64 0,.slice none 0 0]) (t:=26) ?hr ?_;(case hd=>rfl);(case hg=>rfl);(case hr=>first|(go_simp;done)|(go_simp;rfl));intro gb147 hg w12 hbox hb;have n0_:=A_ (bx_ BK146.out kf_ hb);have n1_:=A_ (bp_ (hb1_ HB.out GE146.out) hb);have n2_:=A_ (hbox);have n3_:=A_ ((by rw [hg];exact (bz_ (hb1_ HB.out GE146.out)) : w.heap.size≤gb147));have n4_:=n3_;have n5_:=A_ ((by rw [hg];exact Nat.ne_of_lt (bl_ BK146.out kf_) : gb146≠gb147));have n6_:=A_ (Ne.symm n5_.out);clear BK146;clear HB;have BK146:=n0_;have HB:=n1_;have BK147:=n2_;have GW147:=n3_;have GE147:=n4_;have NB146_147:=n5_;have NB147_146:=n6_;clear n0_ n1_ n2_ n3_ n4_ n5_ n6_;clear hb hbox hg;have hnb13:=NB146_147.out;have hnc13:=NB147_146.out;obtain ⟨z14_0,z14_1,z14_2,z14_3⟩:=blkc_4 BK146.out;obtain ⟨y14_0,y14_1,y14_2⟩:=blkz_3 BK146.out;have y14_3:=bf_ BK146.out 3)|((with_reducible refine gate_callee (f:=13) rfl ?_);refine goesL_ (some 10) rfl rfl Tryd.func13 (by kernel_rfl) rfl #[.agg #[.int .i64 a0_0,.int .i64 a0_1,.int .i64 a0_2,.slice A0_3 l0_3.length c0_3]] rfl (by (try simp only [List.map_toArray,List.map_cons,List.map_nil]);first|done|rfl|(simp only [List.length_drop,List.length_take];rfl)) ?_;(with_reducible refine (table_Check.calls k a0_0 a0_1 a0_2 _ _ l0_3 t148 _ ?side1 ?side2 A3.out).mono ?_);(case side1=>repeat (first|exact (Kd.C_below HR0_3.out HB.out)|(with_reducible refine Kd.C_alloc ?_ _)|(with_reducible refine Kd.C_drewN ?_ _)|(with_reducible refine Kd.C_drew ?_)));(case side2=>exact HC0_3.out);rintro e w15 ⟨rfl,hb⟩;refine ⟨_,rfl,?_⟩;have n0_:=A_ (bx_ BK146.out kf_ hb);have n1_:=A_ (bx_ BK147.out kf_ hb);have n2_:=A_ (bp_ (hb2_ HB.out GE146.out GE147.out) hb);clear BK146;clear BK147;clear HB;have BK146:=n0_;have BK147:=n1_;have HB:=n2_;clear n0_ n1_ n2_;(try clear hb);(try clear hb2);(try clear hk);(try clear hi);obtain ⟨z16_0,z16_1,z16_2,z16_3⟩:=blkc_4 BK146.out;obtain ⟨y16_0,y16_1,y16_2⟩:=blkz_3 BK146.out;have y16_3:=bf_ BK146.out 3)|((with_reducible refine gate_callee (f:=36) rfl ?_);refine goesL_ (some 18) rfl rfl Tryd.func36 (by kernel_rfl) rfl #[.slice A0_3 l0_3.length c0_3,.agg #[.int .i64 0,.int .i64 0,.int .i64 0,.int .i64 0]] rfl (by (try simp only [List.map_toArray,List.map_cons,List.map_nil]);first|done|rfl|(simp only [List.length_drop,List.length_take];rfl)) ?_;(with_reducible refine (slices_Index_api_Entry_api_Entry.calls k _ _ l0_3 0 0 0 0 t149 _ ?side1 ?side2 A5.out).mono ?_);(case side1=>repeat (first|exact (Kd.C_below HR0_3.out HB.out)|(with_reducible refine Kd.C_alloc ?_ _)|(with_reducible refine Kd.C_drewN ?_ _)|(with_reducible refine Kd.C_drew ?_)));(case side2=>exact HC0_3.out);rintro e w17 ⟨rfl,hb⟩;refine ⟨_,rfl,?_⟩;have n0_:=A_ (bx_ BK146.out kf_ hb);have n1_:=A_ (bx_ BK147.out kf_ hb);have n2_:=A_ (bp_ (hb2_ HB.out GE146.out GE147.out) hb);clear BK146;clear BK147;clear HB;have BK146:=n0_;have BK147:=n1_;have HB:=n2_;clear n0_ n1_ n2_;(try clear hb);(try clear hb2);(try clear hk);(try clear hi);obtain ⟨z18_0,z18_1,z18_2,z18_3⟩:=blkc_4 BK146.out;obtain ⟨y18_0,y18_1,y18_2⟩:=blkz_3 BK146.out;have y18_3:=bf_ BK146.out 3)|((with_reducible refine gate_callee (f:=37) rfl ?_);refine goesL_ (some 20) rfl rfl Tryd.func37 (by kernel_rfl) rfl #[.agg #[.int .i64 a0_0,.int .i64 a0_1,.int .i64 a0_2,.slice A0_3 l0_3.length c0_3]] rfl (by (try simp only [List.map_toArray,List.map_cons,List.map_nil]);first|done|rfl|(simp only [List.length_drop,List.length_take];rfl)) ?_;(with_reducible refine (table_own.calls a0_0 a0_1 a0_2 _ _ l0_3 t150 t151 t152 t153 _ ?side1 ?side2 A6.out).mono ?_);(case side1=>repeat (first|exact (Kd.C_below HR0_3.out HB.out)|(with_reducible refine Kd.C_alloc ?_ _)|(with_reducible refine Kd.C_drewN ?_ _)|(with_reducible refine Kd.C_drew ?_)));(case side2=>exact HC0_3.out);rintro e w19 ⟨v154,rfl,ho0,hb⟩;refine ⟨_,rfl,?_⟩;have n0_:=A_ (Kd.R_lower ho0 (bz_ (hb2_ HB.out GE146.out GE147.out)));have n1_:=A_ (bx_ BK146.out kf_ hb);have n2_:=A_ (bx_ BK147.out kf_ hb);have n3_:=A_ (bp_ (hb2_ HB.out GE146.out GE147.out) hb);clear BK146;clear BK147;clear HB;have HO155:=n0_;have BK146:=n1_;have BK147:=n2_;have HB:=n3_;clear n0_ n1_ n2_ n3_;(try clear hb);(try clear hb2);(try clear hk);(try clear hi);(try clear ho0);obtain ⟨z20_0,z20_1,z20_2,z20_3⟩:=blkc_4 BK146.out;obtain ⟨y20_0,y20_1,y20_2,y20_3⟩:=blkz_4 BK146.out;obtain ⟨Ao21,co21,eo21⟩:=Kd.R_slice HO155.out;subst eo21)|((with_reducible refine gate_callee (f:=29) rfl ?_);refine goesL_ (some 23) rfl rfl Tryd.func29 (by kernel_rfl) rfl #[.int .i64 a1,.int .i64 1,.int .i64 2147483646] rfl (by (try simp only [List.map_toArray,List.map_cons,List.map_nil]);first|done|rfl|(simp only [List.length_drop,List.length_take];rfl)) ?_;(with_reducible refine (table_in.calls a1 1 2147483646 true _ A7.out).mono ?_);rintro e w' ⟨rfl,⟨nd,rfl⟩⟩;refine ⟨_,rfl,?_⟩)|((with_reducible refine gate_callee (f:=16) rfl ?_);refine goesL_ (some 29) rfl rfl Tryd.func16 (by kernel_rfl) rfl #[.agg #[.int .i64 t150,.int .i64 t151,.int .i64 t152,.slice Ao21 t153.length co21],.int .i64 a1] rfl (by (try simp only [List.map_toArray,List.map_cons,List.map_nil]);first|done|rfl|(simp only [List.length_drop,List.length_take];rfl)) ?_;(with_reducible refine (table_Find.calls k t150 t151 t152 _ _ t153 a1 t157 _ ?side1 ?side2 A9.out).mono ?_);(case side1=>refine (Kd.R_reads' (e:=56) (base:=w.heap.size) (ok:=fun k_=>True) (n:=t153.length) (c:=co21) ?_).2.2;exact (by (with_reducible repeat (first|apply ra_|apply rn_|apply re_));exact (Kd.R_mono (rf_ (p:=⟨gb146,3,none⟩) (rf_ (p:=⟨gb146,2,none⟩) (rf_ (p:=⟨gb146,1,none⟩) (rf_ (p:=⟨gb146,0,none⟩) (Kd.R_types HO155.out BK146.out (by decide)) (fun _ hk=>hk.2) (.int .i64 t150)) (fun _ hk=>hk.2) (.int .i64 t151)) (fun _ hk=>hk.2) (.int .i64 t152)) (fun _ hk=>hk.2) (.slice Ao21 t153.length co21)) (fun _ h_=>h_.1))));(case side2=>exact (Kd.R_reads' HO155.out).2.1);rintro e w22 ⟨rfl,hb⟩;refine ⟨_,rfl,?_⟩;have n0_:=A_ (Kd.R_below (by (with_reducible repeat (first|apply ra_|apply rn_|apply re_));exact (Kd.R_mono (rf_ (p:=⟨gb146,3,none⟩) (rf_ (p:=⟨gb146,2,none⟩) (rf_ (p:=⟨gb146,1,none⟩) (rf_ (p:=⟨gb146,0,none⟩) (Kd.R_types HO155.out BK146.out (by decide)) (fun _ hk=>hk.2) (.int .i64 t150)) (fun _ hk=>hk.2) (.int .i64 t151)) (fun _ hk=>hk.2) (.int .i64 t152)) (fun _ hk=>hk.2) (.slice Ao21 t153.length co21)) (fun _ h_=>h_.1))) hb);have n1_:=A_ (bb_ (g:=gb146) (o:=.cells #[.int .i64 t150,.int .i64 t151,.int .i64 t152,.slice Ao21 t153.length co21] 26 (0,0)) (by refine kk_ ?_;apply blkf_4_0_3;exact kk_ BK146.out) hb);have n2_:=A_ (bb_ (g:=gb147) (o:=.cells #[.int .i64 0,.int .i64 0,.int .i64 0,.slice none 0 0] 26 (0,0)) (by refine kk_ ?_;refine blk_far ?_ NB147_146.out _;refine kk_ ?_;refine blk_far ?_ NB147_146.out _;refine kk_ ?_;refine blk_far ?_ NB147_146.out _;refine kk_ ?_;refine blk_far ?_ NB147_146.out _;exact kk_ BK147.out) hb);have n3_:=A_ (bp_ (hb2_ HB.out GE146.out GE147.out) hb);clear HO155;clear BK146;clear BK147;clear HB;have HO155:=n0_;have BK146:=n1_;have BK147:=n2_;have HB:=n3_;clear n0_ n1_ n2_ n3_;(try clear hb);(try clear hb2);(try clear hk);(try clear hi);obtain ⟨z23_0,z23_1,z23_2,z23_3⟩:=blkc_4 BK146.out;obtain ⟨y23_0,y23_1,y23_2,y23_3⟩:=blkz_4 BK146.out;obtain ⟨z24_0,z24_1,z24_2,z24_3⟩:=blkc_4 BK147.out;obtain ⟨y24_0,y24_1,y24_2⟩:=blkz_3 BK147.out;have y24_3:=bf_ BK147.out 3))
  refine bodyPost_ret (results_ctt rfl _ _ gb147 26 #[.int .i64 t150,.int .i64 t151,.int .i64 t152,.slice Ao21 t153.length co21] (0,0) _ rfl (by refine kk_ ?_;apply blkf_4_0_3;exact kk_ BK147.out) Tryd.underlying26 rfl (by kernel_rfl)) rfl ?_
  exact ⟨_,by first|rfl|(simp [errW_none,errW_some] <;> rfl)|(simp [*,errW_none,errW_some] <;> rfl),by (with_reducible repeat (first|apply ra_|apply rn_|apply re_));exact Kd.R_mono (rf_ (p:=⟨gb147,3,none⟩) (rf_ (p:=⟨gb147,2,none⟩) (rf_ (p:=⟨gb147,1,none⟩) (rf_ (p:=⟨gb147,0,none⟩) (Kd.R_types HO155.out BK147.out (by decide)) (fun _ hk=>hk.2) (.int .i64 t150)) (fun _ hk=>hk.2) (.int .i64 t151)) (fun _ hk=>hk.2) (.int .i64 t152)) (fun _ hk=>hk.2) (.slice Ao21 t153.length co21)) (fun _ hk=>trivial),hb2_ HB.out GE146.out GE147.out⟩
 rw [if_neg c10] at H
 have c10b0 : decide (0≤t157)=false:=df_ c10;clear c10
 by_cases c25 : t149<0
 ·rw [if_pos c25] at H
  have c25b0 : decide (t149<0)=true:=dt_ c25;clear c25
  simp only [Option.some.injEq,Prod.mk.injEq] at H
  obtain ⟨rfl,rfl,rfl,rfl,rfl,rfl⟩:=H;go_enter Tryd.func18,Tryd.ntmps18
  go_wp2_with (first|((with_reducible refine gate_dst (N:=2) rfl ?_);refine box_event ?hg (N:=2) ?hd (cs:=#[.int .i64 a0_0,.int .i64 a0_1,.int .i64 a0_2,.slice A0_3 l0_3.length c0_3]) (t:=26) ?hr ?_;(case hd=>rfl);(case hg=>rfl);(case hr=>first|(go_simp;done)|(go_simp;rfl));intro gb146 hg w26 hbox hb;have n0_:=A_ (bp_ (hb0_ HB.out) hb);have n1_:=A_ (hbox);have n2_:=A_ ((by rw [hg];exact (bz_ (hb0_ HB.out)) : w.heap.size≤gb146));have n3_:=n2_;clear HB;have HB:=n0_;have BK146:=n1_;have GW146:=n2_;have GE146:=n3_;clear n0_ n1_ n2_ n3_;clear hb hbox hg)|((with_reducible refine gate_dst (N:=4) rfl ?_);refine box_event ?hg (N:=4) ?hd (cs:=#[.int .i64 0,.int .i64 0,.int .i64 0,.slice none 0 0]) (t:=26) ?hr ?_;(case hd=>rfl);(case hg=>rfl);(case hr=>first|(go_simp;done)|(go_simp;rfl));intro gb147 hg w27 hbox hb;have n0_:=A_ (bx_ BK146.out kf_ hb);have n1_:=A_ (bp_ (hb1_ HB.out GE146.out) hb);have n2_:=A_ (hbox);have n3_:=A_ ((by rw [hg];exact (bz_ (hb1_ HB.out GE146.out)) : w.heap.size≤gb147));have n4_:=n3_;have n5_:=A_ ((by rw [hg];exact Nat.ne_of_lt (bl_ BK146.out kf_) : gb146≠gb147));have n6_:=A_ (Ne.symm n5_.out);clear BK146;clear HB;have BK146:=n0_;have HB:=n1_;have BK147:=n2_;have GW147:=n3_;have GE147:=n4_;have NB146_147:=n5_;have NB147_146:=n6_;clear n0_ n1_ n2_ n3_ n4_ n5_ n6_;clear hb hbox hg;have hnb28:=NB146_147.out;have hnc28:=NB147_146.out;obtain ⟨z29_0,z29_1,z29_2,z29_3⟩:=blkc_4 BK146.out;obtain ⟨y29_0,y29_1,y29_2⟩:=blkz_3 BK146.out;have y29_3:=bf_ BK146.out 3)|((with_reducible refine gate_callee (f:=13) rfl ?_);refine goesL_ (some 10) rfl rfl Tryd.func13 (by kernel_rfl) rfl #[.agg #[.int .i64 a0_0,.int .i64 a0_1,.int .i64 a0_2,.slice A0_3 l0_3.length c0_3]] rfl (by (try simp only [List.map_toArray,List.map_cons,List.map_nil]);first|done|rfl|(simp only [List.length_drop,List.length_take];rfl)) ?_;(with_reducible refine (table_Check.calls k a0_0 a0_1 a0_2 _ _ l0_3 t148 _ ?side1 ?side2 A3.out).mono ?_);(case side1=>repeat (first|exact (Kd.C_below HR0_3.out HB.out)|(with_reducible refine Kd.C_alloc ?_ _)|(with_reducible refine Kd.C_drewN ?_ _)|(with_reducible refine Kd.C_drew ?_)));(case side2=>exact HC0_3.out);rintro e w30 ⟨rfl,hb⟩;refine ⟨_,rfl,?_⟩;have n0_:=A_ (bx_ BK146.out kf_ hb);have n1_:=A_ (bx_ BK147.out kf_ hb);have n2_:=A_ (bp_ (hb2_ HB.out GE146.out GE147.out) hb);clear BK146;clear BK147;clear HB;have BK146:=n0_;have BK147:=n1_;have HB:=n2_;clear n0_ n1_ n2_;(try clear hb);(try clear hb2);(try clear hk);(try clear hi);obtain ⟨z31_0,z31_1,z31_2,z31_3⟩:=blkc_4 BK146.out;obtain ⟨y31_0,y31_1,y31_2⟩:=blkz_3 BK146.out;have y31_3:=bf_ BK146.out 3)|((with_reducible refine gate_callee (f:=36) rfl ?_);refine goesL_ (some 18) rfl rfl Tryd.func36 (by kernel_rfl) rfl #[.slice A0_3 l0_3.length c0_3,.agg #[.int .i64 0,.int .i64 0,.int .i64 0,.int .i64 0]] rfl (by (try simp only [List.map_toArray,List.map_cons,List.map_nil]);first|done|rfl|(simp only [List.length_drop,List.length_take];rfl)) ?_;(with_reducible refine (slices_Index_api_Entry_api_Entry.calls k _ _ l0_3 0 0 0 0 t149 _ ?side1 ?side2 A5.out).mono ?_);(case side1=>repeat (first|exact (Kd.C_below HR0_3.out HB.out)|(with_reducible refine Kd.C_alloc ?_ _)|(with_reducible refine Kd.C_drewN ?_ _)|(with_reducible refine Kd.C_drew ?_)));(case side2=>exact HC0_3.out);rintro e w32 ⟨rfl,hb⟩;refine ⟨_,rfl,?_⟩;have n0_:=A_ (bx_ BK146.out kf_ hb);have n1_:=A_ (bx_ BK147.out kf_ hb);have n2_:=A_ (bp_ (hb2_ HB.out GE146.out GE147.out) hb);clear BK146;clear BK147;clear HB;have BK146:=n0_;have BK147:=n1_;have HB:=n2_;clear n0_ n1_ n2_;(try clear hb);(try clear hb2);(try clear hk);(try clear hi);obtain ⟨z33_0,z33_1,z33_2,z33_3⟩:=blkc_4 BK146.out;obtain ⟨y33_0,y33_1,y33_2⟩:=blkz_3 BK146.out;have y33_3:=bf_ BK146.out 3)|((with_reducible refine gate_callee (f:=37) rfl ?_);refine goesL_ (some 20) rfl rfl Tryd.func37 (by kernel_rfl) rfl #[.agg #[.int .i64 a0_0,.int .i64 a0_1,.int .i64 a0_2,.slice A0_3 l0_3.length c0_3]] rfl (by (try simp only [List.map_toArray,List.map_cons,List.map_nil]);first|done|rfl|(simp only [List.length_drop,List.length_take];rfl)) ?_;(with_reducible refine (table_own.calls a0_0 a0_1 a0_2 _ _ l0_3 t150 t151 t152 t153 _ ?side1 ?side2 A6.out).mono ?_);(case side1=>repeat (first|exact (Kd.C_below HR0_3.out HB.out)|(with_reducible refine Kd.C_alloc ?_ _)|(with_reducible refine Kd.C_drewN ?_ _)|(with_reducible refine Kd.C_drew ?_)));(case side2=>exact HC0_3.out);rintro e w34 ⟨v154,rfl,ho0,hb⟩;refine ⟨_,rfl,?_⟩;have n0_:=A_ (Kd.R_lower ho0 (bz_ (hb2_ HB.out GE146.out GE147.out)));have n1_:=A_ (bx_ BK146.out kf_ hb);have n2_:=A_ (bx_ BK147.out kf_ hb);have n3_:=A_ (bp_ (hb2_ HB.out GE146.out GE147.out) hb);clear BK146;clear BK147;clear HB;have HO155:=n0_;have BK146:=n1_;have BK147:=n2_;have HB:=n3_;clear n0_ n1_ n2_ n3_;(try clear hb);(try clear hb2);(try clear hk);(try clear hi);(try clear ho0);obtain ⟨z35_0,z35_1,z35_2,z35_3⟩:=blkc_4 BK146.out;obtain ⟨y35_0,y35_1,y35_2,y35_3⟩:=blkz_4 BK146.out;obtain ⟨Ao36,co36,eo36⟩:=Kd.R_slice HO155.out;subst eo36)|((with_reducible refine gate_callee (f:=29) rfl ?_);refine goesL_ (some 23) rfl rfl Tryd.func29 (by kernel_rfl) rfl #[.int .i64 a1,.int .i64 1,.int .i64 2147483646] rfl (by (try simp only [List.map_toArray,List.map_cons,List.map_nil]);first|done|rfl|(simp only [List.length_drop,List.length_take];rfl)) ?_;(with_reducible refine (table_in.calls a1 1 2147483646 true _ A7.out).mono ?_);rintro e w' ⟨rfl,⟨nd,rfl⟩⟩;refine ⟨_,rfl,?_⟩)|((with_reducible refine gate_callee (f:=16) rfl ?_);refine goesL_ (some 29) rfl rfl Tryd.func16 (by kernel_rfl) rfl #[.agg #[.int .i64 t150,.int .i64 t151,.int .i64 t152,.slice Ao36 t153.length co36],.int .i64 a1] rfl (by (try simp only [List.map_toArray,List.map_cons,List.map_nil]);first|done|rfl|(simp only [List.length_drop,List.length_take];rfl)) ?_;(with_reducible refine (table_Find.calls k t150 t151 t152 _ _ t153 a1 t157 _ ?side1 ?side2 A9.out).mono ?_);(case side1=>refine (Kd.R_reads' (e:=56) (base:=w.heap.size) (ok:=fun k_=>True) (n:=t153.length) (c:=co36) ?_).2.2;exact (by (with_reducible repeat (first|apply ra_|apply rn_|apply re_));exact (Kd.R_mono (rf_ (p:=⟨gb146,3,none⟩) (rf_ (p:=⟨gb146,2,none⟩) (rf_ (p:=⟨gb146,1,none⟩) (rf_ (p:=⟨gb146,0,none⟩) (Kd.R_types HO155.out BK146.out (by decide)) (fun _ hk=>hk.2) (.int .i64 t150)) (fun _ hk=>hk.2) (.int .i64 t151)) (fun _ hk=>hk.2) (.int .i64 t152)) (fun _ hk=>hk.2) (.slice Ao36 t153.length co36)) (fun _ h_=>h_.1))));(case side2=>exact (Kd.R_reads' HO155.out).2.1);rintro e w37 ⟨rfl,hb⟩;refine ⟨_,rfl,?_⟩;have n0_:=A_ (Kd.R_below (by (with_reducible repeat (first|apply ra_|apply rn_|apply re_));exact (Kd.R_mono (rf_ (p:=⟨gb146,3,none⟩) (rf_ (p:=⟨gb146,2,none⟩) (rf_ (p:=⟨gb146,1,none⟩) (rf_ (p:=⟨gb146,0,none⟩) (Kd.R_types HO155.out BK146.out (by decide)) (fun _ hk=>hk.2) (.int .i64 t150)) (fun _ hk=>hk.2) (.int .i64 t151)) (fun _ hk=>hk.2) (.int .i64 t152)) (fun _ hk=>hk.2) (.slice Ao36 t153.length co36)) (fun _ h_=>h_.1))) hb);have n1_:=A_ (bb_ (g:=gb146) (o:=.cells #[.int .i64 t150,.int .i64 t151,.int .i64 t152,.slice Ao36 t153.length co36] 26 (0,0)) (by refine kk_ ?_;apply blkf_4_0_3;exact kk_ BK146.out) hb);have n2_:=A_ (bb_ (g:=gb147) (o:=.cells #[.int .i64 0,.int .i64 0,.int .i64 0,.slice none 0 0] 26 (0,0)) (by refine kk_ ?_;refine blk_far ?_ NB147_146.out _;refine kk_ ?_;refine blk_far ?_ NB147_146.out _;refine kk_ ?_;refine blk_far ?_ NB147_146.out _;refine kk_ ?_;refine blk_far ?_ NB147_146.out _;exact kk_ BK147.out) hb);have n3_:=A_ (bp_ (hb2_ HB.out GE146.out GE147.out) hb);clear HO155;clear BK146;clear BK147;clear HB;have HO155:=n0_;have BK146:=n1_;have BK147:=n2_;have HB:=n3_;clear n0_ n1_ n2_ n3_;(try clear hb);(try clear hb2);(try clear hk);(try clear hi);obtain ⟨z38_0,z38_1,z38_2,z38_3⟩:=blkc_4 BK146.out;obtain ⟨y38_0,y38_1,y38_2,y38_3⟩:=blkz_4 BK146.out;obtain ⟨z39_0,z39_1,z39_2,z39_3⟩:=blkc_4 BK147.out;obtain ⟨y39_0,y39_1,y39_2⟩:=blkz_3 BK147.out;have y39_3:=bf_ BK147.out 3))
  refine bodyPost_ret (results_ctt rfl _ _ gb147 26 #[.int .i64 t150,.int .i64 t151,.int .i64 t152,.slice Ao36 t153.length co36] (0,0) _ rfl (by refine kk_ ?_;apply blkf_4_0_3;exact kk_ BK147.out) Tryd.underlying26 rfl (by kernel_rfl)) rfl ?_
  exact ⟨_,by first|rfl|(simp [errW_none,errW_some] <;> rfl)|(simp [*,errW_none,errW_some] <;> rfl),by (with_reducible repeat (first|apply ra_|apply rn_|apply re_));exact Kd.R_mono (rf_ (p:=⟨gb147,3,none⟩) (rf_ (p:=⟨gb147,2,none⟩) (rf_ (p:=⟨gb147,1,none⟩) (rf_ (p:=⟨gb147,0,none⟩) (Kd.R_types HO155.out BK147.out (by decide)) (fun _ hk=>hk.2) (.int .i64 t150)) (fun _ hk=>hk.2) (.int .i64 t151)) (fun _ hk=>hk.2) (.int .i64 t152)) (fun _ hk=>hk.2) (.slice Ao36 t153.length co36)) (fun _ hk=>trivial),hb2_ HB.out GE146.out GE147.out⟩
 rw [if_neg c25] at H
 have c25b0 : decide (t149<0)=false:=df_ c25;clear c25
 by_cases c40 : 0≤t149
 rotate_left
 ·rw [if_neg c40] at H
  exact absurd H (by simp)
 rw [if_pos c40] at H
 have c40b0 : decide (0≤t149)=true:=dt_ c40;clear c40
 by_cases c41 : t149<(t153.length : Int)
 rotate_left
 ·rw [if_neg c41] at H
  exact absurd H (by simp)
 rw [if_pos c41] at H
 have c41b0 : decide (t149<(t153.length : Int))=true:=dt_ c41;clear c41
 obtain ⟨y158,hy158⟩ : ∃ y_ : List (S56),y_=(t153.set (t149 : Int).toNat (⟨a1,1,0,0⟩ : S56)):=⟨_,rfl⟩
 replace H : (some (mx t150 (wrap64 (a1 + 1)),t151,t152,y158,t149,0))=some (r1,r2,r3,r4,r5,r6):=by first|(rw [hy158];with_reducible exact H)|(have H2_:=(Option.bind_some _ _).symm.trans H;rw [hy158];with_reducible exact H2_)|(have H2_:=(Option.bind_some _ _).symm.trans H;with_reducible exact H2_)|with_reducible exact H|(rw [hy158];exact H)|exact H
 have Ny158:=A_ hy158;clear hy158
 obtain ⟨ji43,hji43⟩ : ∃ j_ : Int,(mx t150 (wrap64 (a1 + 1)))=j_:=⟨_,rfl⟩
 replace H : (some (ji43,t151,t152,y158,t149,0))=some (r1,r2,r3,r4,r5,r6):=by first|(rw [hji43] at H;exact H)|(simp only [hji43] at H ⊢;exact H)
 (try rw [hji43] at A3);(try rw [hji43] at A5);(try rw [hji43] at A6);(try rw [hji43] at A7);(try rw [hji43] at A9)
 have hji43_ : (if t150<(wrap64 (a1 + 1)) then (wrap64 (a1 + 1)) else t150)=ji43:=hji43
 simp only [Option.some.injEq,Prod.mk.injEq] at H
 obtain ⟨rfl,rfl,rfl,rfl,rfl,rfl⟩:=H;go_enter Tryd.func18,Tryd.ntmps18
 go_wp2_with (first|((with_reducible refine gate_dst (N:=2) rfl ?_);refine box_event ?hg (N:=2) ?hd (cs:=#[.int .i64 a0_0,.int .i64 a0_1,.int .i64 a0_2,.slice A0_3 l0_3.length c0_3]) (t:=26) ?hr ?_;(case hd=>rfl);(case hg=>rfl);(case hr=>first|(go_simp;done)|(go_simp;rfl));intro gb146 hg w44 hbox hb;have n0_:=A_ (bp_ (hb0_ HB.out) hb);have n1_:=A_ (hbox);have n2_:=A_ ((by rw [hg];exact (bz_ (hb0_ HB.out)) : w.heap.size≤gb146));have n3_:=n2_;clear HB;have HB:=n0_;have BK146:=n1_;have GW146:=n2_;have GE146:=n3_;clear n0_ n1_ n2_ n3_;clear hb hbox hg)|((with_reducible refine gate_dst (N:=4) rfl ?_);refine box_event ?hg (N:=4) ?hd (cs:=#[.int .i64 0,.int .i64 0,.int .i64 0,.slice none 0 0]) (t:=26) ?hr ?_;(case hd=>rfl);(case hg=>rfl);(case hr=>first|(go_simp;done)|(go_simp;rfl));intro gb147 hg w45 hbox hb;have n0_:=A_ (bx_ BK146.out kf_ hb);have n1_:=A_ (bp_ (hb1_ HB.out GE146.out) hb);have n2_:=A_ (hbox);have n3_:=A_ ((by rw [hg];exact (bz_ (hb1_ HB.out GE146.out)) : w.heap.size≤gb147));have n4_:=n3_;have n5_:=A_ ((by rw [hg];exact Nat.ne_of_lt (bl_ BK146.out kf_) : gb146≠gb147));have n6_:=A_ (Ne.symm n5_.out);clear BK146;clear HB;have BK146:=n0_;have HB:=n1_;have BK147:=n2_;have GW147:=n3_;have GE147:=n4_;have NB146_147:=n5_;have NB147_146:=n6_;clear n0_ n1_ n2_ n3_ n4_ n5_ n6_;clear hb hbox hg;have hnb46:=NB146_147.out;have hnc46:=NB147_146.out;obtain ⟨z47_0,z47_1,z47_2,z47_3⟩:=blkc_4 BK146.out;obtain ⟨y47_0,y47_1,y47_2⟩:=blkz_3 BK146.out;have y47_3:=bf_ BK146.out 3)|((with_reducible refine gate_callee (f:=13) rfl ?_);refine goesL_ (some 10) rfl rfl Tryd.func13 (by kernel_rfl) rfl #[.agg #[.int .i64 a0_0,.int .i64 a0_1,.int .i64 a0_2,.slice A0_3 l0_3.length c0_3]] rfl (by (try simp only [List.map_toArray,List.map_cons,List.map_nil]);first|done|rfl|(simp only [List.length_drop,List.length_take];rfl)) ?_;(with_reducible refine (table_Check.calls k a0_0 a0_1 a0_2 _ _ l0_3 t148 _ ?side1 ?side2 A3.out).mono ?_);(case side1=>repeat (first|exact (Kd.C_below HR0_3.out HB.out)|(with_reducible refine Kd.C_alloc ?_ _)|(with_reducible refine Kd.C_drewN ?_ _)|(with_reducible refine Kd.C_drew ?_)));(case side2=>exact HC0_3.out);rintro e w48 ⟨rfl,hb⟩;refine ⟨_,rfl,?_⟩;have n0_:=A_ (bx_ BK146.out kf_ hb);have n1_:=A_ (bx_ BK147.out kf_ hb);have n2_:=A_ (bp_ (hb2_ HB.out GE146.out GE147.out) hb);clear BK146;clear BK147;clear HB;have BK146:=n0_;have BK147:=n1_;have HB:=n2_;clear n0_ n1_ n2_;(try clear hb);(try clear hb2);(try clear hk);(try clear hi);obtain ⟨z49_0,z49_1,z49_2,z49_3⟩:=blkc_4 BK146.out;obtain ⟨y49_0,y49_1,y49_2⟩:=blkz_3 BK146.out;have y49_3:=bf_ BK146.out 3)|((with_reducible refine gate_callee (f:=36) rfl ?_);refine goesL_ (some 18) rfl rfl Tryd.func36 (by kernel_rfl) rfl #[.slice A0_3 l0_3.length c0_3,.agg #[.int .i64 0,.int .i64 0,.int .i64 0,.int .i64 0]] rfl (by (try simp only [List.map_toArray,List.map_cons,List.map_nil]);first|done|rfl|(simp only [List.length_drop,List.length_take];rfl)) ?_;(with_reducible refine (slices_Index_api_Entry_api_Entry.calls k _ _ l0_3 0 0 0 0 t149 _ ?side1 ?side2 A5.out).mono ?_);(case side1=>repeat (first|exact (Kd.C_below HR0_3.out HB.out)|(with_reducible refine Kd.C_alloc ?_ _)|(with_reducible refine Kd.C_drewN ?_ _)|(with_reducible refine Kd.C_drew ?_)));(case side2=>exact HC0_3.out);rintro e w50 ⟨rfl,hb⟩;refine ⟨_,rfl,?_⟩;have n0_:=A_ (bx_ BK146.out kf_ hb);have n1_:=A_ (bx_ BK147.out kf_ hb);have n2_:=A_ (bp_ (hb2_ HB.out GE146.out GE147.out) hb);clear BK146;clear BK147;clear HB;have BK146:=n0_;have BK147:=n1_;have HB:=n2_;clear n0_ n1_ n2_;(try clear hb);(try clear hb2);(try clear hk);(try clear hi);obtain ⟨z51_0,z51_1,z51_2,z51_3⟩:=blkc_4 BK146.out;obtain ⟨y51_0,y51_1,y51_2⟩:=blkz_3 BK146.out;have y51_3:=bf_ BK146.out 3)|((with_reducible refine gate_callee (f:=37) rfl ?_);refine goesL_ (some 20) rfl rfl Tryd.func37 (by kernel_rfl) rfl #[.agg #[.int .i64 a0_0,.int .i64 a0_1,.int .i64 a0_2,.slice A0_3 l0_3.length c0_3]] rfl (by (try simp only [List.map_toArray,List.map_cons,List.map_nil]);first|done|rfl|(simp only [List.length_drop,List.length_take];rfl)) ?_;(with_reducible refine (table_own.calls a0_0 a0_1 a0_2 _ _ l0_3 t150 t151 t152 t153 _ ?side1 ?side2 A6.out).mono ?_);(case side1=>repeat (first|exact (Kd.C_below HR0_3.out HB.out)|(with_reducible refine Kd.C_alloc ?_ _)|(with_reducible refine Kd.C_drewN ?_ _)|(with_reducible refine Kd.C_drew ?_)));(case side2=>exact HC0_3.out);rintro e w52 ⟨v154,rfl,ho0,hb⟩;refine ⟨_,rfl,?_⟩;have n0_:=A_ (Kd.R_lower ho0 (bz_ (hb2_ HB.out GE146.out GE147.out)));have n1_:=A_ (bx_ BK146.out kf_ hb);have n2_:=A_ (bx_ BK147.out kf_ hb);have n3_:=A_ (bp_ (hb2_ HB.out GE146.out GE147.out) hb);clear BK146;clear BK147;clear HB;have HO155:=n0_;have BK146:=n1_;have BK147:=n2_;have HB:=n3_;clear n0_ n1_ n2_ n3_;(try clear hb);(try clear hb2);(try clear hk);(try clear hi);(try clear ho0);obtain ⟨z53_0,z53_1,z53_2,z53_3⟩:=blkc_4 BK146.out;obtain ⟨y53_0,y53_1,y53_2,y53_3⟩:=blkz_4 BK146.out;obtain ⟨Ao54,co54,eo54⟩:=Kd.R_slice HO155.out;subst eo54)|((with_reducible refine gate_callee (f:=29) rfl ?_);refine goesL_ (some 23) rfl rfl Tryd.func29 (by kernel_rfl) rfl #[.int .i64 a1,.int .i64 1,.int .i64 2147483646] rfl (by (try simp only [List.map_toArray,List.map_cons,List.map_nil]);first|done|rfl|(simp only [List.length_drop,List.length_take];rfl)) ?_;(with_reducible refine (table_in.calls a1 1 2147483646 true _ A7.out).mono ?_);rintro e w' ⟨rfl,⟨nd,rfl⟩⟩;refine ⟨_,rfl,?_⟩)|((with_reducible refine gate_callee (f:=16) rfl ?_);refine goesL_ (some 29) rfl rfl Tryd.func16 (by kernel_rfl) rfl #[.agg #[.int .i64 t150,.int .i64 t151,.int .i64 t152,.slice Ao54 t153.length co54],.int .i64 a1] rfl (by (try simp only [List.map_toArray,List.map_cons,List.map_nil]);first|done|rfl|(simp only [List.length_drop,List.length_take];rfl)) ?_;(with_reducible refine (table_Find.calls k t150 t151 t152 _ _ t153 a1 t157 _ ?side1 ?side2 A9.out).mono ?_);(case side1=>refine (Kd.R_reads' (e:=56) (base:=w.heap.size) (ok:=fun k_=>True) (n:=t153.length) (c:=co54) ?_).2.2;exact (by (with_reducible repeat (first|apply ra_|apply rn_|apply re_));exact (Kd.R_mono (rf_ (p:=⟨gb146,3,none⟩) (rf_ (p:=⟨gb146,2,none⟩) (rf_ (p:=⟨gb146,1,none⟩) (rf_ (p:=⟨gb146,0,none⟩) (Kd.R_types HO155.out BK146.out (by decide)) (fun _ hk=>hk.2) (.int .i64 t150)) (fun _ hk=>hk.2) (.int .i64 t151)) (fun _ hk=>hk.2) (.int .i64 t152)) (fun _ hk=>hk.2) (.slice Ao54 t153.length co54)) (fun _ h_=>h_.1))));(case side2=>exact (Kd.R_reads' HO155.out).2.1);rintro e w55 ⟨rfl,hb⟩;refine ⟨_,rfl,?_⟩;have n0_:=A_ (Kd.R_below (by (with_reducible repeat (first|apply ra_|apply rn_|apply re_));exact (Kd.R_mono (rf_ (p:=⟨gb146,3,none⟩) (rf_ (p:=⟨gb146,2,none⟩) (rf_ (p:=⟨gb146,1,none⟩) (rf_ (p:=⟨gb146,0,none⟩) (Kd.R_types HO155.out BK146.out (by decide)) (fun _ hk=>hk.2) (.int .i64 t150)) (fun _ hk=>hk.2) (.int .i64 t151)) (fun _ hk=>hk.2) (.int .i64 t152)) (fun _ hk=>hk.2) (.slice Ao54 t153.length co54)) (fun _ h_=>h_.1))) hb);have n1_:=A_ (bb_ (g:=gb146) (o:=.cells #[.int .i64 t150,.int .i64 t151,.int .i64 t152,.slice Ao54 t153.length co54] 26 (0,0)) (by refine kk_ ?_;apply blkf_4_0_3;exact kk_ BK146.out) hb);have n2_:=A_ (bb_ (g:=gb147) (o:=.cells #[.int .i64 0,.int .i64 0,.int .i64 0,.slice none 0 0] 26 (0,0)) (by refine kk_ ?_;refine blk_far ?_ NB147_146.out _;refine kk_ ?_;refine blk_far ?_ NB147_146.out _;refine kk_ ?_;refine blk_far ?_ NB147_146.out _;refine kk_ ?_;refine blk_far ?_ NB147_146.out _;exact kk_ BK147.out) hb);have n3_:=A_ (bp_ (hb2_ HB.out GE146.out GE147.out) hb);clear HO155;clear BK146;clear BK147;clear HB;have HO155:=n0_;have BK146:=n1_;have BK147:=n2_;have HB:=n3_;clear n0_ n1_ n2_ n3_;(try clear hb);(try clear hb2);(try clear hk);(try clear hi);obtain ⟨z56_0,z56_1,z56_2,z56_3⟩:=blkc_4 BK146.out;obtain ⟨y56_0,y56_1,y56_2,y56_3⟩:=blkz_4 BK146.out;have p42 : 0≤(t149 : Int):=od_ (by first|(with_reducible assumption)|assumption);have q42 : (t149 : Int)<((t153.length : Int) : Int):=od_ (by first|(with_reducible assumption)|assumption);obtain ⟨go42,co42,eo42,gb42,gl42,cl42,HG42⟩:=Kd.R_form HO155.out (by omega);(first|cases eo42|(injection eo42 with ea_ en_ ec_;(first|subst ea_|(injection ea_ with ea_;subst ea_));subst ec_;clear en_));have GB42:=A_ gb42;have GG42:=A_ HG42;clear gb42 gl42 HG42;obtain ⟨ce42,hcl42,hM42,hcc42,hfr42⟩:=Kd.R_elem HO155.out z56 (t149 : Int) p42 q42;obtain rfl:=k56_openM hM42;have hx42_0 : w55.cell? ⟨go42,(t149 : Int).toNat * 4,none⟩=some (.int .i64 ((rd_T56 t153 t149).f0)):=hcc42 0 _ rfl;have hx42_1 : w55.cell? ⟨go42,(t149 : Int).toNat * 4 + 1,none⟩=some (.int .i64 ((rd_T56 t153 t149).f1)):=hcc42 1 _ rfl;have hx42_2 : w55.cell? ⟨go42,(t149 : Int).toNat * 4 + 2,none⟩=some (.int .i64 ((rd_T56 t153 t149).f2)):=hcc42 2 _ rfl;have hx42_3 : w55.cell? ⟨go42,(t149 : Int).toNat * 4 + 3,none⟩=some (.int .i64 ((rd_T56 t153 t149).f3)):=hcc42 3 _ rfl;have hf42_0 : w55.frozen? ⟨go42,(t149 : Int).toNat * 4,none⟩=false:=hfr42 0;have hf42_1 : w55.frozen? ⟨go42,(t149 : Int).toNat * 4 + 1,none⟩=false:=hfr42 1;have hf42_2 : w55.frozen? ⟨go42,(t149 : Int).toNat * 4 + 2,none⟩=false:=hfr42 2;have hf42_3 : w55.frozen? ⟨go42,(t149 : Int).toNat * 4 + 3,none⟩=false:=hfr42 3;clear hcl42 hcc42 hfr42 hM42;replace p42:=eq_true p42;replace q42:=eq_true q42;have HX57:=A_ (show Kd.R k56 56 w55 w.heap.size (fun _=>True) (.slice (some ⟨go42,0,none⟩) t153.length co54) t153 from (by (with_reducible repeat (first|apply ra_|apply rn_|apply re_));exact HO155.out));obtain ⟨ce57,hcl57,hM57,hcc57,hfr57⟩:=Kd.R_elem HX57.out z56 (t149 : Int) (od_ (by first|(with_reducible assumption)|assumption)) (by have h_ : (t149 : Int)<((t153.length : Int) : Int):=od_ (by first|(with_reducible assumption)|assumption);first|exact h_|(have e_:=(Kd.R_reads' HO155.out).1;omega)|simpa using h_);obtain rfl:=k56_openM hM57;have HP57:=Kd.R_seg HX57.out (t149 : Int) (od_ (by first|(with_reducible assumption)|assumption)) (by have h_ : (t149 : Int)<((t153.length : Int) : Int):=od_ (by first|(with_reducible assumption)|assumption);first|exact h_|(have e_:=(Kd.R_reads' HO155.out).1;omega)|simpa using h_) (seg:=[.int .i64 a1,.int .i64 1,.int .i64 0,.int .i64 0]) (j:=0) hcl57 hcc57 (show 4≤4 from by decide) (x':=(⟨a1,1,0,0⟩ : S56)) (k56_mkM _ _ _ (⟨a1,1,0,0⟩ : S56) ) (fun _ hk=>hk);have hx57_0:=hcc57 0 _ rfl;(try simp only [show (k56).sz=4 from rfl,Nat.mul_one,Nat.add_zero] at hx57_0);have hf57_0:=hfr57 0;(try simp only [show (k56).sz=4 from rfl,Nat.mul_one,Nat.add_zero] at hf57_0);have hx57_1:=hcc57 1 _ rfl;(try simp only [show (k56).sz=4 from rfl,Nat.mul_one,Nat.add_zero] at hx57_1);have hf57_1:=hfr57 1;(try simp only [show (k56).sz=4 from rfl,Nat.mul_one,Nat.add_zero] at hf57_1);have hx57_2:=hcc57 2 _ rfl;(try simp only [show (k56).sz=4 from rfl,Nat.mul_one,Nat.add_zero] at hx57_2);have hf57_2:=hfr57 2;(try simp only [show (k56).sz=4 from rfl,Nat.mul_one,Nat.add_zero] at hf57_2);have hx57_3:=hcc57 3 _ rfl;(try simp only [show (k56).sz=4 from rfl,Nat.mul_one,Nat.add_zero] at hx57_3);have hf57_3:=hfr57 3;(try simp only [show (k56).sz=4 from rfl,Nat.mul_one,Nat.add_zero] at hf57_3);clear hcl57 hcc57 hfr57 hM57)|((with_reducible refine gate_store (t:=56) (p:=41) rfl ?_);refine store_event (t:=56) (p:=41) (v:=?vo_w58) (w1:=((((w55.setCell ⟨go42,(t149 : Int).toNat * 4,none⟩ (.int .i64 a1)).setCell ⟨go42,(t149 : Int).toNat * 4 + 1,none⟩ (.int .i64 1)).setCell ⟨go42,(t149 : Int).toNat * 4 + 2,none⟩ (.int .i64 0)).setCell ⟨go42,(t149 : Int).toNat * 4 + 3,none⟩ (.int .i64 0))) ?hg ?ho ?hn ?hr ?_;(case ho=>rfl);(case hg=>rfl);(case hn=>rfl);(case hr=>first|(go_simp;done)|(go_simp;rfl));intro w58 hw;have hg : w55.grownBy w58 (some go42):=(by rw [hw];exact HP57.2);have hp_ : Kd.R k56 56 w58 w.heap.size (fun _=>True) (.slice (some ⟨go42,0,none⟩) t153.length co54) y158:=(by rw [hw,Ny158.out];exact HP57.1);clear HP57;have n0_:=A_ (blk_grown (g:=gb146) (o:=.cells #[.int .i64 t150,.int .i64 t151,.int .i64 t152,.slice (some ⟨go42,0,none⟩) t153.length co54] 26 (0,0)) (by exact kk_ BK146.out) hg (Kd.R_ne HO155.out BK146.out (by decide)));have n1_:=A_ (blk_grown (g:=gb147) (o:=.cells #[.int .i64 0,.int .i64 0,.int .i64 0,.slice none 0 0] 26 (0,0)) (by exact kk_ BK147.out) hg (Kd.R_ne HO155.out BK147.out (by decide)));have n2_:=A_ (hp_);have n3_:=A_ ((by rw [hw];exact bs_ (bs_ (bs_ (bs_ (HB.out) GB42.out) GB42.out) GB42.out) GB42.out : Below w.heap.size w w58));clear BK146;clear BK147;clear HO155;clear HB;have BK146:=n0_;have BK147:=n1_;have HO155:=n2_;have HB:=n3_;clear n0_ n1_ n2_ n3_;clear hg hw hp_;obtain ⟨z59_0,z59_1,z59_2,z59_3⟩:=blkc_4 BK146.out;obtain ⟨y59_0,y59_1,y59_2,y59_3⟩:=blkz_4 BK146.out;obtain ⟨z60_0,z60_1,z60_2,z60_3⟩:=blkc_4 BK147.out;obtain ⟨y60_0,y60_1,y60_2⟩:=blkz_3 BK147.out;have y60_3:=bf_ BK147.out 3))
 refine bodyPost_ret (results_ctt rfl _ _ gb147 26 #[.int .i64 ji43,.int .i64 t151,.int .i64 t152,.slice (some ⟨go42,0,none⟩) t153.length co54] (0,0) _ rfl (by refine kk_ ?_;apply blkf_4_0_3;refine kk_ ?_;refine blk_far ?_ NB147_146.out _;exact kk_ BK147.out) Tryd.underlying26 rfl (by kernel_rfl)) rfl ?_
 exact ⟨_,by first|rfl|(simp [errW_none,errW_some] <;> rfl)|(simp only [← hji43];first|rfl|(simp [errW_none,errW_some] <;> rfl))|(simp [*,errW_none,errW_some] <;> rfl),by (with_reducible repeat (first|apply ra_|apply rn_|apply re_));exact Kd.R_mono (rf_ (p:=⟨gb147,3,none⟩) (rf_ (p:=⟨gb147,2,none⟩) (rf_ (p:=⟨gb147,1,none⟩) (rf_ (p:=⟨gb147,0,none⟩) (rf_ (p:=⟨gb146,0,none⟩) (Kd.R_types (Kd.R_types HO155.out BK146.out (by decide)) BK147.out (by decide)) (fun _ hk=>hk.1.2) (.int .i64 ji43)) (fun _ hk=>hk.2) (.int .i64 ji43)) (fun _ hk=>hk.2) (.int .i64 t151)) (fun _ hk=>hk.2) (.int .i64 t152)) (fun _ hk=>hk.2) (.slice (some ⟨go42,0,none⟩) t153.length co54)) (fun _ hk=>trivial),hb2_ HB.out GE146.out GE147.out⟩
def table_Commit.j0 : Nat→Int→Bool→Int→Int→Int→List (S56)→Option (Int × Int × Int × (List (S56)) × Int × Int)
 | 0,_,_,_,_,_,_=>none
 | k + 1,x8,x24,x160000,x160001,x160002,x160003=>if x24=true then (some (x160000,x160001,x160002,x160003,0,2)) else (if 0≤x8 then (if x8<(x160003.length : Int) then ((some (x160003.set (x8 : Int).toNat (⟨(rd_T56 x160003 x8).f0,2,(rd_T56 x160003 x8).f2,(rd_T56 x160003 x8).f3⟩ : S56) : List (S56))).bind fun y170=>(some (x160000,x160001,wrap64 (x160002 + 1),(y170.set (x8 : Int).toNat (⟨(rd_T56 y170 x8).f0,(rd_T56 y170 x8).f1,(rd_T56 y170 x8).f2,wrap64 (x160002 + 1)⟩ : S56)),wrap64 (x160002 + 1),0))) else (none)) else (none))
def table_Commit.f (k : Nat) (a0_0 : Int) (a0_1 : Int) (a0_2 : Int) (l0_3 : List (S56)) (a1 : Int) : Option (Int × Int × Int × (List (S56)) × Int × Int):=(table_Check.f k a0_0 a0_1 a0_2 l0_3).bind fun t161=>(if t161=0 then ((table_own.f a0_0 a0_1 a0_2 l0_3).bind fun bt162=>((table_Find.f k bt162.1 bt162.2.1 bt162.2.2.1 bt162.2.2.2 a1).bind fun t168=>(if t168<0 then (some (bt162.1,bt162.2.1,bt162.2.2.1,bt162.2.2.2,0,3)) else (if 0≤t168 then (if t168<(bt162.2.2.2.length : Int) then (if ((rd_T56 bt162.2.2.2 t168).f1)=1 then (table_Commit.j0 k t168 (bt162.2.2.1 == 2147483647) bt162.1 bt162.2.1 bt162.2.2.1 bt162.2.2.2) else (table_Commit.j0 k t168 true bt162.1 bt162.2.1 bt162.2.2.1 bt162.2.2.2)) else (none)) else (none))))) else (some (0,0,0,([] : List (S56)),0,t161)))
theorem table_Commit.mono_l : ∀ k,(∀ y0 y1 y2 y3 y4 y5,LeO (table_Commit.j0 k y0 y1 y2 y3 y4 y5) (table_Commit.j0 (k + 1) y0 y1 y2 y3 y4 y5))
 | 0=>fun _ _ _ _ _ _ r h=>by simp [table_Commit.j0] at h
 | k + 1=>by
  have ih0:=table_Commit.mono_l k
  ·intro y0 y1 y2 y3 y4 y5
   unfold table_Commit.j0
   repeat' first
   | (with_reducible exact ih0 _ _ _ _ _ _)
   | (with_reducible exact table_Check.mono _ _ _ _ _)
   | (with_reducible exact table_Find.mono _ _ _ _ _ _)
   | (with_reducible exact LeO.refl _)
   | (with_reducible exact LeO.none _)
   | (with_reducible refine LeO.ite ?_ ?_)
   | (with_reducible refine LeO.bind ?_ (fun _=>?_))
   | exact ih0 _ _ _ _ _ _
   | exact table_Check.mono _ _ _ _ _
   | exact table_Find.mono _ _ _ _ _ _
   | exact LeO.none _
   | refine LeO.ite ?_ ?_
   | refine LeO.bind ?_ (fun _=>?_)
theorem table_Commit.mono : ∀ a0 a1 a2 a3 a4 k,LeO (table_Commit.f k a0 a1 a2 a3 a4) (table_Commit.f (k + 1) a0 a1 a2 a3 a4):=by
 intro a0 a1 a2 a3 a4 k;have ih0:=table_Commit.mono_l k
 unfold table_Commit.f
 repeat' first
   | (with_reducible exact ih0 _ _ _ _ _ _)
   | (with_reducible exact table_Check.mono _ _ _ _ _)
   | (with_reducible exact table_Find.mono _ _ _ _ _ _)
   | (with_reducible exact LeO.refl _)
   | (with_reducible exact LeO.none _)
   | (with_reducible refine LeO.ite ?_ ?_)
   | (with_reducible refine LeO.bind ?_ (fun _=>?_))
   | exact ih0 _ _ _ _ _ _
   | exact table_Check.mono _ _ _ _ _
   | exact table_Find.mono _ _ _ _ _ _
   | exact LeO.none _
   | refine LeO.ite ?_ ?_
   | refine LeO.bind ?_ (fun _=>?_)
def table_Commit.T11 : Bool × List (List Nat × List Nat):=(true,[([],[]),([0],[0]),([],[]),([],[]),([3],[3]),([],[]),([],[]),([6],[6]),([1,2,0,1,2],[1,2]),([8,0,1,2],[8]),([9,0,1,2],[9]),([4,5,0,1,2,3,4,5,6,7,8,9,10],[4,5]),([11,0,1,2,3,4,5,6,7,8,9,10],[11]),([12,7,10,0,1,2,3,4,5,6,7,8,9,10],[7,12])])
def table_Commit.B11 : List Nat:=[0,1,0,0,8,0,0,64,7,263,775,2047,4095,8191]
theorem table_Commit.tab11 : rtab .any (opsOf Tryd.f19 11)=table_Commit.T11:=by kernel_rfl
theorem table_Commit.bits11 : waitsOk table_Commit.T11.2 table_Commit.B11=true:=by kernel_rfl
set_option maxHeartbeats 8000000 in
set_option maxRecDepth 100000 in
theorem table_Commit.calls (k : Nat) (a0_0 : Int) (a0_1 : Int) (a0_2 : Int) (A0_3 : Option Addr) (c0_3 : Nat) (l0_3 : List (S56)) (a1 : Int) (r1 : Int) (r2 : Int) (r3 : Int) (r4 : List (S56)) (r5 : Int) (r6 : Int) (w : World) (hr0_3 : Kd.C k56 w A0_3 l0_3.length l0_3) (hc0_3 : l0_3.length≤c0_3) (h : table_Commit.f k a0_0 a0_1 a0_2 l0_3 a1=some (r1,r2,r3,r4,r5,r6)) :
  Calls Tryd.prog 19 #[.agg #[.int .i64 a0_0,.int .i64 a0_1,.int .i64 a0_2,.slice A0_3 l0_3.length c0_3],.int .i64 a1] w fun e w'=>∃ v3_ : Value,e=.returned (.tuple #[.agg #[.int .i64 r1,.int .i64 r2,.int .i64 r3,v3_],.int .i64 r5,.int .i64 r6])∧Kd.R k56 56 w' w.heap.size (fun _=>True) v3_ r4∧Below w.heap.size w w':=by
 have hu26:=Tryd.underlying26;have HR0_3:=A_ hr0_3;have HC0_3:=A_ hc0_3;clear hr0_3 hc0_3;have HB:=A_ (Below.refl w.heap.size w)
 have H : ((table_Check.f k a0_0 a0_1 a0_2 l0_3).bind fun t161=>(if t161=0 then ((table_own.f a0_0 a0_1 a0_2 l0_3).bind fun bt162=>((table_Find.f k bt162.1 bt162.2.1 bt162.2.2.1 bt162.2.2.2 a1).bind fun t168=>(if t168<0 then (some (bt162.1,bt162.2.1,bt162.2.2.1,bt162.2.2.2,0,3)) else (if 0≤t168 then (if t168<(bt162.2.2.2.length : Int) then (if ((rd_T56 bt162.2.2.2 t168).f1)=1 then (table_Commit.j0 k t168 (bt162.2.2.1 == 2147483647) bt162.1 bt162.2.1 bt162.2.2.1 bt162.2.2.2) else (table_Commit.j0 k t168 true bt162.1 bt162.2.1 bt162.2.2.1 bt162.2.2.2)) else (none)) else (none))))) else (some (0,0,0,([] : List (S56)),0,t161))))=some (r1,r2,r3,r4,r5,r6):=h
 clear h;replace H:=Option.bind_eq_some_iff.mp H;obtain ⟨t161,A30,H⟩:=H
 replace H : (if t161=0 then ((table_own.f a0_0 a0_1 a0_2 l0_3).bind fun bt162=>((table_Find.f k bt162.1 bt162.2.1 bt162.2.2.1 bt162.2.2.2 a1).bind fun t168=>(if t168<0 then (some (bt162.1,bt162.2.1,bt162.2.2.1,bt162.2.2.2,0,3)) else (if 0≤t168 then (if t168<(bt162.2.2.2.length : Int) then (if ((rd_T56 bt162.2.2.2 t168).f1)=1 then (table_Commit.j0 k t168 (bt162.2.2.1 == 2147483647) bt162.1 bt162.2.1 bt162.2.2.1 bt162.2.2.2) else (table_Commit.j0 k t168 true bt162.1 bt162.2.1 bt162.2.2.1 bt162.2.2.2)) else (none)) else (none))))) else (some (0,0,0,([] : List (S56)),0,t161)))=some (r1,r2,r3,r4,r5,r6):=H
 have A3:=A_ A30;clear A30
 by_cases c4 : t161=0
 rotate_left
 ·rw [if_neg c4] at H
  have c4b0 : (t161 == 0)=false:=beq_eq_false_iff_ne.mpr c4;have c4b1 : (t161 != 0)=true:=bne_iff_ne.mpr c4
  simp only [Option.some.injEq,Prod.mk.injEq] at H
  obtain ⟨rfl,rfl,rfl,rfl,rfl,rfl⟩:=H;go_enter Tryd.func19,Tryd.ntmps19
  go_wp2_with (first|((with_reducible refine gate_dst (N:=2) rfl ?_);refine box_event ?hg (N:=2) ?hd (cs:=#[.int .i64 a0_0,.int .i64 a0_1,.int .i64 a0_2,.slice A0_3 l0_3.length c0_3]) (t:=26) ?hr ?_;(case hd=>rfl);(case hg=>rfl);(case hr=>first|(go_simp;done)|(go_simp;rfl));intro gb159 hg w58 hbox hb;have n0_:=A_ (bp_ (hb0_ HB.out) hb);have n1_:=A_ (hbox);have n2_:=A_ ((by rw [hg];exact (bz_ (hb0_ HB.out)) : w.heap.size≤gb159));have n3_:=n2_;clear HB;have HB:=n0_;have BK159:=n1_;have GW159:=n2_;have GE159:=n3_;clear n0_ n1_ n2_ n3_;clear hb hbox hg)|((with_reducible refine gate_dst (N:=4) rfl ?_);refine box_event ?hg (N:=4) ?hd (cs:=#[.int .i64 0,.int .i64 0,.int .i64 0,.slice none 0 0]) (t:=26) ?hr ?_;(case hd=>rfl);(case hg=>rfl);(case hr=>first|(go_simp;done)|(go_simp;rfl));intro gb160 hg w59 hbox hb;have n0_:=A_ (bx_ BK159.out kf_ hb);have n1_:=A_ (bp_ (hb1_ HB.out GE159.out) hb);have n2_:=A_ (hbox);have n3_:=A_ ((by rw [hg];exact (bz_ (hb1_ HB.out GE159.out)) : w.heap.size≤gb160));have n4_:=n3_;have n5_:=A_ ((by rw [hg];exact Nat.ne_of_lt (bl_ BK159.out kf_) : gb159≠gb160));have n6_:=A_ (Ne.symm n5_.out);clear BK159;clear HB;have BK159:=n0_;have HB:=n1_;have BK160:=n2_;have GW160:=n3_;have GE160:=n4_;have NB159_160:=n5_;have NB160_159:=n6_;clear n0_ n1_ n2_ n3_ n4_ n5_ n6_;clear hb hbox hg;have hnb60:=NB159_160.out;have hnc60:=NB160_159.out;obtain ⟨z61_0,z61_1,z61_2,z61_3⟩:=blkc_4 BK159.out;obtain ⟨y61_0,y61_1,y61_2⟩:=blkz_3 BK159.out;have y61_3:=bf_ BK159.out 3)|((with_reducible refine gate_callee (f:=13) rfl ?_);refine goesL_ (some 10) rfl rfl Tryd.func13 (by kernel_rfl) rfl #[.agg #[.int .i64 a0_0,.int .i64 a0_1,.int .i64 a0_2,.slice A0_3 l0_3.length c0_3]] rfl (by (try simp only [List.map_toArray,List.map_cons,List.map_nil]);first|done|rfl|(simp only [List.length_drop,List.length_take];rfl)) ?_;(with_reducible refine (table_Check.calls k a0_0 a0_1 a0_2 _ _ l0_3 t161 _ ?side1 ?side2 A3.out).mono ?_);(case side1=>repeat (first|exact (Kd.C_below HR0_3.out HB.out)|(with_reducible refine Kd.C_alloc ?_ _)|(with_reducible refine Kd.C_drewN ?_ _)|(with_reducible refine Kd.C_drew ?_)));(case side2=>exact HC0_3.out);rintro e w62 ⟨rfl,hb⟩;refine ⟨_,rfl,?_⟩;have n0_:=A_ (bx_ BK159.out kf_ hb);have n1_:=A_ (bx_ BK160.out kf_ hb);have n2_:=A_ (bp_ (hb2_ HB.out GE159.out GE160.out) hb);clear BK159;clear BK160;clear HB;have BK159:=n0_;have BK160:=n1_;have HB:=n2_;clear n0_ n1_ n2_;(try clear hb);(try clear hb2);(try clear hk);(try clear hi);obtain ⟨z63_0,z63_1,z63_2,z63_3⟩:=blkc_4 BK160.out;obtain ⟨y63_0,y63_1,y63_2⟩:=blkz_3 BK160.out;have y63_3:=bf_ BK160.out 3))
  refine bodyPost_ret (results_ctt rfl _ _ gb160 26 #[.int .i64 0,.int .i64 0,.int .i64 0,.slice none 0 0] (0,0) _ rfl (by refine kk_ ?_;apply blkf_4_0_3;exact kk_ BK160.out) Tryd.underlying26 rfl (by kernel_rfl)) rfl ?_
  exact ⟨_,by first|rfl|(simp [errW_none,errW_some] <;> rfl)|(simp [*,errW_none,errW_some] <;> rfl),by first|exact Kd.R_nil _ _ _ _ _|exact Kd.N_nil _ _ _ _ _|exact Kd.V_nil _ _ _ _ _|exact Kd.Q_nil _ _ _ _ _|exact Kd.S_nil _ _ _ _ _,hb2_ HB.out GE159.out GE160.out⟩
 rw [if_pos c4] at H
 have c4b0 : (t161 == 0)=true:=beq_iff_eq.mpr c4;have c4b1 : (t161 != 0)=false:=bne_eq_false_iff_eq.mpr c4;clear c4;replace H:=Option.bind_eq_some_iff.mp H;obtain ⟨⟨t162,t163,t164,t165⟩,A50,H⟩:=H
 replace H : ((table_Find.f k t162 t163 t164 t165 a1).bind fun t168=>(if t168<0 then (some (t162,t163,t164,t165,0,3)) else (if 0≤t168 then (if t168<(t165.length : Int) then (if ((rd_T56 t165 t168).f1)=1 then (table_Commit.j0 k t168 (t164 == 2147483647) t162 t163 t164 t165) else (table_Commit.j0 k t168 true t162 t163 t164 t165)) else (none)) else (none))))=some (r1,r2,r3,r4,r5,r6):=H
 have A5:=A_ A50;clear A50;replace H:=Option.bind_eq_some_iff.mp H;obtain ⟨t168,A60,H⟩:=H
 replace H : (if t168<0 then (some (t162,t163,t164,t165,0,3)) else (if 0≤t168 then (if t168<(t165.length : Int) then (if ((rd_T56 t165 t168).f1)=1 then (table_Commit.j0 k t168 (t164 == 2147483647) t162 t163 t164 t165) else (table_Commit.j0 k t168 true t162 t163 t164 t165)) else (none)) else (none)))=some (r1,r2,r3,r4,r5,r6):=H
 have A6:=A_ A60;clear A60
 by_cases c7 : t168<0
 ·rw [if_pos c7] at H
  have c7b0 : decide (t168<0)=true:=dt_ c7;clear c7
  simp only [Option.some.injEq,Prod.mk.injEq] at H
  obtain ⟨rfl,rfl,rfl,rfl,rfl,rfl⟩:=H;go_enter Tryd.func19,Tryd.ntmps19
  go_wp2_with (first|((with_reducible refine gate_dst (N:=2) rfl ?_);refine box_event ?hg (N:=2) ?hd (cs:=#[.int .i64 a0_0,.int .i64 a0_1,.int .i64 a0_2,.slice A0_3 l0_3.length c0_3]) (t:=26) ?hr ?_;(case hd=>rfl);(case hg=>rfl);(case hr=>first|(go_simp;done)|(go_simp;rfl));intro gb159 hg w8 hbox hb;have n0_:=A_ (bp_ (hb0_ HB.out) hb);have n1_:=A_ (hbox);have n2_:=A_ ((by rw [hg];exact (bz_ (hb0_ HB.out)) : w.heap.size≤gb159));have n3_:=n2_;clear HB;have HB:=n0_;have BK159:=n1_;have GW159:=n2_;have GE159:=n3_;clear n0_ n1_ n2_ n3_;clear hb hbox hg)|((with_reducible refine gate_dst (N:=4) rfl ?_);refine box_event ?hg (N:=4) ?hd (cs:=#[.int .i64 0,.int .i64 0,.int .i64 0,.slice none 0 0]) (t:=26) ?hr ?_;(case hd=>rfl);(case hg=>rfl);(case hr=>first|(go_simp;done)|(go_simp;rfl));intro gb160 hg w9 hbox hb;have n0_:=A_ (bx_ BK159.out kf_ hb);have n1_:=A_ (bp_ (hb1_ HB.out GE159.out) hb);have n2_:=A_ (hbox);have n3_:=A_ ((by rw [hg];exact (bz_ (hb1_ HB.out GE159.out)) : w.heap.size≤gb160));have n4_:=n3_;have n5_:=A_ ((by rw [hg];exact Nat.ne_of_lt (bl_ BK159.out kf_) : gb159≠gb160));have n6_:=A_ (Ne.symm n5_.out);clear BK159;clear HB;have BK159:=n0_;have HB:=n1_;have BK160:=n2_;have GW160:=n3_;have GE160:=n4_;have NB159_160:=n5_;have NB160_159:=n6_;clear n0_ n1_ n2_ n3_ n4_ n5_ n6_;clear hb hbox hg;have hnb10:=NB159_160.out;have hnc10:=NB160_159.out;obtain ⟨z11_0,z11_1,z11_2,z11_3⟩:=blkc_4 BK159.out;obtain ⟨y11_0,y11_1,y11_2⟩:=blkz_3 BK159.out;have y11_3:=bf_ BK159.out 3)|((with_reducible refine gate_callee (f:=13) rfl ?_);refine goesL_ (some 10) rfl rfl Tryd.func13 (by kernel_rfl) rfl #[.agg #[.int .i64 a0_0,.int .i64 a0_1,.int .i64 a0_2,.slice A0_3 l0_3.length c0_3]] rfl (by (try simp only [List.map_toArray,List.map_cons,List.map_nil]);first|done|rfl|(simp only [List.length_drop,List.length_take];rfl)) ?_;(with_reducible refine (table_Check.calls k a0_0 a0_1 a0_2 _ _ l0_3 t161 _ ?side1 ?side2 A3.out).mono ?_);(case side1=>repeat (first|exact (Kd.C_below HR0_3.out HB.out)|(with_reducible refine Kd.C_alloc ?_ _)|(with_reducible refine Kd.C_drewN ?_ _)|(with_reducible refine Kd.C_drew ?_)));(case side2=>exact HC0_3.out);rintro e w12 ⟨rfl,hb⟩;refine ⟨_,rfl,?_⟩;have n0_:=A_ (bx_ BK159.out kf_ hb);have n1_:=A_ (bx_ BK160.out kf_ hb);have n2_:=A_ (bp_ (hb2_ HB.out GE159.out GE160.out) hb);clear BK159;clear BK160;clear HB;have BK159:=n0_;have BK160:=n1_;have HB:=n2_;clear n0_ n1_ n2_;(try clear hb);(try clear hb2);(try clear hk);(try clear hi);obtain ⟨z13_0,z13_1,z13_2,z13_3⟩:=blkc_4 BK159.out;obtain ⟨y13_0,y13_1,y13_2⟩:=blkz_3 BK159.out;have y13_3:=bf_ BK159.out 3)|((with_reducible refine gate_callee (f:=37) rfl ?_);refine goesL_ (some 16) rfl rfl Tryd.func37 (by kernel_rfl) rfl #[.agg #[.int .i64 a0_0,.int .i64 a0_1,.int .i64 a0_2,.slice A0_3 l0_3.length c0_3]] rfl (by (try simp only [List.map_toArray,List.map_cons,List.map_nil]);first|done|rfl|(simp only [List.length_drop,List.length_take];rfl)) ?_;(with_reducible refine (table_own.calls a0_0 a0_1 a0_2 _ _ l0_3 t162 t163 t164 t165 _ ?side1 ?side2 A5.out).mono ?_);(case side1=>repeat (first|exact (Kd.C_below HR0_3.out HB.out)|(with_reducible refine Kd.C_alloc ?_ _)|(with_reducible refine Kd.C_drewN ?_ _)|(with_reducible refine Kd.C_drew ?_)));(case side2=>exact HC0_3.out);rintro e w14 ⟨v166,rfl,ho0,hb⟩;refine ⟨_,rfl,?_⟩;have n0_:=A_ (Kd.R_lower ho0 (bz_ (hb2_ HB.out GE159.out GE160.out)));have n1_:=A_ (bx_ BK159.out kf_ hb);have n2_:=A_ (bx_ BK160.out kf_ hb);have n3_:=A_ (bp_ (hb2_ HB.out GE159.out GE160.out) hb);clear BK159;clear BK160;clear HB;have HO167:=n0_;have BK159:=n1_;have BK160:=n2_;have HB:=n3_;clear n0_ n1_ n2_ n3_;(try clear hb);(try clear hb2);(try clear hk);(try clear hi);(try clear ho0);obtain ⟨z15_0,z15_1,z15_2,z15_3⟩:=blkc_4 BK159.out;obtain ⟨y15_0,y15_1,y15_2,y15_3⟩:=blkz_4 BK159.out;obtain ⟨Ao16,co16,eo16⟩:=Kd.R_slice HO167.out;subst eo16)|((with_reducible refine gate_callee (f:=16) rfl ?_);refine goesL_ (some 19) rfl rfl Tryd.func16 (by kernel_rfl) rfl #[.agg #[.int .i64 t162,.int .i64 t163,.int .i64 t164,.slice Ao16 t165.length co16],.int .i64 a1] rfl (by (try simp only [List.map_toArray,List.map_cons,List.map_nil]);first|done|rfl|(simp only [List.length_drop,List.length_take];rfl)) ?_;(with_reducible refine (table_Find.calls k t162 t163 t164 _ _ t165 a1 t168 _ ?side1 ?side2 A6.out).mono ?_);(case side1=>refine (Kd.R_reads' (e:=56) (base:=w.heap.size) (ok:=fun k_=>True) (n:=t165.length) (c:=co16) ?_).2.2;exact (by (with_reducible repeat (first|apply ra_|apply rn_|apply re_));exact (Kd.R_mono (rf_ (p:=⟨gb159,3,none⟩) (rf_ (p:=⟨gb159,2,none⟩) (rf_ (p:=⟨gb159,1,none⟩) (rf_ (p:=⟨gb159,0,none⟩) (Kd.R_types HO167.out BK159.out (by decide)) (fun _ hk=>hk.2) (.int .i64 t162)) (fun _ hk=>hk.2) (.int .i64 t163)) (fun _ hk=>hk.2) (.int .i64 t164)) (fun _ hk=>hk.2) (.slice Ao16 t165.length co16)) (fun _ h_=>h_.1))));(case side2=>exact (Kd.R_reads' HO167.out).2.1);rintro e w17 ⟨rfl,hb⟩;refine ⟨_,rfl,?_⟩;have n0_:=A_ (Kd.R_below (by (with_reducible repeat (first|apply ra_|apply rn_|apply re_));exact (Kd.R_mono (rf_ (p:=⟨gb159,3,none⟩) (rf_ (p:=⟨gb159,2,none⟩) (rf_ (p:=⟨gb159,1,none⟩) (rf_ (p:=⟨gb159,0,none⟩) (Kd.R_types HO167.out BK159.out (by decide)) (fun _ hk=>hk.2) (.int .i64 t162)) (fun _ hk=>hk.2) (.int .i64 t163)) (fun _ hk=>hk.2) (.int .i64 t164)) (fun _ hk=>hk.2) (.slice Ao16 t165.length co16)) (fun _ h_=>h_.1))) hb);have n1_:=A_ (bb_ (g:=gb159) (o:=.cells #[.int .i64 t162,.int .i64 t163,.int .i64 t164,.slice Ao16 t165.length co16] 26 (0,0)) (by refine kk_ ?_;apply blkf_4_0_3;exact kk_ BK159.out) hb);have n2_:=A_ (bb_ (g:=gb160) (o:=.cells #[.int .i64 0,.int .i64 0,.int .i64 0,.slice none 0 0] 26 (0,0)) (by refine kk_ ?_;refine blk_far ?_ NB160_159.out _;refine kk_ ?_;refine blk_far ?_ NB160_159.out _;refine kk_ ?_;refine blk_far ?_ NB160_159.out _;refine kk_ ?_;refine blk_far ?_ NB160_159.out _;exact kk_ BK160.out) hb);have n3_:=A_ (bp_ (hb2_ HB.out GE159.out GE160.out) hb);clear HO167;clear BK159;clear BK160;clear HB;have HO167:=n0_;have BK159:=n1_;have BK160:=n2_;have HB:=n3_;clear n0_ n1_ n2_ n3_;(try clear hb);(try clear hb2);(try clear hk);(try clear hi);obtain ⟨z18_0,z18_1,z18_2,z18_3⟩:=blkc_4 BK159.out;obtain ⟨y18_0,y18_1,y18_2,y18_3⟩:=blkz_4 BK159.out;obtain ⟨z19_0,z19_1,z19_2,z19_3⟩:=blkc_4 BK160.out;obtain ⟨y19_0,y19_1,y19_2⟩:=blkz_3 BK160.out;have y19_3:=bf_ BK160.out 3))
  refine bodyPost_ret (results_ctt rfl _ _ gb160 26 #[.int .i64 t162,.int .i64 t163,.int .i64 t164,.slice Ao16 t165.length co16] (0,0) _ rfl (by refine kk_ ?_;apply blkf_4_0_3;exact kk_ BK160.out) Tryd.underlying26 rfl (by kernel_rfl)) rfl ?_
  exact ⟨_,by first|rfl|(simp [errW_none,errW_some] <;> rfl)|(simp [*,errW_none,errW_some] <;> rfl),by (with_reducible repeat (first|apply ra_|apply rn_|apply re_));exact Kd.R_mono (rf_ (p:=⟨gb160,3,none⟩) (rf_ (p:=⟨gb160,2,none⟩) (rf_ (p:=⟨gb160,1,none⟩) (rf_ (p:=⟨gb160,0,none⟩) (Kd.R_types HO167.out BK160.out (by decide)) (fun _ hk=>hk.2) (.int .i64 t162)) (fun _ hk=>hk.2) (.int .i64 t163)) (fun _ hk=>hk.2) (.int .i64 t164)) (fun _ hk=>hk.2) (.slice Ao16 t165.length co16)) (fun _ hk=>trivial),hb2_ HB.out GE159.out GE160.out⟩
 rw [if_neg c7] at H
 have c7b0 : decide (t168<0)=false:=df_ c7;clear c7;have HC20:=A_ H;clear H;go_enter Tryd.func19,Tryd.ntmps19
 go_upto_region 8 with (first|((with_reducible refine gate_dst (N:=2) rfl ?_);refine box_event ?hg (N:=2) ?hd (cs:=#[.int .i64 a0_0,.int .i64 a0_1,.int .i64 a0_2,.slice A0_3 l0_3.length c0_3]) (t:=26) ?hr ?_;(case hd=>rfl);(case hg=>rfl);(case hr=>first|(go_simp;done)|(go_simp;rfl));intro gb159 hg w21 hbox hb;have n0_:=A_ (bp_ (hb0_ HB.out) hb);have n1_:=A_ (hbox);have n2_:=A_ ((by rw [hg];exact (bz_ (hb0_ HB.out)) : w.heap.size≤gb159));have n3_:=n2_;clear HB;have HB:=n0_;have BK159:=n1_;have GW159:=n2_;have GE159:=n3_;clear n0_ n1_ n2_ n3_;clear hb hbox hg)|((with_reducible refine gate_dst (N:=4) rfl ?_);refine box_event ?hg (N:=4) ?hd (cs:=#[.int .i64 0,.int .i64 0,.int .i64 0,.slice none 0 0]) (t:=26) ?hr ?_;(case hd=>rfl);(case hg=>rfl);(case hr=>first|(go_simp;done)|(go_simp;rfl));intro gb160 hg w22 hbox hb;have n0_:=A_ (bx_ BK159.out kf_ hb);have n1_:=A_ (bp_ (hb1_ HB.out GE159.out) hb);have n2_:=A_ (hbox);have n3_:=A_ ((by rw [hg];exact (bz_ (hb1_ HB.out GE159.out)) : w.heap.size≤gb160));have n4_:=n3_;have n5_:=A_ ((by rw [hg];exact Nat.ne_of_lt (bl_ BK159.out kf_) : gb159≠gb160));have n6_:=A_ (Ne.symm n5_.out);clear BK159;clear HB;have BK159:=n0_;have HB:=n1_;have BK160:=n2_;have GW160:=n3_;have GE160:=n4_;have NB159_160:=n5_;have NB160_159:=n6_;clear n0_ n1_ n2_ n3_ n4_ n5_ n6_;clear hb hbox hg;have hnb23:=NB159_160.out;have hnc23:=NB160_159.out;obtain ⟨z24_0,z24_1,z24_2,z24_3⟩:=blkc_4 BK159.out;obtain ⟨y24_0,y24_1,y24_2⟩:=blkz_3 BK159.out;have y24_3:=bf_ BK159.out 3)|((with_reducible refine gate_callee (f:=13) rfl ?_);refine goesL_ (some 10) rfl rfl Tryd.func13 (by kernel_rfl) rfl #[.agg #[.int .i64 a0_0,.int .i64 a0_1,.int .i64 a0_2,.slice A0_3 l0_3.length c0_3]] rfl (by (try simp only [List.map_toArray,List.map_cons,List.map_nil]);first|done|rfl|(simp only [List.length_drop,List.length_take];rfl)) ?_;(with_reducible refine (table_Check.calls k a0_0 a0_1 a0_2 _ _ l0_3 t161 _ ?side1 ?side2 A3.out).mono ?_);(case side1=>repeat (first|exact (Kd.C_below HR0_3.out HB.out)|(with_reducible refine Kd.C_alloc ?_ _)|(with_reducible refine Kd.C_drewN ?_ _)|(with_reducible refine Kd.C_drew ?_)));(case side2=>exact HC0_3.out);rintro e w25 ⟨rfl,hb⟩;refine ⟨_,rfl,?_⟩;have n0_:=A_ (bx_ BK159.out kf_ hb);have n1_:=A_ (bx_ BK160.out kf_ hb);have n2_:=A_ (bp_ (hb2_ HB.out GE159.out GE160.out) hb);clear BK159;clear BK160;clear HB;have BK159:=n0_;have BK160:=n1_;have HB:=n2_;clear n0_ n1_ n2_;(try clear hb);(try clear hb2);(try clear hk);(try clear hi);obtain ⟨z26_0,z26_1,z26_2,z26_3⟩:=blkc_4 BK159.out;obtain ⟨y26_0,y26_1,y26_2⟩:=blkz_3 BK159.out;have y26_3:=bf_ BK159.out 3)|((with_reducible refine gate_callee (f:=37) rfl ?_);refine goesL_ (some 16) rfl rfl Tryd.func37 (by kernel_rfl) rfl #[.agg #[.int .i64 a0_0,.int .i64 a0_1,.int .i64 a0_2,.slice A0_3 l0_3.length c0_3]] rfl (by (try simp only [List.map_toArray,List.map_cons,List.map_nil]);first|done|rfl|(simp only [List.length_drop,List.length_take];rfl)) ?_;(with_reducible refine (table_own.calls a0_0 a0_1 a0_2 _ _ l0_3 t162 t163 t164 t165 _ ?side1 ?side2 A5.out).mono ?_);(case side1=>repeat (first|exact (Kd.C_below HR0_3.out HB.out)|(with_reducible refine Kd.C_alloc ?_ _)|(with_reducible refine Kd.C_drewN ?_ _)|(with_reducible refine Kd.C_drew ?_)));(case side2=>exact HC0_3.out);rintro e w27 ⟨v166,rfl,ho0,hb⟩;refine ⟨_,rfl,?_⟩;have n0_:=A_ (Kd.R_lower ho0 (bz_ (hb2_ HB.out GE159.out GE160.out)));have n1_:=A_ (bx_ BK159.out kf_ hb);have n2_:=A_ (bx_ BK160.out kf_ hb);have n3_:=A_ (bp_ (hb2_ HB.out GE159.out GE160.out) hb);clear BK159;clear BK160;clear HB;have HO167:=n0_;have BK159:=n1_;have BK160:=n2_;have HB:=n3_;clear n0_ n1_ n2_ n3_;(try clear hb);(try clear hb2);(try clear hk);(try clear hi);(try clear ho0);obtain ⟨z28_0,z28_1,z28_2,z28_3⟩:=blkc_4 BK159.out;obtain ⟨y28_0,y28_1,y28_2,y28_3⟩:=blkz_4 BK159.out;obtain ⟨Ao29,co29,eo29⟩:=Kd.R_slice HO167.out;subst eo29)|((with_reducible refine gate_callee (f:=16) rfl ?_);refine goesL_ (some 19) rfl rfl Tryd.func16 (by kernel_rfl) rfl #[.agg #[.int .i64 t162,.int .i64 t163,.int .i64 t164,.slice Ao29 t165.length co29],.int .i64 a1] rfl (by (try simp only [List.map_toArray,List.map_cons,List.map_nil]);first|done|rfl|(simp only [List.length_drop,List.length_take];rfl)) ?_;(with_reducible refine (table_Find.calls k t162 t163 t164 _ _ t165 a1 t168 _ ?side1 ?side2 A6.out).mono ?_);(case side1=>refine (Kd.R_reads' (e:=56) (base:=w.heap.size) (ok:=fun k_=>True) (n:=t165.length) (c:=co29) ?_).2.2;exact (by (with_reducible repeat (first|apply ra_|apply rn_|apply re_));exact (Kd.R_mono (rf_ (p:=⟨gb159,3,none⟩) (rf_ (p:=⟨gb159,2,none⟩) (rf_ (p:=⟨gb159,1,none⟩) (rf_ (p:=⟨gb159,0,none⟩) (Kd.R_types HO167.out BK159.out (by decide)) (fun _ hk=>hk.2) (.int .i64 t162)) (fun _ hk=>hk.2) (.int .i64 t163)) (fun _ hk=>hk.2) (.int .i64 t164)) (fun _ hk=>hk.2) (.slice Ao29 t165.length co29)) (fun _ h_=>h_.1))));(case side2=>exact (Kd.R_reads' HO167.out).2.1);rintro e w30 ⟨rfl,hb⟩;refine ⟨_,rfl,?_⟩;have n0_:=A_ (Kd.R_below (by (with_reducible repeat (first|apply ra_|apply rn_|apply re_));exact (Kd.R_mono (rf_ (p:=⟨gb159,3,none⟩) (rf_ (p:=⟨gb159,2,none⟩) (rf_ (p:=⟨gb159,1,none⟩) (rf_ (p:=⟨gb159,0,none⟩) (Kd.R_types HO167.out BK159.out (by decide)) (fun _ hk=>hk.2) (.int .i64 t162)) (fun _ hk=>hk.2) (.int .i64 t163)) (fun _ hk=>hk.2) (.int .i64 t164)) (fun _ hk=>hk.2) (.slice Ao29 t165.length co29)) (fun _ h_=>h_.1))) hb);have n1_:=A_ (bb_ (g:=gb159) (o:=.cells #[.int .i64 t162,.int .i64 t163,.int .i64 t164,.slice Ao29 t165.length co29] 26 (0,0)) (by refine kk_ ?_;apply blkf_4_0_3;exact kk_ BK159.out) hb);have n2_:=A_ (bb_ (g:=gb160) (o:=.cells #[.int .i64 0,.int .i64 0,.int .i64 0,.slice none 0 0] 26 (0,0)) (by refine kk_ ?_;refine blk_far ?_ NB160_159.out _;refine kk_ ?_;refine blk_far ?_ NB160_159.out _;refine kk_ ?_;refine blk_far ?_ NB160_159.out _;refine kk_ ?_;refine blk_far ?_ NB160_159.out _;exact kk_ BK160.out) hb);have n3_:=A_ (bp_ (hb2_ HB.out GE159.out GE160.out) hb);clear HO167;clear BK159;clear BK160;clear HB;have HO167:=n0_;have BK159:=n1_;have BK160:=n2_;have HB:=n3_;clear n0_ n1_ n2_ n3_;(try clear hb);(try clear hb2);(try clear hk);(try clear hi)))
 (try simp only [Act.put,u1_,u2_,u3_])
 go_cut [24] (fun v24 wc=>∃ (kq : Nat) (x24_19 : Bool),v24=.bool x24_19∧Aside0 (table_Commit.j0 kq t168 x24_19 t162 t163 t164 t165=some (r1,r2,r3,r4,r5,r6))∧Aside0 (kq≤k)∧Aside0 (Kd.R k56 56 wc w.heap.size (fun _=>True) (.slice Ao29 t165.length co29) t165)∧Aside0 (wc.heap[gb159]?=some (.cells #[.int .i64 t162,.int .i64 t163,.int .i64 t164,(.slice Ao29 t165.length co29)] 26 (0,0)))∧Aside0 (wc.heap[gb160]?=some (.cells #[.int .i64 0,.int .i64 0,.int .i64 0,(.slice none 0 0)] 26 (0,0)))∧Aside0 (Below w.heap.size w wc))
 case first =>
  have H:=HC20.out;clear HC20
  by_cases c31 : 0≤t168
  rotate_left
  ·rw [if_neg c31] at H
   exact absurd H (by simp)
  rw [if_pos c31] at H
  have c31b0 : decide (0≤t168)=true:=dt_ c31;clear c31;(first|rw [c31b0]|(simp only [i64_w,i32_w];rw [c31b0])|skip)
  by_cases c32 : t168<(t165.length : Int)
  rotate_left
  ·rw [if_neg c32] at H
   exact absurd H (by simp)
  rw [if_pos c32] at H
  have c32b0 : decide (t168<(t165.length : Int))=true:=dt_ c32;clear c32
  by_cases c33 : ((rd_T56 t165 t168).f1)=1
  rotate_left
  ·rw [if_neg c33] at H
   have c33b0 : (((rd_T56 t165 t168).f1) == 1)=false:=beq_eq_false_iff_ne.mpr c33;have c33b1 : (((rd_T56 t165 t168).f1) != 1)=true:=bne_iff_ne.mpr c33;have H':=A_ H;clear H;have hnb36:=NB159_160.out;have hnc36:=NB160_159.out;obtain ⟨z37_0,z37_1,z37_2,z37_3⟩:=blkc_4 BK159.out;obtain ⟨y37_0,y37_1,y37_2,y37_3⟩:=blkz_4 BK159.out
   have p169 : 0≤(t168 : Int):=od_ (by first|(with_reducible assumption)|assumption)
   have q169 : t168<(t165.length : Int):=od_ (by first|(with_reducible assumption)|assumption)
   obtain ⟨ad169,e169,hx169_0,hx169_1,hx169_2,hx169_3⟩:=at_T56 (Kd.R_reads' HO167.out).2.2 t168 p169 q169
   cases e169
   replace p169:=eq_true p169;replace q169:=eq_true q169;go_wp2;go_meet
   case rel=>exact ⟨_,true,rfl,H',⟨by first|omega|exact Nat.le_refl _⟩,⟨by (with_reducible repeat (first|apply ra_|apply rn_|apply re_));exact HO167.out⟩,⟨by exact kk_ BK159.out⟩,⟨by exact kk_ BK160.out⟩,⟨hb2_ HB.out GE159.out GE160.out⟩⟩
  rw [if_pos c33] at H
  have c33b0 : (((rd_T56 t165 t168).f1) == 1)=true:=beq_iff_eq.mpr c33;have c33b1 : (((rd_T56 t165 t168).f1) != 1)=false:=bne_eq_false_iff_eq.mpr c33;clear c33;have H':=A_ H;clear H;have hnb34:=NB159_160.out;have hnc34:=NB160_159.out;obtain ⟨z35_0,z35_1,z35_2,z35_3⟩:=blkc_4 BK159.out;obtain ⟨y35_0,y35_1,y35_2,y35_3⟩:=blkz_4 BK159.out
  have p169 : 0≤(t168 : Int):=od_ (by first|(with_reducible assumption)|assumption)
  have q169 : t168<(t165.length : Int):=od_ (by first|(with_reducible assumption)|assumption)
  obtain ⟨ad169,e169,hx169_0,hx169_1,hx169_2,hx169_3⟩:=at_T56 (Kd.R_reads' HO167.out).2.2 t168 p169 q169
  cases e169
  replace p169:=eq_true p169;replace q169:=eq_true q169;go_wp2;go_meet
  case rel=>exact ⟨_,((t164 == 2147483647)),(by first|rfl|(simp;done)|(simp [*];done)),H',⟨by first|omega|exact Nat.le_refl _⟩,⟨by (with_reducible repeat (first|apply ra_|apply rn_|apply re_));exact HO167.out⟩,⟨by exact kk_ BK159.out⟩,⟨by exact kk_ BK160.out⟩,⟨hb2_ HB.out GE159.out GE160.out⟩⟩
 case rest =>
  clear HC20;(try clear c1);(try clear p1);(try clear q1);(try clear hx1);(try clear c2);(try clear p2);(try clear c3);(try clear c4);(try clear c4b0);(try clear c4b1);(try clear c7);(try clear c7b0);(try clear c10);(try clear c13);(try clear c16);(try clear p16);(try clear q16);(try clear hx16);(try clear c19);(try clear c23);(try clear c31);(try clear c31b0);(try clear c32);(try clear c32b0);(try clear c33);(try clear c33b0);(try clear c33b1);(try clear c34);(try clear c36);(try clear c37);(try clear hx169_0);(try clear hx169_1);(try clear hx169_2);(try clear hx169_3);(try clear p169);(try clear q169);(try clear z11_0 z11_1 z11_2 z11_3 z13_0 z13_1 z13_2 z13_3 z15_0 z15_1 z15_2 z15_3 z18_0 z18_1 z18_2 z18_3 z19_0 z19_1 z19_2 z19_3 z24_0 z24_1 z24_2 z24_3 z26_0 z26_1 z26_2 z26_3 z28_0 z28_1 z28_2 z28_3 z35_0 z35_1 z35_2 z35_3 z37_0 z37_1 z37_2 z37_3 y11_0 y11_1 y11_2 y11_3 y13_0 y13_1 y13_2 y13_3 y15_0 y15_1 y15_2 y15_3 y18_0 y18_1 y18_2 y18_3 y19_0 y19_1 y19_2 y19_3 y24_0 y24_1 y24_2 y24_3 y26_0 y26_1 y26_2 y26_3 y28_0 y28_1 y28_2 y28_3 y35_0 y35_1 y35_2 y35_3 y37_0 y37_1 y37_2 y37_3);obtain ⟨kq,x24_19,rfl,HA,HJ19,HO_160003,BK159,BK160,HB⟩:=hcut
  cases kq with
  | zero=>exact absurd HA.out (by simp [table_Commit.j0])
  | succ kj19 =>
   have H:=HA.out;clear HA
   simp only [table_Commit.j0] at H
   by_cases c38 : x24_19=true
   ·subst c38
    have H1 : (some (t162,t163,t164,t165,0,2))=some (r1,r2,r3,r4,r5,r6):=by rw [if_pos rfl] at H;exact H
    clear H;have H:=H1;clear H1
    simp only [Option.some.injEq,Prod.mk.injEq] at H
    obtain ⟨rfl,rfl,rfl,rfl,rfl,rfl⟩:=H;have hnb39:=NB159_160.out;have hnc39:=NB160_159.out;obtain ⟨z40_0,z40_1,z40_2,z40_3⟩:=blkc_4 BK159.out;obtain ⟨y40_0,y40_1,y40_2,y40_3⟩:=blkz_4 BK159.out;obtain ⟨z41_0,z41_1,z41_2,z41_3⟩:=blkc_4 BK160.out;obtain ⟨y41_0,y41_1,y41_2,y41_3⟩:=blkz_4 BK160.out;go_wp2
    refine bodyPost_ret (results_ctt rfl _ _ gb160 26 #[.int .i64 t162,.int .i64 t163,.int .i64 t164,.slice Ao29 t165.length co29] (0,0) _ rfl (by refine kk_ ?_;apply blkf_4_0_3;exact kk_ BK160.out) Tryd.underlying26 rfl (by kernel_rfl)) rfl ?_
    exact ⟨_,by first|rfl|(simp [errW_none,errW_some] <;> rfl)|(simp [*,errW_none,errW_some] <;> rfl),by (with_reducible repeat (first|apply ra_|apply rn_|apply re_));exact Kd.R_mono (rf_ (p:=⟨gb160,3,none⟩) (rf_ (p:=⟨gb160,2,none⟩) (rf_ (p:=⟨gb160,1,none⟩) (rf_ (p:=⟨gb160,0,none⟩) (Kd.R_types HO_160003.out BK160.out (by decide)) (fun _ hk=>hk.2) (.int .i64 t162)) (fun _ hk=>hk.2) (.int .i64 t163)) (fun _ hk=>hk.2) (.int .i64 t164)) (fun _ hk=>hk.2) (.slice Ao29 t165.length co29)) (fun _ hk=>trivial),hb2_ HB.out GE159.out GE160.out⟩
   replace c38:=Bool.eq_false_iff.mpr c38
   subst c38
   have H1 : (if 0≤t168 then (if t168<(t165.length : Int) then ((some (t165.set (t168 : Int).toNat (⟨(rd_T56 t165 t168).f0,2,(rd_T56 t165 t168).f2,(rd_T56 t165 t168).f3⟩ : S56) : List (S56))).bind fun y170=>(some (t162,t163,wrap64 (t164 + 1),(y170.set (t168 : Int).toNat (⟨(rd_T56 y170 t168).f0,(rd_T56 y170 t168).f1,(rd_T56 y170 t168).f2,wrap64 (t164 + 1)⟩ : S56)),wrap64 (t164 + 1),0))) else (none)) else (none))=some (r1,r2,r3,r4,r5,r6):=by rw [if_neg (show ¬ (false=true) by decide)] at H;exact H
   clear H;have H:=H1;clear H1
   by_cases c42 : 0≤t168
   rotate_left
   ·rw [if_neg c42] at H
    exact absurd H (by simp)
   rw [if_pos c42] at H
   have c42b0 : decide (0≤t168)=true:=dt_ c42;clear c42
   by_cases c43 : t168<(t165.length : Int)
   rotate_left
   ·rw [if_neg c43] at H
    exact absurd H (by simp)
   rw [if_pos c43] at H
   have c43b0 : decide (t168<(t165.length : Int))=true:=dt_ c43;clear c43
   obtain ⟨y170,hy170⟩ : ∃ y_ : List (S56),y_=(t165.set (t168 : Int).toNat (⟨(rd_T56 t165 t168).f0,2,(rd_T56 t165 t168).f2,(rd_T56 t165 t168).f3⟩ : S56)):=⟨_,rfl⟩
   replace H : (some (t162,t163,wrap64 (t164 + 1),(y170.set (t168 : Int).toNat (⟨(rd_T56 y170 t168).f0,(rd_T56 y170 t168).f1,(rd_T56 y170 t168).f2,wrap64 (t164 + 1)⟩ : S56)),wrap64 (t164 + 1),0))=some (r1,r2,r3,r4,r5,r6):=by first|(rw [hy170];with_reducible exact H)|(have H2_:=(Option.bind_some _ _).symm.trans H;rw [hy170];with_reducible exact H2_)|(have H2_:=(Option.bind_some _ _).symm.trans H;with_reducible exact H2_)|with_reducible exact H|(rw [hy170];exact H)|exact H
   have Ny170:=A_ hy170;clear hy170
   obtain ⟨y171,hy171⟩ : ∃ y_ : List (S56),y_=(y170.set (t168 : Int).toNat (⟨(rd_T56 y170 t168).f0,(rd_T56 y170 t168).f1,(rd_T56 y170 t168).f2,wrap64 (t164 + 1)⟩ : S56)):=⟨_,rfl⟩
   replace H : (some (t162,t163,wrap64 (t164 + 1),y171,wrap64 (t164 + 1),0))=some (r1,r2,r3,r4,r5,r6):=by first|(rw [hy171];with_reducible exact H)|(have H2_:=(Option.bind_some _ _).symm.trans H;rw [hy171];with_reducible exact H2_)|(have H2_:=(Option.bind_some _ _).symm.trans H;with_reducible exact H2_)|with_reducible exact H|(rw [hy171];exact H)|exact H
   have Ny171:=A_ hy171;clear hy171
   simp only [Option.some.injEq,Prod.mk.injEq] at H
   obtain ⟨rfl,rfl,rfl,rfl,rfl,rfl⟩:=H;have hnb46:=NB159_160.out;have hnc46:=NB160_159.out;obtain ⟨z47_0,z47_1,z47_2,z47_3⟩:=blkc_4 BK159.out;obtain ⟨y47_0,y47_1,y47_2,y47_3⟩:=blkz_4 BK159.out
   try go_wp2
   have n0_ : Aside0 (Kd.R k56 56 (wc.setCell ⟨gb159,2,none⟩ (.int .i64 (wrap64 (t164 + 1)))) w.heap.size (fun _=>True) (.slice Ao29 t165.length co29) t165):=⟨by (with_reducible repeat (first|apply ra_|apply rn_|apply re_));exact Kd.R_mono (rf_ (p:=⟨gb159,2,none⟩) (Kd.R_types HO_160003.out BK159.out (by decide)) (fun _ hk=>hk.2) (.int .i64 (wrap64 (t164 + 1)))) (fun _ hk=>trivial)⟩
   have n1_ : Aside0 ((wc.setCell ⟨gb159,2,none⟩ (.int .i64 (wrap64 (t164 + 1)))).heap[gb159]?=some (.cells #[.int .i64 t162,.int .i64 t163,.int .i64 (wrap64 (t164 + 1)),.slice Ao29 t165.length co29] 26 (0,0))):=⟨by refine kk_ ?_;refine blk_put (cs:=#[.int .i64 t162,.int .i64 t163,.int .i64 t164,.slice Ao29 t165.length co29]) ?_ 2 _ rfl;exact kk_ BK159.out⟩
   have n2_ : Aside0 ((wc.setCell ⟨gb159,2,none⟩ (.int .i64 (wrap64 (t164 + 1)))).heap[gb160]?=some (.cells #[.int .i64 0,.int .i64 0,.int .i64 0,.slice none 0 0] 26 (0,0))):=⟨by refine kk_ ?_;refine blk_far ?_ NB160_159.out _;exact kk_ BK160.out⟩
   have n3_ : Aside0 (Below w.heap.size w (wc.setCell ⟨gb159,2,none⟩ (.int .i64 (wrap64 (t164 + 1))))):=⟨hb2_ HB.out GE159.out GE160.out⟩;(try clear HO_160003);(try clear BK159);(try clear BK160);(try clear HB)
   generalize (wc.setCell ⟨gb159,2,none⟩ (.int .i64 (wrap64 (t164 + 1))))=w48 at n0_ n1_ n2_ n3_ ⊢
   have HO_160003:=n0_;have BK159:=n1_;have BK160:=n2_;have HB:=n3_;clear n0_ n1_ n2_ n3_;have n0_:=A_ (re_ HO_160003.out);have n1_:=A_ (ke_ BK159.out);have n2_:=A_ (ke_ BK160.out);have n3_:=A_ (be_ HB.out);clear HO_160003;clear BK159;clear BK160;clear HB;have HO_160003:=n0_;have BK159:=n1_;have BK160:=n2_;have HB:=n3_;clear n0_ n1_ n2_ n3_
   have p44 : 0≤(t168 : Int):=od_ (by first|(with_reducible assumption)|assumption)
   have q44 : (t168 : Int)<((t165.length : Int) : Int):=od_ (by first|(with_reducible assumption)|assumption)
   obtain ⟨go44,co44,eo44,gb44,gl44,cl44,HG44⟩:=Kd.R_form HO_160003.out (by omega)
   (first|cases eo44|(injection eo44 with ea_ en_ ec_;(first|subst ea_|(injection ea_ with ea_;subst ea_));subst ec_;clear en_))
   have GB44:=A_ gb44;have GG44:=A_ HG44;clear gb44 gl44 HG44;obtain ⟨ce44,hcl44,hM44,hcc44,hfr44⟩:=Kd.R_elem HO_160003.out z56 (t168 : Int) p44 q44;obtain rfl:=k56_openM hM44;have hx44_0 : World.cell? _ ⟨go44,(t168 : Int).toNat * 4,none⟩=some (.int .i64 ((rd_T56 t165 t168).f0)):=hcc44 0 _ rfl;have hx44_1 : World.cell? _ ⟨go44,(t168 : Int).toNat * 4 + 1,none⟩=some (.int .i64 ((rd_T56 t165 t168).f1)):=hcc44 1 _ rfl;have hx44_2 : World.cell? _ ⟨go44,(t168 : Int).toNat * 4 + 2,none⟩=some (.int .i64 ((rd_T56 t165 t168).f2)):=hcc44 2 _ rfl;have hx44_3 : World.cell? _ ⟨go44,(t168 : Int).toNat * 4 + 3,none⟩=some (.int .i64 ((rd_T56 t165 t168).f3)):=hcc44 3 _ rfl;have hf44_0 : World.frozen? _ ⟨go44,(t168 : Int).toNat * 4,none⟩=false:=hfr44 0;have hf44_1 : World.frozen? _ ⟨go44,(t168 : Int).toNat * 4 + 1,none⟩=false:=hfr44 1;have hf44_2 : World.frozen? _ ⟨go44,(t168 : Int).toNat * 4 + 2,none⟩=false:=hfr44 2;have hf44_3 : World.frozen? _ ⟨go44,(t168 : Int).toNat * 4 + 3,none⟩=false:=hfr44 3;clear hcl44 hcc44 hfr44 hM44;replace p44:=eq_true p44;replace q44:=eq_true q44
   obtain ⟨ce50,hcl50,hM50,hcc50,hfr50⟩:=Kd.R_elem HO_160003.out z56 (t168 : Int) (od_ (by first|(with_reducible assumption)|assumption)) (by have h_ : (t168 : Int)<((t165.length : Int) : Int):=od_ (by first|(with_reducible assumption)|assumption);first|exact h_|(have e_:=(Kd.R_reads' HO_160003.out).1;omega)|simpa using h_)
   obtain rfl:=k56_openM hM50
   have HP50:=(Kd.R_seg HO_160003.out (t168 : Int) (od_ (by first|(with_reducible assumption)|assumption)) (by have h_ : (t168 : Int)<((t165.length : Int) : Int):=od_ (by first|(with_reducible assumption)|assumption);first|exact h_|(have e_:=(Kd.R_reads' HO_160003.out).1;omega)|simpa using h_) (seg:=[.int .i64 2]) (j:=1) hcl50 hcc50 (show 2≤4 from by decide) (x':=(⟨(rd_T56 t165 t168).f0,2,(rd_T56 t165 t168).f2,(rd_T56 t165 t168).f3⟩ : S56)) (k56_mkM _ _ _ (⟨(rd_T56 t165 t168).f0,2,(rd_T56 t165 t168).f2,(rd_T56 t165 t168).f3⟩ : S56) ) (fun _ hk=>hk)).1
   rw [← Ny170.out] at HP50;have HQ50:=A_ HP50;clear hcl50 hcc50 hfr50 hM50 HP50
   have p45 : 0≤(t168 : Int):=od_ (by first|(with_reducible assumption)|assumption)
   have q45 : (t168 : Int)<((t165.length : Int) : Int):=od_ (by first|(with_reducible assumption)|assumption)
   replace p45:=eq_true p45;replace q45:=eq_true q45
   obtain ⟨ce51,hcl51,hM51,hcc51,hfr51⟩:=Kd.R_elem HQ50.out z56 (t168 : Int) (od_ (by first|(with_reducible assumption)|assumption)) (by have h_ : (t168 : Int)<((t165.length : Int) : Int):=od_ (by first|(with_reducible assumption)|assumption);first|exact h_|(have e_:=(Kd.R_reads' HO_160003.out).1;omega)|simpa using h_)
   obtain rfl:=k56_openM hM51
   have HP51:=(Kd.R_seg HQ50.out (t168 : Int) (od_ (by first|(with_reducible assumption)|assumption)) (by have h_ : (t168 : Int)<((t165.length : Int) : Int):=od_ (by first|(with_reducible assumption)|assumption);first|exact h_|(have e_:=(Kd.R_reads' HO_160003.out).1;omega)|simpa using h_) (seg:=[.int .i64 (wrap64 (t164 + 1))]) (j:=3) hcl51 hcc51 (show 4≤4 from by decide) (x':=(⟨(rd_T56 y170 t168).f0,(rd_T56 y170 t168).f1,(rd_T56 y170 t168).f2,wrap64 (t164 + 1)⟩ : S56)) (k56_mkM _ _ _ (⟨(rd_T56 y170 t168).f0,(rd_T56 y170 t168).f1,(rd_T56 y170 t168).f2,wrap64 (t164 + 1)⟩ : S56) ) (fun _ hk=>hk)).1
   rw [← Ny171.out] at HP51;have HQ51:=A_ HP51;clear hcl51 hcc51 hfr51 hM51 HP51
   refine start_ (n:=14) (S:=fun w'=>w'.cell? ⟨gb159,0,none⟩=some (.int .i64 t162)∧w'.cell? ⟨gb159,1,none⟩=some (.int .i64 t163)∧w'.cell? ⟨gb159,2,none⟩=some (.int .i64 (wrap64 (t164 + 1)))∧w'.cell? ⟨gb159,3,none⟩=some (.slice (some ⟨go44,0,none⟩) t165.length co29)) (ds:=[13]) #[Z,Z,Z,Z,Z,Z,Z,Z,Z,Z,Z,Z,Z,Z] (by kernel_rfl) rfl rfl ⟨(bc_ BK159.out 0).trans rfl,(bc_ BK159.out 1).trans rfl,(bc_ BK159.out 2).trans rfl,(bc_ BK159.out 3).trans rfl⟩ (fun hHeld=>?_);refine with_tabW table_Commit.tab11 table_Commit.bits11 (fun HT_ HW_=>?_)
   generalize w48.drew=w49 at HO_160003 BK159 BK160 HB GG44 HQ50 HQ51 hf44_0 hf44_1 hf44_2 hf44_3 hx44_0 hx44_1 hx44_2 hx44_3 hHeld ⊢
   refine pu_ (i:=0) (N:=some 42) (v:=?_) (a':=?_) #[Y,Z,Z,Z,Z,Z,Z,Z,Z,Z,Z,Z,Z,Z] rfl rfl HT_.out (by kernel_rfl) (fun _ _ _ h=>h) (by rfl) ?_ ?_ ?_;rotate_left;(intro w';go_simp;with_reducible rfl);rotate_left;(simp only [Act.put,q1_,q2_,q3_,i64_w,i32_w];rfl)
   refine pu_ (i:=2) (N:=some 44) (v:=?_) (a':=?_) #[Y,Z,Y,Z,Z,Z,Z,Z,Z,Z,Z,Z,Z,Z] rfl rfl HT_.out (by kernel_rfl) (fun _ _ _ h=>h) (by rfl) ?_ ?_ ?_;rotate_left;(intro w';go_simp;with_reducible rfl);rotate_left;(simp only [Act.put,q1_,q2_,q3_,i64_w,i32_w];rfl)
   refine pu_ (i:=3) (N:=some 45) (v:=?_) (a':=?_) #[Y,Z,Y,Y,Z,Z,Z,Z,Z,Z,Z,Z,Z,Z] rfl rfl HT_.out (by kernel_rfl) (fun _ _ _ h=>h) (by rfl) ?_ ?_ ?_;rotate_left;(intro w';go_simp;with_reducible rfl);rotate_left;(simp only [Act.put,q1_,q2_,q3_,i64_w,i32_w];rfl)
   refine pu_ (i:=5) (N:=some 47) (v:=?_) (a':=?_) #[Y,Z,Y,Y,Z,Y,Z,Z,Z,Z,Z,Z,Z,Z] rfl rfl HT_.out (by kernel_rfl) (fun _ _ _ h=>h) (by rfl) ?_ ?_ ?_;rotate_left;(intro w';go_simp;with_reducible rfl);rotate_left;(simp only [Act.put,q1_,q2_,q3_,i64_w,i32_w];rfl)
   refine pu_ (i:=6) (N:=some 48) (v:=?_) (a':=?_) #[Y,Z,Y,Y,Z,Y,Y,Z,Z,Z,Z,Z,Z,Z] rfl rfl HT_.out (by kernel_rfl) (fun _ _ _ h=>h) (by rfl) ?_ ?_ ?_;rotate_left;(intro w';go_simp;with_reducible rfl);rotate_left;(simp only [Act.put,q1_,q2_,q3_,i64_w,i32_w];rfl)
   refine ta_ (i:=1) (N:=some 43) (v:=?_) (a':=?_) #[Y,Y,Y,Y,Z,Y,Y,Z,Z,Z,Z,Z,Z,Z] rfl rfl HT_.out HW_.out (by kernel_rfl) (fun _ _ _ h=>h) (by rfl) ?_ hHeld ?_ ?_;rotate_left;(rintro w' ⟨s0,s1,s2,s3⟩;go_simp;with_reducible rfl);rotate_left;(simp only [Act.put,q1_,q2_,q3_,i64_w,i32_w];rfl)
   refine pu_ (i:=8) (N:=some 50) (v:=?_) (a':=?_) #[Y,Y,Y,Y,Z,Y,Y,Z,Y,Z,Z,Z,Z,Z] rfl rfl HT_.out (by kernel_rfl) (fun _ _ _ h=>h) (by rfl) ?_ ?_ ?_;rotate_left;(intro w';go_simp;with_reducible rfl);rotate_left;(simp only [Act.put,q1_,q2_,q3_,i64_w,i32_w];rfl)
   refine pu_ (i:=9) (N:=some 51) (v:=?_) (a':=?_) #[Y,Y,Y,Y,Z,Y,Y,Z,Y,Y,Z,Z,Z,Z] rfl rfl HT_.out (by kernel_rfl) (fun _ _ _ h=>h) (by rfl) ?_ ?_ ?_;rotate_left;(intro w';go_simp;with_reducible rfl);rotate_left;(simp only [Act.put,q1_,q2_,q3_,i64_w,i32_w];rfl)
   refine ta_ (i:=4) (N:=some 46) (v:=?_) (a':=?_) #[Y,Y,Y,Y,Y,Y,Y,Z,Y,Y,Z,Z,Z,Z] rfl rfl HT_.out HW_.out (by kernel_rfl) (fun _ _ _ h=>h) (by rfl) ?_ hHeld ?_ ?_;rotate_left;(rintro w' ⟨s0,s1,s2,s3⟩;go_simp;with_reducible rfl);rotate_left;(simp only [Act.put,q1_,q2_,q3_,i64_w,i32_w];rfl)
   refine ta_ (i:=7) (N:=some 49) (v:=?_) (a':=?_) #[Y,Y,Y,Y,Y,Y,Y,Y,Y,Y,Z,Z,Z,Z] rfl rfl HT_.out HW_.out (by kernel_rfl) (fun _ _ _ h=>h) (by rfl) ?_ hHeld ?_ ?_;rotate_left;(rintro w' ⟨s0,s1,s2,s3⟩;go_simp;with_reducible rfl);rotate_left;(simp only [Act.put,q1_,q2_,q3_,i64_w,i32_w];rfl)
   refine one_ (i:=10) (N:=none) #[Y,Y,Y,Y,Y,Y,Y,Y,Y,Y,Y,Z,Z,Z] rfl rfl (one_of HT_.out (by kernel_rfl)) (by decide) (fun K hK=>?_)
   refine skip_ (w1:=?_) (by rfl) rfl ?_ ?_
   rotate_left
   ·go_simp
    rfl
   refine hK.out _ _ ⟨((cell_far (p:=⟨go44,_,none⟩) (by have h_:=Kd.R_ne HO_160003.out BK159.out (by decide);intro e_;exact h_ (congrArg some e_)) _).trans (hHeld.1)),((cell_far (p:=⟨go44,_,none⟩) (by have h_:=Kd.R_ne HO_160003.out BK159.out (by decide);intro e_;exact h_ (congrArg some e_)) _).trans (hHeld.2.1)),((cell_far (p:=⟨go44,_,none⟩) (by have h_:=Kd.R_ne HO_160003.out BK159.out (by decide);intro e_;exact h_ (congrArg some e_)) _).trans (hHeld.2.2.1)),((cell_far (p:=⟨go44,_,none⟩) (by have h_:=Kd.R_ne HO_160003.out BK159.out (by decide);intro e_;exact h_ (congrArg some e_)) _).trans (hHeld.2.2.2))⟩ (fun hHeld=>?_)
   clear hK K
   refine pu_ (i:=11) (N:=some 52) (v:=?_) (a':=?_) #[Y,Y,Y,Y,Y,Y,Y,Y,Y,Y,Y,Y,Z,Z] rfl rfl HT_.out (by kernel_rfl) (fun _ _ _ h=>h) (by rfl) ?_ ?_ ?_;rotate_left;(intro w';go_simp;with_reducible rfl);rotate_left;(simp only [Act.put,q1_,q2_,q3_,i64_w,i32_w];rfl)
   refine pu_ (i:=12) (N:=some 53) (v:=?_) (a':=?_) #[Y,Y,Y,Y,Y,Y,Y,Y,Y,Y,Y,Y,Y,Z] rfl rfl HT_.out (by kernel_rfl) (fun _ _ _ h=>h) (by rfl) ?_ ?_ ?_;rotate_left;(intro w';go_simp;with_reducible rfl);rotate_left;(simp only [Act.put,q1_,q2_,q3_,i64_w,i32_w];rfl)
   refine last_ (i:=13) (N:=none) #[Y,Y,Y,Y,Y,Y,Y,Y,Y,Y,Y,Y,Y,Y] rfl rfl (one_of HT_.out (by kernel_rfl)) (by decide) (fun K hK=>?_)
   refine skip_ (w1:=?_) (by rfl) rfl ?_ ?_
   rotate_left
   ·go_simp
    rfl
   refine hK.out _ _ ?_;clear hK K;refine done_ (done_of HT_.out (by kernel_rfl)) ?_
   have n0_ : Aside0 (Kd.R k56 56 ((w49.setCell ⟨go44,(t168 : Int).toNat * 4 + 1,none⟩ (.int .i64 2)).setCell ⟨go44,(t168 : Int).toNat * 4 + 3,none⟩ (.int .i64 (wrap64 (t164 + 1)))) w.heap.size (fun _=>True) (.slice (some ⟨go44,0,none⟩) t165.length co29) y171):=⟨by (with_reducible repeat (first|apply ra_|apply rn_|apply re_));exact HQ51.out⟩
   have n1_ : Aside0 (((w49.setCell ⟨go44,(t168 : Int).toNat * 4 + 1,none⟩ (.int .i64 2)).setCell ⟨go44,(t168 : Int).toNat * 4 + 3,none⟩ (.int .i64 (wrap64 (t164 + 1)))).heap[gb159]?=some (.cells #[.int .i64 t162,.int .i64 t163,.int .i64 (wrap64 (t164 + 1)),.slice (some ⟨go44,0,none⟩) t165.length co29] 26 (0,0))):=⟨by refine kk_ ?_;refine blk_far ?_ (by have h_:=Kd.R_ne HO_160003.out BK159.out (by decide);intro e_;exact h_ (by rw [e_];rfl)) _;refine kk_ ?_;refine blk_far ?_ (by have h_:=Kd.R_ne HO_160003.out BK159.out (by decide);intro e_;exact h_ (by rw [e_];rfl)) _;exact kk_ BK159.out⟩
   have n2_ : Aside0 (((w49.setCell ⟨go44,(t168 : Int).toNat * 4 + 1,none⟩ (.int .i64 2)).setCell ⟨go44,(t168 : Int).toNat * 4 + 3,none⟩ (.int .i64 (wrap64 (t164 + 1)))).heap[gb160]?=some (.cells #[.int .i64 0,.int .i64 0,.int .i64 0,.slice none 0 0] 26 (0,0))):=⟨by refine kk_ ?_;refine blk_far ?_ (by have h_:=Kd.R_ne HO_160003.out BK160.out (by decide);intro e_;exact h_ (by rw [e_];rfl)) _;refine kk_ ?_;refine blk_far ?_ (by have h_:=Kd.R_ne HO_160003.out BK160.out (by decide);intro e_;exact h_ (by rw [e_];rfl)) _;exact kk_ BK160.out⟩
   have n3_ : Aside0 (Below w.heap.size w ((w49.setCell ⟨go44,(t168 : Int).toNat * 4 + 1,none⟩ (.int .i64 2)).setCell ⟨go44,(t168 : Int).toNat * 4 + 3,none⟩ (.int .i64 (wrap64 (t164 + 1))))):=⟨hb4_ HB.out GB44.out GB44.out GE159.out GE160.out⟩;(try clear HO_160003);(try clear BK159);(try clear BK160);(try clear HB)
   generalize ((w49.setCell ⟨go44,(t168 : Int).toNat * 4 + 1,none⟩ (.int .i64 2)).setCell ⟨go44,(t168 : Int).toNat * 4 + 3,none⟩ (.int .i64 (wrap64 (t164 + 1))))=w52 at n0_ n1_ n2_ n3_ ⊢
   have HO_160003:=n0_;have BK159:=n1_;have BK160:=n2_;have HB:=n3_;clear n0_ n1_ n2_ n3_
   try go_wp2
   have n0_:=A_ (re_ HO_160003.out);have n1_:=A_ (ke_ BK159.out);have n2_:=A_ (ke_ BK160.out);have n3_:=A_ (be_ HB.out);clear HO_160003;clear BK159;clear BK160;clear HB;have HO_160003:=n0_;have BK159:=n1_;have BK160:=n2_;have HB:=n3_;clear n0_ n1_ n2_ n3_
   refine start_ (n:=6) (S:=fun w'=>w'.cell? ⟨gb159,0,none⟩=some (.int .i64 t162)∧w'.cell? ⟨gb159,1,none⟩=some (.int .i64 t163)∧w'.cell? ⟨gb159,2,none⟩=some (.int .i64 (wrap64 (t164 + 1)))∧w'.cell? ⟨gb159,3,none⟩=some (.slice (some ⟨go44,0,none⟩) t165.length co29)) (ds:=[]) #[Z,Z,Z,Z,Z,Z] (by kernel_rfl) rfl rfl ⟨(bc_ BK159.out 0).trans rfl,(bc_ BK159.out 1).trans rfl,(bc_ BK159.out 2).trans rfl,(bc_ BK159.out 3).trans rfl⟩ (fun hHeld=>?_)
   generalize w52.drew=w53 at HO_160003 BK159 BK160 HB hHeld ⊢
   refine pure_ (i:=1) (N:=some 55) (v:=?_) (a':=?_) #[Z,Y,Z,Z,Z,Z] rfl rfl (by kernel_rfl) (fun _ _ _ h=>h) (Or.inl ⟨by rfl,?_⟩) ?_ ?_;rotate_left;(intro w';go_simp;with_reducible rfl);rotate_left;(simp only [Act.put,q1_,q2_,q3_,i64_w,i32_w];rfl)
   refine take_ (i:=0) (N:=some 54) (v:=?_) (a':=?_) #[Y,Y,Z,Z,Z,Z] rfl rfl (by kernel_rfl) (fun _ _ _ h=>h) (Or.inl ⟨by rfl,?_⟩) hHeld ?_ ?_;rotate_left;(rintro w' ⟨s0,s1,s2,s3⟩;go_simp;with_reducible rfl);rotate_left;(simp only [Act.put,q1_,q2_,q3_,i64_w,i32_w];rfl)
   refine take_ (i:=2) (N:=some 56) (v:=?_) (a':=?_) #[Y,Y,Y,Z,Z,Z] rfl rfl (by kernel_rfl) (fun _ _ _ h=>h) (Or.inl ⟨by rfl,?_⟩) hHeld ?_ ?_;rotate_left;(rintro w' ⟨s0,s1,s2,s3⟩;go_simp;with_reducible rfl);rotate_left;(simp only [Act.put,q1_,q2_,q3_,i64_w,i32_w];rfl)
   refine one_ (i:=3) (N:=none) #[Y,Y,Y,Y,Z,Z] rfl rfl (by kernel_rfl) (by decide) (fun K hK=>?_)
   have hs54 : w53.cell? ⟨gb160,0,none⟩=some (.int .i64 0):=(bc_ BK160.out 0).trans rfl;have hfs54:=bf_ BK160.out 0;have hns54_0:=NB159_160.out;have hms54_0:=NB160_159.out;have hs55 : w53.cell? ⟨gb160,1,none⟩=some (.int .i64 0):=(bc_ BK160.out 1).trans rfl;have hfs55:=bf_ BK160.out 1;have hns55_0:=NB159_160.out;have hms55_0:=NB160_159.out;have hs56 : w53.cell? ⟨gb160,2,none⟩=some (.int .i64 0):=(bc_ BK160.out 2).trans rfl;have hfs56:=bf_ BK160.out 2;have hns56_0:=NB159_160.out;have hms56_0:=NB160_159.out;have hs57 : w53.cell? ⟨gb160,3,none⟩=some (.slice none 0 0):=(bc_ BK160.out 3).trans rfl;have hfs57:=bf_ BK160.out 3;have hns57_0:=NB159_160.out;have hms57_0:=NB160_159.out
   refine skip_ (w1:=?_) (by rfl) rfl ?_ ?_
   rotate_left
   ·go_simp
    rfl
   refine hK.out _ _ ⟨((cell_far (p:=⟨gb160,_,none⟩) NB159_160.out _).trans (((cell_far (p:=⟨gb160,_,none⟩) NB159_160.out _).trans (((cell_far (p:=⟨gb160,_,none⟩) NB159_160.out _).trans (((cell_far (p:=⟨gb160,_,none⟩) NB159_160.out _).trans (hHeld.1)))))))),((cell_far (p:=⟨gb160,_,none⟩) NB159_160.out _).trans (((cell_far (p:=⟨gb160,_,none⟩) NB159_160.out _).trans (((cell_far (p:=⟨gb160,_,none⟩) NB159_160.out _).trans (((cell_far (p:=⟨gb160,_,none⟩) NB159_160.out _).trans (hHeld.2.1)))))))),((cell_far (p:=⟨gb160,_,none⟩) NB159_160.out _).trans (((cell_far (p:=⟨gb160,_,none⟩) NB159_160.out _).trans (((cell_far (p:=⟨gb160,_,none⟩) NB159_160.out _).trans (((cell_far (p:=⟨gb160,_,none⟩) NB159_160.out _).trans (hHeld.2.2.1)))))))),((cell_far (p:=⟨gb160,_,none⟩) NB159_160.out _).trans (((cell_far (p:=⟨gb160,_,none⟩) NB159_160.out _).trans (((cell_far (p:=⟨gb160,_,none⟩) NB159_160.out _).trans (((cell_far (p:=⟨gb160,_,none⟩) NB159_160.out _).trans (hHeld.2.2.2))))))))⟩ (fun hHeld=>?_)
   clear hK K
   refine pure_ (i:=4) (N:=some 5) (v:=?_) (a':=?_) #[Y,Y,Y,Y,Y,Z] rfl rfl (by kernel_rfl) (fun _ _ _ h=>h) (Or.inl ⟨by rfl,?_⟩) ?_ ?_;rotate_left;(intro w';go_simp;with_reducible rfl);rotate_left;(simp only [Act.put,q1_,q2_,q3_,i64_w,i32_w];rfl)
   refine pure_ (i:=5) (N:=some 6) (v:=?_) (a':=?_) #[Y,Y,Y,Y,Y,Y] rfl rfl (by kernel_rfl) (fun _ _ _ h=>h) (Or.inl ⟨by rfl,?_⟩) ?_ ?_;rotate_left;(intro w';go_simp;with_reducible rfl);rotate_left;(simp only [Act.put,q1_,q2_,q3_,i64_w,i32_w];rfl)
   refine done_ (by kernel_rfl) ?_
   try go_wp2
   refine bodyPost_ret (results_ctt rfl _ _ gb160 26 #[.int .i64 t162,.int .i64 t163,.int .i64 (wrap64 (t164 + 1)),.slice (some ⟨go44,0,none⟩) t165.length co29] (0,0) _ rfl (by refine kk_ ?_;apply blkf_4_0_3;exact kk_ BK160.out) Tryd.underlying26 rfl (by kernel_rfl)) rfl ?_
   exact ⟨_,by first|rfl|(simp [errW_none,errW_some] <;> rfl)|(simp [*,errW_none,errW_some] <;> rfl),by (with_reducible repeat (first|apply ra_|apply rn_|apply re_));exact Kd.R_mono (rf_ (p:=⟨gb160,3,none⟩) (rf_ (p:=⟨gb160,2,none⟩) (rf_ (p:=⟨gb160,1,none⟩) (rf_ (p:=⟨gb160,0,none⟩) (Kd.R_types HO_160003.out BK160.out (by decide)) (fun _ hk=>hk.2) (.int .i64 t162)) (fun _ hk=>hk.2) (.int .i64 t163)) (fun _ hk=>hk.2) (.int .i64 (wrap64 (t164 + 1)))) (fun _ hk=>hk.2) (.slice (some ⟨go44,0,none⟩) t165.length co29)) (fun _ hk=>trivial),hb2_ HB.out GE159.out GE160.out⟩
def humuslaw11_awake.j0 : Nat→Bool→Option (Bool)
 | 0,_=>none
 | k + 1,x0=>some x0
def humuslaw11_awake.f (k : Nat)  : Option (Bool):=(table_First.f).bind fun bt172=>((table_Enter.f k bt172.1 bt172.2.1 bt172.2.2.1 bt172.2.2.2 5).bind fun bt178=>((table_Commit.f k bt178.1 bt178.2.1 bt178.2.2.1 bt178.2.2.2.1 5).bind fun bt187=>(if bt178.2.2.2.2.2=0 then (if bt187.2.2.2.2.2=0 then (if bt178.2.2.2.2.1=0 then (if bt187.2.2.2.2.1=1 then (if bt187.1=6 then ((table_Eldest.f k bt187.1 bt187.2.1 bt187.2.2.1 bt187.2.2.2.1).bind fun t195=>(humuslaw11_awake.j0 k (t195 == 5))) else (humuslaw11_awake.j0 k false)) else (humuslaw11_awake.j0 k false)) else (humuslaw11_awake.j0 k false)) else (humuslaw11_awake.j0 k false)) else (humuslaw11_awake.j0 k false))))
theorem humuslaw11_awake.mono_l : ∀ k,(∀ y0,LeO (humuslaw11_awake.j0 k y0) (humuslaw11_awake.j0 (k + 1) y0))
 | 0=>fun _ r h=>by simp [humuslaw11_awake.j0] at h
 | k + 1=>by
  have ih0:=humuslaw11_awake.mono_l k
  ·intro y0
   unfold humuslaw11_awake.j0
   repeat' first
   | (with_reducible exact ih0 _)
   | (with_reducible exact table_Commit.mono _ _ _ _ _ _)
   | (with_reducible exact table_Eldest.mono _ _ _ _ _)
   | (with_reducible exact table_Enter.mono _ _ _ _ _ _)
   | (with_reducible exact LeO.refl _)
   | (with_reducible exact LeO.none _)
   | (with_reducible refine LeO.ite ?_ ?_)
   | (with_reducible refine LeO.bind ?_ (fun _=>?_))
   | exact ih0 _
   | exact table_Commit.mono _ _ _ _ _ _
   | exact table_Eldest.mono _ _ _ _ _
   | exact table_Enter.mono _ _ _ _ _ _
   | exact LeO.none _
   | refine LeO.ite ?_ ?_
   | refine LeO.bind ?_ (fun _=>?_)
theorem humuslaw11_awake.mono : ∀ k,LeO (humuslaw11_awake.f k ) (humuslaw11_awake.f (k + 1) ):=by
 intro  k;have ih0:=humuslaw11_awake.mono_l k
 unfold humuslaw11_awake.f
 repeat' first
   | (with_reducible exact ih0 _)
   | (with_reducible exact table_Commit.mono _ _ _ _ _ _)
   | (with_reducible exact table_Eldest.mono _ _ _ _ _)
   | (with_reducible exact table_Enter.mono _ _ _ _ _ _)
   | (with_reducible exact LeO.refl _)
   | (with_reducible exact LeO.none _)
   | (with_reducible refine LeO.ite ?_ ?_)
   | (with_reducible refine LeO.bind ?_ (fun _=>?_))
   | exact ih0 _
   | exact table_Commit.mono _ _ _ _ _ _
   | exact table_Eldest.mono _ _ _ _ _
   | exact table_Enter.mono _ _ _ _ _ _
   | exact LeO.none _
   | refine LeO.ite ?_ ?_
   | refine LeO.bind ?_ (fun _=>?_)
set_option maxHeartbeats 8000000 in
set_option maxRecDepth 100000 in
theorem humuslaw11_awake.calls (k : Nat)  (r : Bool) (w : World) (h : humuslaw11_awake.f k  = some r) :
  Calls Tryd.prog 5 #[] w fun e w'=>e=.returned (.bool r)∧Below w.heap.size w w':=by
 have hu26:=Tryd.underlying26;have HB:=A_ (Below.refl w.heap.size w)
 have H : ((table_First.f).bind fun bt172=>((table_Enter.f k bt172.1 bt172.2.1 bt172.2.2.1 bt172.2.2.2 5).bind fun bt178=>((table_Commit.f k bt178.1 bt178.2.1 bt178.2.2.1 bt178.2.2.2.1 5).bind fun bt187=>(if bt178.2.2.2.2.2=0 then (if bt187.2.2.2.2.2=0 then (if bt178.2.2.2.2.1=0 then (if bt187.2.2.2.2.1=1 then (if bt187.1=6 then ((table_Eldest.f k bt187.1 bt187.2.1 bt187.2.2.1 bt187.2.2.2.1).bind fun t195=>(humuslaw11_awake.j0 k (t195 == 5))) else (humuslaw11_awake.j0 k false)) else (humuslaw11_awake.j0 k false)) else (humuslaw11_awake.j0 k false)) else (humuslaw11_awake.j0 k false)) else (humuslaw11_awake.j0 k false)))))=some r:=h
 clear h;replace H:=Option.bind_eq_some_iff.mp H;obtain ⟨⟨t172,t173,t174,t175⟩,A10,H⟩:=H
 replace H : ((table_Enter.f k t172 t173 t174 t175 5).bind fun bt178=>((table_Commit.f k bt178.1 bt178.2.1 bt178.2.2.1 bt178.2.2.2.1 5).bind fun bt187=>(if bt178.2.2.2.2.2=0 then (if bt187.2.2.2.2.2=0 then (if bt178.2.2.2.2.1=0 then (if bt187.2.2.2.2.1=1 then (if bt187.1=6 then ((table_Eldest.f k bt187.1 bt187.2.1 bt187.2.2.1 bt187.2.2.2.1).bind fun t195=>(humuslaw11_awake.j0 k (t195 == 5))) else (humuslaw11_awake.j0 k false)) else (humuslaw11_awake.j0 k false)) else (humuslaw11_awake.j0 k false)) else (humuslaw11_awake.j0 k false)) else (humuslaw11_awake.j0 k false))))=some r:=H
 have A1:=A_ A10;clear A10;replace H:=Option.bind_eq_some_iff.mp H;obtain ⟨⟨t178,t179,t180,t181,t184,t185⟩,A20,H⟩:=H
 replace H : ((table_Commit.f k t178 t179 t180 t181 5).bind fun bt187=>(if t185=0 then (if bt187.2.2.2.2.2=0 then (if t184=0 then (if bt187.2.2.2.2.1=1 then (if bt187.1=6 then ((table_Eldest.f k bt187.1 bt187.2.1 bt187.2.2.1 bt187.2.2.2.1).bind fun t195=>(humuslaw11_awake.j0 k (t195 == 5))) else (humuslaw11_awake.j0 k false)) else (humuslaw11_awake.j0 k false)) else (humuslaw11_awake.j0 k false)) else (humuslaw11_awake.j0 k false)) else (humuslaw11_awake.j0 k false)))=some r:=H
 have A2:=A_ A20;clear A20;replace H:=Option.bind_eq_some_iff.mp H;obtain ⟨⟨t187,t188,t189,t190,t193,t194⟩,A30,H⟩:=H
 replace H : (if t185=0 then (if t194=0 then (if t184=0 then (if t193=1 then (if t187=6 then ((table_Eldest.f k t187 t188 t189 t190).bind fun t195=>(humuslaw11_awake.j0 k (t195 == 5))) else (humuslaw11_awake.j0 k false)) else (humuslaw11_awake.j0 k false)) else (humuslaw11_awake.j0 k false)) else (humuslaw11_awake.j0 k false)) else (humuslaw11_awake.j0 k false))=some r:=H
 have A3:=A_ A30;clear A30;have HC4:=A_ H;clear H;go_enter Tryd.func5,Tryd.ntmps5
 go_upto_region 3 with (first|((with_reducible refine gate_callee (f:=9) rfl ?_);refine goesL_ (some 7) rfl rfl Tryd.func9 (by kernel_rfl) rfl #[] rfl (by (try simp only [List.map_toArray,List.map_cons,List.map_nil]);first|done|rfl|(simp only [List.length_drop,List.length_take];rfl)) ?_;(with_reducible refine (table_First.calls  t172 t173 t174 t175 _ A1.out).mono ?_);rintro e w5 ⟨v176,rfl,ho0,hb⟩;refine ⟨_,rfl,?_⟩;have n0_:=A_ (Kd.R_lower ho0 (bz_ (hb0_ HB.out)));have n1_:=A_ (bp_ (hb0_ HB.out) hb);clear HB;have HO177:=n0_;have HB:=n1_;clear n0_ n1_;(try clear hb);(try clear hb2);(try clear hk);(try clear hi);(try clear ho0);obtain ⟨Ao6,co6,eo6⟩:=Kd.R_slice HO177.out;subst eo6)|((with_reducible refine gate_callee (f:=18) rfl ?_);refine goesL_ (some 8) rfl rfl Tryd.func18 (by kernel_rfl) rfl #[.agg #[.int .i64 t172,.int .i64 t173,.int .i64 t174,.slice Ao6 t175.length co6],.int .i64 5] rfl (by (try simp only [List.map_toArray,List.map_cons,List.map_nil]);first|done|rfl|(simp only [List.length_drop,List.length_take];rfl)) ?_;(with_reducible refine (table_Enter.calls k t172 t173 t174 _ _ t175 5 t178 t179 t180 t181 t184 t185 _ ?side1 ?side2 A2.out).mono ?_);(case side1=>repeat (first|exact (Kd.R_reads' HO177.out).2.2|(with_reducible refine Kd.C_alloc ?_ _)|(with_reducible refine Kd.C_drewN ?_ _)|(with_reducible refine Kd.C_drew ?_)));(case side2=>exact (Kd.R_reads' HO177.out).2.1);rintro e w7 ⟨v182,rfl,ho0,hb⟩;refine ⟨_,rfl,?_⟩;have n0_:=A_ (Kd.R_elder' (by (with_reducible repeat (first|apply ra_|apply rn_|apply re_));exact HO177.out) (Kd.R_base ho0) hb);have n1_:=A_ (Kd.R_lower (Kd.R_new' ho0 (Kd.R_lt (by (with_reducible repeat (first|apply ra_|apply rn_|apply re_));exact HO177.out))) (bz_ (hb0_ HB.out)));have n2_:=A_ (bp_ (hb0_ HB.out) hb);clear HO177;clear HB;have HO177:=n0_;have HO183:=n1_;have HB:=n2_;clear n0_ n1_ n2_;(try clear hb);(try clear hb2);(try clear hk);(try clear hi);(try clear ho0))|((with_reducible refine gate_dst (N:=1) rfl ?_);refine box_event ?hg (N:=1) ?hd (cs:=#[.int .i64 0,.int .i64 0,.int .i64 0,.slice none 0 0]) (t:=26) ?hr ?_;(case hd=>rfl);(case hg=>rfl);(case hr=>first|(go_simp;done)|(go_simp;rfl));intro gb186 hg w8 hbox hb;have n0_:=A_ (Kd.R_below (by (with_reducible repeat (first|apply ra_|apply rn_|apply re_));exact HO177.out) hb);have n1_:=A_ (Kd.R_below (by (with_reducible repeat (first|apply ra_|apply rn_|apply re_));exact HO183.out) hb);have n2_:=A_ (bp_ (hb0_ HB.out) hb);have n3_:=A_ (hbox);have n4_:=A_ ((by rw [hg];exact (bz_ (hb0_ HB.out)) : w.heap.size≤gb186));have n5_:=n4_;clear HO177;clear HO183;clear HB;have HO177:=n0_;have HO183:=n1_;have HB:=n2_;have BK186:=n3_;have GW186:=n4_;have GE186:=n5_;clear n0_ n1_ n2_ n3_ n4_ n5_;clear hb hbox hg;obtain ⟨z9_0,z9_1,z9_2,z9_3⟩:=blkc_4 BK186.out;obtain ⟨y9_0,y9_1,y9_2,y9_3⟩:=blkz_4 BK186.out;obtain ⟨Ao10,co10,eo10⟩:=Kd.R_slice HO183.out;subst eo10)|((with_reducible refine gate_callee (f:=19) rfl ?_);refine goesL_ (some 14) rfl rfl Tryd.func19 (by kernel_rfl) rfl #[.agg #[.int .i64 t178,.int .i64 t179,.int .i64 t180,.slice Ao10 t181.length co10],.int .i64 5] rfl (by (try simp only [List.map_toArray,List.map_cons,List.map_nil]);first|done|rfl|(simp only [List.length_drop,List.length_take];rfl)) ?_;(with_reducible refine (table_Commit.calls k t178 t179 t180 _ _ t181 5 t187 t188 t189 t190 t193 t194 _ ?side1 ?side2 A3.out).mono ?_);(case side1=>refine (Kd.R_reads' (e:=56) (base:=w.heap.size) (ok:=fun k_=>(True∧some k_≠(.slice Ao6 t175.length co6 : Value).ownBlock)) (n:=t181.length) (c:=co10) ?_).2.2;exact (by (with_reducible repeat (first|apply ra_|apply rn_|apply re_));exact (Kd.R_mono (rf_ (p:=⟨gb186,3,none⟩) (rf_ (p:=⟨gb186,2,none⟩) (rf_ (p:=⟨gb186,1,none⟩) (rf_ (p:=⟨gb186,0,none⟩) (Kd.R_types HO183.out BK186.out (by decide)) (fun _ hk=>hk.2) (.int .i64 t178)) (fun _ hk=>hk.2) (.int .i64 t179)) (fun _ hk=>hk.2) (.int .i64 t180)) (fun _ hk=>hk.2) (.slice Ao10 t181.length co10)) (fun _ h_=>h_.1))));(case side2=>exact (Kd.R_reads' HO183.out).2.1);rintro e w11 ⟨v191,rfl,ho0,hb⟩;refine ⟨_,rfl,?_⟩;have n0_:=A_ (Kd.R_elder' (by (with_reducible repeat (first|apply ra_|apply rn_|apply re_));exact (Kd.R_mono (rf_ (p:=⟨gb186,3,none⟩) (rf_ (p:=⟨gb186,2,none⟩) (rf_ (p:=⟨gb186,1,none⟩) (rf_ (p:=⟨gb186,0,none⟩) (Kd.R_types HO177.out BK186.out (by decide)) (fun _ hk=>hk.2) (.int .i64 t178)) (fun _ hk=>hk.2) (.int .i64 t179)) (fun _ hk=>hk.2) (.int .i64 t180)) (fun _ hk=>hk.2) (.slice Ao10 t181.length co10)) (fun _ h_=>h_.1))) (Kd.R_base ho0) hb);have n1_:=A_ (Kd.R_elder' (by (with_reducible repeat (first|apply ra_|apply rn_|apply re_));exact (Kd.R_mono (rf_ (p:=⟨gb186,3,none⟩) (rf_ (p:=⟨gb186,2,none⟩) (rf_ (p:=⟨gb186,1,none⟩) (rf_ (p:=⟨gb186,0,none⟩) (Kd.R_types HO183.out BK186.out (by decide)) (fun _ hk=>hk.2) (.int .i64 t178)) (fun _ hk=>hk.2) (.int .i64 t179)) (fun _ hk=>hk.2) (.int .i64 t180)) (fun _ hk=>hk.2) (.slice Ao10 t181.length co10)) (fun _ h_=>h_.1))) (Kd.R_base ho0) hb);have n2_:=A_ (Kd.R_lower (Kd.R_new' (Kd.R_new' ho0 (Kd.R_lt (by (with_reducible repeat (first|apply ra_|apply rn_|apply re_));exact (Kd.R_mono (rf_ (p:=⟨gb186,3,none⟩) (rf_ (p:=⟨gb186,2,none⟩) (rf_ (p:=⟨gb186,1,none⟩) (rf_ (p:=⟨gb186,0,none⟩) (Kd.R_types HO177.out BK186.out (by decide)) (fun _ hk=>hk.2) (.int .i64 t178)) (fun _ hk=>hk.2) (.int .i64 t179)) (fun _ hk=>hk.2) (.int .i64 t180)) (fun _ hk=>hk.2) (.slice Ao10 t181.length co10)) (fun _ h_=>h_.1))))) (Kd.R_lt (by (with_reducible repeat (first|apply ra_|apply rn_|apply re_));exact (Kd.R_mono (rf_ (p:=⟨gb186,3,none⟩) (rf_ (p:=⟨gb186,2,none⟩) (rf_ (p:=⟨gb186,1,none⟩) (rf_ (p:=⟨gb186,0,none⟩) (Kd.R_types HO183.out BK186.out (by decide)) (fun _ hk=>hk.2) (.int .i64 t178)) (fun _ hk=>hk.2) (.int .i64 t179)) (fun _ hk=>hk.2) (.int .i64 t180)) (fun _ hk=>hk.2) (.slice Ao10 t181.length co10)) (fun _ h_=>h_.1))))) (bz_ (hb1_ HB.out GE186.out)));have n3_:=A_ (bb_ (g:=gb186) (o:=.cells #[.int .i64 t178,.int .i64 t179,.int .i64 t180,.slice Ao10 t181.length co10] 26 (0,0)) (by refine kk_ ?_;apply blkf_4_0_3;exact kk_ BK186.out) hb);have n4_:=A_ (bp_ (hb1_ HB.out GE186.out) hb);clear HO177;clear HO183;clear BK186;clear HB;have HO177:=n0_;have HO183:=n1_;have HO192:=n2_;have BK186:=n3_;have HB:=n4_;clear n0_ n1_ n2_ n3_ n4_;(try clear hb);(try clear hb2);(try clear hk);(try clear hi);(try clear ho0);obtain ⟨z12_0,z12_1,z12_2,z12_3⟩:=blkc_4 BK186.out;obtain ⟨y12_0,y12_1,y12_2,y12_3⟩:=blkz_4 BK186.out;obtain ⟨Ao13,co13,eo13⟩:=Kd.R_slice HO192.out;subst eo13))
 (try simp only [Act.put,u1_,u2_,u3_])
 go_cut [0] (fun v0 wc=>∃ (kq : Nat) (x0_3 : Bool),v0=.bool x0_3∧Aside0 (humuslaw11_awake.j0 kq x0_3=some r)∧Aside0 (kq≤k)∧Aside0 (Kd.R k56 56 wc w.heap.size (fun _=>True) (.slice Ao13 t190.length co13) t190)∧Aside0 (wc.heap[gb186]?=some (.cells #[.int .i64 t187,.int .i64 t188,.int .i64 t189,(.slice Ao13 t190.length co13)] 26 (0,0)))∧Aside0 (Below w.heap.size w wc))
 case first =>
  have H:=HC4.out;clear HC4
  by_cases c14 : t185=0
  rotate_left
  ·rw [if_neg c14] at H
   have c14b0 : (t185 == 0)=false:=beq_eq_false_iff_ne.mpr c14;have c14b1 : (t185 != 0)=true:=bne_iff_ne.mpr c14;(first|rw [c14b0]|(simp only [i64_w,i32_w];rw [c14b0])|skip);have H':=A_ H;clear H;go_wp2;go_meet
   case rel=>exact ⟨_,false,rfl,H',⟨by first|omega|exact Nat.le_refl _⟩,⟨by (with_reducible repeat (first|apply ra_|apply rn_|apply re_));exact Kd.R_mono (rf_ (p:=⟨gb186,3,none⟩) (rf_ (p:=⟨gb186,2,none⟩) (rf_ (p:=⟨gb186,1,none⟩) (rf_ (p:=⟨gb186,0,none⟩) (Kd.R_types HO192.out BK186.out (by decide)) (fun _ hk=>hk.2) (.int .i64 t187)) (fun _ hk=>hk.2) (.int .i64 t188)) (fun _ hk=>hk.2) (.int .i64 t189)) (fun _ hk=>hk.2) (.slice Ao13 t190.length co13)) (fun _ hk=>trivial)⟩,⟨by refine kk_ ?_;apply blkf_4_0_3;exact kk_ BK186.out⟩,⟨hb1_ HB.out GE186.out⟩⟩
  rw [if_pos c14] at H
  have c14b0 : (t185 == 0)=true:=beq_iff_eq.mpr c14;have c14b1 : (t185 != 0)=false:=bne_eq_false_iff_eq.mpr c14;clear c14;(first|rw [c14b0]|(simp only [i64_w,i32_w];rw [c14b0])|skip)
  by_cases c15 : t194=0
  rotate_left
  ·rw [if_neg c15] at H
   have c15b0 : (t194 == 0)=false:=beq_eq_false_iff_ne.mpr c15;have c15b1 : (t194 != 0)=true:=bne_iff_ne.mpr c15;have H':=A_ H;clear H;go_wp2;go_meet
   case rel=>exact ⟨_,false,rfl,H',⟨by first|omega|exact Nat.le_refl _⟩,⟨by (with_reducible repeat (first|apply ra_|apply rn_|apply re_));exact Kd.R_mono (rf_ (p:=⟨gb186,3,none⟩) (rf_ (p:=⟨gb186,2,none⟩) (rf_ (p:=⟨gb186,1,none⟩) (rf_ (p:=⟨gb186,0,none⟩) (Kd.R_types HO192.out BK186.out (by decide)) (fun _ hk=>hk.2) (.int .i64 t187)) (fun _ hk=>hk.2) (.int .i64 t188)) (fun _ hk=>hk.2) (.int .i64 t189)) (fun _ hk=>hk.2) (.slice Ao13 t190.length co13)) (fun _ hk=>trivial)⟩,⟨by refine kk_ ?_;apply blkf_4_0_3;exact kk_ BK186.out⟩,⟨hb1_ HB.out GE186.out⟩⟩
  rw [if_pos c15] at H
  have c15b0 : (t194 == 0)=true:=beq_iff_eq.mpr c15;have c15b1 : (t194 != 0)=false:=bne_eq_false_iff_eq.mpr c15;clear c15
  by_cases c16 : t184=0
  rotate_left
  ·rw [if_neg c16] at H
   have c16b0 : (t184 == 0)=false:=beq_eq_false_iff_ne.mpr c16;have c16b1 : (t184 != 0)=true:=bne_iff_ne.mpr c16;have H':=A_ H;clear H;go_wp2;go_meet
   case rel=>exact ⟨_,false,rfl,H',⟨by first|omega|exact Nat.le_refl _⟩,⟨by (with_reducible repeat (first|apply ra_|apply rn_|apply re_));exact Kd.R_mono (rf_ (p:=⟨gb186,3,none⟩) (rf_ (p:=⟨gb186,2,none⟩) (rf_ (p:=⟨gb186,1,none⟩) (rf_ (p:=⟨gb186,0,none⟩) (Kd.R_types HO192.out BK186.out (by decide)) (fun _ hk=>hk.2) (.int .i64 t187)) (fun _ hk=>hk.2) (.int .i64 t188)) (fun _ hk=>hk.2) (.int .i64 t189)) (fun _ hk=>hk.2) (.slice Ao13 t190.length co13)) (fun _ hk=>trivial)⟩,⟨by refine kk_ ?_;apply blkf_4_0_3;exact kk_ BK186.out⟩,⟨hb1_ HB.out GE186.out⟩⟩
  rw [if_pos c16] at H
  have c16b0 : (t184 == 0)=true:=beq_iff_eq.mpr c16;have c16b1 : (t184 != 0)=false:=bne_eq_false_iff_eq.mpr c16;clear c16
  by_cases c17 : t193=1
  rotate_left
  ·rw [if_neg c17] at H
   have c17b0 : (t193 == 1)=false:=beq_eq_false_iff_ne.mpr c17;have c17b1 : (t193 != 1)=true:=bne_iff_ne.mpr c17;have H':=A_ H;clear H;go_wp2;go_meet
   case rel=>exact ⟨_,false,rfl,H',⟨by first|omega|exact Nat.le_refl _⟩,⟨by (with_reducible repeat (first|apply ra_|apply rn_|apply re_));exact Kd.R_mono (rf_ (p:=⟨gb186,3,none⟩) (rf_ (p:=⟨gb186,2,none⟩) (rf_ (p:=⟨gb186,1,none⟩) (rf_ (p:=⟨gb186,0,none⟩) (Kd.R_types HO192.out BK186.out (by decide)) (fun _ hk=>hk.2) (.int .i64 t187)) (fun _ hk=>hk.2) (.int .i64 t188)) (fun _ hk=>hk.2) (.int .i64 t189)) (fun _ hk=>hk.2) (.slice Ao13 t190.length co13)) (fun _ hk=>trivial)⟩,⟨by refine kk_ ?_;apply blkf_4_0_3;exact kk_ BK186.out⟩,⟨hb1_ HB.out GE186.out⟩⟩
  rw [if_pos c17] at H
  have c17b0 : (t193 == 1)=true:=beq_iff_eq.mpr c17;have c17b1 : (t193 != 1)=false:=bne_eq_false_iff_eq.mpr c17;clear c17
  by_cases c18 : t187=6
  rotate_left
  ·rw [if_neg c18] at H
   have c18b0 : (t187 == 6)=false:=beq_eq_false_iff_ne.mpr c18;have c18b1 : (t187 != 6)=true:=bne_iff_ne.mpr c18;have H':=A_ H;clear H;obtain ⟨z22_0,z22_1,z22_2,z22_3⟩:=blkc_4 BK186.out;obtain ⟨y22_0,y22_1,y22_2,y22_3⟩:=blkz_4 BK186.out;go_wp2;go_meet
   case rel=>exact ⟨_,false,rfl,H',⟨by first|omega|exact Nat.le_refl _⟩,⟨by (with_reducible repeat (first|apply ra_|apply rn_|apply re_));exact Kd.R_mono (rf_ (p:=⟨gb186,3,none⟩) (rf_ (p:=⟨gb186,2,none⟩) (rf_ (p:=⟨gb186,1,none⟩) (rf_ (p:=⟨gb186,0,none⟩) (Kd.R_types HO192.out BK186.out (by decide)) (fun _ hk=>hk.2) (.int .i64 t187)) (fun _ hk=>hk.2) (.int .i64 t188)) (fun _ hk=>hk.2) (.int .i64 t189)) (fun _ hk=>hk.2) (.slice Ao13 t190.length co13)) (fun _ hk=>trivial)⟩,⟨by refine kk_ ?_;apply blkf_4_0_3;exact kk_ BK186.out⟩,⟨hb1_ HB.out GE186.out⟩⟩
  rw [if_pos c18] at H
  have c18b0 : (t187 == 6)=true:=beq_iff_eq.mpr c18;have c18b1 : (t187 != 6)=false:=bne_eq_false_iff_eq.mpr c18;clear c18;replace H:=Option.bind_eq_some_iff.mp H;obtain ⟨t195,A190,H⟩:=H;replace H : (humuslaw11_awake.j0 k (t195 == 5))=some r:=H;have A19:=A_ A190;clear A190;have H':=A_ H;clear H;obtain ⟨z20_0,z20_1,z20_2,z20_3⟩:=blkc_4 BK186.out;obtain ⟨y20_0,y20_1,y20_2,y20_3⟩:=blkz_4 BK186.out
  go_wp2_with (first|(go_at_call 15;(with_reducible refine (table_Eldest.calls k t187 t188 t189 _ _ t190 t195 _ ?side1 ?side2 A19.out).mono ?_);(case side1=>refine (Kd.R_reads' (e:=56) (base:=w.heap.size) (ok:=fun k_=>((True∧some k_≠(.slice Ao6 t175.length co6 : Value).ownBlock)∧some k_≠(.slice Ao10 t181.length co10 : Value).ownBlock)) (n:=t190.length) (c:=co13) ?_).2.2;exact (by (with_reducible repeat (first|apply ra_|apply rn_|apply re_));exact (Kd.R_mono (rf_ (p:=⟨gb186,3,none⟩) (rf_ (p:=⟨gb186,2,none⟩) (rf_ (p:=⟨gb186,1,none⟩) (rf_ (p:=⟨gb186,0,none⟩) (Kd.R_types HO192.out BK186.out (by decide)) (fun _ hk=>hk.2) (.int .i64 t187)) (fun _ hk=>hk.2) (.int .i64 t188)) (fun _ hk=>hk.2) (.int .i64 t189)) (fun _ hk=>hk.2) (.slice Ao13 t190.length co13)) (fun _ h_=>h_.1))));(case side2=>exact (Kd.R_reads' HO192.out).2.1);rintro e w21 ⟨rfl,hb⟩;have n0_:=A_ (Kd.R_below (by (with_reducible repeat (first|apply ra_|apply rn_|apply re_));exact (Kd.R_mono (rf_ (p:=⟨gb186,3,none⟩) (rf_ (p:=⟨gb186,2,none⟩) (rf_ (p:=⟨gb186,1,none⟩) (rf_ (p:=⟨gb186,0,none⟩) (Kd.R_types HO177.out BK186.out (by decide)) (fun _ hk=>hk.2) (.int .i64 t187)) (fun _ hk=>hk.2) (.int .i64 t188)) (fun _ hk=>hk.2) (.int .i64 t189)) (fun _ hk=>hk.2) (.slice Ao13 t190.length co13)) (fun _ h_=>h_.1))) hb);have n1_:=A_ (Kd.R_below (by (with_reducible repeat (first|apply ra_|apply rn_|apply re_));exact (Kd.R_mono (rf_ (p:=⟨gb186,3,none⟩) (rf_ (p:=⟨gb186,2,none⟩) (rf_ (p:=⟨gb186,1,none⟩) (rf_ (p:=⟨gb186,0,none⟩) (Kd.R_types HO183.out BK186.out (by decide)) (fun _ hk=>hk.2) (.int .i64 t187)) (fun _ hk=>hk.2) (.int .i64 t188)) (fun _ hk=>hk.2) (.int .i64 t189)) (fun _ hk=>hk.2) (.slice Ao13 t190.length co13)) (fun _ h_=>h_.1))) hb);have n2_:=A_ (Kd.R_below (by (with_reducible repeat (first|apply ra_|apply rn_|apply re_));exact (Kd.R_mono (rf_ (p:=⟨gb186,3,none⟩) (rf_ (p:=⟨gb186,2,none⟩) (rf_ (p:=⟨gb186,1,none⟩) (rf_ (p:=⟨gb186,0,none⟩) (Kd.R_types HO192.out BK186.out (by decide)) (fun _ hk=>hk.2) (.int .i64 t187)) (fun _ hk=>hk.2) (.int .i64 t188)) (fun _ hk=>hk.2) (.int .i64 t189)) (fun _ hk=>hk.2) (.slice Ao13 t190.length co13)) (fun _ h_=>h_.1))) hb);have n3_:=A_ (bb_ (g:=gb186) (o:=.cells #[.int .i64 t187,.int .i64 t188,.int .i64 t189,.slice Ao13 t190.length co13] 26 (0,0)) (by refine kk_ ?_;apply blkf_4_0_3;exact kk_ BK186.out) hb);have n4_:=A_ (bp_ (hb1_ HB.out GE186.out) hb);clear HO177;clear HO183;clear HO192;clear BK186;clear HB;have HO177:=n0_;have HO183:=n1_;have HO192:=n2_;have BK186:=n3_;have HB:=n4_;clear n0_ n1_ n2_ n3_ n4_;(try clear hb);(try clear hb2);(try clear hk);(try clear hi)))
  go_meet
  case rel=>exact ⟨_,((t195 == 5)),(by first|rfl|(simp;done)|(simp [*];done)),H',⟨by first|omega|exact Nat.le_refl _⟩,⟨by (with_reducible repeat (first|apply ra_|apply rn_|apply re_));exact Kd.R_mono HO192.out (fun _ hk=>trivial)⟩,⟨by exact kk_ BK186.out⟩,⟨hb1_ HB.out GE186.out⟩⟩
 case rest =>
  clear HC4;(try clear c1);(try clear p2);(try clear c5);(try clear c9);(try clear c14);(try clear c14b0);(try clear c14b1);(try clear c15);(try clear c15b0);(try clear c15b1);(try clear c16);(try clear c16b0);(try clear c16b1);(try clear c17);(try clear c17b0);(try clear c17b1);(try clear c18);(try clear c18b0);(try clear c18b1);(try clear c19);(try clear z12_0 z12_1 z12_2 z12_3 z20_0 z20_1 z20_2 z20_3 z22_0 z22_1 z22_2 z22_3 z9_0 z9_1 z9_2 z9_3 y12_0 y12_1 y12_2 y12_3 y20_0 y20_1 y20_2 y20_3 y22_0 y22_1 y22_2 y22_3 y9_0 y9_1 y9_2 y9_3);obtain ⟨kq,x0_3,rfl,HA,HJ3,HO_187003,BK186,HB⟩:=hcut
  cases kq with
  | zero=>exact absurd HA.out (by simp [humuslaw11_awake.j0])
  | succ kj3 =>
   have H:=HA.out;clear HA
   simp only [humuslaw11_awake.j0] at H
   obtain rfl:=Option.some.inj H;go_wp2;go_ret
   exact ⟨by first|rfl|(simp [errW_none,errW_some] <;> rfl)|(simp [*,errW_none,errW_some] <;> rfl),hb1_ HB.out GE186.out⟩
end Go.Proofs.YtbmcbhpkefjhbaaDoor.P
namespace Go.Proofs.YtbmcbhpkefjhbaaDoor.P
open Go.RowKit YtbmcbhpkefjhbaaDoor YtbmcbhpkefjhbaaDoor.Mem YtbmcbhpkefjhbaaDoorW.PrintWords YtbmcbhpkefjhbaaDoorW.PrintLast YtbmcbhpkefjhbaaDoorW.PrintMore
theorem in_ev (a lo hi : Int) : table_in.f a lo hi=some (decide (lo≤a) && decide (a≤hi)):=by
  unfold table_in.f
  by_cases h : a ≥ lo
  · rw [if_pos h,dt_ h]; simp
  · rw [if_neg h,df_ h]; simp
def okE (nt cm : Int) (e : Ent) : Bool :=
  if e.f1=0 then e.f0 == 0 && (e.f1 == 0 && (e.f2 == 0 && (e.f3 == 0)))
  else if e.f1=1 then e.f3 == 0 && ((decide (1≤e.f0) && decide (e.f0≤nt - 1)) && (decide (0≤e.f2) && decide (e.f2≤65535)))
  else if e.f1=2 then (decide (1≤e.f3) && decide (e.f3≤cm)) && ((decide (1≤e.f0) && decide (e.f0≤nt - 1)) && (decide (0≤e.f2) && decide (e.f2≤65535)))
  else false
theorem entry_all {k : Nat} {nt nn cm : Int} {l : List Ent} {e : Ent} (hk : 2≤k) (h1 : 1≤nt) (h2 : nt≤2147483647) : table_entry.f k nt nn cm l e.f0 e.f1 e.f2 e.f3=some (okE nt cm e):=by
  have hw : wrap64 (nt - 1)=nt - 1:=by unfold wrap64; omega
  obtain ⟨k,rfl⟩ : ∃ m,k=m + 2:=⟨k - 2,by omega⟩
  unfold table_entry.f okE
  by_cases c0 : e.f1=0
  · rw [if_pos c0,if_pos c0]
  rw [if_neg c0,if_neg c0]
  by_cases c1 : e.f1=1
  · rw [if_pos c1,if_pos c1]
    by_cases c3 : e.f3=0
    · rw [if_pos c3,in_ev,hw,Option.bind_some,show (e.f3 == 0)=true from beq_iff_eq.mpr c3,Bool.true_and]
      cases hb : (decide (1≤e.f0) && decide (e.f0≤nt - 1)) with
      | true=>rw [if_pos rfl,in_ev,Option.bind_some,Bool.true_and]
      | false=>rw [if_neg (by decide),Bool.false_and]
    · rw [if_neg c3,show (e.f3 == 0)=false from beq_eq_false_iff_ne.mpr c3,Bool.false_and]
  rw [if_neg c1,if_neg c1]
  by_cases c2 : e.f1=2
  · rw [if_pos c2,show (e.f1 == 2)=true from beq_iff_eq.mpr c2,table_entry.j0,if_pos rfl,in_ev,Option.bind_some]
    cases ha : (decide (1≤e.f3) && decide (e.f3≤cm)) with
    | false=>rw [if_neg (by decide),Bool.false_and]
    | true =>
      rw [if_pos rfl,in_ev,hw,Option.bind_some,Bool.true_and]
      cases hb : (decide (1≤e.f0) && decide (e.f0≤nt - 1)) with
      | true=>rw [if_pos rfl,in_ev,Option.bind_some,Bool.true_and]
      | false=>rw [if_neg (by decide),Bool.false_and]
  · rw [if_neg c2,show (e.f1 == 2)=false from beq_eq_false_iff_ne.mpr c2,table_entry.j0,if_neg (by decide),table_entry.j1]
def rdE (l : List Ent) (i : Nat) : Ent:=rd_T56 l (i : Int)
def gAll (nt cm : Int) (l : List Ent) : Nat→Nat→Bool
  | 0,_=>true
  | d + 1,i=>(okE nt cm (rdE l i) && !((l.take i).any (twiceE (rdE l i).f0 (rdE l i).f3))) && gAll nt cm l d (i + 1)
def MayT (nt nn cm : Int) (l : List Ent) : Bool :=
  (decide (1≤nt) && decide (nt≤2147483647)) && ((decide (1≤nn) && decide (nn≤2147483647)) && ((decide (0≤cm) && decide (cm≤2147483647)) && ((l.length == 12) && gAll nt cm l 12 0)))
theorem Chk_l0 {nt nn cm : Int} {l : List Ent} (h1 : 1≤nt) (h2 : nt≤2147483647) (hl : l.length=12) : ∀ (d i k : Nat),d + i=12→2 * d + 6≤k→table_Check.l0 k l (l.length : Int) (i : Int) nt nn cm l=some (if gAll nt cm l d i=true then 0 else 1):=by
  intro d
  induction d with
  | zero =>
    intro i k hd hk
    obtain ⟨k,rfl⟩ : ∃ m,k=m + 1:=⟨k - 1,by omega⟩
    rw [table_Check.l0,if_neg (by omega)]; rfl
  | succ d ih =>
    intro i k hd hk
    obtain ⟨k,rfl⟩ : ∃ m,k=m + 3:=⟨k - 3,by omega⟩
    have hw : wrap64 ((i : Int) + 1)=((i + 1 : Nat) : Int):=by unfold wrap64; omega
    have hct : containsFunc_table_Check_1.f (l.take (i : Int).toNat) (rdE l i).f0 (rdE l i).f1 (rdE l i).f2 (rdE l i).f3=some ((l.take i).any (twiceE (rdE l i).f0 (rdE l i).f3)):=by
      unfold containsFunc_table_Check_1.f
      rw [if_pos (by rw [List.length_take]; omega),Int.toNat_natCast]
    have hj3 : ∀ b : Bool,table_Check.j3 (k + 2) l (l.length : Int) (i : Int) b nt nn cm l=if b=true then some 1 else table_Check.l0 (k + 1) l (l.length : Int) ((i + 1 : Nat) : Int) nt nn cm l:=by
      intro b;rw [table_Check.j3,table_Check.j4,hw]
    rw [table_Check.l0,if_pos (by omega),if_pos (by omega),if_pos (by omega),if_pos (by omega)]
    show (containsFunc_table_Check_1.f (l.take (i : Int).toNat) (rdE l i).f0 (rdE l i).f1 (rdE l i).f2 (rdE l i).f3).bind _=_
    rw [hct,Option.bind_some,gAll]
    cases ht : (l.take i).any (twiceE (rdE l i).f0 (rdE l i).f3) with
    | true=>rw [if_pos rfl,hj3,if_pos rfl,Bool.not_true,Bool.and_false,Bool.false_and]; rfl
    | false =>
      rw [if_neg (by decide)]
      show (table_entry.f (k + 2) nt nn cm l (rdE l i).f0 (rdE l i).f1 (rdE l i).f2 (rdE l i).f3).bind _=_
      rw [entry_all (by omega) h1 h2,Option.bind_some,hj3,Bool.not_false,Bool.and_true]
      cases ho : okE nt cm (rdE l i) with
      | true=>rw [Bool.not_true,if_neg (by decide),Bool.true_and]; exact ih (i + 1) (k + 1) (by omega) (by omega)
      | false=>rw [Bool.not_false,if_pos rfl,Bool.false_and]; rfl
theorem Chk_ev {k : Nat} {nt nn cm : Int} {l : List Ent} (hk : 60≤k) : table_Check.f k nt nn cm l=some (if MayT nt nn cm l=true then 0 else 1):=by
  obtain ⟨k,rfl⟩ : ∃ m,k=m + 2:=⟨k - 2,by omega⟩
  have hT : table_Check.j0 (k + 2) true nt nn cm l=some 1:=by rw [table_Check.j0,if_pos rfl,table_Check.j1]
  unfold table_Check.f MayT
  rw [in_ev,Option.bind_some]
  cases ha : (decide (1≤nt) && decide (nt≤2147483647)) with
  | false=>rw [if_neg (by decide),hT,Bool.false_and]; rfl
  | true =>
    rw [if_pos rfl,in_ev,Option.bind_some,Bool.true_and]
    cases hb : (decide (1≤nn) && decide (nn≤2147483647)) with
    | false=>rw [if_neg (by decide),hT,Bool.false_and]; rfl
    | true =>
      rw [if_pos rfl,in_ev,Option.bind_some,Bool.true_and]
      cases hc : (decide (0≤cm) && decide (cm≤2147483647)) with
      | false=>rw [if_neg (by decide),hT,Bool.false_and]; rfl
      | true =>
        rw [if_pos rfl,Bool.true_and]
        simp only [Bool.and_eq_true,decide_eq_true_eq] at ha
        by_cases hl : l.length=12
        · rw [show (((l.length : Int)) != 12)=false from by rw [hl]; rfl,table_Check.j0,if_neg (by decide),show (l.length == 12)=true from beq_iff_eq.mpr hl,Bool.true_and]
          exact Chk_l0 ha.1 ha.2 hl 12 0 (k + 1) (by omega) (by omega)
        · rw [show (((l.length : Int)) != 12)=true from bne_iff_ne.mpr (by omega),hT,show (l.length == 12)=false from beq_eq_false_iff_ne.mpr hl,Bool.false_and]; rfl
theorem rd_drop {l : List Ent} {i j : Nat} (h : j<i) (hl : i≤l.length) : (l.take i).drop j=rdE l j :: (l.take i).drop (j + 1):=by
  rw [List.drop_eq_getElem_cons (by rw [List.length_take]; omega),List.getElem_take]
  congr 1
  have:=rdE_at (l:=l) (i:=j) (by omega)
  rw [List.getElem?_eq_getElem (by omega)] at this
  exact Option.some.inj this
theorem May_l1 {nt nn cm f0 f1 f2 f3 : Int} {l : List Ent} {i : Nat} (hi : i<12) (hl : l.length=12) (h0 : 1≤f0) : ∀ (d j k : Nat),d + j=i→d + 1≤k→humusref11_May.l1 k (i : Int) (j : Int) nt nn cm l f0 f1 f2 f3=if ((l.take i).drop j).any (twiceE f0 f3)=true then some false else humusref11_May.l0 (k - d - 1) ((i + 1 : Nat) : Int) nt nn cm l:=by
  intro d
  induction d with
  | zero =>
    intro j k hj hk
    obtain ⟨k,rfl⟩ : ∃ m,k=m + 1:=⟨k - 1,by omega⟩
    have hw : wrap64 ((i : Int) + 1)=((i + 1 : Nat) : Int):=by unfold wrap64; omega
    rw [humusref11_May.l1,if_neg (by omega),hw,List.drop_eq_nil_of_le (by rw [List.length_take]; omega),List.any_nil,if_neg (by decide)]; rfl
  | succ d ih =>
    intro j k hj hk
    obtain ⟨k,rfl⟩ : ∃ m,k=m + 1:=⟨k - 1,by omega⟩
    have hw : wrap64 ((j : Int) + 1)=((j + 1 : Nat) : Int):=by unfold wrap64; omega
    have e : k + 1 - (d + 1) - 1=k - d - 1:=by omega
    rw [rd_drop (l:=l) (i:=i) (j:=j) (by omega) (by omega),List.any_cons,humusref11_May.l1,if_pos (by omega),if_pos (by omega),if_pos (by omega),hw,ih (j + 1) k (by omega) (by omega),e]
    show (if (rdE l j).f0=f0 then _ else if f3 > 0 then if (rdE l j).f3=f3 then _ else _ else _)=_
    generalize ((l.take i).drop (j + 1)).any (twiceE f0 f3)=q
    unfold twiceE
    rw [dt_ (show (0 : Int)<f0 by omega),Bool.true_and]
    by_cases c0 : (rdE l j).f0=f0
    · rw [if_pos c0,show ((rdE l j).f0 == f0)=true from beq_iff_eq.mpr c0,Bool.true_or,Bool.true_or,if_pos rfl]
    · rw [if_neg c0,show ((rdE l j).f0 == f0)=false from beq_eq_false_iff_ne.mpr c0,Bool.false_or]
      by_cases c3 : f3 > 0
      · rw [if_pos c3,dt_ (show (0 : Int)<f3 by omega),Bool.true_and]
        by_cases c4 : (rdE l j).f3=f3
        · rw [if_pos c4,show ((rdE l j).f3 == f3)=true from beq_iff_eq.mpr c4,Bool.true_or,if_pos rfl]
        · rw [if_neg c4,show ((rdE l j).f3 == f3)=false from beq_eq_false_iff_ne.mpr c4,Bool.false_or]
      · rw [if_neg c3,df_ (show ¬ (0 : Int)<f3 by omega),Bool.false_and,Bool.false_or]
theorem May_l0 {nt nn cm : Int} {l : List Ent} (hn : nt≤2147483647) (hl : l.length=12) : ∀ (d i k : Nat),d + i=12→20 * d + 6≤k→humusref11_May.l0 k (i : Int) nt nn cm l=some (gAll nt cm l d i):=by
  intro d
  induction d with
  | zero =>
    intro i k hd hk
    obtain ⟨k,rfl⟩ : ∃ m,k=m + 1:=⟨k - 1,by omega⟩
    rw [humusref11_May.l0,if_neg (by omega)]; rfl
  | succ d ih =>
    intro i k hd hk
    obtain ⟨k,rfl⟩ : ∃ m,k=m + 3:=⟨k - 3,by omega⟩
    have hw : wrap64 ((i : Int) + 1)=((i + 1 : Nat) : Int):=by unfold wrap64; omega
    rw [humusref11_May.l0,if_pos (by omega),if_pos (by omega),if_pos (by omega),gAll]
    show (if (rdE l i).f1<0 then humusref11_May.j2 (k + 2) (i : Int) true nt nn cm l (rdE l i).f0 (rdE l i).f1 (rdE l i).f2 (rdE l i).f3 else humusref11_May.j2 (k + 2) (i : Int) (decide ((rdE l i).f1 > 2)) nt nn cm l (rdE l i).f0 (rdE l i).f1 (rdE l i).f2 (rdE l i).f3)=_
    generalize he : rdE l i=e
    have hT : humusref11_May.j2 (k + 2) (i : Int) true nt nn cm l e.f0 e.f1 e.f2 e.f3=some false:=by rw [humusref11_May.j2,if_pos rfl]
    have hj3T : humusref11_May.j3 (k + 1) (i : Int) true nt nn cm l e.f0 e.f1 e.f2 e.f3=some false:=by rw [humusref11_May.j3,if_pos rfl]
    unfold okE
    by_cases n0 : e.f1<0
    · rw [if_pos n0,hT,if_neg (by omega),if_neg (by omega),if_neg (by omega)]; rfl
    rw [if_neg n0]
    by_cases n2 : e.f1 > 2
    · rw [dt_ n2,hT,if_neg (by omega),if_neg (by omega),if_neg (by omega)]; rfl
    rw [df_ n2,humusref11_May.j2,if_neg (by decide),hw,ih (i + 1) (k + 1) (by omega) (by omega)]
    by_cases c0 : e.f1=0
    · rw [if_pos c0,if_pos c0]
      have eq : (!(e.f0 == 0) || (!(e.f1 == 0) || (!(e.f2 == 0) || (!(e.f3 == 0)))))=!(e.f0 == 0 && (e.f1 == 0 && (e.f2 == 0 && (e.f3 == 0)))):=by
        cases (e.f0 == 0) <;> cases (e.f1 == 0) <;> cases (e.f2 == 0) <;> cases (e.f3 == 0) <;> rfl
      rw [eq]
      cases hz : (e.f0 == 0 && (e.f1 == 0 && (e.f2 == 0 && (e.f3 == 0)))) with
      | false=>rw [Bool.not_false,if_pos rfl]; rfl
      | true =>
        rw [Bool.not_true,if_neg (by decide),Bool.true_and]
        simp only [Bool.and_eq_true,beq_iff_eq] at hz
        have ht : (l.take i).any (twiceE e.f0 e.f3)=false:=by
          rw [List.any_eq_false];intro x _
          unfold twiceE
          rw [hz.1,hz.2.2.2]
          simp
        rw [ht]; rfl
    rw [if_neg c0,if_neg c0]
    by_cases a1 : e.f0<1
    · rw [if_pos a1,hj3T,df_ (show ¬ 1≤e.f0 by omega)]
      simp
    rw [if_neg a1]
    by_cases a2 : e.f0 ≥ nt
    · rw [if_pos a2,hj3T,df_ (show ¬ e.f0≤nt - 1 by omega)]
      simp
    rw [if_neg a2]
    by_cases a3 : e.f2<0
    · rw [if_pos a3,hj3T,df_ (show ¬ 0≤e.f2 by omega)]
      simp
    rw [if_neg a3]
    by_cases a4 : e.f2 > 65535
    · rw [if_pos a4,hj3T,df_ (show ¬ e.f2≤65535 by omega)]
      simp
    rw [if_neg a4,dt_ (show 1≤e.f0 by omega),dt_ (show e.f0≤nt - 1 by omega),dt_ (show 0≤e.f2 by omega),dt_ (show e.f2≤65535 by omega)]
    have hgo : humusref11_May.j3 (k + 1) (i : Int) false nt nn cm l e.f0 e.f1 e.f2 e.f3=some (!((l.take i).any (twiceE e.f0 e.f3)) && gAll nt cm l d (i + 1)):=by
      rw [humusref11_May.j3,if_neg (by decide)]
      refine (May_l1 (by omega) hl (by omega) i 0 k (by omega) (by omega)).trans ?_
      rw [List.drop_zero,ih (i + 1) (k - i - 1) (by omega) (by omega)]
      cases (l.take i).any (twiceE e.f0 e.f3) with
      | true=>rfl
      | false=>rfl
    by_cases c1 : e.f1=1
    · rw [if_pos c1,if_pos c1]
      by_cases b3 : e.f3=0
      · rw [if_pos b3,if_neg (by omega),hgo,show (e.f3 == 0)=true from beq_iff_eq.mpr b3]
        simp
      · rw [if_neg b3,hj3T,show (e.f3 == 0)=false from beq_eq_false_iff_ne.mpr b3]
        simp
    · have c2 : e.f1=2:=by omega
      rw [if_neg c1,if_neg c1,if_pos c2,if_pos c2]
      by_cases b3 : e.f3<1
      · rw [if_pos b3,hj3T,df_ (show ¬ 1≤e.f3 by omega)]
        simp
      rw [if_neg b3,dt_ (show 1≤e.f3 by omega)]
      by_cases b4 : e.f3 > cm
      · rw [dt_ b4,hj3T,df_ (show ¬ e.f3≤cm by omega)]
        simp
      · rw [df_ b4,hgo,dt_ (show e.f3≤cm by omega)]
        simp
theorem May_ev {k : Nat} {nt nn cm : Int} {l : List Ent} (hk : 300≤k) : humusref11_May.f k nt nn cm l=some (MayT nt nn cm l):=by
  obtain ⟨k,rfl⟩ : ∃ m,k=m + 1:=⟨k - 1,by omega⟩
  have hT : humusref11_May.j0 (k + 1) true nt nn cm l=some false:=by rw [humusref11_May.j0,if_pos rfl]
  unfold humusref11_May.f MayT
  by_cases a1 : nt<1
  · rw [if_pos a1,hT,df_ (show ¬ 1≤nt by omega)]; rfl
  rw [if_neg a1,dt_ (show 1≤nt by omega)]
  by_cases a2 : nt > 2147483647
  · rw [if_pos a2,hT,df_ (show ¬ nt≤2147483647 by omega)]; rfl
  rw [if_neg a2,dt_ (show nt≤2147483647 by omega)]
  by_cases a3 : nn<1
  · rw [if_pos a3,hT,df_ (show ¬ 1≤nn by omega)]; rfl
  rw [if_neg a3,dt_ (show 1≤nn by omega)]
  by_cases a4 : nn > 2147483647
  · rw [if_pos a4,hT,df_ (show ¬ nn≤2147483647 by omega)]; rfl
  rw [if_neg a4,dt_ (show nn≤2147483647 by omega)]
  by_cases a5 : cm<0
  · rw [if_pos a5,hT,df_ (show ¬ 0≤cm by omega)]; rfl
  rw [if_neg a5,dt_ (show 0≤cm by omega)]
  by_cases a6 : cm > 2147483647
  · rw [if_pos a6,hT,df_ (show ¬ cm≤2147483647 by omega)]; rfl
  rw [if_neg a6,dt_ (show cm≤2147483647 by omega)]
  simp only [Bool.and_self,Bool.true_and]
  by_cases hl : l.length=12
  · rw [show (((l.length : Int)) != 12)=false from by rw [hl]; rfl,humusref11_May.j0,if_neg (by decide),show (l.length == 12)=true from beq_iff_eq.mpr hl,Bool.true_and]
    exact May_l0 (by omega) hl 12 0 k (by omega) (by omega)
  · rw [show (((l.length : Int)) != 12)=true from bne_iff_ne.mpr (by omega),hT,show (l.length == 12)=false from beq_eq_false_iff_ne.mpr hl,Bool.false_and]
theorem same11_l0 {a b c : Int} {l : List Ent} (hl : l.length≤1000000) : ∀ (n i k : Nat),n=l.length - i→i≤l.length→n + 1≤k→humusref11_Same.l0 k (i : Int) a b c l a b c l=some true:=by
  intro n
  induction n with
  | zero =>
    intro i k hd hi hk
    obtain ⟨k,rfl⟩ : ∃ m,k=m + 1:=⟨k - 1,by omega⟩
    rw [humusref11_Same.l0,if_neg (by omega)]
  | succ n ih =>
    intro i k hd hi hk
    obtain ⟨k,rfl⟩ : ∃ m,k=m + 1:=⟨k - 1,by omega⟩
    have hw : wrap64 ((i : Int) + 1)=((i + 1 : Nat) : Int):=by unfold wrap64; omega
    rw [humusref11_Same.l0,if_pos (by omega),if_pos (by omega),if_pos (by omega),hw,if_neg (by simp)]
    exact ih (i + 1) k (by omega) (by omega) (by omega)
theorem same11_refl {k : Nat} {a b c : Int} {l : List Ent} (hl : l.length≤1000000) (hk : l.length + 2≤k) : humusref11_Same.f k a b c l a b c l=some true:=by
  obtain ⟨k,rfl⟩ : ∃ m,k=m + 1:=⟨k - 1,by omega⟩
  unfold humusref11_Same.f
  rw [if_pos rfl,if_pos rfl,if_pos rfl,show (((l.length : Int)) != (l.length : Int))=false from bne_self_eq_false _,humusref11_Same.j0,if_neg (by decide)]
  exact same11_l0 hl l.length 0 k (by omega) (by omega) (by omega)
theorem awake11_at : humuslaw11_awake.f 60=some true:=by kernel_rfl
theorem awake11_ev {k : Nat} (hk : 60≤k) : humuslaw11_awake.f k=some true:=by
  obtain ⟨d,rfl⟩ : ∃ d,k=60 + d:=⟨k - 60,by omega⟩
  clear hk
  induction d with
  | zero=>exact awake11_at
  | succ d ih=>exact humuslaw11_awake.mono (60 + d) _ ih
theorem rd_zero (x : Int) (l : List Int) : rd (x :: l) 0=x:=rfl
theorem trimL_ev : ∀ (l : List Int) (k : Nat),l.length + 1≤k→∃ r,bytes_trimLeftByte.l0 k l 0=some r∧((r.length : Int) == 0)=!(l.any fun e=>e != 0)
  | [],k,hk=>by
    obtain ⟨k,rfl⟩ : ∃ m,k=m + 1:=⟨k - 1,by omega⟩
    refine ⟨[],?_,rfl⟩
    rw [bytes_trimLeftByte.l0,if_neg (by decide),if_pos (show (([] : List Int).length : Int)=0 from rfl)]
  | x :: l,k,hk=>by
    obtain ⟨k,rfl⟩ : ∃ m,k=m + 1:=⟨k - 1,by omega⟩
    have hl : 0<((x :: l).length : Int):=by simp only [List.length_cons]; omega
    rw [bytes_trimLeftByte.l0,if_pos hl,if_pos hl,rd_zero,List.any_cons]
    by_cases h : x=0
    · obtain ⟨r,h1,h2⟩:=trimL_ev l k (by simp only [List.length_cons] at hk; omega)
      rw [if_pos h,if_pos (by omega),List.drop_succ_cons,List.drop_zero]
      refine ⟨r,h1,?_⟩
      rw [h2,show (x != 0)=false from bne_eq_false_iff_eq.mpr h,Bool.false_or]
    · rw [if_neg h,if_neg (by omega)]
      refine ⟨_,rfl,?_⟩
      rw [show (x != 0)=true from bne_iff_ne.mpr h,Bool.true_or,beq_eq_false_iff_ne.mpr (by omega)]; rfl
theorem trimR_ev : ∀ (n : Nat) (l : List Int) (k : Nat),l.length=n→n≤1000000→n + 1≤k→∃ r,bytes_trimRightByte.l0 k l 0=some r∧r.length≤n∧(r.any fun e=>e != 0)=(l.any fun e=>e != 0):=by
  intro n
  induction n with
  | zero =>
    intro l k hl hn hk
    obtain ⟨k,rfl⟩ : ∃ m,k=m + 1:=⟨k - 1,by omega⟩
    rw [bytes_trimRightByte.l0,if_neg (by omega)]
    exact ⟨l,rfl,by omega,rfl⟩
  | succ n ih =>
    intro l k hl hn hk
    obtain ⟨k,rfl⟩ : ∃ m,k=m + 1:=⟨k - 1,by omega⟩
    have hw : wrap64 ((l.length : Int) - 1)=(n : Int):=by unfold wrap64; omega
    rw [bytes_trimRightByte.l0,if_pos (by omega),hw,if_pos (by omega),if_pos (by omega),Int.toNat_natCast]
    have hlast : l=l.take n++[rd l (n : Int)]:=by
      have h1 : l.drop n=[rd l (n : Int)]:=by
        rw [List.drop_eq_getElem_cons (by omega),List.drop_eq_nil_of_le (by omega)]
        unfold rd
        rw [Int.toNat_natCast,List.getD_eq_getElem?_getD,List.getElem?_eq_getElem (by omega)]; rfl
      rw [← h1,List.take_append_drop]
    by_cases h : rd l (n : Int)=0
    · obtain ⟨r,h1,h2,h3⟩:=ih (l.take n) k (by rw [List.length_take]; omega) (by omega) (by omega)
      rw [if_pos h,if_pos (by omega)]
      refine ⟨r,h1,by omega,?_⟩
      rw [h3]
      conv=>rhs; rw [hlast]
      rw [List.any_append,List.any_cons,List.any_nil,h]
      simp
    · rw [if_neg h]
      exact ⟨l,rfl,by omega,rfl⟩
theorem noughtT_ev {k : Nat} {l : List Int} (hl : l.length≤1000000) (hk : l.length + 3≤k) : table_nought.f k l=some (!(l.any fun e=>e != 0)):=by
  obtain ⟨k,rfl⟩ : ∃ m,k=m + 1:=⟨k - 1,by omega⟩
  unfold table_nought.f bytes_Trim.f
  by_cases h0 : (l.length : Int)=0
  · have : l=[]:=List.eq_nil_of_length_eq_zero (by omega)
    subst this;rw [if_pos h0]; rfl
  · have hb : bt (⟨#[0]⟩ : ByteArray) 0=0:=by kernel_rfl
    have hs : ((⟨#[0]⟩ : ByteArray).size : Int)=1:=by kernel_rfl
    have ht : ¬ ((⟨#[0]⟩ : ByteArray).toList=([] : List UInt8)):=by
      intro h
      have : ((⟨#[0]⟩ : ByteArray).toList.length == 0)=true:=by rw [h]; rfl
      rw [show ((⟨#[0]⟩ : ByteArray).toList.length == 0)=false by kernel_rfl] at this
      cases this
    obtain ⟨r,h1,h2,h3⟩:=trimR_ev l.length l k rfl hl (by omega)
    obtain ⟨q,g1,g2⟩:=trimL_ev r k (by omega)
    rw [if_neg h0,if_neg ht,if_pos hs,if_pos (by rw [hs]; decide),hb,dt_ (show (0 : Int)<128 by decide),bytes_Trim.j0,if_pos rfl,if_pos (by rw [hs]; decide),hb]
    unfold bytes_trimRightByte.f bytes_trimLeftByte.f
    rw [h1,Option.bind_some,g1]
    simp only [Option.bind_some]
    rw [g2,h3]
end Go.Proofs.YtbmcbhpkefjhbaaDoor.P
