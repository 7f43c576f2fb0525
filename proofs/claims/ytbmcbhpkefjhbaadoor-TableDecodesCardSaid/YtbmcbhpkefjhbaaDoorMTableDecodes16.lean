/- by wip/prune.py -/
import Derived.Test.YtbmcbhpkefjhbaaDoorMTableDecodes4
import Derived.Test.YtbmcbhpkefjhbaaDoorMTableDecodes5
import Derived.Test.YtbmcbhpkefjhbaaDoorMTableDecodes7
import Derived.Test.YtbmcbhpkefjhbaaDoorMTableDecodes8
import Derived.Test.YtbmcbhpkefjhbaaDoorMTableDecodes12
import Derived.Test.YtbmcbhpkefjhbaaDoorMTableDecodes13
import Derived.Test.YtbmcbhpkefjhbaaDoorMTableDecodes15
set_option linter.unusedSimpArgs false
set_option linter.unusedVariables false
namespace Go.Proofs.YtbmcbhpkefjhbaaDoor.P
open Go.RowKit YtbmcbhpkefjhbaaDoorW.PrintWords YtbmcbhpkefjhbaaDoorW.PrintLast YtbmcbhpkefjhbaaDoorW.PrintMore
attribute [local go_sem] max2_int min2_int max_two min_two max_three min_three max_four min_four   -- for this text's walks alone
attribute [local go_sem] run_store_float
attribute [local go_sem] Oper.semAt_some
mutual
def table_Decode.j0 : Nat→List Int→Int→Bool→Option (Int × Int × Int × (List (S56)) × Int)
 | 0,_,_,_=>none
 | k + 1,x4,x5,x25=>if x25=true then (some (0,0,0,([] : List (S56)),x5)) else ((table_kinds.f).bind fun t269=>((pack_Take.f x4 t269).bind fun bt272=>(if bt272.2.2=0 then (if 0<(bt272.1.length : Int) then (if ((rd_T51 bt272.1 0).f1)=84 then (if 0≤bt272.2.1 then (if bt272.2.1≤(x4.length : Int) then ((table_nought.f k (x4.drop (bt272.2.1 : Int).toNat)).bind fun t282=>(table_Decode.j1 k bt272.1 (!t282))) else (none)) else (none)) else (table_Decode.j1 k bt272.1 true)) else (none)) else (table_Decode.j1 k bt272.1 true))))
def table_Decode.j1 : Nat→List (S51)→Bool→Option (Int × Int × Int × (List (S56)) × Int)
 | 0,_,_=>none
 | k + 1,x6,x50=>if x50=true then (some (0,0,0,([] : List (S56)),4)) else (if 1<(x6.length : Int) then (if 2<(x6.length : Int) then (if 3<(x6.length : Int) then (if 4≤(x6.length : Int) then ((slices_Chunk_api_Item_api_Item.f (x6.drop 4) 4).bind fun t291=>((table_Check.f k ((rd_T51 x6 1).f1) ((rd_T51 x6 2).f1) ((rd_T51 x6 3).f1) t291).bind fun t294=>(if t294=0 then (some ((rd_T51 x6 1).f1,(rd_T51 x6 2).f1,(rd_T51 x6 3).f1,t291,0)) else (some (0,0,0,([] : List (S56)),4))))) else (none)) else (none)) else (none)) else (none))
end
def table_Decode.f (k : Nat) (l0 : List Int) : Option (Int × Int × Int × (List (S56)) × Int):=if (l0.length : Int)=512 then ((table_nought.f k l0).bind fun t258=>(if t258=true then ((table_First.f).bind fun bt259=>(some (bt259.1,bt259.2.1,bt259.2.2.1,bt259.2.2.2,0))) else ((tally_Open.f k l0).bind fun bt265=>(table_Decode.j0 k bt265.1 bt265.2 (bt265.2 != 0))))) else (some (0,0,0,([] : List (S56)),1))
def table_Decode.T11 : Bool × List (List Nat × List Nat):=(true,[([],[]),([0],[0]),([1],[1]),([2],[2]),([],[]),([4],[4]),([5],[5]),([6],[6]),([],[]),([8],[8]),([9],[9]),([10],[10]),([3,7,11],[3,7,11]),([],[]),([13,12,0,1,2,3,4,5,6,7,8,9,10,11,12,13],[12,13])])
def table_Decode.B11 : List Nat:=[0,1,3,7,0,16,48,112,0,256,768,1792,4095,0,16383]
theorem table_Decode.tab11 : rtab .any (opsOf Tryd.f6 11)=table_Decode.T11:=by kernel_rfl
theorem table_Decode.bits11 : waitsOk table_Decode.T11.2 table_Decode.B11=true:=by kernel_rfl
def table_Decode.T14 : Bool × List (List Nat × List Nat):=(true,[([],[]),([0],[0]),([],[]),([2],[2]),([3],[3]),([4],[4]),([],[]),([6],[6]),([7],[7]),([8],[8]),([],[]),([10],[10]),([11],[11]),([12],[12]),([],[]),([14],[14]),([15],[15]),([16],[16]),([5,9,13,17],[5,9,13,17]),([18],[18]),([1,19],[1,19]),([0,1,2,3,4,5,6,7,8,9,10,11,12,13,14,15,16,17,18,19,20],[]),([21,20,20,0,1,2,3,4,5,6,7,8,9,10,11,12,13,14,15,16,17,18,19,20],[20,21])])
def table_Decode.B14 : List Nat:=[0,1,0,4,12,28,0,64,192,448,0,1024,3072,7168,0,16384,49152,114688,262140,524284,1048575,2097151,4194303]
theorem table_Decode.tab14 : rtab .any (opsOf Tryd.f6 14)=table_Decode.T14:=by kernel_rfl
theorem table_Decode.bits14 : waitsOk table_Decode.T14.2 table_Decode.B14=true:=by kernel_rfl
set_option maxHeartbeats 8000000 in
set_option maxRecDepth 100000 in
theorem table_Decode.calls (k : Nat) (A0 : Option Addr) (c0 : Nat) (l0 : List Int) (r1 : Int) (r2 : Int) (r3 : Int) (r4 : List (S56)) (r5 : Int) (w : World) (hr0 : Kd.C (Kd.int .u8) w A0 l0.length l0) (hc0 : l0.length≤c0) (h : table_Decode.f k l0=some (r1,r2,r3,r4,r5)) :
  Calls Tryd.prog 6 #[.slice A0 l0.length c0] w fun e w'=>∃ v3_ : Value,e=.returned (.tuple #[.agg #[.int .i64 r1,.int .i64 r2,.int .i64 r3,v3_],.int .i64 r5])∧Kd.R k56 56 w' w.heap.size (fun _=>True) v3_ r4∧Below w.heap.size w w':=by
 have hu26:=Tryd.underlying26;have HR0:=A_ hr0;have HC0:=A_ hc0;clear hr0 hc0;have HB:=A_ (Below.refl w.heap.size w)
 have H : (if (l0.length : Int)=512 then ((table_nought.f k l0).bind fun t258=>(if t258=true then ((table_First.f).bind fun bt259=>(some (bt259.1,bt259.2.1,bt259.2.2.1,bt259.2.2.2,0))) else ((tally_Open.f k l0).bind fun bt265=>(table_Decode.j0 k bt265.1 bt265.2 (bt265.2 != 0))))) else (some (0,0,0,([] : List (S56)),1)))=some (r1,r2,r3,r4,r5):=h
 clear h
 by_cases c2 : (l0.length : Int)=512
 rotate_left
 ·rw [if_neg c2] at H
  have c2b0 : ((l0.length : Int) == 512)=false:=beq_eq_false_iff_ne.mpr c2;have c2b1 : ((l0.length : Int) != 512)=true:=bne_iff_ne.mpr c2
  simp only [Option.some.injEq,Prod.mk.injEq] at H
  obtain ⟨rfl,rfl,rfl,rfl,rfl⟩:=H
  (refine calls_of_wp_r Tryd.func6 rfl ?_;let qx_ : Exit→Act→World→Prop:=bodyPost Tryd.prog Tryd.f6 (fun _ _=>True);simp only [Tryd.ntmps6,List.size_toArray,List.length_cons,List.length_nil,Nat.reduceAdd,Nat.reduceSub,Array.replicate_succ,Array.replicate_zero,List.push_toArray,List.append_toArray,List.nil_append,List.cons_append])
  go_wp2_with (first|((with_reducible refine gate_dst (N:=2) rfl ?_);refine box_event ?hg (N:=2) ?hd (cs:=#[.int .i64 0,.int .i64 0,.int .i64 0,.slice none 0 0]) (t:=26) ?hr ?_;(case hd=>rfl);(case hg=>rfl);(case hr=>first|(go_simp;done)|(go_simp;rfl));intro gb257 hg w75 hbox hb;have n0_:=A_ (bp_ (hb0_ HB.out) hb);have n1_:=A_ (hbox);have n2_:=A_ ((by rw [hg];exact (bz_ (hb0_ HB.out)) : w.heap.size≤gb257));have n3_:=n2_;clear HB;have HB:=n0_;have BK257:=n1_;have GW257:=n2_;have GE257:=n3_;clear n0_ n1_ n2_ n3_;clear hb hbox hg;obtain ⟨z76_0,z76_1,z76_2,z76_3⟩:=blkc_4 BK257.out;obtain ⟨y76_0,y76_1,y76_2⟩:=blkz_3 BK257.out;have y76_3:=bf_ BK257.out 3))
  refine bodyPostR_ret (results_ct rfl _ _ gb257 26 #[.int .i64 0,.int .i64 0,.int .i64 0,.slice none 0 0] (0,0) _ rfl (by refine kk_ ?_;apply blkf_4_0_3;exact kk_ BK257.out) Tryd.underlying26 rfl (by kernel_rfl)) rfl ?_
  exact ⟨_,by first|rfl|(simp [errW_none,errW_some] <;> rfl)|(simp [*,errW_none,errW_some] <;> rfl),by first|exact Kd.R_nil _ _ _ _ _|exact Kd.N_nil _ _ _ _ _|exact Kd.V_nil _ _ _ _ _|exact Kd.Q_nil _ _ _ _ _|exact Kd.S_nil _ _ _ _ _,hb1_ HB.out GE257.out⟩
 rw [if_pos c2] at H
 have c2b0 : ((l0.length : Int) == 512)=true:=beq_iff_eq.mpr c2;have c2b1 : ((l0.length : Int) != 512)=false:=bne_eq_false_iff_eq.mpr c2;clear c2;replace H:=Option.bind_eq_some_iff.mp H;obtain ⟨t258,A30,H⟩:=H
 replace H : (if t258=true then ((table_First.f).bind fun bt259=>(some (bt259.1,bt259.2.1,bt259.2.2.1,bt259.2.2.2,0))) else ((tally_Open.f k l0).bind fun bt265=>(table_Decode.j0 k bt265.1 bt265.2 (bt265.2 != 0))))=some (r1,r2,r3,r4,r5):=H
 have A3:=A_ A30;clear A30
 by_cases c4 : t258=true
 ·subst c4
  have H1 : ((table_First.f).bind fun bt259=>(some (bt259.1,bt259.2.1,bt259.2.2.1,bt259.2.2.2,0)))=some (r1,r2,r3,r4,r5):=by rw [if_pos rfl] at H;exact H
  clear H;have H:=H1;clear H1;replace H:=Option.bind_eq_some_iff.mp H;obtain ⟨⟨t259,t260,t261,t262⟩,A50,H⟩:=H;replace H : (some (t259,t260,t261,t262,0))=some (r1,r2,r3,r4,r5):=H;have A5:=A_ A50;clear A50
  simp only [Option.some.injEq,Prod.mk.injEq] at H
  obtain ⟨rfl,rfl,rfl,rfl,rfl⟩:=H
  (refine calls_of_wp_r Tryd.func6 rfl ?_;let qx_ : Exit→Act→World→Prop:=bodyPost Tryd.prog Tryd.f6 (fun _ _=>True);simp only [Tryd.ntmps6,List.size_toArray,List.length_cons,List.length_nil,Nat.reduceAdd,Nat.reduceSub,Array.replicate_succ,Array.replicate_zero,List.push_toArray,List.append_toArray,List.nil_append,List.cons_append])
  go_wp2_with (first|((with_reducible refine gate_dst (N:=2) rfl ?_);refine box_event ?hg (N:=2) ?hd (cs:=#[.int .i64 0,.int .i64 0,.int .i64 0,.slice none 0 0]) (t:=26) ?hr ?_;(case hd=>rfl);(case hg=>rfl);(case hr=>first|(go_simp;done)|(go_simp;rfl));intro gb257 hg w6 hbox hb;have n0_:=A_ (bp_ (hb0_ HB.out) hb);have n1_:=A_ (hbox);have n2_:=A_ ((by rw [hg];exact (bz_ (hb0_ HB.out)) : w.heap.size≤gb257));have n3_:=n2_;clear HB;have HB:=n0_;have BK257:=n1_;have GW257:=n2_;have GE257:=n3_;clear n0_ n1_ n2_ n3_;clear hb hbox hg)|((with_reducible refine gate_callee (f:=20) rfl ?_);refine goesL_ (some 17) rfl rfl Tryd.func20 (by kernel_rfl) rfl #[.slice A0 l0.length c0] rfl (by (try simp only [List.map_toArray,List.map_cons,List.map_nil]);first|done|rfl|(simp only [List.length_drop,List.length_take];rfl)) ?_;(with_reducible refine (table_nought.calls k _ _ l0 true _ ?side1 ?side2 A3.out).mono ?_);(case side1=>repeat (first|exact (Kd.C_below HR0.out HB.out)|(with_reducible refine Kd.C_alloc ?_ _)|(with_reducible refine Kd.C_drewN ?_ _)|(with_reducible refine Kd.C_drew ?_)));(case side2=>exact HC0.out);rintro e w7 ⟨rfl,hb⟩;refine ⟨_,rfl,?_⟩;have n0_:=A_ (bx_ BK257.out kf_ hb);have n1_:=A_ (bp_ (hb1_ HB.out GE257.out) hb);clear BK257;clear HB;have BK257:=n0_;have HB:=n1_;clear n0_ n1_;(try clear hb);(try clear hb2);(try clear hk);(try clear hi))|((with_reducible refine gate_callee (f:=9) rfl ?_);refine goesL_ (some 18) rfl rfl Tryd.func9 (by kernel_rfl) rfl #[] rfl (by (try simp only [List.map_toArray,List.map_cons,List.map_nil]);first|done|rfl|(simp only [List.length_drop,List.length_take];rfl)) ?_;(with_reducible refine (table_First.calls  t259 t260 t261 t262 _ A5.out).mono ?_);rintro e w8 ⟨v263,rfl,ho0,hb⟩;refine ⟨_,rfl,?_⟩;have n0_:=A_ (Kd.R_lower ho0 (bz_ (hb1_ HB.out GE257.out)));have n1_:=A_ (bx_ BK257.out kf_ hb);have n2_:=A_ (bp_ (hb1_ HB.out GE257.out) hb);clear BK257;clear HB;have HO264:=n0_;have BK257:=n1_;have HB:=n2_;clear n0_ n1_ n2_;(try clear hb);(try clear hb2);(try clear hk);(try clear hi);(try clear ho0);obtain ⟨z9_0,z9_1,z9_2,z9_3⟩:=blkc_4 BK257.out;obtain ⟨y9_0,y9_1,y9_2,y9_3⟩:=blkz_4 BK257.out;obtain ⟨Ao10,co10,eo10⟩:=Kd.R_slice HO264.out;subst eo10))
  refine bodyPostR_ret (results_ct rfl _ _ gb257 26 #[.int .i64 t259,.int .i64 t260,.int .i64 t261,.slice Ao10 t262.length co10] (0,0) _ rfl (by refine kk_ ?_;apply blkf_4_0_3;exact kk_ BK257.out) Tryd.underlying26 rfl (by kernel_rfl)) rfl ?_
  exact ⟨_,by first|rfl|(simp [errW_none,errW_some] <;> rfl)|(simp [*,errW_none,errW_some] <;> rfl),by (with_reducible repeat (first|apply ra_|apply rn_|apply re_));exact Kd.R_mono (rf_ (p:=⟨gb257,3,none⟩) (rf_ (p:=⟨gb257,2,none⟩) (rf_ (p:=⟨gb257,1,none⟩) (rf_ (p:=⟨gb257,0,none⟩) (Kd.R_types HO264.out BK257.out (by decide)) (fun _ hk=>hk.2) (.int .i64 t259)) (fun _ hk=>hk.2) (.int .i64 t260)) (fun _ hk=>hk.2) (.int .i64 t261)) (fun _ hk=>hk.2) (.slice Ao10 t262.length co10)) (fun _ hk=>trivial),hb1_ HB.out GE257.out⟩
 replace c4:=Bool.eq_false_iff.mpr c4
 subst c4
 have H1 : ((tally_Open.f k l0).bind fun bt265=>(table_Decode.j0 k bt265.1 bt265.2 (bt265.2 != 0)))=some (r1,r2,r3,r4,r5):=by rw [if_neg (show ¬ (false=true) by decide)] at H;exact H
 clear H;have H:=H1;clear H1;replace H:=Option.bind_eq_some_iff.mp H;obtain ⟨⟨t265,t266⟩,A110,H⟩:=H;replace H : (table_Decode.j0 k t265 t266 (t266 != 0))=some (r1,r2,r3,r4,r5):=H;have A11:=A_ A110;clear A110;have HC12:=A_ H;clear H
 (refine calls_of_wp_r Tryd.func6 rfl ?_;let qx_ : Exit→Act→World→Prop:=bodyPost Tryd.prog Tryd.f6 (fun _ _=>True);simp only [Tryd.ntmps6,List.size_toArray,List.length_cons,List.length_nil,Nat.reduceAdd,Nat.reduceSub,Array.replicate_succ,Array.replicate_zero,List.push_toArray,List.append_toArray,List.nil_append,List.cons_append])
 go_upto_region 6 with (first|((with_reducible refine gate_dst (N:=2) rfl ?_);refine box_event ?hg (N:=2) ?hd (cs:=#[.int .i64 0,.int .i64 0,.int .i64 0,.slice none 0 0]) (t:=26) ?hr ?_;(case hd=>rfl);(case hg=>rfl);(case hr=>first|(go_simp;done)|(go_simp;rfl));intro gb257 hg w13 hbox hb;have n0_:=A_ (bp_ (hb0_ HB.out) hb);have n1_:=A_ (hbox);have n2_:=A_ ((by rw [hg];exact (bz_ (hb0_ HB.out)) : w.heap.size≤gb257));have n3_:=n2_;clear HB;have HB:=n0_;have BK257:=n1_;have GW257:=n2_;have GE257:=n3_;clear n0_ n1_ n2_ n3_;clear hb hbox hg)|((with_reducible refine gate_callee (f:=20) rfl ?_);refine goesL_ (some 17) rfl rfl Tryd.func20 (by kernel_rfl) rfl #[.slice A0 l0.length c0] rfl (by (try simp only [List.map_toArray,List.map_cons,List.map_nil]);first|done|rfl|(simp only [List.length_drop,List.length_take];rfl)) ?_;(with_reducible refine (table_nought.calls k _ _ l0 false _ ?side1 ?side2 A3.out).mono ?_);(case side1=>repeat (first|exact (Kd.C_below HR0.out HB.out)|(with_reducible refine Kd.C_alloc ?_ _)|(with_reducible refine Kd.C_drewN ?_ _)|(with_reducible refine Kd.C_drew ?_)));(case side2=>exact HC0.out);rintro e w14 ⟨rfl,hb⟩;refine ⟨_,rfl,?_⟩;have n0_:=A_ (bx_ BK257.out kf_ hb);have n1_:=A_ (bp_ (hb1_ HB.out GE257.out) hb);clear BK257;clear HB;have BK257:=n0_;have HB:=n1_;clear n0_ n1_;(try clear hb);(try clear hb2);(try clear hk);(try clear hi))|((with_reducible refine gate_callee (f:=21) rfl ?_);refine goesL_ (some 21) rfl rfl Tryd.func21 (by kernel_rfl) rfl #[.slice A0 l0.length c0] rfl (by (try simp only [List.map_toArray,List.map_cons,List.map_nil]);first|done|rfl|(simp only [List.length_drop,List.length_take];rfl)) ?_;(with_reducible refine (tally_Open.calls k _ _ l0 t265 t266 _ ?side1 ?side2 A11.out).mono ?_);(case side1=>repeat (first|exact (Kd.C_below HR0.out HB.out)|(with_reducible refine Kd.C_alloc ?_ _)|(with_reducible refine Kd.C_drewN ?_ _)|(with_reducible refine Kd.C_drew ?_)));(case side2=>exact HC0.out);rintro e w15 ⟨v267,rfl,ho0,hb⟩;refine ⟨_,rfl,?_⟩;have n0_:=A_ (Kd.Q_lower ho0 (bz_ (hb1_ HB.out GE257.out)));have n1_:=A_ (bx_ BK257.out kf_ hb);have n2_:=A_ (bp_ (hb1_ HB.out GE257.out) hb);clear BK257;clear HB;have HO268:=n0_;have BK257:=n1_;have HB:=n2_;clear n0_ n1_ n2_;(try clear hb);(try clear hb2);(try clear hk);(try clear hi);(try clear ho0)))
 (try simp only [Act.put,u1_,u2_,u3_])
 go_cut [25] (fun v25 wc=>∃ (kq : Nat) (x25_11 : Bool),v25=.bool x25_11∧Aside0 (table_Decode.j0 kq t265 t266 x25_11=some (r1,r2,r3,r4,r5))∧Aside0 (kq≤k)∧Aside0 (Kd.Q (Kd.int .u8) 5 wc w.heap.size (fun _=>True) v267 t265)∧Aside0 (wc.heap[gb257]?=some (.cells #[.int .i64 0,.int .i64 0,.int .i64 0,(.slice none 0 0)] 26 (0,0)))∧Aside0 (Below w.heap.size w wc))
 case first =>
  have H:=HC12.out;clear HC12;have H':=A_ H;clear H;go_wp2;go_meet
  case rel=>exact ⟨_,((t266 != 0)),(by first|rfl|(simp;done)|(simp [*];done)),H',⟨by first|omega|exact Nat.le_refl _⟩,⟨by (with_reducible repeat (first|apply Kd.Q_alloc|apply Kd.Q_drewN|apply Kd.Q_drew));exact HO268.out⟩,⟨by exact kk_ BK257.out⟩,⟨hb1_ HB.out GE257.out⟩⟩
 case rest =>
  clear HC12;(try clear c2);(try clear c2b0);(try clear c2b1);(try clear p2);(try clear c4);(try clear c6);(try clear c9);(try clear z9_0 z9_1 z9_2 z9_3 y9_0 y9_1 y9_2 y9_3);obtain ⟨kq,x25_11,rfl,HA,HJ11,HO_4,BK257,HB⟩:=hcut
  cases kq with
  | zero=>exact absurd HA.out (by simp [table_Decode.j0])
  | succ kj11 =>
   have H:=HA.out;clear HA
   simp only [table_Decode.j0] at H
   by_cases c16 : x25_11=true
   ·subst c16
    have H1 : (some (0,0,0,([] : List (S56)),t266))=some (r1,r2,r3,r4,r5):=by rw [if_pos rfl] at H;exact H
    clear H;have H:=H1;clear H1
    simp only [Option.some.injEq,Prod.mk.injEq] at H
    obtain ⟨rfl,rfl,rfl,rfl,rfl⟩:=H;obtain ⟨z17_0,z17_1,z17_2,z17_3⟩:=blkc_4 BK257.out;obtain ⟨y17_0,y17_1,y17_2,y17_3⟩:=blkz_4 BK257.out;go_wp2
    refine bodyPostR_ret (results_ct rfl _ _ gb257 26 #[.int .i64 0,.int .i64 0,.int .i64 0,.slice none 0 0] (0,0) _ rfl (by refine kk_ ?_;apply blkf_4_0_3;exact kk_ BK257.out) Tryd.underlying26 rfl (by kernel_rfl)) rfl ?_
    exact ⟨_,by first|rfl|(simp [errW_none,errW_some] <;> rfl)|(simp [*,errW_none,errW_some] <;> rfl),by first|exact Kd.R_nil _ _ _ _ _|exact Kd.N_nil _ _ _ _ _|exact Kd.V_nil _ _ _ _ _|exact Kd.Q_nil _ _ _ _ _|exact Kd.S_nil _ _ _ _ _,hb1_ HB.out GE257.out⟩
   replace c16:=Bool.eq_false_iff.mpr c16
   subst c16
   have H1 : ((table_kinds.f).bind fun t269=>((pack_Take.f t265 t269).bind fun bt272=>(if bt272.2.2=0 then (if 0<(bt272.1.length : Int) then (if ((rd_T51 bt272.1 0).f1)=84 then (if 0≤bt272.2.1 then (if bt272.2.1≤(t265.length : Int) then ((table_nought.f kj11 (t265.drop (bt272.2.1 : Int).toNat)).bind fun t282=>(table_Decode.j1 kj11 bt272.1 (!t282))) else (none)) else (none)) else (table_Decode.j1 kj11 bt272.1 true)) else (none)) else (table_Decode.j1 kj11 bt272.1 true))))=some (r1,r2,r3,r4,r5):=by rw [if_neg (show ¬ (false=true) by decide)] at H;exact H
   clear H;have H:=H1;clear H1;replace H:=Option.bind_eq_some_iff.mp H;obtain ⟨t269,A180,H⟩:=H
   replace H : ((pack_Take.f t265 t269).bind fun bt272=>(if bt272.2.2=0 then (if 0<(bt272.1.length : Int) then (if ((rd_T51 bt272.1 0).f1)=84 then (if 0≤bt272.2.1 then (if bt272.2.1≤(t265.length : Int) then ((table_nought.f kj11 (t265.drop (bt272.2.1 : Int).toNat)).bind fun t282=>(table_Decode.j1 kj11 bt272.1 (!t282))) else (none)) else (none)) else (table_Decode.j1 kj11 bt272.1 true)) else (none)) else (table_Decode.j1 kj11 bt272.1 true)))=some (r1,r2,r3,r4,r5):=H
   have A18:=A_ A180;clear A180;replace H:=Option.bind_eq_some_iff.mp H;obtain ⟨⟨t272,t273,t274⟩,A190,H⟩:=H
   replace H : (if t274=0 then (if 0<(t272.length : Int) then (if ((rd_T51 t272 0).f1)=84 then (if 0≤t273 then (if t273≤(t265.length : Int) then ((table_nought.f kj11 (t265.drop (t273 : Int).toNat)).bind fun t282=>(table_Decode.j1 kj11 t272 (!t282))) else (none)) else (none)) else (table_Decode.j1 kj11 t272 true)) else (none)) else (table_Decode.j1 kj11 t272 true))=some (r1,r2,r3,r4,r5):=H
   have A19:=A_ A190;clear A190;have HC20:=A_ H;clear H
   go_upto_region 9 with (first|((with_reducible refine gate_callee (f:=23) rfl ?_);refine goesL_ (some 30) rfl rfl Tryd.func23 (by kernel_rfl) rfl #[] rfl (by (try simp only [List.map_toArray,List.map_cons,List.map_nil]);first|done|rfl|(simp only [List.length_drop,List.length_take];rfl)) ?_;(with_reducible refine (table_kinds.calls  t269 _ A18.out).mono ?_);rintro e w21 ⟨v270,rfl,ho0,hb⟩;refine ⟨_,rfl,?_⟩;have n0_:=A_ (Kd.Q_below (by (with_reducible repeat (first|apply Kd.Q_alloc|apply Kd.Q_drewN|apply Kd.Q_drew));exact HO_4.out) hb);have n1_:=A_ (Kd.R_lower ho0 (bz_ (hb1_ HB.out GE257.out)));have n2_:=A_ (bx_ BK257.out kf_ hb);have n3_:=A_ (bp_ (hb1_ HB.out GE257.out) hb);clear HO_4;clear BK257;clear HB;have HO_4:=n0_;have HO271:=n1_;have BK257:=n2_;have HB:=n3_;clear n0_ n1_ n2_ n3_;(try clear hb);(try clear hb2);(try clear hk);(try clear hi);(try clear ho0);obtain ⟨Ao22,co22,eo22,_⟩:=Kd.Q_slice HO_4.out;subst eo22;obtain ⟨Ao23,co23,eo23⟩:=Kd.R_slice HO271.out;subst eo23)|((with_reducible refine gate_callee (f:=22) rfl ?_);refine goesL_ (some 31) rfl rfl Tryd.func22 (by kernel_rfl) rfl #[.slice Ao22 t265.length co22,.slice Ao23 t269.length co23] rfl (by (try simp only [List.map_toArray,List.map_cons,List.map_nil]);first|done|rfl|(simp only [List.length_drop,List.length_take];rfl)) ?_;(with_reducible refine (pack_Take.calls _ _ t265 _ _ t269 t272 t273 t274 _ ?side1 ?side2 ?side3 ?side4 A19.out).mono ?_);(case side1=>repeat (first|exact (Kd.Q_reads' HO_4.out).2.2|(with_reducible refine Kd.C_alloc ?_ _)|(with_reducible refine Kd.C_drewN ?_ _)|(with_reducible refine Kd.C_drew ?_)));(case side2=>exact (Kd.Q_reads' HO_4.out).2.1);(case side3=>repeat (first|exact (Kd.R_reads' HO271.out).2.2|(with_reducible refine Kd.C_alloc ?_ _)|(with_reducible refine Kd.C_drewN ?_ _)|(with_reducible refine Kd.C_drew ?_)));(case side4=>exact (Kd.R_reads' HO271.out).2.1);rintro e w24 ⟨v275,rfl,ho0,hb⟩;refine ⟨_,rfl,?_⟩;have n0_:=A_ (Kd.Q_below (by (with_reducible repeat (first|apply Kd.Q_alloc|apply Kd.Q_drewN|apply Kd.Q_drew));exact HO_4.out) hb);have n1_:=A_ (Kd.R_below (by (with_reducible repeat (first|apply ra_|apply rn_|apply re_));exact HO271.out) hb);have n2_:=A_ (Kd.R_lower ho0 (bz_ (hb1_ HB.out GE257.out)));have n3_:=A_ (bx_ BK257.out kf_ hb);have n4_:=A_ (bp_ (hb1_ HB.out GE257.out) hb);clear HO_4;clear HO271;clear BK257;clear HB;have HO_4:=n0_;have HO271:=n1_;have HO276:=n2_;have BK257:=n3_;have HB:=n4_;clear n0_ n1_ n2_ n3_ n4_;(try clear hb);(try clear hb2);(try clear hk);(try clear hi);(try clear ho0)))
   (try simp only [Act.put,u1_,u2_,u3_])
   go_cut [50] (fun v50 wc=>∃ (kq : Nat) (x50_19 : Bool),v50=.bool x50_19∧Aside0 (table_Decode.j1 kq t272 x50_19=some (r1,r2,r3,r4,r5))∧Aside0 (kq≤kj11)∧Aside0 (Kd.R k51 51 wc w.heap.size (fun _=>True) v275 t272)∧Aside0 (wc.heap[gb257]?=some (.cells #[.int .i64 0,.int .i64 0,.int .i64 0,(.slice none 0 0)] 26 (0,0)))∧Aside0 (Below w.heap.size w wc))
   case first =>
    have H:=HC20.out;clear HC20
    by_cases c25 : t274=0
    rotate_left
    ·rw [if_neg c25] at H
     have c25b0 : (t274 == 0)=false:=beq_eq_false_iff_ne.mpr c25;have c25b1 : (t274 != 0)=true:=bne_iff_ne.mpr c25;(first|rw [c25b0]|(simp only [i64_w,i32_w];rw [c25b0])|skip);have H':=A_ H;clear H;go_wp2;go_meet
     case rel=>exact ⟨_,true,rfl,H',⟨by have:=HJ11.out;first|omega|exact Nat.le_refl _⟩,⟨by (with_reducible repeat (first|apply ra_|apply rn_|apply re_));exact HO276.out⟩,⟨by exact kk_ BK257.out⟩,⟨hb1_ HB.out GE257.out⟩⟩
    rw [if_pos c25] at H
    have c25b0 : (t274 == 0)=true:=beq_iff_eq.mpr c25;have c25b1 : (t274 != 0)=false:=bne_eq_false_iff_eq.mpr c25;clear c25;(first|rw [c25b0]|(simp only [i64_w,i32_w];rw [c25b0])|skip)
    by_cases c26 : 0<(t272.length : Int)
    rotate_left
    ·rw [if_neg c26] at H
     exact absurd H (by simp)
    rw [if_pos c26] at H
    have c26b0 : decide (0<(t272.length : Int))=true:=dt_ c26
    have c26b1 : decide (0<t272.length)=true:=dt_ (by omega)
    clear c26
    by_cases c27 : ((rd_T51 t272 0).f1)=84
    rotate_left
    ·rw [if_neg c27] at H
     have c27b0 : (((rd_T51 t272 0).f1) == 84)=false:=beq_eq_false_iff_ne.mpr c27;have c27b1 : (((rd_T51 t272 0).f1) != 84)=true:=bne_iff_ne.mpr c27;have H':=A_ H;clear H;obtain ⟨Ao34,co34,eo34⟩:=Kd.R_slice HO276.out;subst eo34
     have p277 : 0≤(0 : Int):=(by omega)
     have q277 : 0<(t272.length : Int):=od_ (by first|(with_reducible assumption)|assumption)
     obtain ⟨ad277,e277,hx277_0,hx277_1,hx277_2,hx277_3⟩:=at_T51 (Kd.R_reads' HO276.out).2.2 0 p277 q277
     cases e277
     have qi277 : (0<t272.length)=True:=eq_true (by omega)
     (try rw [N0_] at hx277_0)
     (try rw [show 0 * 4=0 from rfl] at hx277_0)
     (try rw [Addr.add_zero'] at hx277_0);(try rw [N0_] at hx277_1)
     (try rw [show 0 * 4=0 from rfl] at hx277_1)
     (try rw [Addr.add_zero'] at hx277_1);(try rw [N0_] at hx277_2)
     (try rw [show 0 * 4=0 from rfl] at hx277_2)
     (try rw [Addr.add_zero'] at hx277_2);(try rw [N0_] at hx277_3)
     (try rw [show 0 * 4=0 from rfl] at hx277_3)
     (try rw [Addr.add_zero'] at hx277_3);replace p277:=eq_true p277;replace q277:=eq_true q277;go_wp2;go_meet
     case rel=>exact ⟨_,true,rfl,H',⟨by have:=HJ11.out;first|omega|exact Nat.le_refl _⟩,⟨by (with_reducible repeat (first|apply ra_|apply rn_|apply re_));exact HO276.out⟩,⟨by exact kk_ BK257.out⟩,⟨hb1_ HB.out GE257.out⟩⟩
    rw [if_pos c27] at H
    have c27b0 : (((rd_T51 t272 0).f1) == 84)=true:=beq_iff_eq.mpr c27;have c27b1 : (((rd_T51 t272 0).f1) != 84)=false:=bne_eq_false_iff_eq.mpr c27;clear c27
    by_cases c28 : 0≤t273
    rotate_left
    ·rw [if_neg c28] at H
     exact absurd H (by simp)
    rw [if_pos c28] at H
    have c28b0:=eq_true c28;have c28b1 : decide (0≤t273)=true:=dt_ c28;clear c28
    by_cases c29 : t273≤(t265.length : Int)
    rotate_left
    ·rw [if_neg c29] at H
     exact absurd H (by simp)
    rw [if_pos c29] at H
    have c29b0:=eq_true c29;have c29b1 : decide (t273≤(t265.length : Int))=true:=dt_ c29;clear c29
    obtain ⟨y278,hy278⟩ : ∃ y_ : List Int,y_=(t265.drop (t273 : Int).toNat):=⟨_,rfl⟩
    replace H : ((table_nought.f kj11 y278).bind fun t282=>(table_Decode.j1 kj11 t272 (!t282)))=some (r1,r2,r3,r4,r5):=by first|(rw [hy278];with_reducible exact H)|(have H2_:=(Option.bind_some _ _).symm.trans H;rw [hy278];with_reducible exact H2_)|(have H2_:=(Option.bind_some _ _).symm.trans H;with_reducible exact H2_)|with_reducible exact H|(rw [hy278];exact H)|exact H
    have Ny278:=A_ hy278;clear hy278;replace H:=Option.bind_eq_some_iff.mp H;obtain ⟨t282,A300,H⟩:=H;replace H : (table_Decode.j1 kj11 t272 (!t282))=some (r1,r2,r3,r4,r5):=H;have A30:=A_ A300;clear A300;have H':=A_ H;clear H;obtain ⟨Ao31,co31,eo31⟩:=Kd.R_slice HO276.out;subst eo31
    have p277 : 0≤(0 : Int):=(by omega)
    have q277 : 0<(t272.length : Int):=od_ (by first|(with_reducible assumption)|assumption)
    obtain ⟨ad277,e277,hx277_0,hx277_1,hx277_2,hx277_3⟩:=at_T51 (Kd.R_reads' HO276.out).2.2 0 p277 q277
    cases e277
    have qi277 : (0<t272.length)=True:=eq_true (by omega)
    (try rw [N0_] at hx277_0)
    (try rw [show 0 * 4=0 from rfl] at hx277_0)
    (try rw [Addr.add_zero'] at hx277_0);(try rw [N0_] at hx277_1)
    (try rw [show 0 * 4=0 from rfl] at hx277_1)
    (try rw [Addr.add_zero'] at hx277_1);(try rw [N0_] at hx277_2)
    (try rw [show 0 * 4=0 from rfl] at hx277_2)
    (try rw [Addr.add_zero'] at hx277_2);(try rw [N0_] at hx277_3)
    (try rw [show 0 * 4=0 from rfl] at hx277_3)
    (try rw [Addr.add_zero'] at hx277_3);replace p277:=eq_true p277;replace q277:=eq_true q277
    have q32 : (t273 : Int)≤((t265.length : Int) : Int):=od_ (by first|(with_reducible assumption)|assumption)
    obtain ⟨i032,hi032,_,hsz32,_⟩:=info_parts info5;have hroom32 : t265.length≤co22:=(Kd.Q_reads' HO_4.out).2.1;have hC32 : Kd.C (Kd.int .u8) _ Ao22 t265.length t265:=(Kd.Q_reads' HO_4.out).2.2
    have q032 : (0 : Int)≤(t273 : Int):=od_ (by first|(with_reducible assumption)|assumption)
    have hcut32:=cut_from (P:=Tryd.prog) 22 5 .i64 Tryd.underlying22 hi032 1 hsz32 Ao22 t265.length co22 t273 q032 q32
    have hr32:=Kd.C_drop (m:=(t273 : Int).toNat) (c:=co22) hC32 (by omega) hroom32
    obtain ⟨A32,hA32⟩ : ∃ A1,A1=(if co22=(t273 : Int).toNat then Ao22 else (Ao22 : Option Addr).map (·.add ((t273 : Int).toNat * 1))):=⟨_,rfl⟩
    obtain ⟨c32,hc32⟩ : ∃ c1,c1=co22 - (t273 : Int).toNat:=⟨_,rfl⟩
    have hy32 : y278.length=t265.length - (t273 : Int).toNat:=(by rw [Ny278.out,List.length_drop] <;> omega)
    rw [show (t265).drop (t273 : Int).toNat=y278 from Ny278.out.symm] at hr32
    replace hr32 : Kd.C (Kd.int .u8) _ A32 y278.length y278:=(by rw [hA32];exact hr32)
    rw [← hy32,← hA32,← hc32] at hcut32;have HR281:=A_ hr32
    have HC281:=A_ (show y278.length≤c32 from by rw [hy32,hc32];exact Nat.sub_le_sub_right hroom32 _)
    clear hr32 hC32 hroom32 hi032 hsz32 hc32;have KY32:=A_ hy32;have KA32:=A_ hA32;clear hy32 hA32
    have KL32:=A_ (show (t273 : Int).toNat≤t265.length from by omega)
    replace q32:=eq_true q32
    go_wp2_with (first|(go_at_call 20;(with_reducible refine (table_nought.calls kj11 _ _ y278 t282 _ ?side1 ?side2 A30.out).mono ?_);(case side1=>repeat (first|exact (by repeat (first|(with_reducible exact HR281.out)|(with_reducible refine Kd.C_alloc ?_ _)|(with_reducible refine Kd.C_drewN ?_ _)|(with_reducible refine Kd.C_drew ?_)|exact HR281.out))|(with_reducible refine Kd.C_alloc ?_ _)|(with_reducible refine Kd.C_drewN ?_ _)|(with_reducible refine Kd.C_drew ?_)));(case side2=>exact HC281.out);rintro e w33 ⟨rfl,hb⟩;have n0_:=A_ (Kd.Q_below (by (with_reducible repeat (first|apply Kd.Q_alloc|apply Kd.Q_drewN|apply Kd.Q_drew));exact HO_4.out) hb);have n1_:=A_ (Kd.R_below (by (with_reducible repeat (first|apply ra_|apply rn_|apply re_));exact HO271.out) hb);have n2_:=A_ (Kd.R_below (by (with_reducible repeat (first|apply ra_|apply rn_|apply re_));exact HO276.out) hb);have n3_:=A_ (bx_ BK257.out kf_ hb);have n4_:=A_ (Kd.C_below (by repeat (first|(with_reducible exact HR281.out)|(with_reducible refine Kd.C_alloc ?_ _)|(with_reducible refine Kd.C_drewN ?_ _)|(with_reducible refine Kd.C_drew ?_)|exact HR281.out)) hb);have n5_:=A_ (bp_ (hb1_ HB.out GE257.out) hb);clear HO_4;clear HO271;clear HO276;clear BK257;clear HR281;clear HB;have HO_4:=n0_;have HO271:=n1_;have HO276:=n2_;have BK257:=n3_;have HR281:=n4_;have HB:=n5_;clear n0_ n1_ n2_ n3_ n4_ n5_;(try clear hb);(try clear hb2);(try clear hk);(try clear hi)))
    go_meet
    case rel=>exact ⟨_,(!t282),(by first|rfl|(simp;done)|(simp [*];done)),H',⟨by have:=HJ11.out;first|omega|exact Nat.le_refl _⟩,⟨by (with_reducible repeat (first|apply ra_|apply rn_|apply re_));exact HO276.out⟩,⟨by exact kk_ BK257.out⟩,⟨hb1_ HB.out GE257.out⟩⟩
   case rest =>
    clear HC20;(try clear c1);(try clear c2);(try clear c2b0);(try clear c2b1);(try clear p2);(try clear q2);(try clear hx2);(try clear qi2);(try clear c3);(try clear q3);(try clear c4);(try clear c6);(try clear c9);(try clear c16);(try clear c20);(try clear c21);(try clear c22);(try clear c23);(try clear c25);(try clear c25b0);(try clear c25b1);(try clear c26);(try clear c26b0);(try clear c26b1);(try clear c27);(try clear c27b0);(try clear c27b1);(try clear p27);(try clear q27);(try clear hx27);(try clear qi27);(try clear c28);(try clear c28b0);(try clear c28b1);(try clear c29);(try clear c29b0);(try clear c29b1);(try clear c32);(try clear q32);(try clear hx277_0);(try clear hx277_1);(try clear hx277_2);(try clear hx277_3);(try clear p2);(try clear p277);(try clear q032);(try clear q277);(try clear q32);(try clear z17_0 z17_1 z17_2 z17_3 z9_0 z9_1 z9_2 z9_3 y17_0 y17_1 y17_2 y17_3 y9_0 y9_1 y9_2 y9_3);obtain ⟨kq,x50_19,rfl,HA,HJ19,HO_6,BK257,HB⟩:=hcut
    cases kq with
    | zero=>exact absurd HA.out (by simp [table_Decode.j1])
    | succ kj19 =>
     have H:=HA.out;clear HA
     simp only [table_Decode.j1] at H
     by_cases c35 : x50_19=true
     ·subst c35
      have H1 : (some (0,0,0,([] : List (S56)),4))=some (r1,r2,r3,r4,r5):=by rw [if_pos rfl] at H;exact H
      clear H;have H:=H1;clear H1
      simp only [Option.some.injEq,Prod.mk.injEq] at H
      obtain ⟨rfl,rfl,rfl,rfl,rfl⟩:=H;obtain ⟨z36_0,z36_1,z36_2,z36_3⟩:=blkc_4 BK257.out;obtain ⟨y36_0,y36_1,y36_2,y36_3⟩:=blkz_4 BK257.out;go_wp2
      refine bodyPostR_ret (results_ct rfl _ _ gb257 26 #[.int .i64 0,.int .i64 0,.int .i64 0,.slice none 0 0] (0,0) _ rfl (by refine kk_ ?_;apply blkf_4_0_3;exact kk_ BK257.out) Tryd.underlying26 rfl (by kernel_rfl)) rfl ?_
      exact ⟨_,by first|rfl|(simp [errW_none,errW_some] <;> rfl)|(simp [*,errW_none,errW_some] <;> rfl),by first|exact Kd.R_nil _ _ _ _ _|exact Kd.N_nil _ _ _ _ _|exact Kd.V_nil _ _ _ _ _|exact Kd.Q_nil _ _ _ _ _|exact Kd.S_nil _ _ _ _ _,hb1_ HB.out GE257.out⟩
     replace c35:=Bool.eq_false_iff.mpr c35
     subst c35
     have H1 : (if 1<(t272.length : Int) then (if 2<(t272.length : Int) then (if 3<(t272.length : Int) then (if 4≤(t272.length : Int) then ((slices_Chunk_api_Item_api_Item.f (t272.drop 4) 4).bind fun t291=>((table_Check.f kj19 ((rd_T51 t272 1).f1) ((rd_T51 t272 2).f1) ((rd_T51 t272 3).f1) t291).bind fun t294=>(if t294=0 then (some ((rd_T51 t272 1).f1,(rd_T51 t272 2).f1,(rd_T51 t272 3).f1,t291,0)) else (some (0,0,0,([] : List (S56)),4))))) else (none)) else (none)) else (none)) else (none))=some (r1,r2,r3,r4,r5):=by rw [if_neg (show ¬ (false=true) by decide)] at H;exact H
     clear H;have H:=H1;clear H1
     by_cases c37 : 1<(t272.length : Int)
     rotate_left
     ·rw [if_neg c37] at H
      exact absurd H (by simp)
     rw [if_pos c37] at H
     have c37b0 : decide (1<(t272.length : Int))=true:=dt_ c37
     have c37b1 : decide (1<t272.length)=true:=dt_ (by omega)
     clear c37
     by_cases c38 : 2<(t272.length : Int)
     rotate_left
     ·rw [if_neg c38] at H
      exact absurd H (by simp)
     rw [if_pos c38] at H
     have c38b0 : decide (2<(t272.length : Int))=true:=dt_ c38
     have c38b1 : decide (2<t272.length)=true:=dt_ (by omega)
     clear c38
     by_cases c39 : 3<(t272.length : Int)
     rotate_left
     ·rw [if_neg c39] at H
      exact absurd H (by simp)
     rw [if_pos c39] at H
     have c39b0 : decide (3<(t272.length : Int))=true:=dt_ c39
     have c39b1 : decide (3<t272.length)=true:=dt_ (by omega)
     clear c39
     by_cases c40 : 4≤(t272.length : Int)
     rotate_left
     ·rw [if_neg c40] at H
      exact absurd H (by simp)
     rw [if_pos c40] at H
     have c40b0:=eq_true c40;have c40b1 : decide (4≤(t272.length : Int))=true:=dt_ c40;clear c40
     obtain ⟨y287,hy287⟩ : ∃ y_ : List (S51),y_=(t272.drop 4):=⟨_,rfl⟩
     replace H : ((slices_Chunk_api_Item_api_Item.f y287 4).bind fun t291=>((table_Check.f kj19 ((rd_T51 t272 1).f1) ((rd_T51 t272 2).f1) ((rd_T51 t272 3).f1) t291).bind fun t294=>(if t294=0 then (some ((rd_T51 t272 1).f1,(rd_T51 t272 2).f1,(rd_T51 t272 3).f1,t291,0)) else (some (0,0,0,([] : List (S56)),4)))))=some (r1,r2,r3,r4,r5):=by first|(rw [hy287];with_reducible exact H)|(have H2_:=(Option.bind_some _ _).symm.trans H;rw [hy287];with_reducible exact H2_)|(have H2_:=(Option.bind_some _ _).symm.trans H;with_reducible exact H2_)|with_reducible exact H|(rw [hy287];exact H)|exact H
     have Ny287:=A_ hy287;clear hy287;replace H:=Option.bind_eq_some_iff.mp H;obtain ⟨t291,A410,H⟩:=H
     replace H : ((table_Check.f kj19 ((rd_T51 t272 1).f1) ((rd_T51 t272 2).f1) ((rd_T51 t272 3).f1) t291).bind fun t294=>(if t294=0 then (some ((rd_T51 t272 1).f1,(rd_T51 t272 2).f1,(rd_T51 t272 3).f1,t291,0)) else (some (0,0,0,([] : List (S56)),4))))=some (r1,r2,r3,r4,r5):=H
     have A41:=A_ A410;clear A410;replace H:=Option.bind_eq_some_iff.mp H;obtain ⟨t294,A420,H⟩:=H
     replace H : (if t294=0 then (some ((rd_T51 t272 1).f1,(rd_T51 t272 2).f1,(rd_T51 t272 3).f1,t291,0)) else (some (0,0,0,([] : List (S56)),4)))=some (r1,r2,r3,r4,r5):=H
     have A42:=A_ A420;clear A420
     by_cases c43 : t294=0
     rotate_left
     ·rw [if_neg c43] at H
      have c43b0 : (t294 == 0)=false:=beq_eq_false_iff_ne.mpr c43;have c43b1 : (t294 != 0)=true:=bne_iff_ne.mpr c43
      simp only [Option.some.injEq,Prod.mk.injEq] at H
      obtain ⟨rfl,rfl,rfl,rfl,rfl⟩:=H
      try go_wp2
      have n0_:=A_ (re_ HO_6.out);have n1_:=A_ (ke_ BK257.out);have n2_:=A_ (be_ HB.out);clear HO_6;clear BK257;clear HB;have HO_6:=n0_;have BK257:=n1_;have HB:=n2_;clear n0_ n1_ n2_;obtain ⟨Ao61,co61,eo61⟩:=Kd.R_slice HO_6.out
      (first|subst eo61|(injection eo61 with f1_ f2_ f3_;have f4_:=f1_.symm;have f5_:=f3_.symm;clear f1_ f2_ f3_;subst f4_;subst f5_))
      have p283 : 0≤(1 : Int):=(by omega)
      have q283 : 1<(t272.length : Int):=od_ (by first|(with_reducible assumption)|assumption)
      obtain ⟨ad283,e283,hx283_0,hx283_1,hx283_2,hx283_3⟩:=at_T51 (Kd.R_reads' HO_6.out).2.2 1 p283 q283
      cases e283
      (try simp only [N1_,Nat.reduceMul,Nat.reduceEqDiff,Go.Addr.add,↓reduceIte] at hx283_0 hx283_1 hx283_2 hx283_3)
      have qi283 : (1<t272.length)=True:=eq_true (by omega)
      replace p283:=eq_true p283;replace q283:=eq_true q283
      have p284 : 0≤(2 : Int):=(by omega)
      have q284 : 2<(t272.length : Int):=od_ (by first|(with_reducible assumption)|assumption)
      obtain ⟨ad284,e284,hx284_0,hx284_1,hx284_2,hx284_3⟩:=at_T51 (Kd.R_reads' HO_6.out).2.2 2 p284 q284
      obtain rfl : ad283=ad284:=(by injection e284)
      (try simp only [N2_,Nat.reduceMul,Nat.reduceEqDiff,Go.Addr.add,↓reduceIte] at hx284_0 hx284_1 hx284_2 hx284_3)
      have qi284 : (2<t272.length)=True:=eq_true (by omega)
      replace p284:=eq_true p284;replace q284:=eq_true q284
      have p285 : 0≤(3 : Int):=(by omega)
      have q285 : 3<(t272.length : Int):=od_ (by first|(with_reducible assumption)|assumption)
      obtain ⟨ad285,e285,hx285_0,hx285_1,hx285_2,hx285_3⟩:=at_T51 (Kd.R_reads' HO_6.out).2.2 3 p285 q285
      obtain rfl : ad283=ad285:=(by injection e285)
      (try simp only [N3_,Nat.reduceMul,Nat.reduceEqDiff,Go.Addr.add,↓reduceIte] at hx285_0 hx285_1 hx285_2 hx285_3)
      have qi285 : (3<t272.length)=True:=eq_true (by omega)
      replace p285:=eq_true p285;replace q285:=eq_true q285
      refine start_ (n:=15) (S:=fun w'=>w'.cell? ⟨ad283.block,ad283.off + 4,none⟩=some (.int .i64 ((rd_T51 t272 1).f0))∧w'.cell? ⟨ad283.block,ad283.off + 4 + 1,none⟩=some (.int .i64 ((rd_T51 t272 1).f1))∧w'.cell? ⟨ad283.block,ad283.off + 4 + 2,none⟩=some (.float .f64 ((rd_T51 t272 1).f2))∧w'.cell? ⟨ad283.block,ad283.off + 4 + 3,none⟩=some (.string ((rd_T51 t272 1).f3))∧w'.cell? ⟨ad283.block,ad283.off + 8,none⟩=some (.int .i64 ((rd_T51 t272 2).f0))∧w'.cell? ⟨ad283.block,ad283.off + 8 + 1,none⟩=some (.int .i64 ((rd_T51 t272 2).f1))∧w'.cell? ⟨ad283.block,ad283.off + 8 + 2,none⟩=some (.float .f64 ((rd_T51 t272 2).f2))∧w'.cell? ⟨ad283.block,ad283.off + 8 + 3,none⟩=some (.string ((rd_T51 t272 2).f3))∧w'.cell? ⟨ad283.block,ad283.off + 12,none⟩=some (.int .i64 ((rd_T51 t272 3).f0))∧w'.cell? ⟨ad283.block,ad283.off + 12 + 1,none⟩=some (.int .i64 ((rd_T51 t272 3).f1))∧w'.cell? ⟨ad283.block,ad283.off + 12 + 2,none⟩=some (.float .f64 ((rd_T51 t272 3).f2))∧w'.cell? ⟨ad283.block,ad283.off + 12 + 3,none⟩=some (.string ((rd_T51 t272 3).f3))) (ds:=[14]) #[Z,Z,Z,Z,Z,Z,Z,Z,Z,Z,Z,Z,Z,Z,Z] (by kernel_rfl) rfl rfl ⟨hx283_0,hx283_1,hx283_2,hx283_3,hx284_0,hx284_1,hx284_2,hx284_3,hx285_0,hx285_1,hx285_2,hx285_3⟩ (fun hHeld=>?_);refine with_tabW table_Decode.tab11 table_Decode.bits11 (fun HT_ HW_=>?_)
      generalize wc.drew=w60 at HO_6 BK257 HB hx283_0 hx283_1 hx283_2 hx283_3 hx284_0 hx284_1 hx284_2 hx284_3 hx285_0 hx285_1 hx285_2 hx285_3 hHeld ⊢
      refine pu_ (i:=0) (N:=some 52) (v:=?_) (a':=?_) #[Y,Z,Z,Z,Z,Z,Z,Z,Z,Z,Z,Z,Z,Z,Z] rfl rfl HT_.out (by kernel_rfl) (fun _ _ _ h=>h) (by rfl) ?_ ?_ ?_;rotate_left;(intro w';go_simp;with_reducible rfl);rotate_left;(simp only [Act.put,q1_,q2_,q3_,i64_w,i32_w];rfl)
      refine pu_ (i:=1) (N:=some 53) (v:=?_) (a':=?_) #[Y,Y,Z,Z,Z,Z,Z,Z,Z,Z,Z,Z,Z,Z,Z] rfl rfl HT_.out (by kernel_rfl) (fun _ _ _ h=>h) (by rfl) ?_ ?_ ?_;rotate_left;(intro w';go_simp;with_reducible rfl);rotate_left;(simp only [Act.put,q1_,q2_,q3_,i64_w,i32_w];rfl)
      refine pu_ (i:=2) (N:=some 54) (v:=?_) (a':=?_) #[Y,Y,Y,Z,Z,Z,Z,Z,Z,Z,Z,Z,Z,Z,Z] rfl rfl HT_.out (by kernel_rfl) (fun _ _ _ h=>h) (by rfl) ?_ ?_ ?_;rotate_left;(intro w';go_simp;with_reducible rfl);rotate_left;(simp only [Act.put,q1_,q2_,q3_,i64_w,i32_w];rfl)
      refine pu_ (i:=4) (N:=some 56) (v:=?_) (a':=?_) #[Y,Y,Y,Z,Y,Z,Z,Z,Z,Z,Z,Z,Z,Z,Z] rfl rfl HT_.out (by kernel_rfl) (fun _ _ _ h=>h) (by rfl) ?_ ?_ ?_;rotate_left;(intro w';go_simp;with_reducible rfl);rotate_left;(simp only [Act.put,q1_,q2_,q3_,i64_w,i32_w];rfl)
      refine pu_ (i:=5) (N:=some 57) (v:=?_) (a':=?_) #[Y,Y,Y,Z,Y,Y,Z,Z,Z,Z,Z,Z,Z,Z,Z] rfl rfl HT_.out (by kernel_rfl) (fun _ _ _ h=>h) (by rfl) ?_ ?_ ?_;rotate_left;(intro w';go_simp;with_reducible rfl);rotate_left;(simp only [Act.put,q1_,q2_,q3_,i64_w,i32_w];rfl)
      refine pu_ (i:=6) (N:=some 58) (v:=?_) (a':=?_) #[Y,Y,Y,Z,Y,Y,Y,Z,Z,Z,Z,Z,Z,Z,Z] rfl rfl HT_.out (by kernel_rfl) (fun _ _ _ h=>h) (by rfl) ?_ ?_ ?_;rotate_left;(intro w';go_simp;with_reducible rfl);rotate_left;(simp only [Act.put,q1_,q2_,q3_,i64_w,i32_w];rfl)
      refine pu_ (i:=8) (N:=some 60) (v:=?_) (a':=?_) #[Y,Y,Y,Z,Y,Y,Y,Z,Y,Z,Z,Z,Z,Z,Z] rfl rfl HT_.out (by kernel_rfl) (fun _ _ _ h=>h) (by rfl) ?_ ?_ ?_;rotate_left;(intro w';go_simp;with_reducible rfl);rotate_left;(simp only [Act.put,q1_,q2_,q3_,i64_w,i32_w];rfl)
      refine pu_ (i:=9) (N:=some 61) (v:=?_) (a':=?_) #[Y,Y,Y,Z,Y,Y,Y,Z,Y,Y,Z,Z,Z,Z,Z] rfl rfl HT_.out (by kernel_rfl) (fun _ _ _ h=>h) (by rfl) ?_ ?_ ?_;rotate_left;(intro w';go_simp;with_reducible rfl);rotate_left;(simp only [Act.put,q1_,q2_,q3_,i64_w,i32_w];rfl)
      refine pu_ (i:=10) (N:=some 62) (v:=?_) (a':=?_) #[Y,Y,Y,Z,Y,Y,Y,Z,Y,Y,Y,Z,Z,Z,Z] rfl rfl HT_.out (by kernel_rfl) (fun _ _ _ h=>h) (by rfl) ?_ ?_ ?_;rotate_left;(intro w';go_simp;with_reducible rfl);rotate_left;(simp only [Act.put,q1_,q2_,q3_,i64_w,i32_w];rfl)
      refine ta_ (i:=3) (N:=some 55) (v:=?_) (a':=?_) #[Y,Y,Y,Y,Y,Y,Y,Z,Y,Y,Y,Z,Z,Z,Z] rfl rfl HT_.out HW_.out (by kernel_rfl) (fun _ _ _ h=>h) (by rfl) ?_ hHeld ?_ ?_;rotate_left;(rintro w' ⟨s0,s1,s2,s3,s4,s5,s6,s7,s8,s9,s10,s11⟩;go_simp;with_reducible rfl);rotate_left;(simp only [Act.put,q1_,q2_,q3_,i64_w,i32_w];rfl)
      refine ta_ (i:=7) (N:=some 59) (v:=?_) (a':=?_) #[Y,Y,Y,Y,Y,Y,Y,Y,Y,Y,Y,Z,Z,Z,Z] rfl rfl HT_.out HW_.out (by kernel_rfl) (fun _ _ _ h=>h) (by rfl) ?_ hHeld ?_ ?_;rotate_left;(rintro w' ⟨s0,s1,s2,s3,s4,s5,s6,s7,s8,s9,s10,s11⟩;go_simp;with_reducible rfl);rotate_left;(simp only [Act.put,q1_,q2_,q3_,i64_w,i32_w];rfl)
      refine ta_ (i:=11) (N:=some 63) (v:=?_) (a':=?_) #[Y,Y,Y,Y,Y,Y,Y,Y,Y,Y,Y,Y,Z,Z,Z] rfl rfl HT_.out HW_.out (by kernel_rfl) (fun _ _ _ h=>h) (by rfl) ?_ hHeld ?_ ?_;rotate_left;(rintro w' ⟨s0,s1,s2,s3,s4,s5,s6,s7,s8,s9,s10,s11⟩;go_simp;with_reducible rfl);rotate_left;(simp only [Act.put,q1_,q2_,q3_,i64_w,i32_w];rfl)
      refine pu_ (i:=12) (N:=some 64) (v:=?_) (a':=?_) #[Y,Y,Y,Y,Y,Y,Y,Y,Y,Y,Y,Y,Y,Z,Z] rfl rfl HT_.out (by kernel_rfl) (fun _ _ _ h=>h) (by rfl) ?_ ?_ ?_;rotate_left;(intro w';go_simp;with_reducible rfl);rotate_left;(simp only [Act.put,q1_,q2_,q3_,i64_w,i32_w];rfl)
      refine one_ (i:=13) (N:=some 8) #[Y,Y,Y,Y,Y,Y,Y,Y,Y,Y,Y,Y,Y,Y,Z] rfl rfl (one_of HT_.out (by kernel_rfl)) (by decide) (fun K hK=>?_)
      refine box_step ?hg (N:=8) ?hd (cs:=#[.int .i64 0,.int .i64 0,.int .i64 0,.slice none 0 0]) (t:=26) ?hr ?_;(case hd=>rfl);(case hg=>rfl);(case hr=>first|(go_simp;done)|(go_simp;rfl))
      intro gb286 hg w62 hbox hb;have HS0_:=(hb.cell (wb_ _ _ (hHeld.1))).trans (hHeld.1);have HS1_:=(hb.cell (wb_ _ _ (hHeld.2.1))).trans (hHeld.2.1);have HS2_:=(hb.cell (wb_ _ _ (hHeld.2.2.1))).trans (hHeld.2.2.1);have HS3_:=(hb.cell (wb_ _ _ (hHeld.2.2.2.1))).trans (hHeld.2.2.2.1);have HS4_:=(hb.cell (wb_ _ _ (hHeld.2.2.2.2.1))).trans (hHeld.2.2.2.2.1);have HS5_:=(hb.cell (wb_ _ _ (hHeld.2.2.2.2.2.1))).trans (hHeld.2.2.2.2.2.1);have HS6_:=(hb.cell (wb_ _ _ (hHeld.2.2.2.2.2.2.1))).trans (hHeld.2.2.2.2.2.2.1);have HS7_:=(hb.cell (wb_ _ _ (hHeld.2.2.2.2.2.2.2.1))).trans (hHeld.2.2.2.2.2.2.2.1);have HS8_:=(hb.cell (wb_ _ _ (hHeld.2.2.2.2.2.2.2.2.1))).trans (hHeld.2.2.2.2.2.2.2.2.1);have HS9_:=(hb.cell (wb_ _ _ (hHeld.2.2.2.2.2.2.2.2.2.1))).trans (hHeld.2.2.2.2.2.2.2.2.2.1);have HS10_:=(hb.cell (wb_ _ _ (hHeld.2.2.2.2.2.2.2.2.2.2.1))).trans (hHeld.2.2.2.2.2.2.2.2.2.2.1);have HS11_:=(hb.cell (wb_ _ _ (hHeld.2.2.2.2.2.2.2.2.2.2.2))).trans (hHeld.2.2.2.2.2.2.2.2.2.2.2)
      have n0_:=A_ (Kd.R_below (by (with_reducible repeat (first|apply ra_|apply rn_|apply re_));exact HO_6.out) hb)
      have n1_:=A_ (bx_ BK257.out kf_ hb);have n2_:=A_ (bp_ (hb1_ HB.out GE257.out) hb);have n3_:=A_ (hbox)
      have n4_:=A_ ((by rw [hg];exact (bz_ (hb1_ HB.out GE257.out)) : w.heap.size≤gb286))
      have n5_:=n4_
      have n6_:=A_ ((by rw [hg];exact Nat.ne_of_lt (bl_ BK257.out kf_) : gb257≠gb286))
      have n7_:=A_ (Ne.symm n6_.out);clear HO_6;clear BK257;clear HB;have HO_6:=n0_;have BK257:=n1_;have HB:=n2_;have BK286:=n3_;have GW286:=n4_;have GE286:=n5_;have NB257_286:=n6_;have NB286_257:=n7_;clear n0_ n1_ n2_ n3_ n4_ n5_ n6_ n7_;clear hb hbox hg
      refine hK.out _ _ ⟨HS0_,HS1_,HS2_,HS3_,HS4_,HS5_,HS6_,HS7_,HS8_,HS9_,HS10_,HS11_⟩ (fun hHeld=>?_)
      clear hK K
      refine norm_ (a':=?_) ?_ ?_;rotate_left;(show Act.put _ (some 8) _=_;simp only [Act.put,q1_,q2_,q3_,i64_w,i32_w];rfl)
      refine last_ (i:=14) (N:=none) #[Y,Y,Y,Y,Y,Y,Y,Y,Y,Y,Y,Y,Y,Y,Y] rfl rfl (one_of HT_.out (by kernel_rfl)) (by decide) (fun K hK=>?_)
      have hs63 : w62.cell? ⟨gb286,0,none⟩=some (.int .i64 0):=(bc_ BK286.out 0).trans rfl;have hfs63:=bf_ BK286.out 0;have hns63_0:=NB257_286.out;have hms63_0:=NB286_257.out;have hs64 : w62.cell? ⟨gb286,1,none⟩=some (.int .i64 0):=(bc_ BK286.out 1).trans rfl;have hfs64:=bf_ BK286.out 1;have hns64_0:=NB257_286.out;have hms64_0:=NB286_257.out;have hs65 : w62.cell? ⟨gb286,2,none⟩=some (.int .i64 0):=(bc_ BK286.out 2).trans rfl;have hfs65:=bf_ BK286.out 2;have hns65_0:=NB257_286.out;have hms65_0:=NB286_257.out;have hs66 : w62.cell? ⟨gb286,3,none⟩=some (.slice none 0 0):=(bc_ BK286.out 3).trans rfl;have hfs66:=bf_ BK286.out 3;have hns66_0:=NB257_286.out;have hms66_0:=NB286_257.out
      refine skip_ (w1:=?_) (by rfl) rfl ?_ ?_
      rotate_left
      ·go_simp
       rfl
      refine hK.out _ _ ?_;clear hK K;refine done_ (done_of HT_.out (by kernel_rfl)) ?_
      have n0_ : Aside0 (Kd.R k51 51 ((((w62.setCell ⟨gb286,0,none⟩ (.int .i64 ((rd_T51 t272 1).f1))).setCell ⟨gb286,1,none⟩ (.int .i64 ((rd_T51 t272 2).f1))).setCell ⟨gb286,2,none⟩ (.int .i64 ((rd_T51 t272 3).f1))).setCell ⟨gb286,3,none⟩ (.slice none 0 0)) w.heap.size (fun _=>True) (.slice (some ad283) t272.length co61) t272):=⟨by (with_reducible repeat (first|apply ra_|apply rn_|apply re_));exact Kd.R_mono (rf_ (p:=⟨gb286,3,none⟩) (rf_ (p:=⟨gb286,2,none⟩) (rf_ (p:=⟨gb286,1,none⟩) (rf_ (p:=⟨gb286,0,none⟩) (Kd.R_types HO_6.out BK286.out (by decide)) (fun _ hk=>hk.2) (.int .i64 ((rd_T51 t272 1).f1))) (fun _ hk=>hk.2) (.int .i64 ((rd_T51 t272 2).f1))) (fun _ hk=>hk.2) (.int .i64 ((rd_T51 t272 3).f1))) (fun _ hk=>hk.2) (.slice none 0 0)) (fun _ hk=>trivial)⟩
      have n1_ : Aside0 (((((w62.setCell ⟨gb286,0,none⟩ (.int .i64 ((rd_T51 t272 1).f1))).setCell ⟨gb286,1,none⟩ (.int .i64 ((rd_T51 t272 2).f1))).setCell ⟨gb286,2,none⟩ (.int .i64 ((rd_T51 t272 3).f1))).setCell ⟨gb286,3,none⟩ (.slice none 0 0)).heap[gb257]?=some (.cells #[.int .i64 0,.int .i64 0,.int .i64 0,.slice none 0 0] 26 (0,0))):=⟨by refine kk_ ?_;refine blk_far ?_ NB257_286.out _;refine kk_ ?_;refine blk_far ?_ NB257_286.out _;refine kk_ ?_;refine blk_far ?_ NB257_286.out _;refine kk_ ?_;refine blk_far ?_ NB257_286.out _;exact kk_ BK257.out⟩
      have n2_ : Aside0 (((((w62.setCell ⟨gb286,0,none⟩ (.int .i64 ((rd_T51 t272 1).f1))).setCell ⟨gb286,1,none⟩ (.int .i64 ((rd_T51 t272 2).f1))).setCell ⟨gb286,2,none⟩ (.int .i64 ((rd_T51 t272 3).f1))).setCell ⟨gb286,3,none⟩ (.slice none 0 0)).heap[gb286]?=some (.cells #[.int .i64 ((rd_T51 t272 1).f1),.int .i64 ((rd_T51 t272 2).f1),.int .i64 ((rd_T51 t272 3).f1),.slice none 0 0] 26 (0,0))):=⟨by refine kk_ ?_;apply blkf_4_0_3;exact kk_ BK286.out⟩
      have n3_ : Aside0 (Below w.heap.size w ((((w62.setCell ⟨gb286,0,none⟩ (.int .i64 ((rd_T51 t272 1).f1))).setCell ⟨gb286,1,none⟩ (.int .i64 ((rd_T51 t272 2).f1))).setCell ⟨gb286,2,none⟩ (.int .i64 ((rd_T51 t272 3).f1))).setCell ⟨gb286,3,none⟩ (.slice none 0 0))):=⟨hb2_ HB.out GE257.out GE286.out⟩;(try clear HO_6);(try clear BK257);(try clear BK286);(try clear HB)
      generalize ((((w62.setCell ⟨gb286,0,none⟩ (.int .i64 ((rd_T51 t272 1).f1))).setCell ⟨gb286,1,none⟩ (.int .i64 ((rd_T51 t272 2).f1))).setCell ⟨gb286,2,none⟩ (.int .i64 ((rd_T51 t272 3).f1))).setCell ⟨gb286,3,none⟩ (.slice none 0 0))=w67 at n0_ n1_ n2_ n3_ ⊢
      have HO_6:=n0_;have BK257:=n1_;have BK286:=n2_;have HB:=n3_;clear n0_ n1_ n2_ n3_
      have q68 : (4 : Int)≤((t272.length : Int) : Int):=od_ (by first|(with_reducible assumption)|assumption)
      obtain ⟨i068,hi068,_,hsz68,_⟩:=info_parts info51;have hroom68 : t272.length≤co61:=(Kd.R_reads' HO_6.out).2.1;have hC68 : Kd.C k51 _ (some ad283) t272.length t272:=(Kd.R_reads' HO_6.out).2.2
      have hcut68:=cut_from (P:=Tryd.prog) 45 51 .i64 Tryd.underlying45 hi068 4 hsz68 (some ad283) t272.length co61 4 (by omega) q68
      have hr68:=Kd.C_drop (m:=(4 : Int).toNat) (c:=co61) hC68 (by omega) hroom68
      obtain ⟨A68,hA68⟩ : ∃ A1,A1=(if co61=(4 : Int).toNat then (some ad283) else ((some ad283) : Option Addr).map (·.add ((4 : Int).toNat * 4))):=⟨_,rfl⟩
      obtain ⟨c68,hc68⟩ : ∃ c1,c1=co61 - (4 : Int).toNat:=⟨_,rfl⟩
      have hy68 : y287.length=t272.length - (4 : Int).toNat:=(by rw [Ny287.out,List.length_drop] <;> omega)
      rw [show (t272).drop (4 : Int).toNat=y287 from Ny287.out.symm] at hr68
      replace hr68 : Kd.C k51 _ A68 y287.length y287:=(by rw [hA68];exact hr68)
      rw [← hy68,← hA68,← hc68] at hcut68;have HR290:=A_ hr68
      have HC290:=A_ (show y287.length≤c68 from by rw [hy68,hc68];exact Nat.sub_le_sub_right hroom68 _)
      clear hr68 hC68 hroom68 hi068 hsz68 hc68;have KY68:=A_ hy68;have KA68:=A_ hA68;clear hy68 hA68
      have KL68:=A_ (show 4≤t272.length from by omega)
      replace q68:=eq_true q68;obtain ⟨N_,hN0_,hN1_,hN2_,hE_⟩:=chunk_f A41.out
      obtain ⟨ad_,hA_,_⟩:=HR290.out.2.2 (by omega)
      subst hA_;have HN1_:=A_ hN1_;have HE_:=A_ hE_;have HN2_:=A_ hN2_;clear hN1_ hE_ hN2_;have hgl_:=blk_lt BK286.out;have hgl0_:=blk_lt BK257.out;have hbs0_:=bz_ HB.out
      try go_wp2_with ((with_reducible refine gate_callee (f:=24) rfl ?_);refine goesL_ (some 67) rfl rfl Tryd.func24 (by kernel_rfl) rfl #[.slice (some ad_) y287.length c68,.int .i64 4] rfl (by (try simp only [List.map_toArray,List.map_cons,List.map_nil]);first|done|rfl|(simp only [List.length_drop,List.length_take];rfl)) ?_;(with_reducible refine (Chunk_any (some ad_) y287.length c68 _).mono ?_);rintro e wl_ ⟨cbs_,cbn_,rfl,hbs_,hbn_,hbs1_,hbs2_,hbn1_,hbn2_,hb⟩;refine ⟨_,rfl,?_⟩;have n0_:=A_ (Kd.R_below (by (with_reducible repeat (first|apply ra_|apply rn_|apply re_));exact HO_6.out) hb);have n2_:=A_ (bb_ (by exact BK257.out) hb);have n3_:=A_ (bb_ (by exact BK286.out) hb);have n5_:=A_ (bp_ (hb2_ HB.out GE257.out GE286.out) hb);have n6_:=A_ (Kd.C_below (by exact HR290.out) hb);have hbz_:=hb.size;clear HO_6;clear BK257;clear BK286;clear HB;clear HR290;have HO_6:=n0_;have BK257:=n2_;have BK286:=n3_;have HB:=n5_;have HR290:=n6_;clear n0_ n2_ n3_ n5_ n6_;clear hb)
      have hcA_:=HC290.out;have hN1_:=HN1_.out;have hE_:=HE_.out;have hN2_:=HN2_.out;clear HN1_ HE_ HN2_;rw [hN1_] at hbs_ hcA_
      refine range_four cbs_ cbn_ ad_ c68 N_ gb286 _ _ _ (fun x_=>chE y287 x_.1) hcA_ hN2_ rfl rfl hbs_ hbn_ (by omega) (by omega) BK286.out (fun x_ W_=>chP y287 ad_ x_.1 W_) ?hP2 (a₁:=?ax2) ?assign2 ?body2 ?done2
      case hP2 =>
       intro x_ W_ hk_
       have h1_ : Kd.R k51 51 W_ w.heap.size (fun _=>True) (.slice (some ad283) t272.length _) t272:=Kd.R_mono (Kd.R_keep (Kd.R_types HO_6.out BK286.out (by decide)) hk_ (fun _ h_=>h_.2)) (fun _ _=>trivial)
       have h2_:=(Kd.R_reads' h1_).2.2
       have h3_:=Kd.C_drop (m:=(4 : Int).toNat) (c:=_) h2_ (by have:=KL68.out;omega) (Kd.R_reads' h1_).2.1
       rw [show (t272).drop (4 : Int).toNat=y287 from Ny287.out.symm] at h3_
       exact chP_of hN1_ (by rw [KA68.out];exact h3_) x_
      case assign2 =>
       intro l_ x_ W_ K_ hK_
       gi_wp2
       exact hK_
      case body2 =>
       intro l_ x_ W_ u_ xs_ hP_ hB_ hl_ hbk_ hR_;obtain ⟨s1_,s2_,s3_,s4_⟩:=hP_
       obtain ⟨B_,hB0_⟩ : ∃ B_,B_=wl_.heap.size:=⟨_,rfl⟩
       rw [← hB0_] at hB_ hR_ ⊢;have hE1_ : chE y287 x_.1=⟨_,_,_,_⟩:=rfl;rw [hE1_];clear hE1_
       generalize Addr.add ad_ (4 * x_.1 * 4)=adx_ at s1_ s2_ s3_ s4_ ⊢
       generalize (rd_T51 y287 ((4 * x_.1 : Nat) : Int)).f1=v0_ at s1_ s2_ s3_ s4_ ⊢
       generalize (rd_T51 y287 ((4 * x_.1 + 1 : Nat) : Int)).f1=v1_ at s1_ s2_ s3_ s4_ ⊢
       generalize (rd_T51 y287 ((4 * x_.1 + 2 : Nat) : Int)).f1=v2_ at s1_ s2_ s3_ s4_ ⊢
       generalize (rd_T51 y287 ((4 * x_.1 + 3 : Nat) : Int)).f1=v3_ at s1_ s2_ s3_ s4_ ⊢
       have HRB_:=A_ (re_ hR_);have BKB_:=A_ (ke_ hbk_);have HB_ : Aside0 (B_≤W_.drew.heap.size):=⟨hB_⟩;clear hR_ hbk_;replace s1_:=(cell_drew_own W_ _).trans s1_;replace s2_:=(cell_drew_own W_ _).trans s2_;replace s3_:=(cell_drew_own W_ _).trans s3_;replace s4_:=(cell_drew_own W_ _).trans s4_
       gi_wp2
       refine startR_ (n:=23) (S:=fun w'=>w'.cell? ⟨gb286,3,none⟩=some (u_)∧w'.cell? ⟨adx_.block,adx_.off + 1,none⟩=some (.int .i64 v0_)∧w'.cell? ⟨adx_.block,adx_.off + 4 + 1,none⟩=some (.int .i64 v1_)∧w'.cell? ⟨adx_.block,adx_.off + 8 + 1,none⟩=some (.int .i64 v2_)∧w'.cell? ⟨adx_.block,adx_.off + 12 + 1,none⟩=some (.int .i64 v3_)) (ds:=[20,22]) #[Z,Z,Z,Z,Z,Z,Z,Z,Z,Z,Z,Z,Z,Z,Z,Z,Z,Z,Z,Z,Z,Z,Z] (by kernel_rfl) rfl rfl (by rintro ⟨_,_,e_,_⟩;cases e_) (by kernel_rfl) ⟨(bc_ BKB_.out 3).trans rfl,s1_,s2_,s3_,s4_⟩ (fun hHeld=>?_);refine with_tabW table_Decode.tab14 table_Decode.bits14 (fun HT_ HW_=>?_)
       generalize hwd_ : W_.drew=wd_ at HRB_ BKB_ HB_ s1_ s2_ s3_ s4_ hHeld ⊢
       refine pu_ (i:=0) (N:=some 69) (v:=?_) (a':=?_) #[Y,Z,Z,Z,Z,Z,Z,Z,Z,Z,Z,Z,Z,Z,Z,Z,Z,Z,Z,Z,Z,Z,Z] rfl rfl HT_.out (by kernel_rfl) (fun _ _ _ h=>h) (by rfl) ?_ ?_ ?_;rotate_left;(intro w';go_simp;with_reducible rfl);rotate_left;(simp only [Act.put,q1_,q2_,q3_,i64_w,i32_w];rfl)
       refine pu_ (i:=2) (N:=some 71) (v:=?_) (a':=?_) #[Y,Z,Y,Z,Z,Z,Z,Z,Z,Z,Z,Z,Z,Z,Z,Z,Z,Z,Z,Z,Z,Z,Z] rfl rfl HT_.out (by kernel_rfl) (fun _ _ _ h=>h) (by rfl) ?_ ?_ ?_;rotate_left;(intro w';go_simp;with_reducible rfl);rotate_left;(simp only [Act.put,q1_,q2_,q3_,i64_w,i32_w];rfl)
       refine pu_ (i:=3) (N:=some 72) (v:=?_) (a':=?_) #[Y,Z,Y,Y,Z,Z,Z,Z,Z,Z,Z,Z,Z,Z,Z,Z,Z,Z,Z,Z,Z,Z,Z] rfl rfl HT_.out (by kernel_rfl) (fun _ _ _ h=>h) (by rfl) ?_ ?_ ?_;rotate_left;(intro w';go_simp;with_reducible rfl);rotate_left;(simp only [Act.put,q1_,q2_,q3_,i64_w,i32_w];rfl)
       refine pu_ (i:=4) (N:=some 73) (v:=?_) (a':=?_) #[Y,Z,Y,Y,Y,Z,Z,Z,Z,Z,Z,Z,Z,Z,Z,Z,Z,Z,Z,Z,Z,Z,Z] rfl rfl HT_.out (by kernel_rfl) (fun _ _ _ h=>h) (by rfl) ?_ ?_ ?_;rotate_left;(intro w';go_simp;with_reducible rfl);rotate_left;(simp only [Act.put,q1_,q2_,q3_,i64_w,i32_w];rfl)
       refine pu_ (i:=6) (N:=some 75) (v:=?_) (a':=?_) #[Y,Z,Y,Y,Y,Z,Y,Z,Z,Z,Z,Z,Z,Z,Z,Z,Z,Z,Z,Z,Z,Z,Z] rfl rfl HT_.out (by kernel_rfl) (fun _ _ _ h=>h) (by rfl) ?_ ?_ ?_;rotate_left;(intro w';go_simp;with_reducible rfl);rotate_left;(simp only [Act.put,q1_,q2_,q3_,i64_w,i32_w];rfl)
       refine pu_ (i:=7) (N:=some 76) (v:=?_) (a':=?_) #[Y,Z,Y,Y,Y,Z,Y,Y,Z,Z,Z,Z,Z,Z,Z,Z,Z,Z,Z,Z,Z,Z,Z] rfl rfl HT_.out (by kernel_rfl) (fun _ _ _ h=>h) (by rfl) ?_ ?_ ?_;rotate_left;(intro w';go_simp;with_reducible rfl);rotate_left;(simp only [Act.put,q1_,q2_,q3_,i64_w,i32_w];rfl)
       refine pu_ (i:=8) (N:=some 77) (v:=?_) (a':=?_) #[Y,Z,Y,Y,Y,Z,Y,Y,Y,Z,Z,Z,Z,Z,Z,Z,Z,Z,Z,Z,Z,Z,Z] rfl rfl HT_.out (by kernel_rfl) (fun _ _ _ h=>h) (by rfl) ?_ ?_ ?_;rotate_left;(intro w';go_simp;with_reducible rfl);rotate_left;(simp only [Act.put,q1_,q2_,q3_,i64_w,i32_w];rfl)
       refine pu_ (i:=10) (N:=some 79) (v:=?_) (a':=?_) #[Y,Z,Y,Y,Y,Z,Y,Y,Y,Z,Y,Z,Z,Z,Z,Z,Z,Z,Z,Z,Z,Z,Z] rfl rfl HT_.out (by kernel_rfl) (fun _ _ _ h=>h) (by rfl) ?_ ?_ ?_;rotate_left;(intro w';go_simp;with_reducible rfl);rotate_left;(simp only [Act.put,q1_,q2_,q3_,i64_w,i32_w];rfl)
       refine pu_ (i:=11) (N:=some 80) (v:=?_) (a':=?_) #[Y,Z,Y,Y,Y,Z,Y,Y,Y,Z,Y,Y,Z,Z,Z,Z,Z,Z,Z,Z,Z,Z,Z] rfl rfl HT_.out (by kernel_rfl) (fun _ _ _ h=>h) (by rfl) ?_ ?_ ?_;rotate_left;(intro w';go_simp;with_reducible rfl);rotate_left;(simp only [Act.put,q1_,q2_,q3_,i64_w,i32_w];rfl)
       refine pu_ (i:=12) (N:=some 81) (v:=?_) (a':=?_) #[Y,Z,Y,Y,Y,Z,Y,Y,Y,Z,Y,Y,Y,Z,Z,Z,Z,Z,Z,Z,Z,Z,Z] rfl rfl HT_.out (by kernel_rfl) (fun _ _ _ h=>h) (by rfl) ?_ ?_ ?_;rotate_left;(intro w';go_simp;with_reducible rfl);rotate_left;(simp only [Act.put,q1_,q2_,q3_,i64_w,i32_w];rfl)
       refine pu_ (i:=14) (N:=some 83) (v:=?_) (a':=?_) #[Y,Z,Y,Y,Y,Z,Y,Y,Y,Z,Y,Y,Y,Z,Y,Z,Z,Z,Z,Z,Z,Z,Z] rfl rfl HT_.out (by kernel_rfl) (fun _ _ _ h=>h) (by rfl) ?_ ?_ ?_;rotate_left;(intro w';go_simp;with_reducible rfl);rotate_left;(simp only [Act.put,q1_,q2_,q3_,i64_w,i32_w];rfl)
       refine pu_ (i:=15) (N:=some 84) (v:=?_) (a':=?_) #[Y,Z,Y,Y,Y,Z,Y,Y,Y,Z,Y,Y,Y,Z,Y,Y,Z,Z,Z,Z,Z,Z,Z] rfl rfl HT_.out (by kernel_rfl) (fun _ _ _ h=>h) (by rfl) ?_ ?_ ?_;rotate_left;(intro w';go_simp;with_reducible rfl);rotate_left;(simp only [Act.put,q1_,q2_,q3_,i64_w,i32_w];rfl)
       refine pu_ (i:=16) (N:=some 85) (v:=?_) (a':=?_) #[Y,Z,Y,Y,Y,Z,Y,Y,Y,Z,Y,Y,Y,Z,Y,Y,Y,Z,Z,Z,Z,Z,Z] rfl rfl HT_.out (by kernel_rfl) (fun _ _ _ h=>h) (by rfl) ?_ ?_ ?_;rotate_left;(intro w';go_simp;with_reducible rfl);rotate_left;(simp only [Act.put,q1_,q2_,q3_,i64_w,i32_w];rfl)
       refine ta_ (i:=1) (N:=some 70) (v:=?_) (a':=?_) #[Y,Y,Y,Y,Y,Z,Y,Y,Y,Z,Y,Y,Y,Z,Y,Y,Y,Z,Z,Z,Z,Z,Z] rfl rfl HT_.out HW_.out (by kernel_rfl) (fun _ _ _ h=>h) (by rfl) ?_ hHeld ?_ ?_;rotate_left;(rintro w' ⟨z0,z1,z2,z3,z4⟩;go_simp;with_reducible rfl);rotate_left;(simp only [Act.put,q1_,q2_,q3_,i64_w,i32_w];rfl)
       refine ta_ (i:=5) (N:=some 74) (v:=?_) (a':=?_) #[Y,Y,Y,Y,Y,Y,Y,Y,Y,Z,Y,Y,Y,Z,Y,Y,Y,Z,Z,Z,Z,Z,Z] rfl rfl HT_.out HW_.out (by kernel_rfl) (fun _ _ _ h=>h) (by rfl) ?_ hHeld ?_ ?_;rotate_left;(rintro w' ⟨z0,z1,z2,z3,z4⟩;go_simp;with_reducible rfl);rotate_left;(simp only [Act.put,q1_,q2_,q3_,i64_w,i32_w];rfl)
       refine ta_ (i:=9) (N:=some 78) (v:=?_) (a':=?_) #[Y,Y,Y,Y,Y,Y,Y,Y,Y,Y,Y,Y,Y,Z,Y,Y,Y,Z,Z,Z,Z,Z,Z] rfl rfl HT_.out HW_.out (by kernel_rfl) (fun _ _ _ h=>h) (by rfl) ?_ hHeld ?_ ?_;rotate_left;(rintro w' ⟨z0,z1,z2,z3,z4⟩;go_simp;with_reducible rfl);rotate_left;(simp only [Act.put,q1_,q2_,q3_,i64_w,i32_w];rfl)
       refine ta_ (i:=13) (N:=some 82) (v:=?_) (a':=?_) #[Y,Y,Y,Y,Y,Y,Y,Y,Y,Y,Y,Y,Y,Y,Y,Y,Y,Z,Z,Z,Z,Z,Z] rfl rfl HT_.out HW_.out (by kernel_rfl) (fun _ _ _ h=>h) (by rfl) ?_ hHeld ?_ ?_;rotate_left;(rintro w' ⟨z0,z1,z2,z3,z4⟩;go_simp;with_reducible rfl);rotate_left;(simp only [Act.put,q1_,q2_,q3_,i64_w,i32_w];rfl)
       refine ta_ (i:=17) (N:=some 86) (v:=?_) (a':=?_) #[Y,Y,Y,Y,Y,Y,Y,Y,Y,Y,Y,Y,Y,Y,Y,Y,Y,Y,Z,Z,Z,Z,Z] rfl rfl HT_.out HW_.out (by kernel_rfl) (fun _ _ _ h=>h) (by rfl) ?_ hHeld ?_ ?_;rotate_left;(rintro w' ⟨z0,z1,z2,z3,z4⟩;go_simp;with_reducible rfl);rotate_left;(simp only [Act.put,q1_,q2_,q3_,i64_w,i32_w];rfl)
       refine pu_ (i:=18) (N:=some 87) (v:=?_) (a':=?_) #[Y,Y,Y,Y,Y,Y,Y,Y,Y,Y,Y,Y,Y,Y,Y,Y,Y,Y,Y,Z,Z,Z,Z] rfl rfl HT_.out (by kernel_rfl) (fun _ _ _ h=>h) (by rfl) ?_ ?_ ?_;rotate_left;(intro w';go_simp;with_reducible rfl);rotate_left;(simp only [Act.put,q1_,q2_,q3_,i64_w,i32_w];rfl)
       refine one_ (i:=19) (N:=some 88) #[Y,Y,Y,Y,Y,Y,Y,Y,Y,Y,Y,Y,Y,Y,Y,Y,Y,Y,Y,Y,Z,Z,Z] rfl rfl (one_of HT_.out (by kernel_rfl)) (by decide) (fun K hK=>?_)
       refine value_ (w1:=?_) (v:=?_) (by rfl) rfl ?_ ?_
       rotate_left 2
       ·go_simp
        constructor
        ·rfl
        ·rfl
       refine hK.out _ _ ⟨(bc_ (ka_ BKB_.out _) 3).trans rfl,(World.cell?_alloc_lt _ _ _ (wb_ _ _ s1_)).trans s1_,(World.cell?_alloc_lt _ _ _ (wb_ _ _ s2_)).trans s2_,(World.cell?_alloc_lt _ _ _ (wb_ _ _ s3_)).trans s3_,(World.cell?_alloc_lt _ _ _ (wb_ _ _ s4_)).trans s4_⟩ (fun hHeld=>?_)
       clear hK K
       refine norm_ (a':=?_) ?_ ?_;rotate_left;(show Act.put _ (some 88) _=_;simp only [Act.put,q1_,q2_,q3_,i64_w,i32_w];rfl)
       refine last_ (i:=20) (N:=some 89) #[Y,Y,Y,Y,Y,Y,Y,Y,Y,Y,Y,Y,Y,Y,Y,Y,Y,Y,Y,Y,Y,Z,Z] rfl rfl (one_of HT_.out (by kernel_rfl)) (by decide) (fun K hK=>?_)
       refine Kd.R_append_step k56 (w0:=wd_) B_ (by rfl) (.tmp 70) (.tmp 88) 24 56 (.agg #[(.int .i64 0),(.int .i64 0),(.int .i64 0),(.int .i64 0)]) 32 rfl Tryd.underlying24 info56 rfl (by decide) (by omega) u_ xs_ (⟨v1_,v0_,v2_,v3_⟩ : S56) [.int .i64 v1_,.int .i64 v0_,.int .i64 v2_,.int .i64 v3_] (fun _=>True) (fun _=>False) rfl rfl ?aP (fun _ hk=>hk.elim) ?aF ?aO ?aB ?aS ?aL ?_
       (case aP=>exact k56_mkM _ _ _ (⟨v1_,v0_,v2_,v3_⟩ : S56))
       (case aB=>exact Below.refl _ _)
       (case aF=>exact (fun _ _=>trivial))
       (case aO=>exact HRB_.out)
       (case aS=>exact HB_.out)
       (case aL=>omega)
       intro v_ we_ ho_ hb_ hg_ hat_
       have BKE_:=A_ (blk_grown (g:=gb286) (o:=.cells #[.int .i64 ((rd_T51 t272 1).f1),.int .i64 ((rd_T51 t272 2).f1),.int .i64 ((rd_T51 t272 3).f1),u_] 26 (0,0)) BKB_.out hg_ (Kd.R_ne HRB_.out BKB_.out (by decide)))
       obtain ⟨ye_,hye_⟩ : ∃ y_ : List S56,y_=xs_++[(⟨v1_,v0_,v2_,v3_⟩ : S56)]:=⟨_,rfl⟩
       rw [← hye_] at ho_;have HYE_:=A_ hye_;clear hye_;obtain ⟨Av_,cv_,ev_⟩:=Kd.R_slice ho_;subst ev_;clear BKB_ hat_;refine hK.out _ _ ?_;clear hK K
       refine norm_ (a':=?_) ?_ ?_;rotate_left;(show Act.put _ (some 89) _=_;simp only [Act.put,q1_,q2_,q3_,i64_w,i32_w];rfl)
       refine pu_ (i:=21) (N:=some 90) (v:=?_) (a':=?_) #[Y,Y,Y,Y,Y,Y,Y,Y,Y,Y,Y,Y,Y,Y,Y,Y,Y,Y,Y,Y,Y,Y,Z] rfl rfl HT_.out (by kernel_rfl) (fun _ _ _ h=>h) (by rfl) ?_ ?_ ?_;rotate_left;(intro w';go_simp;with_reducible rfl);rotate_left;(simp only [Act.put,q1_,q2_,q3_,i64_w,i32_w];rfl)
       refine last_ (i:=22) (N:=none) #[Y,Y,Y,Y,Y,Y,Y,Y,Y,Y,Y,Y,Y,Y,Y,Y,Y,Y,Y,Y,Y,Y,Y] rfl rfl (one_of HT_.out (by kernel_rfl)) (by decide) (fun K hK=>?_)
       have hsE_ : we_.cell? ⟨gb286,3,none⟩=some (u_):=(bc_ BKE_.out 3).trans rfl;have hfE_:=bf_ BKE_.out 3
       refine skip_ (w1:=?_) (by rfl) rfl ?_ ?_
       rotate_left
       ·go_simp
        rfl
       refine hK.out _ _ ?_;clear hK K;refine done_ (done_of HT_.out (by kernel_rfl)) ?_
       try simp only [Exit.inBlock,Exit.then]
       have hkp_:=keep_put (W:=W_) (W1:=we_) (row:=u_.ownBlock) (j:=3) (v:=.slice Av_ ye_.length cv_) (g:=gb286) (by rw [hwd_];exact hg_)
       refine ⟨rfl,_,blk_put (cs:=#[.int .i64 ((rd_T51 t272 1).f1),.int .i64 ((rd_T51 t272 2).f1),.int .i64 ((rd_T51 t272 3).f1),u_]) BKE_.out 3 _ rfl,?_,hkp_.1,hkp_.2⟩;rw [← HYE_.out]
       exact Kd.R_mono (rf_ (p:=⟨gb286,3,none⟩) (Kd.R_types ho_ BKE_.out (by decide)) (fun _ hk=>hk.2) _) (fun _ _=>trivial)
      case done2 =>
       intro D_ W_ u_ hD_ hK_ h0_ hk_ hbk_ hR_;have hDz_:=(Array.getElem?_eq_some_iff.1 hK_).1;rw [← hE_] at hR_;clear hE_ hN1_ hcA_ hbs_ hbn_
       have HO293:=A_ (Kd.R_lower hR_ (by omega : w.heap.size≤wl_.heap.size))
       have n2_:=A_ ((hk_.2 gb257 (by omega) NB257_286.out (by simp)).trans BK257.out)
       have n5_:=A_ (below_keep' HB.out h0_ hk_ GE286.out (Nat.le_refl _));have KD_:=A_ hK_
       have hDn0_ : D_≠gb257:=by omega
       have hDn1_ : D_≠gb286:=by omega
       have GD_ : w.heap.size≤D_:=by omega
       clear BK257 BK286 HB HO_6 HR290 hR_;have BK257:=n2_;have HB:=n5_;have BK286:=A_ hbk_;clear n2_ n5_ hbk_ hK_ h0_ hk_;obtain ⟨Ao70,co70,eo_⟩:=Kd.R_slice HO293.out;subst eo_;have hnb_:=NB286_257.out;have hnc_:=NB257_286.out;obtain ⟨hczi_0,hczi_1,hczi_2,hczi_3⟩:=blkc_4 BK286.out;obtain ⟨hfzi_0,hfzi_1,hfzi_2⟩:=blkz_3 BK286.out;have hfzi_3:=bf_ BK286.out 3
       dsimp only
       try simp only [Exit.inBlock,Exit.then]
       apply_assumption
       try go_wp2_with ((with_reducible refine gate_callee (f:=13) rfl ?_);refine goesL_ (some 92) rfl rfl Tryd.func13 (by kernel_rfl) rfl #[.agg #[.int .i64 ((rd_T51 t272 1).f1),.int .i64 ((rd_T51 t272 2).f1),.int .i64 ((rd_T51 t272 3).f1),.slice Ao70 t291.length co70]] rfl (by (try simp only [List.map_toArray,List.map_cons,List.map_nil]);first|done|rfl|(simp only [List.length_drop,List.length_take];rfl)) ?_;(with_reducible refine (table_Check.calls kj19 ((rd_T51 t272 1).f1) ((rd_T51 t272 2).f1) ((rd_T51 t272 3).f1) _ _ t291 t294 _ ?side1 ?side2 A42.out).mono ?_);(case side1=>exact (Kd.R_reads' HO293.out).2.2);(case side2=>exact (Kd.R_reads' HO293.out).2.1);rintro e wk_ ⟨rfl,hb⟩;refine ⟨_,rfl,?_⟩;have n0_:=A_ (Kd.R_below (by exact HO293.out) hb);have n1_:=A_ (bb_ (by exact BK257.out) hb);have n2_:=A_ (bb_ (by exact BK286.out) hb);have n3_:=A_ (bp_ (by exact HB.out) hb);have n4_:=A_ (bb_ (by exact KD_.out) hb);clear HO293;clear BK257;clear BK286;clear HB;clear KD_;have HO293:=n0_;have BK257:=n1_;have BK286:=n2_;have HB:=n3_;have KD_:=n4_;clear n0_ n1_ n2_ n3_ n4_;clear hb;obtain ⟨hczj_0,hczj_1,hczj_2,hczj_3⟩:=blkc_4 BK286.out;obtain ⟨hfzj_0,hfzj_1,hfzj_2,hfzj_3⟩:=blkz_4 BK286.out;obtain ⟨hczk_0,hczk_1,hczk_2,hczk_3⟩:=blkc_4 BK257.out;obtain ⟨hfzk_0,hfzk_1,hfzk_2⟩:=blkz_3 BK257.out;have hfzk_3:=bf_ BK257.out 3)
       refine bodyPostR_mark (D:=D_) (by (repeat (refine (Below.heap_setCell _ _ _ _ hDn0_).trans ?_));exact KD_.out) (results_ct rfl _ _ gb257 26 #[.int .i64 0,.int .i64 0,.int .i64 0,.slice none 0 0] (0,0) _ rfl (blk_close (by refine kk_ ?_;apply blkf_4_0_3;exact kk_ BK257.out) (by (repeat (refine (Below.heap_setCell _ _ _ _ hDn0_).trans ?_));exact KD_.out)) Tryd.underlying26 rfl (by kernel_rfl)) rfl ?_
       exact ⟨_,by first|rfl|(simp [errW_none,errW_some] <;> rfl)|(simp [*,errW_none,errW_some] <;> rfl),R_close (by first|exact Kd.R_nil _ _ _ _ _|exact Kd.N_nil _ _ _ _ _|exact Kd.V_nil _ _ _ _ _|exact Kd.Q_nil _ _ _ _ _|exact Kd.S_nil _ _ _ _ _) (by (repeat (refine (Below.heap_setCell _ _ _ _ hDn0_).trans ?_));exact KD_.out),below_close (bs_ (bs_ (bs_ (bs_ HB.out GE257.out) GE257.out) GE257.out) GE257.out) (by (repeat (refine (Below.heap_setCell _ _ _ _ hDn0_).trans ?_));exact KD_.out) GD_ (Nat.le_refl _)⟩
     rw [if_pos c43] at H
     have c43b0 : (t294 == 0)=true:=beq_iff_eq.mpr c43;have c43b1 : (t294 != 0)=false:=bne_eq_false_iff_eq.mpr c43;clear c43
     simp only [Option.some.injEq,Prod.mk.injEq] at H
     obtain ⟨rfl,rfl,rfl,rfl,rfl⟩:=H
     try go_wp2
     have n0_:=A_ (re_ HO_6.out);have n1_:=A_ (ke_ BK257.out);have n2_:=A_ (be_ HB.out);clear HO_6;clear BK257;clear HB;have HO_6:=n0_;have BK257:=n1_;have HB:=n2_;clear n0_ n1_ n2_;obtain ⟨Ao45,co45,eo45⟩:=Kd.R_slice HO_6.out
     (first|subst eo45|(injection eo45 with f1_ f2_ f3_;have f4_:=f1_.symm;have f5_:=f3_.symm;clear f1_ f2_ f3_;subst f4_;subst f5_))
     have p283 : 0≤(1 : Int):=(by omega)
     have q283 : 1<(t272.length : Int):=od_ (by first|(with_reducible assumption)|assumption)
     obtain ⟨ad283,e283,hx283_0,hx283_1,hx283_2,hx283_3⟩:=at_T51 (Kd.R_reads' HO_6.out).2.2 1 p283 q283
     cases e283
     (try simp only [N1_,Nat.reduceMul,Nat.reduceEqDiff,Go.Addr.add,↓reduceIte] at hx283_0 hx283_1 hx283_2 hx283_3)
     have qi283 : (1<t272.length)=True:=eq_true (by omega)
     replace p283:=eq_true p283;replace q283:=eq_true q283
     have p284 : 0≤(2 : Int):=(by omega)
     have q284 : 2<(t272.length : Int):=od_ (by first|(with_reducible assumption)|assumption)
     obtain ⟨ad284,e284,hx284_0,hx284_1,hx284_2,hx284_3⟩:=at_T51 (Kd.R_reads' HO_6.out).2.2 2 p284 q284
     obtain rfl : ad283=ad284:=(by injection e284)
     (try simp only [N2_,Nat.reduceMul,Nat.reduceEqDiff,Go.Addr.add,↓reduceIte] at hx284_0 hx284_1 hx284_2 hx284_3)
     have qi284 : (2<t272.length)=True:=eq_true (by omega)
     replace p284:=eq_true p284;replace q284:=eq_true q284
     have p285 : 0≤(3 : Int):=(by omega)
     have q285 : 3<(t272.length : Int):=od_ (by first|(with_reducible assumption)|assumption)
     obtain ⟨ad285,e285,hx285_0,hx285_1,hx285_2,hx285_3⟩:=at_T51 (Kd.R_reads' HO_6.out).2.2 3 p285 q285
     obtain rfl : ad283=ad285:=(by injection e285)
     (try simp only [N3_,Nat.reduceMul,Nat.reduceEqDiff,Go.Addr.add,↓reduceIte] at hx285_0 hx285_1 hx285_2 hx285_3)
     have qi285 : (3<t272.length)=True:=eq_true (by omega)
     replace p285:=eq_true p285;replace q285:=eq_true q285
     refine start_ (n:=15) (S:=fun w'=>w'.cell? ⟨ad283.block,ad283.off + 4,none⟩=some (.int .i64 ((rd_T51 t272 1).f0))∧w'.cell? ⟨ad283.block,ad283.off + 4 + 1,none⟩=some (.int .i64 ((rd_T51 t272 1).f1))∧w'.cell? ⟨ad283.block,ad283.off + 4 + 2,none⟩=some (.float .f64 ((rd_T51 t272 1).f2))∧w'.cell? ⟨ad283.block,ad283.off + 4 + 3,none⟩=some (.string ((rd_T51 t272 1).f3))∧w'.cell? ⟨ad283.block,ad283.off + 8,none⟩=some (.int .i64 ((rd_T51 t272 2).f0))∧w'.cell? ⟨ad283.block,ad283.off + 8 + 1,none⟩=some (.int .i64 ((rd_T51 t272 2).f1))∧w'.cell? ⟨ad283.block,ad283.off + 8 + 2,none⟩=some (.float .f64 ((rd_T51 t272 2).f2))∧w'.cell? ⟨ad283.block,ad283.off + 8 + 3,none⟩=some (.string ((rd_T51 t272 2).f3))∧w'.cell? ⟨ad283.block,ad283.off + 12,none⟩=some (.int .i64 ((rd_T51 t272 3).f0))∧w'.cell? ⟨ad283.block,ad283.off + 12 + 1,none⟩=some (.int .i64 ((rd_T51 t272 3).f1))∧w'.cell? ⟨ad283.block,ad283.off + 12 + 2,none⟩=some (.float .f64 ((rd_T51 t272 3).f2))∧w'.cell? ⟨ad283.block,ad283.off + 12 + 3,none⟩=some (.string ((rd_T51 t272 3).f3))) (ds:=[14]) #[Z,Z,Z,Z,Z,Z,Z,Z,Z,Z,Z,Z,Z,Z,Z] (by kernel_rfl) rfl rfl ⟨hx283_0,hx283_1,hx283_2,hx283_3,hx284_0,hx284_1,hx284_2,hx284_3,hx285_0,hx285_1,hx285_2,hx285_3⟩ (fun hHeld=>?_);refine with_tabW table_Decode.tab11 table_Decode.bits11 (fun HT_ HW_=>?_)
     generalize wc.drew=w44 at HO_6 BK257 HB hx283_0 hx283_1 hx283_2 hx283_3 hx284_0 hx284_1 hx284_2 hx284_3 hx285_0 hx285_1 hx285_2 hx285_3 hHeld ⊢
     refine pu_ (i:=0) (N:=some 52) (v:=?_) (a':=?_) #[Y,Z,Z,Z,Z,Z,Z,Z,Z,Z,Z,Z,Z,Z,Z] rfl rfl HT_.out (by kernel_rfl) (fun _ _ _ h=>h) (by rfl) ?_ ?_ ?_;rotate_left;(intro w';go_simp;with_reducible rfl);rotate_left;(simp only [Act.put,q1_,q2_,q3_,i64_w,i32_w];rfl)
     refine pu_ (i:=1) (N:=some 53) (v:=?_) (a':=?_) #[Y,Y,Z,Z,Z,Z,Z,Z,Z,Z,Z,Z,Z,Z,Z] rfl rfl HT_.out (by kernel_rfl) (fun _ _ _ h=>h) (by rfl) ?_ ?_ ?_;rotate_left;(intro w';go_simp;with_reducible rfl);rotate_left;(simp only [Act.put,q1_,q2_,q3_,i64_w,i32_w];rfl)
     refine pu_ (i:=2) (N:=some 54) (v:=?_) (a':=?_) #[Y,Y,Y,Z,Z,Z,Z,Z,Z,Z,Z,Z,Z,Z,Z] rfl rfl HT_.out (by kernel_rfl) (fun _ _ _ h=>h) (by rfl) ?_ ?_ ?_;rotate_left;(intro w';go_simp;with_reducible rfl);rotate_left;(simp only [Act.put,q1_,q2_,q3_,i64_w,i32_w];rfl)
     refine pu_ (i:=4) (N:=some 56) (v:=?_) (a':=?_) #[Y,Y,Y,Z,Y,Z,Z,Z,Z,Z,Z,Z,Z,Z,Z] rfl rfl HT_.out (by kernel_rfl) (fun _ _ _ h=>h) (by rfl) ?_ ?_ ?_;rotate_left;(intro w';go_simp;with_reducible rfl);rotate_left;(simp only [Act.put,q1_,q2_,q3_,i64_w,i32_w];rfl)
     refine pu_ (i:=5) (N:=some 57) (v:=?_) (a':=?_) #[Y,Y,Y,Z,Y,Y,Z,Z,Z,Z,Z,Z,Z,Z,Z] rfl rfl HT_.out (by kernel_rfl) (fun _ _ _ h=>h) (by rfl) ?_ ?_ ?_;rotate_left;(intro w';go_simp;with_reducible rfl);rotate_left;(simp only [Act.put,q1_,q2_,q3_,i64_w,i32_w];rfl)
     refine pu_ (i:=6) (N:=some 58) (v:=?_) (a':=?_) #[Y,Y,Y,Z,Y,Y,Y,Z,Z,Z,Z,Z,Z,Z,Z] rfl rfl HT_.out (by kernel_rfl) (fun _ _ _ h=>h) (by rfl) ?_ ?_ ?_;rotate_left;(intro w';go_simp;with_reducible rfl);rotate_left;(simp only [Act.put,q1_,q2_,q3_,i64_w,i32_w];rfl)
     refine pu_ (i:=8) (N:=some 60) (v:=?_) (a':=?_) #[Y,Y,Y,Z,Y,Y,Y,Z,Y,Z,Z,Z,Z,Z,Z] rfl rfl HT_.out (by kernel_rfl) (fun _ _ _ h=>h) (by rfl) ?_ ?_ ?_;rotate_left;(intro w';go_simp;with_reducible rfl);rotate_left;(simp only [Act.put,q1_,q2_,q3_,i64_w,i32_w];rfl)
     refine pu_ (i:=9) (N:=some 61) (v:=?_) (a':=?_) #[Y,Y,Y,Z,Y,Y,Y,Z,Y,Y,Z,Z,Z,Z,Z] rfl rfl HT_.out (by kernel_rfl) (fun _ _ _ h=>h) (by rfl) ?_ ?_ ?_;rotate_left;(intro w';go_simp;with_reducible rfl);rotate_left;(simp only [Act.put,q1_,q2_,q3_,i64_w,i32_w];rfl)
     refine pu_ (i:=10) (N:=some 62) (v:=?_) (a':=?_) #[Y,Y,Y,Z,Y,Y,Y,Z,Y,Y,Y,Z,Z,Z,Z] rfl rfl HT_.out (by kernel_rfl) (fun _ _ _ h=>h) (by rfl) ?_ ?_ ?_;rotate_left;(intro w';go_simp;with_reducible rfl);rotate_left;(simp only [Act.put,q1_,q2_,q3_,i64_w,i32_w];rfl)
     refine ta_ (i:=3) (N:=some 55) (v:=?_) (a':=?_) #[Y,Y,Y,Y,Y,Y,Y,Z,Y,Y,Y,Z,Z,Z,Z] rfl rfl HT_.out HW_.out (by kernel_rfl) (fun _ _ _ h=>h) (by rfl) ?_ hHeld ?_ ?_;rotate_left;(rintro w' ⟨s0,s1,s2,s3,s4,s5,s6,s7,s8,s9,s10,s11⟩;go_simp;with_reducible rfl);rotate_left;(simp only [Act.put,q1_,q2_,q3_,i64_w,i32_w];rfl)
     refine ta_ (i:=7) (N:=some 59) (v:=?_) (a':=?_) #[Y,Y,Y,Y,Y,Y,Y,Y,Y,Y,Y,Z,Z,Z,Z] rfl rfl HT_.out HW_.out (by kernel_rfl) (fun _ _ _ h=>h) (by rfl) ?_ hHeld ?_ ?_;rotate_left;(rintro w' ⟨s0,s1,s2,s3,s4,s5,s6,s7,s8,s9,s10,s11⟩;go_simp;with_reducible rfl);rotate_left;(simp only [Act.put,q1_,q2_,q3_,i64_w,i32_w];rfl)
     refine ta_ (i:=11) (N:=some 63) (v:=?_) (a':=?_) #[Y,Y,Y,Y,Y,Y,Y,Y,Y,Y,Y,Y,Z,Z,Z] rfl rfl HT_.out HW_.out (by kernel_rfl) (fun _ _ _ h=>h) (by rfl) ?_ hHeld ?_ ?_;rotate_left;(rintro w' ⟨s0,s1,s2,s3,s4,s5,s6,s7,s8,s9,s10,s11⟩;go_simp;with_reducible rfl);rotate_left;(simp only [Act.put,q1_,q2_,q3_,i64_w,i32_w];rfl)
     refine pu_ (i:=12) (N:=some 64) (v:=?_) (a':=?_) #[Y,Y,Y,Y,Y,Y,Y,Y,Y,Y,Y,Y,Y,Z,Z] rfl rfl HT_.out (by kernel_rfl) (fun _ _ _ h=>h) (by rfl) ?_ ?_ ?_;rotate_left;(intro w';go_simp;with_reducible rfl);rotate_left;(simp only [Act.put,q1_,q2_,q3_,i64_w,i32_w];rfl)
     refine one_ (i:=13) (N:=some 8) #[Y,Y,Y,Y,Y,Y,Y,Y,Y,Y,Y,Y,Y,Y,Z] rfl rfl (one_of HT_.out (by kernel_rfl)) (by decide) (fun K hK=>?_)
     refine box_step ?hg (N:=8) ?hd (cs:=#[.int .i64 0,.int .i64 0,.int .i64 0,.slice none 0 0]) (t:=26) ?hr ?_;(case hd=>rfl);(case hg=>rfl);(case hr=>first|(go_simp;done)|(go_simp;rfl))
     intro gb286 hg w46 hbox hb;have HS0_:=(hb.cell (wb_ _ _ (hHeld.1))).trans (hHeld.1);have HS1_:=(hb.cell (wb_ _ _ (hHeld.2.1))).trans (hHeld.2.1);have HS2_:=(hb.cell (wb_ _ _ (hHeld.2.2.1))).trans (hHeld.2.2.1);have HS3_:=(hb.cell (wb_ _ _ (hHeld.2.2.2.1))).trans (hHeld.2.2.2.1);have HS4_:=(hb.cell (wb_ _ _ (hHeld.2.2.2.2.1))).trans (hHeld.2.2.2.2.1);have HS5_:=(hb.cell (wb_ _ _ (hHeld.2.2.2.2.2.1))).trans (hHeld.2.2.2.2.2.1);have HS6_:=(hb.cell (wb_ _ _ (hHeld.2.2.2.2.2.2.1))).trans (hHeld.2.2.2.2.2.2.1);have HS7_:=(hb.cell (wb_ _ _ (hHeld.2.2.2.2.2.2.2.1))).trans (hHeld.2.2.2.2.2.2.2.1);have HS8_:=(hb.cell (wb_ _ _ (hHeld.2.2.2.2.2.2.2.2.1))).trans (hHeld.2.2.2.2.2.2.2.2.1);have HS9_:=(hb.cell (wb_ _ _ (hHeld.2.2.2.2.2.2.2.2.2.1))).trans (hHeld.2.2.2.2.2.2.2.2.2.1);have HS10_:=(hb.cell (wb_ _ _ (hHeld.2.2.2.2.2.2.2.2.2.2.1))).trans (hHeld.2.2.2.2.2.2.2.2.2.2.1);have HS11_:=(hb.cell (wb_ _ _ (hHeld.2.2.2.2.2.2.2.2.2.2.2))).trans (hHeld.2.2.2.2.2.2.2.2.2.2.2)
     have n0_:=A_ (Kd.R_below (by (with_reducible repeat (first|apply ra_|apply rn_|apply re_));exact HO_6.out) hb)
     have n1_:=A_ (bx_ BK257.out kf_ hb);have n2_:=A_ (bp_ (hb1_ HB.out GE257.out) hb);have n3_:=A_ (hbox)
     have n4_:=A_ ((by rw [hg];exact (bz_ (hb1_ HB.out GE257.out)) : w.heap.size≤gb286))
     have n5_:=n4_
     have n6_:=A_ ((by rw [hg];exact Nat.ne_of_lt (bl_ BK257.out kf_) : gb257≠gb286))
     have n7_:=A_ (Ne.symm n6_.out);clear HO_6;clear BK257;clear HB;have HO_6:=n0_;have BK257:=n1_;have HB:=n2_;have BK286:=n3_;have GW286:=n4_;have GE286:=n5_;have NB257_286:=n6_;have NB286_257:=n7_;clear n0_ n1_ n2_ n3_ n4_ n5_ n6_ n7_;clear hb hbox hg
     refine hK.out _ _ ⟨HS0_,HS1_,HS2_,HS3_,HS4_,HS5_,HS6_,HS7_,HS8_,HS9_,HS10_,HS11_⟩ (fun hHeld=>?_)
     clear hK K
     refine norm_ (a':=?_) ?_ ?_;rotate_left;(show Act.put _ (some 8) _=_;simp only [Act.put,q1_,q2_,q3_,i64_w,i32_w];rfl)
     refine last_ (i:=14) (N:=none) #[Y,Y,Y,Y,Y,Y,Y,Y,Y,Y,Y,Y,Y,Y,Y] rfl rfl (one_of HT_.out (by kernel_rfl)) (by decide) (fun K hK=>?_)
     have hs47 : w46.cell? ⟨gb286,0,none⟩=some (.int .i64 0):=(bc_ BK286.out 0).trans rfl;have hfs47:=bf_ BK286.out 0;have hns47_0:=NB257_286.out;have hms47_0:=NB286_257.out;have hs48 : w46.cell? ⟨gb286,1,none⟩=some (.int .i64 0):=(bc_ BK286.out 1).trans rfl;have hfs48:=bf_ BK286.out 1;have hns48_0:=NB257_286.out;have hms48_0:=NB286_257.out;have hs49 : w46.cell? ⟨gb286,2,none⟩=some (.int .i64 0):=(bc_ BK286.out 2).trans rfl;have hfs49:=bf_ BK286.out 2;have hns49_0:=NB257_286.out;have hms49_0:=NB286_257.out;have hs50 : w46.cell? ⟨gb286,3,none⟩=some (.slice none 0 0):=(bc_ BK286.out 3).trans rfl;have hfs50:=bf_ BK286.out 3;have hns50_0:=NB257_286.out;have hms50_0:=NB286_257.out
     refine skip_ (w1:=?_) (by rfl) rfl ?_ ?_
     rotate_left
     ·go_simp
      rfl
     refine hK.out _ _ ?_;clear hK K;refine done_ (done_of HT_.out (by kernel_rfl)) ?_
     have n0_ : Aside0 (Kd.R k51 51 ((((w46.setCell ⟨gb286,0,none⟩ (.int .i64 ((rd_T51 t272 1).f1))).setCell ⟨gb286,1,none⟩ (.int .i64 ((rd_T51 t272 2).f1))).setCell ⟨gb286,2,none⟩ (.int .i64 ((rd_T51 t272 3).f1))).setCell ⟨gb286,3,none⟩ (.slice none 0 0)) w.heap.size (fun _=>True) (.slice (some ad283) t272.length co45) t272):=⟨by (with_reducible repeat (first|apply ra_|apply rn_|apply re_));exact Kd.R_mono (rf_ (p:=⟨gb286,3,none⟩) (rf_ (p:=⟨gb286,2,none⟩) (rf_ (p:=⟨gb286,1,none⟩) (rf_ (p:=⟨gb286,0,none⟩) (Kd.R_types HO_6.out BK286.out (by decide)) (fun _ hk=>hk.2) (.int .i64 ((rd_T51 t272 1).f1))) (fun _ hk=>hk.2) (.int .i64 ((rd_T51 t272 2).f1))) (fun _ hk=>hk.2) (.int .i64 ((rd_T51 t272 3).f1))) (fun _ hk=>hk.2) (.slice none 0 0)) (fun _ hk=>trivial)⟩
     have n1_ : Aside0 (((((w46.setCell ⟨gb286,0,none⟩ (.int .i64 ((rd_T51 t272 1).f1))).setCell ⟨gb286,1,none⟩ (.int .i64 ((rd_T51 t272 2).f1))).setCell ⟨gb286,2,none⟩ (.int .i64 ((rd_T51 t272 3).f1))).setCell ⟨gb286,3,none⟩ (.slice none 0 0)).heap[gb257]?=some (.cells #[.int .i64 0,.int .i64 0,.int .i64 0,.slice none 0 0] 26 (0,0))):=⟨by refine kk_ ?_;refine blk_far ?_ NB257_286.out _;refine kk_ ?_;refine blk_far ?_ NB257_286.out _;refine kk_ ?_;refine blk_far ?_ NB257_286.out _;refine kk_ ?_;refine blk_far ?_ NB257_286.out _;exact kk_ BK257.out⟩
     have n2_ : Aside0 (((((w46.setCell ⟨gb286,0,none⟩ (.int .i64 ((rd_T51 t272 1).f1))).setCell ⟨gb286,1,none⟩ (.int .i64 ((rd_T51 t272 2).f1))).setCell ⟨gb286,2,none⟩ (.int .i64 ((rd_T51 t272 3).f1))).setCell ⟨gb286,3,none⟩ (.slice none 0 0)).heap[gb286]?=some (.cells #[.int .i64 ((rd_T51 t272 1).f1),.int .i64 ((rd_T51 t272 2).f1),.int .i64 ((rd_T51 t272 3).f1),.slice none 0 0] 26 (0,0))):=⟨by refine kk_ ?_;apply blkf_4_0_3;exact kk_ BK286.out⟩
     have n3_ : Aside0 (Below w.heap.size w ((((w46.setCell ⟨gb286,0,none⟩ (.int .i64 ((rd_T51 t272 1).f1))).setCell ⟨gb286,1,none⟩ (.int .i64 ((rd_T51 t272 2).f1))).setCell ⟨gb286,2,none⟩ (.int .i64 ((rd_T51 t272 3).f1))).setCell ⟨gb286,3,none⟩ (.slice none 0 0))):=⟨hb2_ HB.out GE257.out GE286.out⟩;(try clear HO_6);(try clear BK257);(try clear BK286);(try clear HB)
     generalize ((((w46.setCell ⟨gb286,0,none⟩ (.int .i64 ((rd_T51 t272 1).f1))).setCell ⟨gb286,1,none⟩ (.int .i64 ((rd_T51 t272 2).f1))).setCell ⟨gb286,2,none⟩ (.int .i64 ((rd_T51 t272 3).f1))).setCell ⟨gb286,3,none⟩ (.slice none 0 0))=w51 at n0_ n1_ n2_ n3_ ⊢
     have HO_6:=n0_;have BK257:=n1_;have BK286:=n2_;have HB:=n3_;clear n0_ n1_ n2_ n3_
     have q52 : (4 : Int)≤((t272.length : Int) : Int):=od_ (by first|(with_reducible assumption)|assumption)
     obtain ⟨i052,hi052,_,hsz52,_⟩:=info_parts info51;have hroom52 : t272.length≤co45:=(Kd.R_reads' HO_6.out).2.1;have hC52 : Kd.C k51 _ (some ad283) t272.length t272:=(Kd.R_reads' HO_6.out).2.2
     have hcut52:=cut_from (P:=Tryd.prog) 45 51 .i64 Tryd.underlying45 hi052 4 hsz52 (some ad283) t272.length co45 4 (by omega) q52
     have hr52:=Kd.C_drop (m:=(4 : Int).toNat) (c:=co45) hC52 (by omega) hroom52
     obtain ⟨A52,hA52⟩ : ∃ A1,A1=(if co45=(4 : Int).toNat then (some ad283) else ((some ad283) : Option Addr).map (·.add ((4 : Int).toNat * 4))):=⟨_,rfl⟩
     obtain ⟨c52,hc52⟩ : ∃ c1,c1=co45 - (4 : Int).toNat:=⟨_,rfl⟩
     have hy52 : y287.length=t272.length - (4 : Int).toNat:=(by rw [Ny287.out,List.length_drop] <;> omega)
     rw [show (t272).drop (4 : Int).toNat=y287 from Ny287.out.symm] at hr52
     replace hr52 : Kd.C k51 _ A52 y287.length y287:=(by rw [hA52];exact hr52)
     rw [← hy52,← hA52,← hc52] at hcut52;have HR290:=A_ hr52
     have HC290:=A_ (show y287.length≤c52 from by rw [hy52,hc52];exact Nat.sub_le_sub_right hroom52 _)
     clear hr52 hC52 hroom52 hi052 hsz52 hc52;have KY52:=A_ hy52;have KA52:=A_ hA52;clear hy52 hA52
     have KL52:=A_ (show 4≤t272.length from by omega)
     replace q52:=eq_true q52;obtain ⟨N_,hN0_,hN1_,hN2_,hE_⟩:=chunk_f A41.out
     obtain ⟨ad_,hA_,_⟩:=HR290.out.2.2 (by omega)
     subst hA_;have HN1_:=A_ hN1_;have HE_:=A_ hE_;have HN2_:=A_ hN2_;clear hN1_ hE_ hN2_;have hgl_:=blk_lt BK286.out;have hgl0_:=blk_lt BK257.out;have hbs0_:=bz_ HB.out
     try go_wp2_with ((with_reducible refine gate_callee (f:=24) rfl ?_);refine goesL_ (some 67) rfl rfl Tryd.func24 (by kernel_rfl) rfl #[.slice (some ad_) y287.length c52,.int .i64 4] rfl (by (try simp only [List.map_toArray,List.map_cons,List.map_nil]);first|done|rfl|(simp only [List.length_drop,List.length_take];rfl)) ?_;(with_reducible refine (Chunk_any (some ad_) y287.length c52 _).mono ?_);rintro e wl_ ⟨cbs_,cbn_,rfl,hbs_,hbn_,hbs1_,hbs2_,hbn1_,hbn2_,hb⟩;refine ⟨_,rfl,?_⟩;have n0_:=A_ (Kd.R_below (by (with_reducible repeat (first|apply ra_|apply rn_|apply re_));exact HO_6.out) hb);have n2_:=A_ (bb_ (by exact BK257.out) hb);have n3_:=A_ (bb_ (by exact BK286.out) hb);have n5_:=A_ (bp_ (hb2_ HB.out GE257.out GE286.out) hb);have n6_:=A_ (Kd.C_below (by exact HR290.out) hb);have hbz_:=hb.size;clear HO_6;clear BK257;clear BK286;clear HB;clear HR290;have HO_6:=n0_;have BK257:=n2_;have BK286:=n3_;have HB:=n5_;have HR290:=n6_;clear n0_ n2_ n3_ n5_ n6_;clear hb)
     have hcA_:=HC290.out;have hN1_:=HN1_.out;have hE_:=HE_.out;have hN2_:=HN2_.out;clear HN1_ HE_ HN2_;rw [hN1_] at hbs_ hcA_
     refine range_four cbs_ cbn_ ad_ c52 N_ gb286 _ _ _ (fun x_=>chE y287 x_.1) hcA_ hN2_ rfl rfl hbs_ hbn_ (by omega) (by omega) BK286.out (fun x_ W_=>chP y287 ad_ x_.1 W_) ?hP1 (a₁:=?ax1) ?assign1 ?body1 ?done1
     case hP1 =>
      intro x_ W_ hk_
      have h1_ : Kd.R k51 51 W_ w.heap.size (fun _=>True) (.slice (some ad283) t272.length _) t272:=Kd.R_mono (Kd.R_keep (Kd.R_types HO_6.out BK286.out (by decide)) hk_ (fun _ h_=>h_.2)) (fun _ _=>trivial)
      have h2_:=(Kd.R_reads' h1_).2.2
      have h3_:=Kd.C_drop (m:=(4 : Int).toNat) (c:=_) h2_ (by have:=KL52.out;omega) (Kd.R_reads' h1_).2.1
      rw [show (t272).drop (4 : Int).toNat=y287 from Ny287.out.symm] at h3_
      exact chP_of hN1_ (by rw [KA52.out];exact h3_) x_
     case assign1 =>
      intro l_ x_ W_ K_ hK_
      gi_wp2
      exact hK_
     case body1 =>
      intro l_ x_ W_ u_ xs_ hP_ hB_ hl_ hbk_ hR_;obtain ⟨s1_,s2_,s3_,s4_⟩:=hP_
      obtain ⟨B_,hB0_⟩ : ∃ B_,B_=wl_.heap.size:=⟨_,rfl⟩
      rw [← hB0_] at hB_ hR_ ⊢;have hE1_ : chE y287 x_.1=⟨_,_,_,_⟩:=rfl;rw [hE1_];clear hE1_
      generalize Addr.add ad_ (4 * x_.1 * 4)=adx_ at s1_ s2_ s3_ s4_ ⊢
      generalize (rd_T51 y287 ((4 * x_.1 : Nat) : Int)).f1=v0_ at s1_ s2_ s3_ s4_ ⊢
      generalize (rd_T51 y287 ((4 * x_.1 + 1 : Nat) : Int)).f1=v1_ at s1_ s2_ s3_ s4_ ⊢
      generalize (rd_T51 y287 ((4 * x_.1 + 2 : Nat) : Int)).f1=v2_ at s1_ s2_ s3_ s4_ ⊢
      generalize (rd_T51 y287 ((4 * x_.1 + 3 : Nat) : Int)).f1=v3_ at s1_ s2_ s3_ s4_ ⊢
      have HRB_:=A_ (re_ hR_);have BKB_:=A_ (ke_ hbk_);have HB_ : Aside0 (B_≤W_.drew.heap.size):=⟨hB_⟩;clear hR_ hbk_;replace s1_:=(cell_drew_own W_ _).trans s1_;replace s2_:=(cell_drew_own W_ _).trans s2_;replace s3_:=(cell_drew_own W_ _).trans s3_;replace s4_:=(cell_drew_own W_ _).trans s4_
      gi_wp2
      refine startR_ (n:=23) (S:=fun w'=>w'.cell? ⟨gb286,3,none⟩=some (u_)∧w'.cell? ⟨adx_.block,adx_.off + 1,none⟩=some (.int .i64 v0_)∧w'.cell? ⟨adx_.block,adx_.off + 4 + 1,none⟩=some (.int .i64 v1_)∧w'.cell? ⟨adx_.block,adx_.off + 8 + 1,none⟩=some (.int .i64 v2_)∧w'.cell? ⟨adx_.block,adx_.off + 12 + 1,none⟩=some (.int .i64 v3_)) (ds:=[20,22]) #[Z,Z,Z,Z,Z,Z,Z,Z,Z,Z,Z,Z,Z,Z,Z,Z,Z,Z,Z,Z,Z,Z,Z] (by kernel_rfl) rfl rfl (by rintro ⟨_,_,e_,_⟩;cases e_) (by kernel_rfl) ⟨(bc_ BKB_.out 3).trans rfl,s1_,s2_,s3_,s4_⟩ (fun hHeld=>?_);refine with_tabW table_Decode.tab14 table_Decode.bits14 (fun HT_ HW_=>?_)
      generalize hwd_ : W_.drew=wd_ at HRB_ BKB_ HB_ s1_ s2_ s3_ s4_ hHeld ⊢
      refine pu_ (i:=0) (N:=some 69) (v:=?_) (a':=?_) #[Y,Z,Z,Z,Z,Z,Z,Z,Z,Z,Z,Z,Z,Z,Z,Z,Z,Z,Z,Z,Z,Z,Z] rfl rfl HT_.out (by kernel_rfl) (fun _ _ _ h=>h) (by rfl) ?_ ?_ ?_;rotate_left;(intro w';go_simp;with_reducible rfl);rotate_left;(simp only [Act.put,q1_,q2_,q3_,i64_w,i32_w];rfl)
      refine pu_ (i:=2) (N:=some 71) (v:=?_) (a':=?_) #[Y,Z,Y,Z,Z,Z,Z,Z,Z,Z,Z,Z,Z,Z,Z,Z,Z,Z,Z,Z,Z,Z,Z] rfl rfl HT_.out (by kernel_rfl) (fun _ _ _ h=>h) (by rfl) ?_ ?_ ?_;rotate_left;(intro w';go_simp;with_reducible rfl);rotate_left;(simp only [Act.put,q1_,q2_,q3_,i64_w,i32_w];rfl)
      refine pu_ (i:=3) (N:=some 72) (v:=?_) (a':=?_) #[Y,Z,Y,Y,Z,Z,Z,Z,Z,Z,Z,Z,Z,Z,Z,Z,Z,Z,Z,Z,Z,Z,Z] rfl rfl HT_.out (by kernel_rfl) (fun _ _ _ h=>h) (by rfl) ?_ ?_ ?_;rotate_left;(intro w';go_simp;with_reducible rfl);rotate_left;(simp only [Act.put,q1_,q2_,q3_,i64_w,i32_w];rfl)
      refine pu_ (i:=4) (N:=some 73) (v:=?_) (a':=?_) #[Y,Z,Y,Y,Y,Z,Z,Z,Z,Z,Z,Z,Z,Z,Z,Z,Z,Z,Z,Z,Z,Z,Z] rfl rfl HT_.out (by kernel_rfl) (fun _ _ _ h=>h) (by rfl) ?_ ?_ ?_;rotate_left;(intro w';go_simp;with_reducible rfl);rotate_left;(simp only [Act.put,q1_,q2_,q3_,i64_w,i32_w];rfl)
      refine pu_ (i:=6) (N:=some 75) (v:=?_) (a':=?_) #[Y,Z,Y,Y,Y,Z,Y,Z,Z,Z,Z,Z,Z,Z,Z,Z,Z,Z,Z,Z,Z,Z,Z] rfl rfl HT_.out (by kernel_rfl) (fun _ _ _ h=>h) (by rfl) ?_ ?_ ?_;rotate_left;(intro w';go_simp;with_reducible rfl);rotate_left;(simp only [Act.put,q1_,q2_,q3_,i64_w,i32_w];rfl)
      refine pu_ (i:=7) (N:=some 76) (v:=?_) (a':=?_) #[Y,Z,Y,Y,Y,Z,Y,Y,Z,Z,Z,Z,Z,Z,Z,Z,Z,Z,Z,Z,Z,Z,Z] rfl rfl HT_.out (by kernel_rfl) (fun _ _ _ h=>h) (by rfl) ?_ ?_ ?_;rotate_left;(intro w';go_simp;with_reducible rfl);rotate_left;(simp only [Act.put,q1_,q2_,q3_,i64_w,i32_w];rfl)
      refine pu_ (i:=8) (N:=some 77) (v:=?_) (a':=?_) #[Y,Z,Y,Y,Y,Z,Y,Y,Y,Z,Z,Z,Z,Z,Z,Z,Z,Z,Z,Z,Z,Z,Z] rfl rfl HT_.out (by kernel_rfl) (fun _ _ _ h=>h) (by rfl) ?_ ?_ ?_;rotate_left;(intro w';go_simp;with_reducible rfl);rotate_left;(simp only [Act.put,q1_,q2_,q3_,i64_w,i32_w];rfl)
      refine pu_ (i:=10) (N:=some 79) (v:=?_) (a':=?_) #[Y,Z,Y,Y,Y,Z,Y,Y,Y,Z,Y,Z,Z,Z,Z,Z,Z,Z,Z,Z,Z,Z,Z] rfl rfl HT_.out (by kernel_rfl) (fun _ _ _ h=>h) (by rfl) ?_ ?_ ?_;rotate_left;(intro w';go_simp;with_reducible rfl);rotate_left;(simp only [Act.put,q1_,q2_,q3_,i64_w,i32_w];rfl)
      refine pu_ (i:=11) (N:=some 80) (v:=?_) (a':=?_) #[Y,Z,Y,Y,Y,Z,Y,Y,Y,Z,Y,Y,Z,Z,Z,Z,Z,Z,Z,Z,Z,Z,Z] rfl rfl HT_.out (by kernel_rfl) (fun _ _ _ h=>h) (by rfl) ?_ ?_ ?_;rotate_left;(intro w';go_simp;with_reducible rfl);rotate_left;(simp only [Act.put,q1_,q2_,q3_,i64_w,i32_w];rfl)
      refine pu_ (i:=12) (N:=some 81) (v:=?_) (a':=?_) #[Y,Z,Y,Y,Y,Z,Y,Y,Y,Z,Y,Y,Y,Z,Z,Z,Z,Z,Z,Z,Z,Z,Z] rfl rfl HT_.out (by kernel_rfl) (fun _ _ _ h=>h) (by rfl) ?_ ?_ ?_;rotate_left;(intro w';go_simp;with_reducible rfl);rotate_left;(simp only [Act.put,q1_,q2_,q3_,i64_w,i32_w];rfl)
      refine pu_ (i:=14) (N:=some 83) (v:=?_) (a':=?_) #[Y,Z,Y,Y,Y,Z,Y,Y,Y,Z,Y,Y,Y,Z,Y,Z,Z,Z,Z,Z,Z,Z,Z] rfl rfl HT_.out (by kernel_rfl) (fun _ _ _ h=>h) (by rfl) ?_ ?_ ?_;rotate_left;(intro w';go_simp;with_reducible rfl);rotate_left;(simp only [Act.put,q1_,q2_,q3_,i64_w,i32_w];rfl)
      refine pu_ (i:=15) (N:=some 84) (v:=?_) (a':=?_) #[Y,Z,Y,Y,Y,Z,Y,Y,Y,Z,Y,Y,Y,Z,Y,Y,Z,Z,Z,Z,Z,Z,Z] rfl rfl HT_.out (by kernel_rfl) (fun _ _ _ h=>h) (by rfl) ?_ ?_ ?_;rotate_left;(intro w';go_simp;with_reducible rfl);rotate_left;(simp only [Act.put,q1_,q2_,q3_,i64_w,i32_w];rfl)
      refine pu_ (i:=16) (N:=some 85) (v:=?_) (a':=?_) #[Y,Z,Y,Y,Y,Z,Y,Y,Y,Z,Y,Y,Y,Z,Y,Y,Y,Z,Z,Z,Z,Z,Z] rfl rfl HT_.out (by kernel_rfl) (fun _ _ _ h=>h) (by rfl) ?_ ?_ ?_;rotate_left;(intro w';go_simp;with_reducible rfl);rotate_left;(simp only [Act.put,q1_,q2_,q3_,i64_w,i32_w];rfl)
      refine ta_ (i:=1) (N:=some 70) (v:=?_) (a':=?_) #[Y,Y,Y,Y,Y,Z,Y,Y,Y,Z,Y,Y,Y,Z,Y,Y,Y,Z,Z,Z,Z,Z,Z] rfl rfl HT_.out HW_.out (by kernel_rfl) (fun _ _ _ h=>h) (by rfl) ?_ hHeld ?_ ?_;rotate_left;(rintro w' ⟨z0,z1,z2,z3,z4⟩;go_simp;with_reducible rfl);rotate_left;(simp only [Act.put,q1_,q2_,q3_,i64_w,i32_w];rfl)
      refine ta_ (i:=5) (N:=some 74) (v:=?_) (a':=?_) #[Y,Y,Y,Y,Y,Y,Y,Y,Y,Z,Y,Y,Y,Z,Y,Y,Y,Z,Z,Z,Z,Z,Z] rfl rfl HT_.out HW_.out (by kernel_rfl) (fun _ _ _ h=>h) (by rfl) ?_ hHeld ?_ ?_;rotate_left;(rintro w' ⟨z0,z1,z2,z3,z4⟩;go_simp;with_reducible rfl);rotate_left;(simp only [Act.put,q1_,q2_,q3_,i64_w,i32_w];rfl)
      refine ta_ (i:=9) (N:=some 78) (v:=?_) (a':=?_) #[Y,Y,Y,Y,Y,Y,Y,Y,Y,Y,Y,Y,Y,Z,Y,Y,Y,Z,Z,Z,Z,Z,Z] rfl rfl HT_.out HW_.out (by kernel_rfl) (fun _ _ _ h=>h) (by rfl) ?_ hHeld ?_ ?_;rotate_left;(rintro w' ⟨z0,z1,z2,z3,z4⟩;go_simp;with_reducible rfl);rotate_left;(simp only [Act.put,q1_,q2_,q3_,i64_w,i32_w];rfl)
      refine ta_ (i:=13) (N:=some 82) (v:=?_) (a':=?_) #[Y,Y,Y,Y,Y,Y,Y,Y,Y,Y,Y,Y,Y,Y,Y,Y,Y,Z,Z,Z,Z,Z,Z] rfl rfl HT_.out HW_.out (by kernel_rfl) (fun _ _ _ h=>h) (by rfl) ?_ hHeld ?_ ?_;rotate_left;(rintro w' ⟨z0,z1,z2,z3,z4⟩;go_simp;with_reducible rfl);rotate_left;(simp only [Act.put,q1_,q2_,q3_,i64_w,i32_w];rfl)
      refine ta_ (i:=17) (N:=some 86) (v:=?_) (a':=?_) #[Y,Y,Y,Y,Y,Y,Y,Y,Y,Y,Y,Y,Y,Y,Y,Y,Y,Y,Z,Z,Z,Z,Z] rfl rfl HT_.out HW_.out (by kernel_rfl) (fun _ _ _ h=>h) (by rfl) ?_ hHeld ?_ ?_;rotate_left;(rintro w' ⟨z0,z1,z2,z3,z4⟩;go_simp;with_reducible rfl);rotate_left;(simp only [Act.put,q1_,q2_,q3_,i64_w,i32_w];rfl)
      refine pu_ (i:=18) (N:=some 87) (v:=?_) (a':=?_) #[Y,Y,Y,Y,Y,Y,Y,Y,Y,Y,Y,Y,Y,Y,Y,Y,Y,Y,Y,Z,Z,Z,Z] rfl rfl HT_.out (by kernel_rfl) (fun _ _ _ h=>h) (by rfl) ?_ ?_ ?_;rotate_left;(intro w';go_simp;with_reducible rfl);rotate_left;(simp only [Act.put,q1_,q2_,q3_,i64_w,i32_w];rfl)
      refine one_ (i:=19) (N:=some 88) #[Y,Y,Y,Y,Y,Y,Y,Y,Y,Y,Y,Y,Y,Y,Y,Y,Y,Y,Y,Y,Z,Z,Z] rfl rfl (one_of HT_.out (by kernel_rfl)) (by decide) (fun K hK=>?_)
      refine value_ (w1:=?_) (v:=?_) (by rfl) rfl ?_ ?_
      rotate_left 2
      ·go_simp
       constructor
       ·rfl
       ·rfl
      refine hK.out _ _ ⟨(bc_ (ka_ BKB_.out _) 3).trans rfl,(World.cell?_alloc_lt _ _ _ (wb_ _ _ s1_)).trans s1_,(World.cell?_alloc_lt _ _ _ (wb_ _ _ s2_)).trans s2_,(World.cell?_alloc_lt _ _ _ (wb_ _ _ s3_)).trans s3_,(World.cell?_alloc_lt _ _ _ (wb_ _ _ s4_)).trans s4_⟩ (fun hHeld=>?_)
      clear hK K
      refine norm_ (a':=?_) ?_ ?_;rotate_left;(show Act.put _ (some 88) _=_;simp only [Act.put,q1_,q2_,q3_,i64_w,i32_w];rfl)
      refine last_ (i:=20) (N:=some 89) #[Y,Y,Y,Y,Y,Y,Y,Y,Y,Y,Y,Y,Y,Y,Y,Y,Y,Y,Y,Y,Y,Z,Z] rfl rfl (one_of HT_.out (by kernel_rfl)) (by decide) (fun K hK=>?_)
      refine Kd.R_append_step k56 (w0:=wd_) B_ (by rfl) (.tmp 70) (.tmp 88) 24 56 (.agg #[(.int .i64 0),(.int .i64 0),(.int .i64 0),(.int .i64 0)]) 32 rfl Tryd.underlying24 info56 rfl (by decide) (by omega) u_ xs_ (⟨v1_,v0_,v2_,v3_⟩ : S56) [.int .i64 v1_,.int .i64 v0_,.int .i64 v2_,.int .i64 v3_] (fun _=>True) (fun _=>False) rfl rfl ?aP (fun _ hk=>hk.elim) ?aF ?aO ?aB ?aS ?aL ?_
      (case aP=>exact k56_mkM _ _ _ (⟨v1_,v0_,v2_,v3_⟩ : S56))
      (case aB=>exact Below.refl _ _)
      (case aF=>exact (fun _ _=>trivial))
      (case aO=>exact HRB_.out)
      (case aS=>exact HB_.out)
      (case aL=>omega)
      intro v_ we_ ho_ hb_ hg_ hat_
      have BKE_:=A_ (blk_grown (g:=gb286) (o:=.cells #[.int .i64 ((rd_T51 t272 1).f1),.int .i64 ((rd_T51 t272 2).f1),.int .i64 ((rd_T51 t272 3).f1),u_] 26 (0,0)) BKB_.out hg_ (Kd.R_ne HRB_.out BKB_.out (by decide)))
      obtain ⟨ye_,hye_⟩ : ∃ y_ : List S56,y_=xs_++[(⟨v1_,v0_,v2_,v3_⟩ : S56)]:=⟨_,rfl⟩
      rw [← hye_] at ho_;have HYE_:=A_ hye_;clear hye_;obtain ⟨Av_,cv_,ev_⟩:=Kd.R_slice ho_;subst ev_;clear BKB_ hat_;refine hK.out _ _ ?_;clear hK K
      refine norm_ (a':=?_) ?_ ?_;rotate_left;(show Act.put _ (some 89) _=_;simp only [Act.put,q1_,q2_,q3_,i64_w,i32_w];rfl)
      refine pu_ (i:=21) (N:=some 90) (v:=?_) (a':=?_) #[Y,Y,Y,Y,Y,Y,Y,Y,Y,Y,Y,Y,Y,Y,Y,Y,Y,Y,Y,Y,Y,Y,Z] rfl rfl HT_.out (by kernel_rfl) (fun _ _ _ h=>h) (by rfl) ?_ ?_ ?_;rotate_left;(intro w';go_simp;with_reducible rfl);rotate_left;(simp only [Act.put,q1_,q2_,q3_,i64_w,i32_w];rfl)
      refine last_ (i:=22) (N:=none) #[Y,Y,Y,Y,Y,Y,Y,Y,Y,Y,Y,Y,Y,Y,Y,Y,Y,Y,Y,Y,Y,Y,Y] rfl rfl (one_of HT_.out (by kernel_rfl)) (by decide) (fun K hK=>?_)
      have hsE_ : we_.cell? ⟨gb286,3,none⟩=some (u_):=(bc_ BKE_.out 3).trans rfl;have hfE_:=bf_ BKE_.out 3
      refine skip_ (w1:=?_) (by rfl) rfl ?_ ?_
      rotate_left
      ·go_simp
       rfl
      refine hK.out _ _ ?_;clear hK K;refine done_ (done_of HT_.out (by kernel_rfl)) ?_
      try simp only [Exit.inBlock,Exit.then]
      have hkp_:=keep_put (W:=W_) (W1:=we_) (row:=u_.ownBlock) (j:=3) (v:=.slice Av_ ye_.length cv_) (g:=gb286) (by rw [hwd_];exact hg_)
      refine ⟨rfl,_,blk_put (cs:=#[.int .i64 ((rd_T51 t272 1).f1),.int .i64 ((rd_T51 t272 2).f1),.int .i64 ((rd_T51 t272 3).f1),u_]) BKE_.out 3 _ rfl,?_,hkp_.1,hkp_.2⟩;rw [← HYE_.out]
      exact Kd.R_mono (rf_ (p:=⟨gb286,3,none⟩) (Kd.R_types ho_ BKE_.out (by decide)) (fun _ hk=>hk.2) _) (fun _ _=>trivial)
     case done1 =>
      intro D_ W_ u_ hD_ hK_ h0_ hk_ hbk_ hR_;have hDz_:=(Array.getElem?_eq_some_iff.1 hK_).1;rw [← hE_] at hR_;clear hE_ hN1_ hcA_ hbs_ hbn_
      have HO293:=A_ (Kd.R_lower hR_ (by omega : w.heap.size≤wl_.heap.size))
      have n2_:=A_ ((hk_.2 gb257 (by omega) NB257_286.out (by simp)).trans BK257.out)
      have n5_:=A_ (below_keep' HB.out h0_ hk_ GE286.out (Nat.le_refl _));have KD_:=A_ hK_
      have hDn0_ : D_≠gb257:=by omega
      have hDn1_ : D_≠gb286:=by omega
      have GD_ : w.heap.size≤D_:=by omega
      clear BK257 BK286 HB HO_6 HR290 hR_;have BK257:=n2_;have HB:=n5_;have BK286:=A_ hbk_;clear n2_ n5_ hbk_ hK_ h0_ hk_;obtain ⟨Ao54,co54,eo_⟩:=Kd.R_slice HO293.out;subst eo_;have hnb_:=NB286_257.out;have hnc_:=NB257_286.out;obtain ⟨hczi_0,hczi_1,hczi_2,hczi_3⟩:=blkc_4 BK286.out;obtain ⟨hfzi_0,hfzi_1,hfzi_2⟩:=blkz_3 BK286.out;have hfzi_3:=bf_ BK286.out 3
      dsimp only
      try simp only [Exit.inBlock,Exit.then]
      apply_assumption
      try go_wp2_with ((with_reducible refine gate_callee (f:=13) rfl ?_);refine goesL_ (some 92) rfl rfl Tryd.func13 (by kernel_rfl) rfl #[.agg #[.int .i64 ((rd_T51 t272 1).f1),.int .i64 ((rd_T51 t272 2).f1),.int .i64 ((rd_T51 t272 3).f1),.slice Ao54 t291.length co54]] rfl (by (try simp only [List.map_toArray,List.map_cons,List.map_nil]);first|done|rfl|(simp only [List.length_drop,List.length_take];rfl)) ?_;(with_reducible refine (table_Check.calls kj19 ((rd_T51 t272 1).f1) ((rd_T51 t272 2).f1) ((rd_T51 t272 3).f1) _ _ t291 t294 _ ?side1 ?side2 A42.out).mono ?_);(case side1=>exact (Kd.R_reads' HO293.out).2.2);(case side2=>exact (Kd.R_reads' HO293.out).2.1);rintro e wk_ ⟨rfl,hb⟩;refine ⟨_,rfl,?_⟩;have n0_:=A_ (Kd.R_below (by exact HO293.out) hb);have n1_:=A_ (bb_ (by exact BK257.out) hb);have n2_:=A_ (bb_ (by exact BK286.out) hb);have n3_:=A_ (bp_ (by exact HB.out) hb);have n4_:=A_ (bb_ (by exact KD_.out) hb);clear HO293;clear BK257;clear BK286;clear HB;clear KD_;have HO293:=n0_;have BK257:=n1_;have BK286:=n2_;have HB:=n3_;have KD_:=n4_;clear n0_ n1_ n2_ n3_ n4_;clear hb;obtain ⟨hczj_0,hczj_1,hczj_2,hczj_3⟩:=blkc_4 BK286.out;obtain ⟨hfzj_0,hfzj_1,hfzj_2,hfzj_3⟩:=blkz_4 BK286.out;obtain ⟨hczk_0,hczk_1,hczk_2,hczk_3⟩:=blkc_4 BK257.out;obtain ⟨hfzk_0,hfzk_1,hfzk_2⟩:=blkz_3 BK257.out;have hfzk_3:=bf_ BK257.out 3)
      refine bodyPostR_mark (D:=D_) (by (repeat (refine (Below.heap_setCell _ _ _ _ hDn0_).trans ?_));exact KD_.out) (results_ct rfl _ _ gb257 26 #[.int .i64 ((rd_T51 t272 1).f1),.int .i64 ((rd_T51 t272 2).f1),.int .i64 ((rd_T51 t272 3).f1),.slice Ao54 t291.length co54] (0,0) _ rfl (blk_close (by refine kk_ ?_;apply blkf_4_0_3;exact kk_ BK257.out) (by (repeat (refine (Below.heap_setCell _ _ _ _ hDn0_).trans ?_));exact KD_.out)) Tryd.underlying26 rfl (by kernel_rfl)) rfl ?_
      exact ⟨_,by first|rfl|(simp [errW_none,errW_some] <;> rfl)|(simp [*,errW_none,errW_some] <;> rfl),R_close (by (with_reducible repeat (first|apply ra_|apply rn_|apply re_));exact Kd.R_mono (rf_ (p:=⟨gb257,3,none⟩) (rf_ (p:=⟨gb257,2,none⟩) (rf_ (p:=⟨gb257,1,none⟩) (rf_ (p:=⟨gb257,0,none⟩) (Kd.R_types HO293.out BK257.out (by decide)) (fun _ hk=>hk.2) (.int .i64 ((rd_T51 t272 1).f1))) (fun _ hk=>hk.2) (.int .i64 ((rd_T51 t272 2).f1))) (fun _ hk=>hk.2) (.int .i64 ((rd_T51 t272 3).f1))) (fun _ hk=>hk.2) (.slice Ao54 t291.length co54)) (fun _ hk=>trivial)) (by (repeat (refine (Below.heap_setCell _ _ _ _ hDn0_).trans ?_));exact KD_.out),below_close (bs_ (bs_ (bs_ (bs_ HB.out GE257.out) GE257.out) GE257.out) GE257.out) (by (repeat (refine (Below.heap_setCell _ _ _ _ hDn0_).trans ?_));exact KD_.out) GD_ (Nat.le_refl _)⟩
def humusref11_First.f  : Option (Int × Int × Int × (List (S56))):=if 12≤8796093022208 then (some (1,1,0,(List.replicate 12 z56))) else (none)
set_option maxHeartbeats 8000000 in
set_option maxRecDepth 100000 in
theorem humusref11_First.calls  (r1 : Int) (r2 : Int) (r3 : Int) (r4 : List (S56)) (w : World) (h : humusref11_First.f  = some (r1,r2,r3,r4)) :
  Calls Tryd.prog 10 #[] w fun e w'=>∃ v3_ : Value,e=.returned (.agg #[.int .i64 r1,.int .i64 r2,.int .i64 r3,v3_])∧Kd.R k56 56 w' w.heap.size (fun _=>True) v3_ r4∧Below w.heap.size w w':=by
 have hu26:=Tryd.underlying26;have HB:=A_ (Below.refl w.heap.size w)
 have H : (if 12≤8796093022208 then (some (1,1,0,(List.replicate 12 z56))) else (none))=some (r1,r2,r3,r4):=h
 clear h
 by_cases c1 : 12≤8796093022208
 rotate_left
 ·rw [if_neg c1] at H
  exact absurd H (by simp)
 rw [if_pos c1] at H
 have c1b0:=eq_true c1;have c1b1 : decide (12≤8796093022208)=true:=dt_ c1;clear c1
 obtain ⟨y296,hy296⟩ : ∃ y_ : List (S56),y_=(List.replicate 12 z56):=⟨_,rfl⟩
 replace H : (some (1,1,0,y296))=some (r1,r2,r3,r4):=by first|(rw [hy296];with_reducible exact H)|(have H2_:=(Option.bind_some _ _).symm.trans H;rw [hy296];with_reducible exact H2_)|(have H2_:=(Option.bind_some _ _).symm.trans H;with_reducible exact H2_)|with_reducible exact H|(rw [hy296];exact H)|exact H
 have Ny296:=A_ hy296;clear hy296
 simp only [Option.some.injEq,Prod.mk.injEq] at H
 obtain ⟨rfl,rfl,rfl,rfl⟩:=H;go_enter Tryd.func10,Tryd.ntmps10
 go_wp2_with (first|((with_reducible refine gate_dst (N:=0) rfl ?_);refine box_event ?hg (N:=0) ?hd (cs:=#[.int .i64 0,.int .i64 0,.int .i64 0,.slice none 0 0]) (t:=26) ?hr ?_;(case hd=>rfl);(case hg=>rfl);(case hr=>first|(go_simp;done)|(go_simp;rfl));intro gb295 hg w2 hbox hb;have n0_:=A_ (bp_ (hb0_ HB.out) hb);have n1_:=A_ (hbox);have n2_:=A_ ((by rw [hg];exact (bz_ (hb0_ HB.out)) : w.heap.size≤gb295));have n3_:=n2_;clear HB;have HB:=n0_;have BK295:=n1_;have GW295:=n2_;have GE295:=n3_;clear n0_ n1_ n2_ n3_;clear hb hbox hg)|((with_reducible refine gate_dst (N:=1) rfl ?_);refine Kd.R_make k56 _ 56 rfl (N:=1) rfl 24 _ _ rfl 12 rfl rfl Tryd.underlying24 (.agg #[(.int .i64 0),(.int .i64 0),(.int .i64 0),(.int .i64 0)]) 32 info56 rfl (by decide) (by omega) z56 (ok:=fun _=>True) (okp:=fun _=>True) (k56_mkM _ _ _ z56 ) (fun _ hk=>hk) trivial (by omega) (by omega) (Below.refl _ _) (Nat.le_refl _) ?_;intro v297 w3 ho4 hb hg_ hnew_;clear hg_ hnew_;(first|rw [← Ny296.out] at ho4|(simp only [Int.reduceToNat] at ho4;rw [← Ny296.out] at ho4));have n0_:=A_ (Kd.R_lower ho4 (bz_ (hb1_ HB.out GE295.out)));have n1_:=A_ (bx_ BK295.out kf_ hb);have n2_:=A_ (bp_ (hb1_ HB.out GE295.out) hb);clear BK295;clear HB;have HO298:=n0_;have BK295:=n1_;have HB:=n2_;clear n0_ n1_ n2_;clear hb ho4;obtain ⟨Ao5,co5,eo5⟩:=Kd.R_slice HO298.out;subst eo5;obtain ⟨z6_0,z6_1,z6_2,z6_3⟩:=blkc_4 BK295.out;obtain ⟨y6_0,y6_1,y6_2⟩:=blkz_3 BK295.out;have y6_3:=bf_ BK295.out 3))
 refine bodyPost_ret (results_cell_row rfl _ _ gb295 26 #[.int .i64 1,.int .i64 1,.int .i64 0,.slice Ao5 y296.length co5] (0,0) _ rfl (by refine kk_ ?_;apply blkf_4_0_3;exact kk_ BK295.out) Tryd.underlying26 rfl (by kernel_rfl)) rfl ?_
 exact ⟨_,by first|rfl|(simp [errW_none,errW_some] <;> rfl)|(simp [*,errW_none,errW_some] <;> rfl),by (with_reducible repeat (first|apply ra_|apply rn_|apply re_));exact Kd.R_mono (rf_ (p:=⟨gb295,3,none⟩) (rf_ (p:=⟨gb295,2,none⟩) (rf_ (p:=⟨gb295,1,none⟩) (rf_ (p:=⟨gb295,0,none⟩) (Kd.R_types HO298.out BK295.out (by decide)) (fun _ hk=>hk.2) (.int .i64 1)) (fun _ hk=>hk.2) (.int .i64 1)) (fun _ hk=>hk.2) (.int .i64 0)) (fun _ hk=>hk.2) (.slice Ao5 y296.length co5)) (fun _ hk=>trivial),hb1_ HB.out GE295.out⟩
attribute [local go_sem high] eqA56
mutual
def humusref11_May.j0 : Nat→Bool→Int→Int→Int→List (S56)→Option (Bool)
 | 0,_,_,_,_,_=>none
 | k + 1,x39,x300000,x300001,x300002,x300003=>if x39=true then (some false) else (humusref11_May.l0 k 0 x300000 x300001 x300002 x300003)
def humusref11_May.l0 : Nat→Int→Int→Int→Int→List (S56)→Option (Bool)
 | 0,_,_,_,_,_=>none
 | k + 1,x3,x300000,x300001,x300002,x300003=>if x3<12 then (if 0≤x3 then (if x3<(x300003.length : Int) then (if ((rd_T56 x300003 x3).f1)<0 then (humusref11_May.j2 k x3 true x300000 x300001 x300002 x300003 ((rd_T56 x300003 x3).f0) ((rd_T56 x300003 x3).f1) ((rd_T56 x300003 x3).f2) ((rd_T56 x300003 x3).f3)) else (humusref11_May.j2 k x3 (decide (((rd_T56 x300003 x3).f1) > 2)) x300000 x300001 x300002 x300003 ((rd_T56 x300003 x3).f0) ((rd_T56 x300003 x3).f1) ((rd_T56 x300003 x3).f2) ((rd_T56 x300003 x3).f3))) else (none)) else (none)) else (some true)
def humusref11_May.j2 : Nat→Int→Bool→Int→Int→Int→List (S56)→Int→Int→Int→Int→Option (Bool)
 | 0,_,_,_,_,_,_,_,_,_,_=>none
 | k + 1,x3,x56,x300000,x300001,x300002,x300003,x302000,x302001,x302002,x302003=>if x56=true then (some false) else (if x302001=0 then (if (!(x302000 == 0) || (!(x302001 == 0) || (!(x302002 == 0) || (!(x302003 == 0)))))=true then (some false) else (humusref11_May.l0 k (wrap64 (x3 + 1)) x300000 x300001 x300002 x300003)) else (if x302000<1 then (humusref11_May.j3 k x3 true x300000 x300001 x300002 x300003 x302000 x302001 x302002 x302003) else (if x302000 ≥ x300000 then (humusref11_May.j3 k x3 true x300000 x300001 x300002 x300003 x302000 x302001 x302002 x302003) else (if x302002<0 then (humusref11_May.j3 k x3 true x300000 x300001 x300002 x300003 x302000 x302001 x302002 x302003) else (if x302002 > 65535 then (humusref11_May.j3 k x3 true x300000 x300001 x300002 x300003 x302000 x302001 x302002 x302003) else (if x302001=1 then (if x302003=0 then (if x302001=2 then (if x302003<1 then (humusref11_May.j3 k x3 true x300000 x300001 x300002 x300003 x302000 x302001 x302002 x302003) else (humusref11_May.j3 k x3 (decide (x302003 > x300002)) x300000 x300001 x300002 x300003 x302000 x302001 x302002 x302003)) else (humusref11_May.j3 k x3 false x300000 x300001 x300002 x300003 x302000 x302001 x302002 x302003)) else (humusref11_May.j3 k x3 true x300000 x300001 x300002 x300003 x302000 x302001 x302002 x302003)) else (if x302001=2 then (if x302003<1 then (humusref11_May.j3 k x3 true x300000 x300001 x300002 x300003 x302000 x302001 x302002 x302003) else (humusref11_May.j3 k x3 (decide (x302003 > x300002)) x300000 x300001 x300002 x300003 x302000 x302001 x302002 x302003)) else (humusref11_May.j3 k x3 false x300000 x300001 x300002 x300003 x302000 x302001 x302002 x302003))))))))
def humusref11_May.j3 : Nat→Int→Bool→Int→Int→Int→List (S56)→Int→Int→Int→Int→Option (Bool)
 | 0,_,_,_,_,_,_,_,_,_,_=>none
 | k + 1,x3,x109,x300000,x300001,x300002,x300003,x302000,x302001,x302002,x302003=>if x109=true then (some false) else (humusref11_May.l1 k x3 0 x300000 x300001 x300002 x300003 x302000 x302001 x302002 x302003)
def humusref11_May.l1 : Nat→Int→Int→Int→Int→Int→List (S56)→Int→Int→Int→Int→Option (Bool)
 | 0,_,_,_,_,_,_,_,_,_,_=>none
 | k + 1,x3,x5,x300000,x300001,x300002,x300003,x302000,x302001,x302002,x302003=>if x5<x3 then (if 0≤x5 then (if x5<(x300003.length : Int) then (if ((rd_T56 x300003 x5).f0)=x302000 then (some false) else (if x302003 > 0 then (if ((rd_T56 x300003 x5).f3)=x302003 then (some false) else (humusref11_May.l1 k x3 (wrap64 (x5 + 1)) x300000 x300001 x300002 x300003 x302000 x302001 x302002 x302003)) else (humusref11_May.l1 k x3 (wrap64 (x5 + 1)) x300000 x300001 x300002 x300003 x302000 x302001 x302002 x302003))) else (none)) else (none)) else (humusref11_May.l0 k (wrap64 (x3 + 1)) x300000 x300001 x300002 x300003)
end
def humusref11_May.f (k : Nat) (a0_0 : Int) (a0_1 : Int) (a0_2 : Int) (l0_3 : List (S56)) : Option (Bool):=if a0_0<1 then (humusref11_May.j0 k true a0_0 a0_1 a0_2 l0_3) else (if a0_0 > 2147483647 then (humusref11_May.j0 k true a0_0 a0_1 a0_2 l0_3) else (if a0_1<1 then (humusref11_May.j0 k true a0_0 a0_1 a0_2 l0_3) else (if a0_1 > 2147483647 then (humusref11_May.j0 k true a0_0 a0_1 a0_2 l0_3) else (if a0_2<0 then (humusref11_May.j0 k true a0_0 a0_1 a0_2 l0_3) else (if a0_2 > 2147483647 then (humusref11_May.j0 k true a0_0 a0_1 a0_2 l0_3) else (humusref11_May.j0 k ((l0_3.length : Int) != 12) a0_0 a0_1 a0_2 l0_3))))))
set_option maxHeartbeats 8000000 in
set_option maxRecDepth 100000 in
theorem humusref11_May.calls (k : Nat) (a0_0 : Int) (a0_1 : Int) (a0_2 : Int) (A0_3 : Option Addr) (c0_3 : Nat) (l0_3 : List (S56)) (r : Bool) (w : World) (hr0_3 : Kd.C k56 w A0_3 l0_3.length l0_3) (hc0_3 : l0_3.length≤c0_3) (h : humusref11_May.f k a0_0 a0_1 a0_2 l0_3=some r) :
  Calls Tryd.prog 12 #[.agg #[.int .i64 a0_0,.int .i64 a0_1,.int .i64 a0_2,.slice A0_3 l0_3.length c0_3]] w fun e w'=>e=.returned (.bool r)∧Below w.heap.size w w':=by
 have hu26:=Tryd.underlying26;have hu56:=Tryd.underlying56;have HR0_3:=A_ hr0_3;have HC0_3:=A_ hc0_3;clear hr0_3 hc0_3;have HB:=A_ (Below.refl w.heap.size w)
 have H : (if a0_0<1 then (humusref11_May.j0 k true a0_0 a0_1 a0_2 l0_3) else (if a0_0 > 2147483647 then (humusref11_May.j0 k true a0_0 a0_1 a0_2 l0_3) else (if a0_1<1 then (humusref11_May.j0 k true a0_0 a0_1 a0_2 l0_3) else (if a0_1 > 2147483647 then (humusref11_May.j0 k true a0_0 a0_1 a0_2 l0_3) else (if a0_2<0 then (humusref11_May.j0 k true a0_0 a0_1 a0_2 l0_3) else (if a0_2 > 2147483647 then (humusref11_May.j0 k true a0_0 a0_1 a0_2 l0_3) else (humusref11_May.j0 k ((l0_3.length : Int) != 12) a0_0 a0_1 a0_2 l0_3)))))))=some r:=h
 clear h;have HC2:=A_ H;clear H;go_enter Tryd.func12,Tryd.ntmps12
 go_upto_region 1 with (first|((with_reducible refine gate_dst (N:=1) rfl ?_);(try (refine gate_guard (by rfl) ?_;dsimp only));refine box_event ?hg (N:=1) ?hd (cs:=#[.int .i64 a0_0,.int .i64 a0_1,.int .i64 a0_2,.slice A0_3 l0_3.length c0_3]) (t:=26) ?hr ?_;(case hd=>rfl);(case hg=>rfl);(case hr=>first|(go_simp;done)|(go_simp;rfl));intro gb299 hg w3 hbox hb;have n0_:=A_ (bp_ (hb0_ HB.out) hb);have n1_:=A_ (hbox);have n2_:=A_ ((by rw [hg];exact (bz_ (hb0_ HB.out)) : w.heap.size≤gb299));have n3_:=n2_;clear HB;have HB:=n0_;have BK299:=n1_;have GW299:=n2_;have GE299:=n3_;clear n0_ n1_ n2_ n3_;clear hb hbox hg))
 repeat (go_quiet (first|((with_reducible refine gate_dst (N:=1) rfl ?_);(try (refine gate_guard (by rfl) ?_;dsimp only));refine box_event ?hg (N:=1) ?hd (cs:=#[.int .i64 a0_0,.int .i64 a0_1,.int .i64 a0_2,.slice A0_3 l0_3.length c0_3]) (t:=26) ?hr ?_;(case hd=>rfl);(case hg=>rfl);(case hr=>first|(go_simp;done)|(go_simp;rfl));intro gb299 hg w3 hbox hb;have n0_:=A_ (bp_ (hb0_ HB.out) hb);have n1_:=A_ (hbox);have n2_:=A_ ((by rw [hg];exact (bz_ (hb0_ HB.out)) : w.heap.size≤gb299));have n3_:=n2_;clear HB;have HB:=n0_;have BK299:=n1_;have GW299:=n2_;have GE299:=n3_;clear n0_ n1_ n2_ n3_;clear hb hbox hg));go_upto_region 1 with (first|((with_reducible refine gate_dst (N:=1) rfl ?_);(try (refine gate_guard (by rfl) ?_;dsimp only));refine box_event ?hg (N:=1) ?hd (cs:=#[.int .i64 a0_0,.int .i64 a0_1,.int .i64 a0_2,.slice A0_3 l0_3.length c0_3]) (t:=26) ?hr ?_;(case hd=>rfl);(case hg=>rfl);(case hr=>first|(go_simp;done)|(go_simp;rfl));intro gb299 hg w3 hbox hb;have n0_:=A_ (bp_ (hb0_ HB.out) hb);have n1_:=A_ (hbox);have n2_:=A_ ((by rw [hg];exact (bz_ (hb0_ HB.out)) : w.heap.size≤gb299));have n3_:=n2_;clear HB;have HB:=n0_;have BK299:=n1_;have GW299:=n2_;have GE299:=n3_;clear n0_ n1_ n2_ n3_;clear hb hbox hg)))
 (try simp only [Act.put,u1_,u2_,u3_])
 go_cut [39] (fun v39 wc=>∃ (kq : Nat) (x39_1 : Bool),v39=.bool x39_1∧Aside0 (humusref11_May.j0 kq x39_1 a0_0 a0_1 a0_2 l0_3=some r)∧Aside0 (kq≤k)∧Aside0 (wc.heap[gb299]?=some (.cells #[.int .i64 a0_0,.int .i64 a0_1,.int .i64 a0_2,(.slice A0_3 l0_3.length c0_3)] 26 (0,0)))∧Aside0 (Below w.heap.size w wc))
 case first =>
  have H:=HC2.out;clear HC2
  by_cases c4 : a0_0<1
  ·rw [if_pos c4] at H
   have c4b0 : decide (a0_0<1)=true:=dt_ c4;clear c4;(first|rw [c4b0]|(simp only [i64_w,i32_w];rw [c4b0])|skip);have H':=A_ H;clear H;obtain ⟨z5_0,z5_1,z5_2,z5_3⟩:=blkc_4 BK299.out;obtain ⟨y5_0,y5_1,y5_2,y5_3⟩:=blkz_4 BK299.out;go_wp2
   repeat (go_quiet (fail);try go_wp2)
   go_meet
   case rel=>exact ⟨_,true,rfl,H',⟨by first|omega|exact Nat.le_refl _⟩,⟨by exact kk_ BK299.out⟩,⟨hb1_ HB.out GE299.out⟩⟩
  rw [if_neg c4] at H
  have c4b0 : decide (a0_0<1)=false:=df_ c4;clear c4;(first|rw [c4b0]|(simp only [i64_w,i32_w];rw [c4b0])|skip)
  by_cases c6 : a0_0 > 2147483647
  ·rw [if_pos c6] at H
   have c6b0 : decide (2147483647<a0_0)=true:=dt_ c6;clear c6;have H':=A_ H;clear H;obtain ⟨z7_0,z7_1,z7_2,z7_3⟩:=blkc_4 BK299.out;obtain ⟨y7_0,y7_1,y7_2,y7_3⟩:=blkz_4 BK299.out;go_wp2
   repeat (go_quiet (fail);try go_wp2)
   go_meet
   case rel=>exact ⟨_,true,rfl,H',⟨by first|omega|exact Nat.le_refl _⟩,⟨by exact kk_ BK299.out⟩,⟨hb1_ HB.out GE299.out⟩⟩
  rw [if_neg c6] at H
  have c6b0 : decide (2147483647<a0_0)=false:=df_ c6;clear c6
  by_cases c8 : a0_1<1
  ·rw [if_pos c8] at H
   have c8b0 : decide (a0_1<1)=true:=dt_ c8;clear c8;have H':=A_ H;clear H;obtain ⟨z9_0,z9_1,z9_2,z9_3⟩:=blkc_4 BK299.out;obtain ⟨y9_0,y9_1,y9_2,y9_3⟩:=blkz_4 BK299.out;go_wp2
   repeat (go_quiet (fail);try go_wp2)
   go_meet
   case rel=>exact ⟨_,true,rfl,H',⟨by first|omega|exact Nat.le_refl _⟩,⟨by exact kk_ BK299.out⟩,⟨hb1_ HB.out GE299.out⟩⟩
  rw [if_neg c8] at H
  have c8b0 : decide (a0_1<1)=false:=df_ c8;clear c8
  by_cases c10 : a0_1 > 2147483647
  ·rw [if_pos c10] at H
   have c10b0 : decide (2147483647<a0_1)=true:=dt_ c10;clear c10;have H':=A_ H;clear H;obtain ⟨z11_0,z11_1,z11_2,z11_3⟩:=blkc_4 BK299.out;obtain ⟨y11_0,y11_1,y11_2,y11_3⟩:=blkz_4 BK299.out;go_wp2
   repeat (go_quiet (fail);try go_wp2)
   go_meet
   case rel=>exact ⟨_,true,rfl,H',⟨by first|omega|exact Nat.le_refl _⟩,⟨by exact kk_ BK299.out⟩,⟨hb1_ HB.out GE299.out⟩⟩
  rw [if_neg c10] at H
  have c10b0 : decide (2147483647<a0_1)=false:=df_ c10;clear c10
  by_cases c12 : a0_2<0
  ·rw [if_pos c12] at H
   have c12b0 : decide (a0_2<0)=true:=dt_ c12;clear c12;have H':=A_ H;clear H;obtain ⟨z13_0,z13_1,z13_2,z13_3⟩:=blkc_4 BK299.out;obtain ⟨y13_0,y13_1,y13_2,y13_3⟩:=blkz_4 BK299.out;go_wp2
   repeat (go_quiet (fail);try go_wp2)
   go_meet
   case rel=>exact ⟨_,true,rfl,H',⟨by first|omega|exact Nat.le_refl _⟩,⟨by exact kk_ BK299.out⟩,⟨hb1_ HB.out GE299.out⟩⟩
  rw [if_neg c12] at H
  have c12b0 : decide (a0_2<0)=false:=df_ c12;clear c12
  by_cases c14 : a0_2 > 2147483647
  rotate_left
  ·rw [if_neg c14] at H
   have c14b0 : decide (2147483647<a0_2)=false:=df_ c14;clear c14;have H':=A_ H;clear H;obtain ⟨z16_0,z16_1,z16_2,z16_3⟩:=blkc_4 BK299.out;obtain ⟨y16_0,y16_1,y16_2,y16_3⟩:=blkz_4 BK299.out;go_wp2
   repeat (go_quiet (fail);try go_wp2)
   go_meet
   case rel=>exact ⟨_,(((l0_3.length : Int) != 12)),(by first|rfl|(simp;done)|(simp [*];done)),H',⟨by first|omega|exact Nat.le_refl _⟩,⟨by exact kk_ BK299.out⟩,⟨hb1_ HB.out GE299.out⟩⟩
  rw [if_pos c14] at H
  have c14b0 : decide (2147483647<a0_2)=true:=dt_ c14;clear c14;have H':=A_ H;clear H;obtain ⟨z15_0,z15_1,z15_2,z15_3⟩:=blkc_4 BK299.out;obtain ⟨y15_0,y15_1,y15_2,y15_3⟩:=blkz_4 BK299.out;go_wp2
  repeat (go_quiet (fail);try go_wp2)
  go_meet
  case rel=>exact ⟨_,true,rfl,H',⟨by first|omega|exact Nat.le_refl _⟩,⟨by exact kk_ BK299.out⟩,⟨hb1_ HB.out GE299.out⟩⟩
 case rest =>
  clear HC2;(try clear c1);(try clear p2);(try clear c4);(try clear c4b0);(try clear c6);(try clear c6b0);(try clear c8);(try clear c8b0);(try clear c10);(try clear c10b0);(try clear c12);(try clear c12b0);(try clear c14);(try clear c14b0);(try clear z11_0 z11_1 z11_2 z11_3 z13_0 z13_1 z13_2 z13_3 z15_0 z15_1 z15_2 z15_3 z16_0 z16_1 z16_2 z16_3 z5_0 z5_1 z5_2 z5_3 z7_0 z7_1 z7_2 z7_3 z9_0 z9_1 z9_2 z9_3 y11_0 y11_1 y11_2 y11_3 y13_0 y13_1 y13_2 y13_3 y15_0 y15_1 y15_2 y15_3 y16_0 y16_1 y16_2 y16_3 y5_0 y5_1 y5_2 y5_3 y7_0 y7_1 y7_2 y7_3 y9_0 y9_1 y9_2 y9_3);obtain ⟨kq,x39_1,rfl,HA,HJ1,BK299,HB⟩:=hcut
  cases kq with
  | zero=>exact absurd HA.out (by simp [humusref11_May.j0])
  | succ kj1 =>
   have H:=HA.out;clear HA
   simp only [humusref11_May.j0] at H
   by_cases c17 : x39_1=true
   ·subst c17
    have H1 : (some false)=some r:=by rw [if_pos rfl] at H;exact H
    clear H;have H:=H1;clear H1;obtain rfl:=Option.some.inj H;go_wp2
    repeat (go_quiet (fail);try go_wp2)
    go_ret
    exact ⟨by first|rfl|(simp [errW_none,errW_some] <;> rfl)|(simp [*,errW_none,errW_some] <;> rfl),hb1_ HB.out GE299.out⟩
   replace c17:=Bool.eq_false_iff.mpr c17
   subst c17
   have H1 : (humusref11_May.l0 kj1 0 a0_0 a0_1 a0_2 l0_3)=some r:=by rw [if_neg (show ¬ (false=true) by decide)] at H;exact H
   clear H;have H:=H1;clear H1;have H':=A_ H;clear H;go_wp2
   repeat (go_quiet (fail);try go_wp2)
   go_loopg [3] kj1 (fun kq v3 w'=>∃ (x3_2 : Int),v3=.int .i64 x3_2∧Aside0 (humusref11_May.l0 kq x3_2 a0_0 a0_1 a0_2 l0_3=some r)∧Aside0 (kq≤kj1)∧Aside0 (w'.heap[gb299]?=some (.cells #[.int .i64 a0_0,.int .i64 a0_1,.int .i64 a0_2,(.slice A0_3 l0_3.length c0_3)] 26 (0,0)))∧Aside0 (Below w.heap.size w w'))
   case atStart=>exact ⟨(0),(by first|rfl|(simp;done)|(simp [*];done)),H',⟨Nat.le_refl _⟩,⟨by exact kk_ BK299.out⟩,⟨hb1_ HB.out GE299.out⟩⟩
   case round =>
    clear H';(try clear c1);(try clear p2);(try clear c4);(try clear c4b0);(try clear c6);(try clear c6b0);(try clear c8);(try clear c8b0);(try clear c10);(try clear c10b0);(try clear c12);(try clear c12b0);(try clear c14);(try clear c14b0);(try clear c17);(try clear p2);(try clear z11_0 z11_1 z11_2 z11_3 z13_0 z13_1 z13_2 z13_3 z15_0 z15_1 z15_2 z15_3 z16_0 z16_1 z16_2 z16_3 z5_0 z5_1 z5_2 z5_3 z7_0 z7_1 z7_2 z7_3 z9_0 z9_1 z9_2 z9_3 y11_0 y11_1 y11_2 y11_3 y13_0 y13_1 y13_2 y13_3 y15_0 y15_1 y15_2 y15_3 y16_0 y16_1 y16_2 y16_3 y5_0 y5_1 y5_2 y5_3 y7_0 y7_1 y7_2 y7_3 y9_0 y9_1 y9_2 y9_3);obtain ⟨x3_2,rfl,HA,HK2,BK299,HB⟩:=hrel
    cases gk with
    | zero=>exact absurd HA.out (by simp [humusref11_May.l0])
    | succ k2 =>
     have H:=HA.out;clear HA
     simp only [humusref11_May.l0] at H
     by_cases c18 : x3_2<12
     rotate_left
     ·rw [if_neg c18] at H
      have c18b0 : decide (x3_2<12)=false:=df_ c18;clear c18;obtain rfl:=Option.some.inj H;go_wp2
      repeat (go_quiet (fail);try go_wp2)
      go_ret
      exact ⟨by first|rfl|(simp [errW_none,errW_some] <;> rfl)|(simp [*,errW_none,errW_some] <;> rfl),hb1_ HB.out GE299.out⟩
     rw [if_pos c18] at H
     have c18b0 : decide (x3_2<12)=true:=dt_ c18;clear c18
     by_cases c19 : 0≤x3_2
     rotate_left
     ·rw [if_neg c19] at H
      exact absurd H (by simp)
     rw [if_pos c19] at H
     have c19b0 : decide (0≤x3_2)=true:=dt_ c19;clear c19
     by_cases c20 : x3_2<(l0_3.length : Int)
     rotate_left
     ·rw [if_neg c20] at H
      exact absurd H (by simp)
     rw [if_pos c20] at H
     have c20b0 : decide (x3_2<(l0_3.length : Int))=true:=dt_ c20;clear c20;have HC21:=A_ H;clear H;obtain ⟨z22_0,z22_1,z22_2,z22_3⟩:=blkc_4 BK299.out;obtain ⟨y22_0,y22_1,y22_2,y22_3⟩:=blkz_4 BK299.out
     have p300 : 0≤(x3_2 : Int):=od_ (by first|(with_reducible assumption)|assumption)
     have q300 : x3_2<(l0_3.length : Int):=od_ (by first|(with_reducible assumption)|assumption)
     obtain ⟨ad300,e300,hx300_0,hx300_1,hx300_2,hx300_3⟩:=at_T56 HR0_3.out x3_2 p300 q300
     cases e300
     replace hx300_0:=(HB.out.cell (wb_ w _ hx300_0)).trans hx300_0;replace hx300_1:=(HB.out.cell (wb_ w _ hx300_1)).trans hx300_1;replace hx300_2:=(HB.out.cell (wb_ w _ hx300_2)).trans hx300_2;replace hx300_3:=(HB.out.cell (wb_ w _ hx300_3)).trans hx300_3;replace p300:=eq_true p300;replace q300:=eq_true q300
     go_upto_region 7 with (first|((with_reducible refine gate_dst (N:=4) rfl ?_);(try (refine gate_guard (by rfl) ?_;dsimp only));refine box_event ?hg (N:=4) ?hd (cs:=#[.int .i64 0,.int .i64 0,.int .i64 0,.int .i64 0]) (t:=56) ?hr ?_;(case hd=>rfl);(case hg=>rfl);(case hr=>first|(go_simp;done)|(go_simp;rfl));intro gb301 hg w23 hbox hb;have n0_:=A_ (bx_ BK299.out kf_ hb);have n1_:=A_ (bp_ (hb1_ HB.out GE299.out) hb);have n2_:=A_ (hbox);have n3_:=A_ ((by rw [hg];exact (bz_ (hb1_ HB.out GE299.out)) : w.heap.size≤gb301));have n4_:=n3_;have n5_:=A_ ((by rw [hg];exact Nat.ne_of_lt (bl_ BK299.out kf_) : gb299≠gb301));have n6_:=A_ (Ne.symm n5_.out);clear BK299;clear HB;have BK299:=n0_;have HB:=n1_;have BK301:=n2_;have GW301:=n3_;have GE301:=n4_;have NB299_301:=n5_;have NB301_299:=n6_;clear n0_ n1_ n2_ n3_ n4_ n5_ n6_;clear hb hbox hg;have hnb24:=NB301_299.out;have hnc24:=NB299_301.out;obtain ⟨z25_0,z25_1,z25_2,z25_3⟩:=blkc_4 BK301.out;obtain ⟨y25_0,y25_1,y25_2⟩:=blkz_3 BK301.out;have y25_3:=bf_ BK301.out 3))
     repeat (go_quiet (first|((with_reducible refine gate_dst (N:=4) rfl ?_);(try (refine gate_guard (by rfl) ?_;dsimp only));refine box_event ?hg (N:=4) ?hd (cs:=#[.int .i64 0,.int .i64 0,.int .i64 0,.int .i64 0]) (t:=56) ?hr ?_;(case hd=>rfl);(case hg=>rfl);(case hr=>first|(go_simp;done)|(go_simp;rfl));intro gb301 hg w23 hbox hb;have n0_:=A_ (bx_ BK299.out kf_ hb);have n1_:=A_ (bp_ (hb1_ HB.out GE299.out) hb);have n2_:=A_ (hbox);have n3_:=A_ ((by rw [hg];exact (bz_ (hb1_ HB.out GE299.out)) : w.heap.size≤gb301));have n4_:=n3_;have n5_:=A_ ((by rw [hg];exact Nat.ne_of_lt (bl_ BK299.out kf_) : gb299≠gb301));have n6_:=A_ (Ne.symm n5_.out);clear BK299;clear HB;have BK299:=n0_;have HB:=n1_;have BK301:=n2_;have GW301:=n3_;have GE301:=n4_;have NB299_301:=n5_;have NB301_299:=n6_;clear n0_ n1_ n2_ n3_ n4_ n5_ n6_;clear hb hbox hg;have hnb24:=NB301_299.out;have hnc24:=NB299_301.out;obtain ⟨z25_0,z25_1,z25_2,z25_3⟩:=blkc_4 BK301.out;obtain ⟨y25_0,y25_1,y25_2⟩:=blkz_3 BK301.out;have y25_3:=bf_ BK301.out 3));go_upto_region 7 with (first|((with_reducible refine gate_dst (N:=4) rfl ?_);(try (refine gate_guard (by rfl) ?_;dsimp only));refine box_event ?hg (N:=4) ?hd (cs:=#[.int .i64 0,.int .i64 0,.int .i64 0,.int .i64 0]) (t:=56) ?hr ?_;(case hd=>rfl);(case hg=>rfl);(case hr=>first|(go_simp;done)|(go_simp;rfl));intro gb301 hg w23 hbox hb;have n0_:=A_ (bx_ BK299.out kf_ hb);have n1_:=A_ (bp_ (hb1_ HB.out GE299.out) hb);have n2_:=A_ (hbox);have n3_:=A_ ((by rw [hg];exact (bz_ (hb1_ HB.out GE299.out)) : w.heap.size≤gb301));have n4_:=n3_;have n5_:=A_ ((by rw [hg];exact Nat.ne_of_lt (bl_ BK299.out kf_) : gb299≠gb301));have n6_:=A_ (Ne.symm n5_.out);clear BK299;clear HB;have BK299:=n0_;have HB:=n1_;have BK301:=n2_;have GW301:=n3_;have GE301:=n4_;have NB299_301:=n5_;have NB301_299:=n6_;clear n0_ n1_ n2_ n3_ n4_ n5_ n6_;clear hb hbox hg;have hnb24:=NB301_299.out;have hnc24:=NB299_301.out;obtain ⟨z25_0,z25_1,z25_2,z25_3⟩:=blkc_4 BK301.out;obtain ⟨y25_0,y25_1,y25_2⟩:=blkz_3 BK301.out;have y25_3:=bf_ BK301.out 3)))
     (try simp only [Act.put,u1_,u2_,u3_])
     go_cut [56] (fun v56 wc=>∃ (kq : Nat) (x56_20 : Bool),v56=.bool x56_20∧Aside0 (humusref11_May.j2 kq x3_2 x56_20 a0_0 a0_1 a0_2 l0_3 ((rd_T56 l0_3 x3_2).f0) ((rd_T56 l0_3 x3_2).f1) ((rd_T56 l0_3 x3_2).f2) ((rd_T56 l0_3 x3_2).f3)=some r)∧Aside0 (kq≤k2)∧Aside0 (wc.heap[gb299]?=some (.cells #[.int .i64 a0_0,.int .i64 a0_1,.int .i64 a0_2,(.slice (some ad300) l0_3.length c0_3)] 26 (0,0)))∧Aside0 (wc.heap[gb301]?=some (.cells #[.int .i64 ((rd_T56 l0_3 x3_2).f0),.int .i64 ((rd_T56 l0_3 x3_2).f1),.int .i64 ((rd_T56 l0_3 x3_2).f2),.int .i64 ((rd_T56 l0_3 x3_2).f3)] 56 (0,0)))∧Aside0 (Below w.heap.size w wc))
     case first =>
      have H:=HC21.out;clear HC21
      by_cases c26 : ((rd_T56 l0_3 x3_2).f1)<0
      rotate_left
      ·rw [if_neg c26] at H
       have c26b0 : decide (((rd_T56 l0_3 x3_2).f1)<0)=false:=df_ c26;clear c26;(first|rw [c26b0]|(simp only [i64_w,i32_w];rw [c26b0])|skip);have H':=A_ H;clear H;have hnb29:=NB301_299.out;have hnc29:=NB299_301.out;obtain ⟨z30_0,z30_1,z30_2,z30_3⟩:=blkc_4 BK301.out;obtain ⟨y30_0,y30_1,y30_2,y30_3⟩:=blkz_4 BK301.out;go_wp2
       repeat (go_quiet (fail);try go_wp2)
       go_meet
       case rel=>exact ⟨_,(decide (((rd_T56 l0_3 x3_2).f1) > 2)),(by first|rfl|(simp;done)|(simp [*];done)),H',⟨by have:=HJ1.out;have:=HK2.out;first|omega|exact Nat.le_refl _⟩,⟨by refine kk_ ?_;refine blk_far ?_ NB299_301.out _;refine kk_ ?_;refine blk_far ?_ NB299_301.out _;refine kk_ ?_;refine blk_far ?_ NB299_301.out _;refine kk_ ?_;refine blk_far ?_ NB299_301.out _;exact kk_ BK299.out⟩,⟨by refine kk_ ?_;apply blkf_4_0_3;exact kk_ BK301.out⟩,⟨hb2_ HB.out GE299.out GE301.out⟩⟩
      rw [if_pos c26] at H
      have c26b0 : decide (((rd_T56 l0_3 x3_2).f1)<0)=true:=dt_ c26;clear c26;(first|rw [c26b0]|(simp only [i64_w,i32_w];rw [c26b0])|skip);have H':=A_ H;clear H;have hnb27:=NB301_299.out;have hnc27:=NB299_301.out;obtain ⟨z28_0,z28_1,z28_2,z28_3⟩:=blkc_4 BK301.out;obtain ⟨y28_0,y28_1,y28_2,y28_3⟩:=blkz_4 BK301.out;go_wp2
      repeat (go_quiet (fail);try go_wp2)
      go_meet
      case rel=>exact ⟨_,true,rfl,H',⟨by have:=HJ1.out;have:=HK2.out;first|omega|exact Nat.le_refl _⟩,⟨by refine kk_ ?_;refine blk_far ?_ NB299_301.out _;refine kk_ ?_;refine blk_far ?_ NB299_301.out _;refine kk_ ?_;refine blk_far ?_ NB299_301.out _;refine kk_ ?_;refine blk_far ?_ NB299_301.out _;exact kk_ BK299.out⟩,⟨by refine kk_ ?_;apply blkf_4_0_3;exact kk_ BK301.out⟩,⟨hb2_ HB.out GE299.out GE301.out⟩⟩
     case rest =>
      clear HC21;(try clear c1);(try clear c2);(try clear p2);(try clear p3);(try clear q3);(try clear hx3);(try clear c4);(try clear c4b0);(try clear c6);(try clear c6b0);(try clear c8);(try clear c8b0);(try clear c10);(try clear c10b0);(try clear c12);(try clear c12b0);(try clear c14);(try clear c14b0);(try clear c17);(try clear c18);(try clear c18b0);(try clear c19);(try clear c19b0);(try clear c20);(try clear c20b0);(try clear c24);(try clear c26);(try clear c26b0);(try clear c27);(try clear c29);(try clear p30);(try clear q30);(try clear hx30);(try clear hx300_0);(try clear hx300_1);(try clear hx300_2);(try clear hx300_3);(try clear p2);(try clear p300);(try clear q300);(try clear z11_0 z11_1 z11_2 z11_3 z13_0 z13_1 z13_2 z13_3 z15_0 z15_1 z15_2 z15_3 z16_0 z16_1 z16_2 z16_3 z22_0 z22_1 z22_2 z22_3 z25_0 z25_1 z25_2 z25_3 z28_0 z28_1 z28_2 z28_3 z30_0 z30_1 z30_2 z30_3 z5_0 z5_1 z5_2 z5_3 z7_0 z7_1 z7_2 z7_3 z9_0 z9_1 z9_2 z9_3 y11_0 y11_1 y11_2 y11_3 y13_0 y13_1 y13_2 y13_3 y15_0 y15_1 y15_2 y15_3 y16_0 y16_1 y16_2 y16_3 y22_0 y22_1 y22_2 y22_3 y25_0 y25_1 y25_2 y25_3 y28_0 y28_1 y28_2 y28_3 y30_0 y30_1 y30_2 y30_3 y5_0 y5_1 y5_2 y5_3 y7_0 y7_1 y7_2 y7_3 y9_0 y9_1 y9_2 y9_3);obtain ⟨kq,x56_20,rfl,HA,HJ20,BK299,BK301,HB⟩:=hcut
      cases kq with
      | zero=>exact absurd HA.out (by simp [humusref11_May.j2])
      | succ kj20 =>
       have H:=HA.out;clear HA
       simp only [humusref11_May.j2] at H
       by_cases c31 : x56_20=true
       ·subst c31
        have H1 : (some false)=some r:=by rw [if_pos rfl] at H;exact H
        clear H;have H:=H1;clear H1;obtain rfl:=Option.some.inj H;go_wp2
        repeat (go_quiet (fail);try go_wp2)
        go_ret
        exact ⟨by first|rfl|(simp [errW_none,errW_some] <;> rfl)|(simp [*,errW_none,errW_some] <;> rfl),hb2_ HB.out GE299.out GE301.out⟩
       replace c31:=Bool.eq_false_iff.mpr c31
       subst c31
       have H1 : (if ((rd_T56 l0_3 x3_2).f1)=0 then (if (!(((rd_T56 l0_3 x3_2).f0) == 0) || (!(((rd_T56 l0_3 x3_2).f1) == 0) || (!(((rd_T56 l0_3 x3_2).f2) == 0) || (!(((rd_T56 l0_3 x3_2).f3) == 0)))))=true then (some false) else (humusref11_May.l0 kj20 (wrap64 (x3_2 + 1)) a0_0 a0_1 a0_2 l0_3)) else (if ((rd_T56 l0_3 x3_2).f0)<1 then (humusref11_May.j3 kj20 x3_2 true a0_0 a0_1 a0_2 l0_3 ((rd_T56 l0_3 x3_2).f0) ((rd_T56 l0_3 x3_2).f1) ((rd_T56 l0_3 x3_2).f2) ((rd_T56 l0_3 x3_2).f3)) else (if ((rd_T56 l0_3 x3_2).f0) ≥ a0_0 then (humusref11_May.j3 kj20 x3_2 true a0_0 a0_1 a0_2 l0_3 ((rd_T56 l0_3 x3_2).f0) ((rd_T56 l0_3 x3_2).f1) ((rd_T56 l0_3 x3_2).f2) ((rd_T56 l0_3 x3_2).f3)) else (if ((rd_T56 l0_3 x3_2).f2)<0 then (humusref11_May.j3 kj20 x3_2 true a0_0 a0_1 a0_2 l0_3 ((rd_T56 l0_3 x3_2).f0) ((rd_T56 l0_3 x3_2).f1) ((rd_T56 l0_3 x3_2).f2) ((rd_T56 l0_3 x3_2).f3)) else (if ((rd_T56 l0_3 x3_2).f2) > 65535 then (humusref11_May.j3 kj20 x3_2 true a0_0 a0_1 a0_2 l0_3 ((rd_T56 l0_3 x3_2).f0) ((rd_T56 l0_3 x3_2).f1) ((rd_T56 l0_3 x3_2).f2) ((rd_T56 l0_3 x3_2).f3)) else (if ((rd_T56 l0_3 x3_2).f1)=1 then (if ((rd_T56 l0_3 x3_2).f3)=0 then (if ((rd_T56 l0_3 x3_2).f1)=2 then (if ((rd_T56 l0_3 x3_2).f3)<1 then (humusref11_May.j3 kj20 x3_2 true a0_0 a0_1 a0_2 l0_3 ((rd_T56 l0_3 x3_2).f0) ((rd_T56 l0_3 x3_2).f1) ((rd_T56 l0_3 x3_2).f2) ((rd_T56 l0_3 x3_2).f3)) else (humusref11_May.j3 kj20 x3_2 (decide (((rd_T56 l0_3 x3_2).f3) > a0_2)) a0_0 a0_1 a0_2 l0_3 ((rd_T56 l0_3 x3_2).f0) ((rd_T56 l0_3 x3_2).f1) ((rd_T56 l0_3 x3_2).f2) ((rd_T56 l0_3 x3_2).f3))) else (humusref11_May.j3 kj20 x3_2 false a0_0 a0_1 a0_2 l0_3 ((rd_T56 l0_3 x3_2).f0) ((rd_T56 l0_3 x3_2).f1) ((rd_T56 l0_3 x3_2).f2) ((rd_T56 l0_3 x3_2).f3))) else (humusref11_May.j3 kj20 x3_2 true a0_0 a0_1 a0_2 l0_3 ((rd_T56 l0_3 x3_2).f0) ((rd_T56 l0_3 x3_2).f1) ((rd_T56 l0_3 x3_2).f2) ((rd_T56 l0_3 x3_2).f3))) else (if ((rd_T56 l0_3 x3_2).f1)=2 then (if ((rd_T56 l0_3 x3_2).f3)<1 then (humusref11_May.j3 kj20 x3_2 true a0_0 a0_1 a0_2 l0_3 ((rd_T56 l0_3 x3_2).f0) ((rd_T56 l0_3 x3_2).f1) ((rd_T56 l0_3 x3_2).f2) ((rd_T56 l0_3 x3_2).f3)) else (humusref11_May.j3 kj20 x3_2 (decide (((rd_T56 l0_3 x3_2).f3) > a0_2)) a0_0 a0_1 a0_2 l0_3 ((rd_T56 l0_3 x3_2).f0) ((rd_T56 l0_3 x3_2).f1) ((rd_T56 l0_3 x3_2).f2) ((rd_T56 l0_3 x3_2).f3))) else (humusref11_May.j3 kj20 x3_2 false a0_0 a0_1 a0_2 l0_3 ((rd_T56 l0_3 x3_2).f0) ((rd_T56 l0_3 x3_2).f1) ((rd_T56 l0_3 x3_2).f2) ((rd_T56 l0_3 x3_2).f3)))))))))=some r:=by rw [if_neg (show ¬ (false=true) by decide)] at H;exact H
       clear H;have H:=H1;clear H1
       by_cases c32 : ((rd_T56 l0_3 x3_2).f1)=0
       ·rw [if_pos c32] at H
        have c32b0 : (((rd_T56 l0_3 x3_2).f1) == 0)=true:=beq_iff_eq.mpr c32;have c32b1 : (((rd_T56 l0_3 x3_2).f1) != 0)=false:=bne_eq_false_iff_eq.mpr c32;clear c32
        by_cases c33 : (!(((rd_T56 l0_3 x3_2).f0) == 0) || (!(((rd_T56 l0_3 x3_2).f1) == 0) || (!(((rd_T56 l0_3 x3_2).f2) == 0) || (!(((rd_T56 l0_3 x3_2).f3) == 0)))))=true
        ·rw [if_pos c33] at H
         have c33b0 : (!(((rd_T56 l0_3 x3_2).f0) == 0) || (!(((rd_T56 l0_3 x3_2).f1) == 0) || (!(((rd_T56 l0_3 x3_2).f2) == 0) || (!(((rd_T56 l0_3 x3_2).f3) == 0)))))=true:=c33;have c33b9:=c33b0
         try simp only [c32b0,Bool.not_true,Bool.not_false,Bool.false_or,Bool.true_or] at c33b9
         clear c33;obtain rfl:=Option.some.inj H;have hnb34:=NB301_299.out;have hnc34:=NB299_301.out;obtain ⟨z35_0,z35_1,z35_2,z35_3⟩:=blkc_4 BK301.out;obtain ⟨y35_0,y35_1,y35_2,y35_3⟩:=blkz_4 BK301.out;go_wp2
         repeat (go_quiet (fail);try go_wp2)
         go_ret
         exact ⟨by first|rfl|(simp [errW_none,errW_some] <;> rfl)|(simp [*,errW_none,errW_some] <;> rfl),hb2_ HB.out GE299.out GE301.out⟩
        rw [if_neg c33] at H
        have c33b0 : (!(((rd_T56 l0_3 x3_2).f0) == 0) || (!(((rd_T56 l0_3 x3_2).f1) == 0) || (!(((rd_T56 l0_3 x3_2).f2) == 0) || (!(((rd_T56 l0_3 x3_2).f3) == 0)))))=false:=by simpa using c33
        have c33b9:=c33b0
        try simp only [c32b0,Bool.not_true,Bool.not_false,Bool.false_or,Bool.true_or] at c33b9
        clear c33;have H':=A_ H;clear H;have hnb36:=NB301_299.out;have hnc36:=NB299_301.out;obtain ⟨z37_0,z37_1,z37_2,z37_3⟩:=blkc_4 BK301.out;obtain ⟨y37_0,y37_1,y37_2,y37_3⟩:=blkz_4 BK301.out;go_wp2
        repeat (go_quiet (fail);try go_wp2)
        go_roundg kj20
        case measure=>have:=HJ1.out;have:=HK2.out;have:=HJ20.out;omega
        case rel=>exact ⟨(wrap64 (x3_2 + 1)),(by first|rfl|(simp;done)|(simp [*];done)),H',⟨by have:=HJ1.out;have:=HK2.out;have:=HJ20.out;omega⟩,⟨by exact kk_ BK299.out⟩,⟨hb2_ HB.out GE299.out GE301.out⟩⟩
       rw [if_neg c32] at H
       have c32b0 : (((rd_T56 l0_3 x3_2).f1) == 0)=false:=beq_eq_false_iff_ne.mpr c32;have c32b1 : (((rd_T56 l0_3 x3_2).f1) != 0)=true:=bne_iff_ne.mpr c32;have HC38:=A_ H;clear H;have hnb39:=NB301_299.out;have hnc39:=NB299_301.out;obtain ⟨z40_0,z40_1,z40_2,z40_3⟩:=blkc_4 BK301.out;obtain ⟨y40_0,y40_1,y40_2,y40_3⟩:=blkz_4 BK301.out
       go_upto_region 12 with (fail)
       repeat (go_quiet (fail);go_upto_region 12 with (fail))
       go_cut [109] (fun v109 wc=>∃ (kq : Nat) (x109_37 : Bool),v109=.bool x109_37∧Aside0 (humusref11_May.j3 kq x3_2 x109_37 a0_0 a0_1 a0_2 l0_3 ((rd_T56 l0_3 x3_2).f0) ((rd_T56 l0_3 x3_2).f1) ((rd_T56 l0_3 x3_2).f2) ((rd_T56 l0_3 x3_2).f3)=some r)∧Aside0 (kq≤kj20)∧Aside0 (wc.heap[gb299]?=some (.cells #[.int .i64 a0_0,.int .i64 a0_1,.int .i64 a0_2,(.slice (some ad300) l0_3.length c0_3)] 26 (0,0)))∧Aside0 (wc.heap[gb301]?=some (.cells #[.int .i64 ((rd_T56 l0_3 x3_2).f0),.int .i64 ((rd_T56 l0_3 x3_2).f1),.int .i64 ((rd_T56 l0_3 x3_2).f2),.int .i64 ((rd_T56 l0_3 x3_2).f3)] 56 (0,0)))∧Aside0 (Below w.heap.size w wc))
       case first =>
        have H:=HC38.out;clear HC38
        by_cases c41 : ((rd_T56 l0_3 x3_2).f0)<1
        ·rw [if_pos c41] at H
         have c41b0 : decide (((rd_T56 l0_3 x3_2).f0)<1)=true:=dt_ c41;clear c41;(first|rw [c41b0]|(simp only [i64_w,i32_w];rw [c41b0])|skip);have H':=A_ H;clear H;have hnb42:=NB301_299.out;have hnc42:=NB299_301.out;obtain ⟨z43_0,z43_1,z43_2,z43_3⟩:=blkc_4 BK301.out;obtain ⟨y43_0,y43_1,y43_2,y43_3⟩:=blkz_4 BK301.out;go_wp2
         repeat (go_quiet (fail);try go_wp2)
         go_meet
         case rel=>exact ⟨_,true,rfl,H',⟨by have:=HJ1.out;have:=HK2.out;have:=HJ20.out;first|omega|exact Nat.le_refl _⟩,⟨by exact kk_ BK299.out⟩,⟨by exact kk_ BK301.out⟩,⟨hb2_ HB.out GE299.out GE301.out⟩⟩
        rw [if_neg c41] at H
        have c41b0 : decide (((rd_T56 l0_3 x3_2).f0)<1)=false:=df_ c41;clear c41;(first|rw [c41b0]|(simp only [i64_w,i32_w];rw [c41b0])|skip)
        by_cases c44 : ((rd_T56 l0_3 x3_2).f0) ≥ a0_0
        ·rw [if_pos c44] at H
         have c44b0 : decide (a0_0≤((rd_T56 l0_3 x3_2).f0))=true:=dt_ c44;clear c44;have H':=A_ H;clear H;have hnb45:=NB301_299.out;have hnc45:=NB299_301.out;obtain ⟨z46_0,z46_1,z46_2,z46_3⟩:=blkc_4 BK301.out;obtain ⟨y46_0,y46_1,y46_2,y46_3⟩:=blkz_4 BK301.out;obtain ⟨z47_0,z47_1,z47_2,z47_3⟩:=blkc_4 BK299.out;obtain ⟨y47_0,y47_1,y47_2,y47_3⟩:=blkz_4 BK299.out;go_wp2
         repeat (go_quiet (fail);try go_wp2)
         go_meet
         case rel=>exact ⟨_,true,rfl,H',⟨by have:=HJ1.out;have:=HK2.out;have:=HJ20.out;first|omega|exact Nat.le_refl _⟩,⟨by exact kk_ BK299.out⟩,⟨by exact kk_ BK301.out⟩,⟨hb2_ HB.out GE299.out GE301.out⟩⟩
        rw [if_neg c44] at H
        have c44b0 : decide (a0_0≤((rd_T56 l0_3 x3_2).f0))=false:=df_ c44;clear c44
        by_cases c48 : ((rd_T56 l0_3 x3_2).f2)<0
        ·rw [if_pos c48] at H
         have c48b0 : decide (((rd_T56 l0_3 x3_2).f2)<0)=true:=dt_ c48;clear c48;have H':=A_ H;clear H;have hnb49:=NB301_299.out;have hnc49:=NB299_301.out;obtain ⟨z50_0,z50_1,z50_2,z50_3⟩:=blkc_4 BK301.out;obtain ⟨y50_0,y50_1,y50_2,y50_3⟩:=blkz_4 BK301.out;obtain ⟨z51_0,z51_1,z51_2,z51_3⟩:=blkc_4 BK299.out;obtain ⟨y51_0,y51_1,y51_2,y51_3⟩:=blkz_4 BK299.out;go_wp2
         repeat (go_quiet (fail);try go_wp2)
         go_meet
         case rel=>exact ⟨_,true,rfl,H',⟨by have:=HJ1.out;have:=HK2.out;have:=HJ20.out;first|omega|exact Nat.le_refl _⟩,⟨by exact kk_ BK299.out⟩,⟨by exact kk_ BK301.out⟩,⟨hb2_ HB.out GE299.out GE301.out⟩⟩
        rw [if_neg c48] at H
        have c48b0 : decide (((rd_T56 l0_3 x3_2).f2)<0)=false:=df_ c48;clear c48
        by_cases c52 : ((rd_T56 l0_3 x3_2).f2) > 65535
        ·rw [if_pos c52] at H
         have c52b0 : decide (65535<((rd_T56 l0_3 x3_2).f2))=true:=dt_ c52;clear c52;have H':=A_ H;clear H;have hnb53:=NB301_299.out;have hnc53:=NB299_301.out;obtain ⟨z54_0,z54_1,z54_2,z54_3⟩:=blkc_4 BK301.out;obtain ⟨y54_0,y54_1,y54_2,y54_3⟩:=blkz_4 BK301.out;obtain ⟨z55_0,z55_1,z55_2,z55_3⟩:=blkc_4 BK299.out;obtain ⟨y55_0,y55_1,y55_2,y55_3⟩:=blkz_4 BK299.out;go_wp2
         repeat (go_quiet (fail);try go_wp2)
         go_meet
         case rel=>exact ⟨_,true,rfl,H',⟨by have:=HJ1.out;have:=HK2.out;have:=HJ20.out;first|omega|exact Nat.le_refl _⟩,⟨by exact kk_ BK299.out⟩,⟨by exact kk_ BK301.out⟩,⟨hb2_ HB.out GE299.out GE301.out⟩⟩
        rw [if_neg c52] at H
        have c52b0 : decide (65535<((rd_T56 l0_3 x3_2).f2))=false:=df_ c52;clear c52
        by_cases c56 : ((rd_T56 l0_3 x3_2).f1)=1
        rotate_left
        ·rw [if_neg c56] at H
         have c56b0 : (((rd_T56 l0_3 x3_2).f1) == 1)=false:=beq_eq_false_iff_ne.mpr c56;have c56b1 : (((rd_T56 l0_3 x3_2).f1) != 1)=true:=bne_iff_ne.mpr c56
         by_cases c72 : ((rd_T56 l0_3 x3_2).f1)=2
         rotate_left
         ·rw [if_neg c72] at H
          have c72b0 : (((rd_T56 l0_3 x3_2).f1) == 2)=false:=beq_eq_false_iff_ne.mpr c72;have c72b1 : (((rd_T56 l0_3 x3_2).f1) != 2)=true:=bne_iff_ne.mpr c72;have H':=A_ H;clear H;have hnb80:=NB301_299.out;have hnc80:=NB299_301.out;obtain ⟨z81_0,z81_1,z81_2,z81_3⟩:=blkc_4 BK301.out;obtain ⟨y81_0,y81_1,y81_2,y81_3⟩:=blkz_4 BK301.out;obtain ⟨z82_0,z82_1,z82_2,z82_3⟩:=blkc_4 BK299.out;obtain ⟨y82_0,y82_1,y82_2,y82_3⟩:=blkz_4 BK299.out;go_wp2
          repeat (go_quiet (fail);try go_wp2)
          go_meet
          case rel=>exact ⟨_,false,rfl,H',⟨by have:=HJ1.out;have:=HK2.out;have:=HJ20.out;first|omega|exact Nat.le_refl _⟩,⟨by exact kk_ BK299.out⟩,⟨by exact kk_ BK301.out⟩,⟨hb2_ HB.out GE299.out GE301.out⟩⟩
         rw [if_pos c72] at H
         have c72b0 : (((rd_T56 l0_3 x3_2).f1) == 2)=true:=beq_iff_eq.mpr c72;have c72b1 : (((rd_T56 l0_3 x3_2).f1) != 2)=false:=bne_eq_false_iff_eq.mpr c72;clear c72
         by_cases c73 : ((rd_T56 l0_3 x3_2).f3)<1
         rotate_left
         ·rw [if_neg c73] at H
          have c73b0 : decide (((rd_T56 l0_3 x3_2).f3)<1)=false:=df_ c73;clear c73;have H':=A_ H;clear H;have hnb77:=NB301_299.out;have hnc77:=NB299_301.out;obtain ⟨z78_0,z78_1,z78_2,z78_3⟩:=blkc_4 BK301.out;obtain ⟨y78_0,y78_1,y78_2,y78_3⟩:=blkz_4 BK301.out;obtain ⟨z79_0,z79_1,z79_2,z79_3⟩:=blkc_4 BK299.out;obtain ⟨y79_0,y79_1,y79_2,y79_3⟩:=blkz_4 BK299.out;go_wp2
          repeat (go_quiet (fail);try go_wp2)
          go_meet
          case rel=>exact ⟨_,(decide (((rd_T56 l0_3 x3_2).f3) > a0_2)),(by first|rfl|(simp;done)|(simp [*];done)),H',⟨by have:=HJ1.out;have:=HK2.out;have:=HJ20.out;first|omega|exact Nat.le_refl _⟩,⟨by exact kk_ BK299.out⟩,⟨by exact kk_ BK301.out⟩,⟨hb2_ HB.out GE299.out GE301.out⟩⟩
         rw [if_pos c73] at H
         have c73b0 : decide (((rd_T56 l0_3 x3_2).f3)<1)=true:=dt_ c73;clear c73;have H':=A_ H;clear H;have hnb74:=NB301_299.out;have hnc74:=NB299_301.out;obtain ⟨z75_0,z75_1,z75_2,z75_3⟩:=blkc_4 BK301.out;obtain ⟨y75_0,y75_1,y75_2,y75_3⟩:=blkz_4 BK301.out;obtain ⟨z76_0,z76_1,z76_2,z76_3⟩:=blkc_4 BK299.out;obtain ⟨y76_0,y76_1,y76_2,y76_3⟩:=blkz_4 BK299.out;go_wp2
         repeat (go_quiet (fail);try go_wp2)
         go_meet
         case rel=>exact ⟨_,true,rfl,H',⟨by have:=HJ1.out;have:=HK2.out;have:=HJ20.out;first|omega|exact Nat.le_refl _⟩,⟨by exact kk_ BK299.out⟩,⟨by exact kk_ BK301.out⟩,⟨hb2_ HB.out GE299.out GE301.out⟩⟩
        rw [if_pos c56] at H
        have c56b0 : (((rd_T56 l0_3 x3_2).f1) == 1)=true:=beq_iff_eq.mpr c56;have c56b1 : (((rd_T56 l0_3 x3_2).f1) != 1)=false:=bne_eq_false_iff_eq.mpr c56;clear c56
        by_cases c57 : ((rd_T56 l0_3 x3_2).f3)=0
        rotate_left
        ·rw [if_neg c57] at H
         have c57b0 : (((rd_T56 l0_3 x3_2).f3) == 0)=false:=beq_eq_false_iff_ne.mpr c57;have c57b1 : (((rd_T56 l0_3 x3_2).f3) != 0)=true:=bne_iff_ne.mpr c57;have H':=A_ H;clear H;have hnb69:=NB301_299.out;have hnc69:=NB299_301.out;obtain ⟨z70_0,z70_1,z70_2,z70_3⟩:=blkc_4 BK301.out;obtain ⟨y70_0,y70_1,y70_2,y70_3⟩:=blkz_4 BK301.out;obtain ⟨z71_0,z71_1,z71_2,z71_3⟩:=blkc_4 BK299.out;obtain ⟨y71_0,y71_1,y71_2,y71_3⟩:=blkz_4 BK299.out;go_wp2
         repeat (go_quiet (fail);try go_wp2)
         go_meet
         case rel=>exact ⟨_,true,rfl,H',⟨by have:=HJ1.out;have:=HK2.out;have:=HJ20.out;first|omega|exact Nat.le_refl _⟩,⟨by exact kk_ BK299.out⟩,⟨by exact kk_ BK301.out⟩,⟨hb2_ HB.out GE299.out GE301.out⟩⟩
        rw [if_pos c57] at H
        have c57b0 : (((rd_T56 l0_3 x3_2).f3) == 0)=true:=beq_iff_eq.mpr c57;have c57b1 : (((rd_T56 l0_3 x3_2).f3) != 0)=false:=bne_eq_false_iff_eq.mpr c57;clear c57
        by_cases c58 : ((rd_T56 l0_3 x3_2).f1)=2
        rotate_left
        ·rw [if_neg c58] at H
         have c58b0 : (((rd_T56 l0_3 x3_2).f1) == 2)=false:=beq_eq_false_iff_ne.mpr c58;have c58b1 : (((rd_T56 l0_3 x3_2).f1) != 2)=true:=bne_iff_ne.mpr c58;have H':=A_ H;clear H;have hnb66:=NB301_299.out;have hnc66:=NB299_301.out;obtain ⟨z67_0,z67_1,z67_2,z67_3⟩:=blkc_4 BK301.out;obtain ⟨y67_0,y67_1,y67_2,y67_3⟩:=blkz_4 BK301.out;obtain ⟨z68_0,z68_1,z68_2,z68_3⟩:=blkc_4 BK299.out;obtain ⟨y68_0,y68_1,y68_2,y68_3⟩:=blkz_4 BK299.out;go_wp2
         repeat (go_quiet (fail);try go_wp2)
         go_meet
         case rel=>exact ⟨_,false,rfl,H',⟨by have:=HJ1.out;have:=HK2.out;have:=HJ20.out;first|omega|exact Nat.le_refl _⟩,⟨by exact kk_ BK299.out⟩,⟨by exact kk_ BK301.out⟩,⟨hb2_ HB.out GE299.out GE301.out⟩⟩
        rw [if_pos c58] at H
        have c58b0 : (((rd_T56 l0_3 x3_2).f1) == 2)=true:=beq_iff_eq.mpr c58;have c58b1 : (((rd_T56 l0_3 x3_2).f1) != 2)=false:=bne_eq_false_iff_eq.mpr c58;clear c58
        by_cases c59 : ((rd_T56 l0_3 x3_2).f3)<1
        rotate_left
        ·rw [if_neg c59] at H
         have c59b0 : decide (((rd_T56 l0_3 x3_2).f3)<1)=false:=df_ c59;clear c59;have H':=A_ H;clear H;have hnb63:=NB301_299.out;have hnc63:=NB299_301.out;obtain ⟨z64_0,z64_1,z64_2,z64_3⟩:=blkc_4 BK301.out;obtain ⟨y64_0,y64_1,y64_2,y64_3⟩:=blkz_4 BK301.out;obtain ⟨z65_0,z65_1,z65_2,z65_3⟩:=blkc_4 BK299.out;obtain ⟨y65_0,y65_1,y65_2,y65_3⟩:=blkz_4 BK299.out;go_wp2
         repeat (go_quiet (fail);try go_wp2)
         go_meet
         case rel=>exact ⟨_,(decide (((rd_T56 l0_3 x3_2).f3) > a0_2)),(by first|rfl|(simp;done)|(simp [*];done)),H',⟨by have:=HJ1.out;have:=HK2.out;have:=HJ20.out;first|omega|exact Nat.le_refl _⟩,⟨by exact kk_ BK299.out⟩,⟨by exact kk_ BK301.out⟩,⟨hb2_ HB.out GE299.out GE301.out⟩⟩
        rw [if_pos c59] at H
        have c59b0 : decide (((rd_T56 l0_3 x3_2).f3)<1)=true:=dt_ c59;clear c59;have H':=A_ H;clear H;have hnb60:=NB301_299.out;have hnc60:=NB299_301.out;obtain ⟨z61_0,z61_1,z61_2,z61_3⟩:=blkc_4 BK301.out;obtain ⟨y61_0,y61_1,y61_2,y61_3⟩:=blkz_4 BK301.out;obtain ⟨z62_0,z62_1,z62_2,z62_3⟩:=blkc_4 BK299.out;obtain ⟨y62_0,y62_1,y62_2,y62_3⟩:=blkz_4 BK299.out;go_wp2
        repeat (go_quiet (fail);try go_wp2)
        go_meet
        case rel=>exact ⟨_,true,rfl,H',⟨by have:=HJ1.out;have:=HK2.out;have:=HJ20.out;first|omega|exact Nat.le_refl _⟩,⟨by exact kk_ BK299.out⟩,⟨by exact kk_ BK301.out⟩,⟨hb2_ HB.out GE299.out GE301.out⟩⟩
       case rest =>
        clear HC38;(try clear c1);(try clear c2);(try clear p2);(try clear c3);(try clear p3);(try clear q3);(try clear hx3);(try clear c4);(try clear c4b0);(try clear c5);(try clear c6);(try clear c6b0);(try clear p6);(try clear c7);(try clear c8);(try clear c8b0);(try clear c10);(try clear c10b0);(try clear c12);(try clear c12b0);(try clear c14);(try clear c14b0);(try clear c17);(try clear c18);(try clear c18b0);(try clear c19);(try clear c19b0);(try clear c20);(try clear c20b0);(try clear c24);(try clear c26);(try clear c26b0);(try clear c27);(try clear c29);(try clear p30);(try clear q30);(try clear hx30);(try clear c31);(try clear c32);(try clear c32b0);(try clear c32b1);(try clear c33);(try clear c33b0);(try clear c34);(try clear c36);(try clear c39);(try clear c41);(try clear c41b0);(try clear c42);(try clear c44);(try clear c44b0);(try clear c45);(try clear c48);(try clear c48b0);(try clear c49);(try clear c52);(try clear c52b0);(try clear c53);(try clear c56);(try clear c56b0);(try clear c56b1);(try clear c57);(try clear c57b0);(try clear c57b1);(try clear c58);(try clear c58b0);(try clear c58b1);(try clear c59);(try clear c59b0);(try clear c60);(try clear c63);(try clear p64);(try clear c66);(try clear c69);(try clear c72);(try clear c72b0);(try clear c72b1);(try clear c73);(try clear c73b0);(try clear c74);(try clear c77);(try clear c80);(try clear hx300_0);(try clear hx300_1);(try clear hx300_2);(try clear hx300_3);(try clear p2);(try clear p3);(try clear p30);(try clear p300);(try clear q3);(try clear q30);(try clear q300);(try clear z11_0 z11_1 z11_2 z11_3 z13_0 z13_1 z13_2 z13_3 z15_0 z15_1 z15_2 z15_3 z16_0 z16_1 z16_2 z16_3 z22_0 z22_1 z22_2 z22_3 z25_0 z25_1 z25_2 z25_3 z28_0 z28_1 z28_2 z28_3 z30_0 z30_1 z30_2 z30_3 z35_0 z35_1 z35_2 z35_3 z37_0 z37_1 z37_2 z37_3 z40_0 z40_1 z40_2 z40_3 z43_0 z43_1 z43_2 z43_3 z46_0 z46_1 z46_2 z46_3 z47_0 z47_1 z47_2 z47_3 z50_0 z50_1 z50_2 z50_3 z51_0 z51_1 z51_2 z51_3 z54_0 z54_1 z54_2 z54_3 z55_0 z55_1 z55_2 z55_3 z5_0 z5_1 z5_2 z5_3 z61_0 z61_1 z61_2 z61_3 z62_0 z62_1 z62_2 z62_3 z64_0 z64_1 z64_2 z64_3 z65_0 z65_1 z65_2 z65_3 z67_0 z67_1 z67_2 z67_3 z68_0 z68_1 z68_2 z68_3 z70_0 z70_1 z70_2 z70_3 z71_0 z71_1 z71_2 z71_3 z75_0 z75_1 z75_2 z75_3 z76_0 z76_1 z76_2 z76_3 z78_0 z78_1 z78_2 z78_3 z79_0 z79_1 z79_2 z79_3 z7_0 z7_1 z7_2 z7_3 z81_0 z81_1 z81_2 z81_3 z82_0 z82_1 z82_2 z82_3 z9_0 z9_1 z9_2 z9_3 y11_0 y11_1 y11_2 y11_3 y13_0 y13_1 y13_2 y13_3 y15_0 y15_1 y15_2 y15_3 y16_0 y16_1 y16_2 y16_3 y22_0 y22_1 y22_2 y22_3 y25_0 y25_1 y25_2 y25_3 y28_0 y28_1 y28_2 y28_3 y30_0 y30_1 y30_2 y30_3 y35_0 y35_1 y35_2 y35_3 y37_0 y37_1 y37_2 y37_3 y40_0 y40_1 y40_2 y40_3 y43_0 y43_1 y43_2 y43_3 y46_0 y46_1 y46_2 y46_3 y47_0 y47_1 y47_2 y47_3 y50_0 y50_1 y50_2 y50_3 y51_0 y51_1 y51_2 y51_3 y54_0 y54_1 y54_2 y54_3 y55_0 y55_1 y55_2 y55_3 y5_0 y5_1 y5_2 y5_3 y61_0 y61_1 y61_2 y61_3 y62_0 y62_1 y62_2 y62_3 y64_0 y64_1 y64_2 y64_3 y65_0 y65_1 y65_2 y65_3 y67_0 y67_1 y67_2 y67_3 y68_0 y68_1 y68_2 y68_3 y70_0 y70_1 y70_2 y70_3 y71_0 y71_1 y71_2 y71_3 y75_0 y75_1 y75_2 y75_3 y76_0 y76_1 y76_2 y76_3 y78_0 y78_1 y78_2 y78_3 y79_0 y79_1 y79_2 y79_3 y7_0 y7_1 y7_2 y7_3 y81_0 y81_1 y81_2 y81_3 y82_0 y82_1 y82_2 y82_3 y9_0 y9_1 y9_2 y9_3)
        obtain ⟨kq,x109_37,rfl,HA,HJ37,BK299,BK301,HB⟩:=hcut
        cases kq with
        | zero=>exact absurd HA.out (by simp [humusref11_May.j3])
        | succ kj37 =>
         have H:=HA.out;clear HA
         simp only [humusref11_May.j3] at H
         by_cases c83 : x109_37=true
         ·subst c83
          have H1 : (some false)=some r:=by rw [if_pos rfl] at H;exact H
          clear H;have H:=H1;clear H1;obtain rfl:=Option.some.inj H;go_wp2
          repeat (go_quiet (fail);try go_wp2)
          go_ret
          exact ⟨by first|rfl|(simp [errW_none,errW_some] <;> rfl)|(simp [*,errW_none,errW_some] <;> rfl),hb2_ HB.out GE299.out GE301.out⟩
         replace c83:=Bool.eq_false_iff.mpr c83
         subst c83
         have H1 : (humusref11_May.l1 kj37 x3_2 0 a0_0 a0_1 a0_2 l0_3 ((rd_T56 l0_3 x3_2).f0) ((rd_T56 l0_3 x3_2).f1) ((rd_T56 l0_3 x3_2).f2) ((rd_T56 l0_3 x3_2).f3))=some r:=by rw [if_neg (show ¬ (false=true) by decide)] at H;exact H
         clear H;have H:=H1;clear H1;have H':=A_ H;clear H;go_wp2
         repeat (go_quiet (fail);try go_wp2)
         go_loopg [5] kj37 (fun kq v5 w'=>∃ (x5_5 : Int),v5=.int .i64 x5_5∧Aside0 (humusref11_May.l1 kq x3_2 x5_5 a0_0 a0_1 a0_2 l0_3 ((rd_T56 l0_3 x3_2).f0) ((rd_T56 l0_3 x3_2).f1) ((rd_T56 l0_3 x3_2).f2) ((rd_T56 l0_3 x3_2).f3)=some r)∧Aside0 (kq≤kj37)∧Aside0 (w'.heap[gb299]?=some (.cells #[.int .i64 a0_0,.int .i64 a0_1,.int .i64 a0_2,(.slice (some ad300) l0_3.length c0_3)] 26 (0,0)))∧Aside0 (w'.heap[gb301]?=some (.cells #[.int .i64 ((rd_T56 l0_3 x3_2).f0),.int .i64 ((rd_T56 l0_3 x3_2).f1),.int .i64 ((rd_T56 l0_3 x3_2).f2),.int .i64 ((rd_T56 l0_3 x3_2).f3)] 56 (0,0)))∧Aside0 (Below w.heap.size w w'))
         case atStart=>exact ⟨(0),(by first|rfl|(simp;done)|(simp [*];done)),H',⟨Nat.le_refl _⟩,⟨by exact kk_ BK299.out⟩,⟨by exact kk_ BK301.out⟩,⟨hb2_ HB.out GE299.out GE301.out⟩⟩
         case round =>
          clear H';(try clear c1);(try clear c2);(try clear p2);(try clear c3);(try clear p3);(try clear q3);(try clear hx3);(try clear c4);(try clear c4b0);(try clear c5);(try clear c6);(try clear c6b0);(try clear p6);(try clear c7);(try clear c8);(try clear c8b0);(try clear c10);(try clear c10b0);(try clear c12);(try clear c12b0);(try clear c14);(try clear c14b0);(try clear c17);(try clear c18);(try clear c18b0);(try clear c19);(try clear c19b0);(try clear c20);(try clear c20b0);(try clear c24);(try clear c26);(try clear c26b0);(try clear c27);(try clear c29);(try clear p30);(try clear q30);(try clear hx30);(try clear c31);(try clear c32);(try clear c32b0);(try clear c32b1);(try clear c33);(try clear c33b0);(try clear c34);(try clear c36);(try clear c39);(try clear c41);(try clear c41b0);(try clear c42);(try clear c44);(try clear c44b0);(try clear c45);(try clear c48);(try clear c48b0);(try clear c49);(try clear c52);(try clear c52b0);(try clear c53);(try clear c56);(try clear c56b0);(try clear c56b1);(try clear c57);(try clear c57b0);(try clear c57b1);(try clear c58);(try clear c58b0);(try clear c58b1);(try clear c59);(try clear c59b0);(try clear c60);(try clear c63);(try clear p64);(try clear c66);(try clear c69);(try clear c72);(try clear c72b0);(try clear c72b1);(try clear c73);(try clear c73b0);(try clear c74);(try clear c77);(try clear c80);(try clear c83);(try clear hx300_0);(try clear hx300_1);(try clear hx300_2);(try clear hx300_3);(try clear p2);(try clear p3);(try clear p30);(try clear p300);(try clear p6);(try clear p64);(try clear q3);(try clear q30);(try clear q300);(try clear z11_0 z11_1 z11_2 z11_3 z13_0 z13_1 z13_2 z13_3 z15_0 z15_1 z15_2 z15_3 z16_0 z16_1 z16_2 z16_3 z22_0 z22_1 z22_2 z22_3 z25_0 z25_1 z25_2 z25_3 z28_0 z28_1 z28_2 z28_3 z30_0 z30_1 z30_2 z30_3 z35_0 z35_1 z35_2 z35_3 z37_0 z37_1 z37_2 z37_3 z40_0 z40_1 z40_2 z40_3 z43_0 z43_1 z43_2 z43_3 z46_0 z46_1 z46_2 z46_3 z47_0 z47_1 z47_2 z47_3 z50_0 z50_1 z50_2 z50_3 z51_0 z51_1 z51_2 z51_3 z54_0 z54_1 z54_2 z54_3 z55_0 z55_1 z55_2 z55_3 z5_0 z5_1 z5_2 z5_3 z61_0 z61_1 z61_2 z61_3 z62_0 z62_1 z62_2 z62_3 z64_0 z64_1 z64_2 z64_3 z65_0 z65_1 z65_2 z65_3 z67_0 z67_1 z67_2 z67_3 z68_0 z68_1 z68_2 z68_3 z70_0 z70_1 z70_2 z70_3 z71_0 z71_1 z71_2 z71_3 z75_0 z75_1 z75_2 z75_3 z76_0 z76_1 z76_2 z76_3 z78_0 z78_1 z78_2 z78_3 z79_0 z79_1 z79_2 z79_3 z7_0 z7_1 z7_2 z7_3 z81_0 z81_1 z81_2 z81_3 z82_0 z82_1 z82_2 z82_3 z9_0 z9_1 z9_2 z9_3 y11_0 y11_1 y11_2 y11_3 y13_0 y13_1 y13_2 y13_3 y15_0 y15_1 y15_2 y15_3 y16_0 y16_1 y16_2 y16_3 y22_0 y22_1 y22_2 y22_3 y25_0 y25_1 y25_2 y25_3 y28_0 y28_1 y28_2 y28_3 y30_0 y30_1 y30_2 y30_3 y35_0 y35_1 y35_2 y35_3 y37_0 y37_1 y37_2 y37_3 y40_0 y40_1 y40_2 y40_3 y43_0 y43_1 y43_2 y43_3 y46_0 y46_1 y46_2 y46_3 y47_0 y47_1 y47_2 y47_3 y50_0 y50_1 y50_2 y50_3 y51_0 y51_1 y51_2 y51_3 y54_0 y54_1 y54_2 y54_3 y55_0 y55_1 y55_2 y55_3 y5_0 y5_1 y5_2 y5_3 y61_0 y61_1 y61_2 y61_3 y62_0 y62_1 y62_2 y62_3 y64_0 y64_1 y64_2 y64_3 y65_0 y65_1 y65_2 y65_3 y67_0 y67_1 y67_2 y67_3 y68_0 y68_1 y68_2 y68_3 y70_0 y70_1 y70_2 y70_3 y71_0 y71_1 y71_2 y71_3 y75_0 y75_1 y75_2 y75_3 y76_0 y76_1 y76_2 y76_3 y78_0 y78_1 y78_2 y78_3 y79_0 y79_1 y79_2 y79_3 y7_0 y7_1 y7_2 y7_3 y81_0 y81_1 y81_2 y81_3 y82_0 y82_1 y82_2 y82_3 y9_0 y9_1 y9_2 y9_3)
          obtain ⟨x5_5,rfl,HA,HK5,BK299,BK301,HB⟩:=hrel
          cases gk with
          | zero=>exact absurd HA.out (by simp [humusref11_May.l1])
          | succ k5 =>
           have H:=HA.out;clear HA
           simp only [humusref11_May.l1] at H
           by_cases c84 : x5_5<x3_2
           rotate_left
           ·rw [if_neg c84] at H
            have c84b0 : decide (x5_5<x3_2)=false:=df_ c84;clear c84;have H':=A_ H;clear H;go_wp2
            repeat (go_quiet (fail);try go_wp2)
            go_roundg k5
            case measure=>have:=HJ1.out;have:=HK2.out;have:=HJ20.out;have:=HJ37.out;have:=HK5.out;omega
            case rel=>exact ⟨(wrap64 (x3_2 + 1)),(by first|rfl|(simp;done)|(simp [*];done)),H',⟨by have:=HJ1.out;have:=HK2.out;have:=HJ20.out;have:=HJ37.out;have:=HK5.out;omega⟩,⟨by exact kk_ BK299.out⟩,⟨hb2_ HB.out GE299.out GE301.out⟩⟩
           rw [if_pos c84] at H
           have c84b0 : decide (x5_5<x3_2)=true:=dt_ c84;clear c84
           by_cases c85 : 0≤x5_5
           rotate_left
           ·rw [if_neg c85] at H
            exact absurd H (by simp)
           rw [if_pos c85] at H
           have c85b0 : decide (0≤x5_5)=true:=dt_ c85;clear c85
           by_cases c86 : x5_5<(l0_3.length : Int)
           rotate_left
           ·rw [if_neg c86] at H
            exact absurd H (by simp)
           rw [if_pos c86] at H
           have c86b0 : decide (x5_5<(l0_3.length : Int))=true:=dt_ c86;clear c86
           by_cases c87 : ((rd_T56 l0_3 x5_5).f0)=((rd_T56 l0_3 x3_2).f0)
           ·rw [if_pos c87] at H
            have c87b0 : (((rd_T56 l0_3 x5_5).f0) == ((rd_T56 l0_3 x3_2).f0))=true:=beq_iff_eq.mpr c87;have c87b1 : (((rd_T56 l0_3 x5_5).f0) != ((rd_T56 l0_3 x3_2).f0))=false:=bne_eq_false_iff_eq.mpr c87;clear c87;obtain rfl:=Option.some.inj H;have hnb88:=NB299_301.out;have hnc88:=NB301_299.out;obtain ⟨z89_0,z89_1,z89_2,z89_3⟩:=blkc_4 BK299.out;obtain ⟨y89_0,y89_1,y89_2,y89_3⟩:=blkz_4 BK299.out
            have p302 : 0≤(x5_5 : Int):=od_ (by first|(with_reducible assumption)|assumption)
            have q302 : x5_5<(l0_3.length : Int):=od_ (by first|(with_reducible assumption)|assumption)
            obtain ⟨ad302,e302,hx302_0,hx302_1,hx302_2,hx302_3⟩:=at_T56 HR0_3.out x5_5 p302 q302
            obtain rfl : ad300=ad302:=(by injection e302)
            replace hx302_0:=(HB.out.cell (wb_ w _ hx302_0)).trans hx302_0;replace hx302_1:=(HB.out.cell (wb_ w _ hx302_1)).trans hx302_1;replace hx302_2:=(HB.out.cell (wb_ w _ hx302_2)).trans hx302_2;replace hx302_3:=(HB.out.cell (wb_ w _ hx302_3)).trans hx302_3;replace p302:=eq_true p302;replace q302:=eq_true q302;obtain ⟨z90_0,z90_1,z90_2,z90_3⟩:=blkc_4 BK301.out;obtain ⟨y90_0,y90_1,y90_2,y90_3⟩:=blkz_4 BK301.out;go_wp2
            repeat (go_quiet (fail);try go_wp2)
            go_ret
            exact ⟨by first|rfl|(simp [errW_none,errW_some] <;> rfl)|(simp [*,errW_none,errW_some] <;> rfl),hb2_ HB.out GE299.out GE301.out⟩
           rw [if_neg c87] at H
           have c87b0 : (((rd_T56 l0_3 x5_5).f0) == ((rd_T56 l0_3 x3_2).f0))=false:=beq_eq_false_iff_ne.mpr c87;have c87b1 : (((rd_T56 l0_3 x5_5).f0) != ((rd_T56 l0_3 x3_2).f0))=true:=bne_iff_ne.mpr c87
           by_cases c91 : ((rd_T56 l0_3 x3_2).f3) > 0
           rotate_left
           ·rw [if_neg c91] at H
            have c91b0 : decide (0<((rd_T56 l0_3 x3_2).f3))=false:=df_ c91;clear c91;have H':=A_ H;clear H;have hnb99:=NB299_301.out;have hnc99:=NB301_299.out;obtain ⟨z100_0,z100_1,z100_2,z100_3⟩:=blkc_4 BK299.out;obtain ⟨y100_0,y100_1,y100_2,y100_3⟩:=blkz_4 BK299.out
            have p302 : 0≤(x5_5 : Int):=od_ (by first|(with_reducible assumption)|assumption)
            have q302 : x5_5<(l0_3.length : Int):=od_ (by first|(with_reducible assumption)|assumption)
            obtain ⟨ad302,e302,hx302_0,hx302_1,hx302_2,hx302_3⟩:=at_T56 HR0_3.out x5_5 p302 q302
            obtain rfl : ad300=ad302:=(by injection e302)
            replace hx302_0:=(HB.out.cell (wb_ w _ hx302_0)).trans hx302_0;replace hx302_1:=(HB.out.cell (wb_ w _ hx302_1)).trans hx302_1;replace hx302_2:=(HB.out.cell (wb_ w _ hx302_2)).trans hx302_2;replace hx302_3:=(HB.out.cell (wb_ w _ hx302_3)).trans hx302_3;replace p302:=eq_true p302;replace q302:=eq_true q302;obtain ⟨z101_0,z101_1,z101_2,z101_3⟩:=blkc_4 BK301.out;obtain ⟨y101_0,y101_1,y101_2,y101_3⟩:=blkz_4 BK301.out;go_wp2
            repeat (go_quiet (fail);try go_wp2)
            go_roundg k5
            case measure=>have:=HJ1.out;have:=HK2.out;have:=HJ20.out;have:=HJ37.out;have:=HK5.out;omega
            case rel=>exact ⟨(wrap64 (x5_5 + 1)),(by first|rfl|(simp;done)|(simp [*];done)),H',⟨by have:=HJ1.out;have:=HK2.out;have:=HJ20.out;have:=HJ37.out;have:=HK5.out;omega⟩,⟨by exact kk_ BK299.out⟩,⟨by exact kk_ BK301.out⟩,⟨hb2_ HB.out GE299.out GE301.out⟩⟩
           rw [if_pos c91] at H
           have c91b0 : decide (0<((rd_T56 l0_3 x3_2).f3))=true:=dt_ c91;clear c91
           by_cases c92 : ((rd_T56 l0_3 x5_5).f3)=((rd_T56 l0_3 x3_2).f3)
           ·rw [if_pos c92] at H
            have c92b0 : (((rd_T56 l0_3 x5_5).f3) == ((rd_T56 l0_3 x3_2).f3))=true:=beq_iff_eq.mpr c92;have c92b1 : (((rd_T56 l0_3 x5_5).f3) != ((rd_T56 l0_3 x3_2).f3))=false:=bne_eq_false_iff_eq.mpr c92;clear c92;obtain rfl:=Option.some.inj H;have hnb93:=NB299_301.out;have hnc93:=NB301_299.out;obtain ⟨z94_0,z94_1,z94_2,z94_3⟩:=blkc_4 BK299.out;obtain ⟨y94_0,y94_1,y94_2,y94_3⟩:=blkz_4 BK299.out
            have p302 : 0≤(x5_5 : Int):=od_ (by first|(with_reducible assumption)|assumption)
            have q302 : x5_5<(l0_3.length : Int):=od_ (by first|(with_reducible assumption)|assumption)
            obtain ⟨ad302,e302,hx302_0,hx302_1,hx302_2,hx302_3⟩:=at_T56 HR0_3.out x5_5 p302 q302
            obtain rfl : ad300=ad302:=(by injection e302)
            replace hx302_0:=(HB.out.cell (wb_ w _ hx302_0)).trans hx302_0;replace hx302_1:=(HB.out.cell (wb_ w _ hx302_1)).trans hx302_1;replace hx302_2:=(HB.out.cell (wb_ w _ hx302_2)).trans hx302_2;replace hx302_3:=(HB.out.cell (wb_ w _ hx302_3)).trans hx302_3;replace p302:=eq_true p302;replace q302:=eq_true q302;obtain ⟨z95_0,z95_1,z95_2,z95_3⟩:=blkc_4 BK301.out;obtain ⟨y95_0,y95_1,y95_2,y95_3⟩:=blkz_4 BK301.out
            have p303 : 0≤(x5_5 : Int):=od_ (by first|(with_reducible assumption)|assumption)
            have q303 : x5_5<(l0_3.length : Int):=od_ (by first|(with_reducible assumption)|assumption)
            obtain ⟨ad303,e303,hx303_0,hx303_1,hx303_2,hx303_3⟩:=at_T56 HR0_3.out x5_5 p303 q303
            obtain rfl : ad300=ad303:=(by injection e303)
            replace hx303_0:=(HB.out.cell (wb_ w _ hx303_0)).trans hx303_0;replace hx303_1:=(HB.out.cell (wb_ w _ hx303_1)).trans hx303_1;replace hx303_2:=(HB.out.cell (wb_ w _ hx303_2)).trans hx303_2;replace hx303_3:=(HB.out.cell (wb_ w _ hx303_3)).trans hx303_3;replace p303:=eq_true p303;replace q303:=eq_true q303;go_wp2
            repeat (go_quiet (fail);try go_wp2)
            go_ret
            exact ⟨by first|rfl|(simp [errW_none,errW_some] <;> rfl)|(simp [*,errW_none,errW_some] <;> rfl),hb2_ HB.out GE299.out GE301.out⟩
           rw [if_neg c92] at H
           have c92b0 : (((rd_T56 l0_3 x5_5).f3) == ((rd_T56 l0_3 x3_2).f3))=false:=beq_eq_false_iff_ne.mpr c92;have c92b1 : (((rd_T56 l0_3 x5_5).f3) != ((rd_T56 l0_3 x3_2).f3))=true:=bne_iff_ne.mpr c92;have H':=A_ H;clear H;have hnb96:=NB299_301.out;have hnc96:=NB301_299.out;obtain ⟨z97_0,z97_1,z97_2,z97_3⟩:=blkc_4 BK299.out;obtain ⟨y97_0,y97_1,y97_2,y97_3⟩:=blkz_4 BK299.out
           have p302 : 0≤(x5_5 : Int):=od_ (by first|(with_reducible assumption)|assumption)
           have q302 : x5_5<(l0_3.length : Int):=od_ (by first|(with_reducible assumption)|assumption)
           obtain ⟨ad302,e302,hx302_0,hx302_1,hx302_2,hx302_3⟩:=at_T56 HR0_3.out x5_5 p302 q302
           obtain rfl : ad300=ad302:=(by injection e302)
           replace hx302_0:=(HB.out.cell (wb_ w _ hx302_0)).trans hx302_0;replace hx302_1:=(HB.out.cell (wb_ w _ hx302_1)).trans hx302_1;replace hx302_2:=(HB.out.cell (wb_ w _ hx302_2)).trans hx302_2;replace hx302_3:=(HB.out.cell (wb_ w _ hx302_3)).trans hx302_3;replace p302:=eq_true p302;replace q302:=eq_true q302;obtain ⟨z98_0,z98_1,z98_2,z98_3⟩:=blkc_4 BK301.out;obtain ⟨y98_0,y98_1,y98_2,y98_3⟩:=blkz_4 BK301.out
           have p303 : 0≤(x5_5 : Int):=od_ (by first|(with_reducible assumption)|assumption)
           have q303 : x5_5<(l0_3.length : Int):=od_ (by first|(with_reducible assumption)|assumption)
           obtain ⟨ad303,e303,hx303_0,hx303_1,hx303_2,hx303_3⟩:=at_T56 HR0_3.out x5_5 p303 q303
           obtain rfl : ad300=ad303:=(by injection e303)
           replace hx303_0:=(HB.out.cell (wb_ w _ hx303_0)).trans hx303_0;replace hx303_1:=(HB.out.cell (wb_ w _ hx303_1)).trans hx303_1;replace hx303_2:=(HB.out.cell (wb_ w _ hx303_2)).trans hx303_2;replace hx303_3:=(HB.out.cell (wb_ w _ hx303_3)).trans hx303_3;replace p303:=eq_true p303;replace q303:=eq_true q303;go_wp2
           repeat (go_quiet (fail);try go_wp2)
           go_roundg k5
           case measure=>have:=HJ1.out;have:=HK2.out;have:=HJ20.out;have:=HJ37.out;have:=HK5.out;omega
           case rel=>exact ⟨(wrap64 (x5_5 + 1)),(by first|rfl|(simp;done)|(simp [*];done)),H',⟨by have:=HJ1.out;have:=HK2.out;have:=HJ20.out;have:=HJ37.out;have:=HK5.out;omega⟩,⟨by exact kk_ BK299.out⟩,⟨by exact kk_ BK301.out⟩,⟨hb2_ HB.out GE299.out GE301.out⟩⟩
def humusref02_Four.f (a0 : Int) : Option (List Int):=some (([((Int.tdiv a0 16777216) % 4294967296) % 256,((Int.tdiv a0 65536) % 4294967296) % 256,((Int.tdiv a0 256) % 4294967296) % 256,(a0) % 256] : List Int))
set_option maxHeartbeats 8000000 in
set_option maxRecDepth 100000 in
theorem humusref02_Four.calls (a0 : Int) (r : List Int) (w : World) (h : humusref02_Four.f a0=some r) :
  Calls Tryd.prog 43 #[.int .u32 a0] w fun e w'=>∃ v0_ : Value,e=.returned (v0_)∧Kd.R (Kd.int .u8) 5 w' w.heap.size (fun _=>True) v0_ r∧Below w.heap.size w w':=by
 have HB:=A_ (Below.refl w.heap.size w);have H : (some (([((Int.tdiv a0 16777216) % 4294967296) % 256,((Int.tdiv a0 65536) % 4294967296) % 256,((Int.tdiv a0 256) % 4294967296) % 256,(a0) % 256] : List Int)))=some r:=h;clear h
 obtain ⟨y304,hy304⟩ : ∃ y_ : List Int,y_=(([((Int.tdiv a0 16777216) % 4294967296) % 256,((Int.tdiv a0 65536) % 4294967296) % 256,((Int.tdiv a0 256) % 4294967296) % 256,(a0) % 256] : List Int)):=⟨_,rfl⟩
 replace H : (some y304)=some r:=by first|(rw [hy304];with_reducible exact H)|(have H2_:=(Option.bind_some _ _).symm.trans H;rw [hy304];with_reducible exact H2_)|(have H2_:=(Option.bind_some _ _).symm.trans H;with_reducible exact H2_)|with_reducible exact H|(rw [hy304];exact H)|exact H
 have Ny304:=A_ hy304;clear hy304;obtain rfl:=Option.some.inj H;go_enter Tryd.func43,Tryd.ntmps43
 go_wp2_with (first|((with_reducible refine gate_dst (N:=14) rfl ?_);refine Kd.R_lit (Kd.int .u8) _ 5 ?hg (N:=14) ?hd (xs:=([((Int.tdiv a0 16777216) % 4294967296) % 256,((Int.tdiv a0 65536) % 4294967296) % 256,((Int.tdiv a0 256) % 4294967296) % 256,(a0) % 256] : List Int)) (inner:=[.int .u8 (((Int.tdiv a0 16777216) % 4294967296) % 256),.int .u8 (((Int.tdiv a0 65536) % 4294967296) % 256),.int .u8 (((Int.tdiv a0 256) % 4294967296) % 256),.int .u8 ((a0) % 256)]) (ok:=fun _=>True) (okp:=fun _=>True) ?hr ?hp (fun _ hk=>hk) trivial (Below.refl _ _) (Nat.le_refl _) (by simp) ?_;(case hd=>rfl);(case hg=>rfl);(case hr=>first|(go_simp;done)|(go_simp;rfl));(case hp=>exact (Reps.one (show Kd.M (Kd.int .u8) _ _ _ (((Int.tdiv a0 16777216) % 4294967296) % 256) [.int .u8 (((Int.tdiv a0 16777216) % 4294967296) % 256)] from rfl) (Reps.one (show Kd.M (Kd.int .u8) _ _ _ (((Int.tdiv a0 65536) % 4294967296) % 256) [.int .u8 (((Int.tdiv a0 65536) % 4294967296) % 256)] from rfl) (Reps.one (show Kd.M (Kd.int .u8) _ _ _ (((Int.tdiv a0 256) % 4294967296) % 256) [.int .u8 (((Int.tdiv a0 256) % 4294967296) % 256)] from rfl) (Reps.one (show Kd.M (Kd.int .u8) _ _ _ ((a0) % 256) [.int .u8 ((a0) % 256)] from rfl) (Reps.none _ _))))));intro v305 w2 ho3 hb hg_ hnew_;clear hg_ hnew_;(first|rw [← Ny304.out] at ho3|(simp only [Int.reduceToNat] at ho3;rw [← Ny304.out] at ho3));have n0_:=A_ (Kd.R_lower ho3 (bz_ (hb0_ HB.out)));have n1_:=A_ (bp_ (hb0_ HB.out) hb);clear HB;have HO306:=n0_;have HB:=n1_;clear n0_ n1_;clear hb ho3))
 go_ret
 exact ⟨_,by first|rfl|(simp [errW_none,errW_some] <;> rfl)|(simp [*,errW_none,errW_some] <;> rfl),by (with_reducible repeat (first|apply ra_|apply rn_|apply re_));exact HO306.out,hb0_ HB.out⟩
def humusref02_Sum.l0 : Nat→List Int→Int→Int→Option (Int)
 | 0,_,_,_=>none
 | k + 1,x0,x3,x4=>if x4<(wrap64 (8 * (x0.length : Int))) then (if 0≤(wrap64 (Int.tdiv x4 8)) then (if (wrap64 (Int.tdiv x4 8))<(x0.length : Int) then (if 0≤(IntKind.u64.wrap (wrap64 (7 - (Int.tmod x4 8)))) then (if (IntKind.u64.wrap (Int.tdiv x3 2147483648))=(Int.tmod (shr .u64 (IntKind.u64.wrap (rd x0 (wrap64 (Int.tdiv x4 8)))) (IntKind.u64.wrap (wrap64 (7 - (Int.tmod x4 8))))) 2) then (humusref02_Sum.l0 k x0 (Int.tmod (IntKind.u64.wrap (x3 * 2)) 4294967296) (wrap64 (x4 + 1))) else (humusref02_Sum.l0 k x0 (Go.bits .xor .u64 (Int.tmod (IntKind.u64.wrap (x3 * 2)) 4294967296) 2168537515) (wrap64 (x4 + 1)))) else (none)) else (none)) else (none)) else (some ((x3) % 4294967296))
def humusref02_Sum.f (k : Nat) (l0 : List Int) : Option (Int):=humusref02_Sum.l0 k l0 4294967295 0
set_option maxHeartbeats 8000000 in
set_option maxRecDepth 100000 in
theorem humusref02_Sum.calls (k : Nat) (A0 : Option Addr) (c0 : Nat) (l0 : List Int) (r : Int) (w : World) (hr0 : Kd.C (Kd.int .u8) w A0 l0.length l0) (hc0 : l0.length≤c0) (h : humusref02_Sum.f k l0=some r) :
  Calls Tryd.prog 44 #[.slice A0 l0.length c0] w fun e w'=>e=.returned (.int .u32 r)∧Drawn0 w w':=by
 have HR0:=A_ hr0;have HC0:=A_ hc0;clear hr0 hc0;have H : (humusref02_Sum.l0 k l0 4294967295 0)=some r:=h;clear h;have H':=A_ H;clear H;go_enter Tryd.func44,Tryd.ntmps44;go_wp2
 go_loopg [3,4] k (fun kq v3 v4 w'=>∃ (x3_1 : Int) (x4_1 : Int),v3=.int .u64 x3_1∧v4=.int .i64 x4_1∧Aside0 (humusref02_Sum.l0 kq l0 x3_1 x4_1=some r)∧Aside0 (kq≤k)∧Drawn0 w w')
 case atStart=>exact ⟨(4294967295),(0),(by first|rfl|(simp;done)|(simp [*];done)),(by first|rfl|(simp;done)|(simp [*];done)),H',⟨Nat.le_refl _⟩,by repeat (first|exact Drawn0.refl _|apply Drawn0.step)⟩
 case round =>
  clear H';obtain ⟨x3_1,x4_1,rfl,rfl,HA,HK1,⟨m1,rfl⟩⟩:=hrel
  cases gk with
  | zero=>exact absurd HA.out (by simp [humusref02_Sum.l0])
  | succ k1 =>
   have H:=HA.out;clear HA
   simp only [humusref02_Sum.l0] at H
   by_cases c2 : x4_1<(wrap64 (8 * (l0.length : Int)))
   rotate_left
   ·rw [if_neg c2] at H
    have c2b0 : decide (x4_1<(wrap64 (8 * (l0.length : Int))))=false:=df_ c2;clear c2;obtain rfl:=Option.some.inj H;go_wp2;go_ret
    exact ⟨by first|rfl|(simp;done)|(simp [*];done),by repeat (first|exact Drawn0.refl _|apply Drawn0.step)⟩
   rw [if_pos c2] at H
   have c2b0 : decide (x4_1<(wrap64 (8 * (l0.length : Int))))=true:=dt_ c2;clear c2
   obtain ⟨ji3,hji3⟩ : ∃ j_ : Int,(wrap64 (Int.tdiv x4_1 8))=j_:=⟨_,rfl⟩
   replace H : (if 0≤(ji3) then (if (ji3)<(l0.length : Int) then (if 0≤(IntKind.u64.wrap (wrap64 (7 - (Int.tmod x4_1 8)))) then (if (IntKind.u64.wrap (Int.tdiv x3_1 2147483648))=(Int.tmod (shr .u64 (IntKind.u64.wrap (rd l0 (ji3))) (IntKind.u64.wrap (wrap64 (7 - (Int.tmod x4_1 8))))) 2) then (humusref02_Sum.l0 k1 l0 (Int.tmod (IntKind.u64.wrap (x3_1 * 2)) 4294967296) (wrap64 (x4_1 + 1))) else (humusref02_Sum.l0 k1 l0 (Go.bits .xor .u64 (Int.tmod (IntKind.u64.wrap (x3_1 * 2)) 4294967296) 2168537515) (wrap64 (x4_1 + 1)))) else (none)) else (none)) else (none))=some r:=by first|(rw [hji3] at H;exact H)|(simp only [hji3] at H ⊢;exact H)
   have hji3w : (IntKind.i64.wrap (Int.tdiv x4_1 8))=ji3:=(i64_w _).trans hji3
   by_cases c4 : 0≤(ji3)
   rotate_left
   ·rw [if_neg c4] at H
    exact absurd H (by simp)
   rw [if_pos c4] at H
   have c4b0 : decide (0≤(ji3))=true:=dt_ c4;clear c4
   by_cases c5 : (ji3)<(l0.length : Int)
   rotate_left
   ·rw [if_neg c5] at H
    exact absurd H (by simp)
   rw [if_pos c5] at H
   have c5b0 : decide ((ji3)<(l0.length : Int))=true:=dt_ c5;clear c5
   obtain ⟨ji6,hji6⟩ : ∃ j_ : Int,(IntKind.u64.wrap (wrap64 (7 - (Int.tmod x4_1 8))))=j_:=⟨_,rfl⟩
   replace H : (if 0≤(ji6) then (if (IntKind.u64.wrap (Int.tdiv x3_1 2147483648))=(Int.tmod (shr .u64 (IntKind.u64.wrap (rd l0 (ji3))) (ji6)) 2) then (humusref02_Sum.l0 k1 l0 (Int.tmod (IntKind.u64.wrap (x3_1 * 2)) 4294967296) (wrap64 (x4_1 + 1))) else (humusref02_Sum.l0 k1 l0 (Go.bits .xor .u64 (Int.tmod (IntKind.u64.wrap (x3_1 * 2)) 4294967296) 2168537515) (wrap64 (x4_1 + 1)))) else (none))=some r:=by first|(rw [hji6] at H;exact H)|(simp only [hji6] at H ⊢;exact H)
   by_cases c7 : 0≤(ji6)
   rotate_left
   ·rw [if_neg c7] at H
    exact absurd H (by simp)
   rw [if_pos c7] at H
   have c7b0:=eq_true c7;have c7b1 : decide (0≤(ji6))=true:=dt_ c7;clear c7
   obtain ⟨ji8,hji8⟩ : ∃ j_ : Int,(shr .u64 (IntKind.u64.wrap (rd l0 (ji3))) (ji6))=j_:=⟨_,rfl⟩
   replace H : (if (IntKind.u64.wrap (Int.tdiv x3_1 2147483648))=(Int.tmod (ji8) 2) then (humusref02_Sum.l0 k1 l0 (Int.tmod (IntKind.u64.wrap (x3_1 * 2)) 4294967296) (wrap64 (x4_1 + 1))) else (humusref02_Sum.l0 k1 l0 (Go.bits .xor .u64 (Int.tmod (IntKind.u64.wrap (x3_1 * 2)) 4294967296) 2168537515) (wrap64 (x4_1 + 1))))=some r:=by first|(rw [hji8] at H;exact H)|(simp only [hji8] at H ⊢;exact H)
   have hji8_ : ((IntKind.u64.wrap (rd l0 (ji3))) / 2 ^ min (ji6).toNat 64)=ji8:=hji8;have hji8z : (ji6)≤64→((IntKind.u64.wrap (rd l0 (ji3))) / 2 ^ (ji6).toNat)=ji8:=shr_small hji8
   by_cases c9 : (IntKind.u64.wrap (Int.tdiv x3_1 2147483648))=(Int.tmod (ji8) 2)
   rotate_left
   ·rw [if_neg c9] at H
    have c9b0 : ((IntKind.u64.wrap (Int.tdiv x3_1 2147483648)) == (Int.tmod (ji8) 2))=false:=beq_eq_false_iff_ne.mpr c9;have c9b1 : ((IntKind.u64.wrap (Int.tdiv x3_1 2147483648)) != (Int.tmod (ji8) 2))=true:=bne_iff_ne.mpr c9;have H':=A_ H;clear H
    have p307 : 0≤((ji3) : Int):=od_ (by first|(with_reducible assumption)|assumption)
    have q307 : (ji3)<(l0.length : Int):=od_ (by first|(with_reducible assumption)|assumption)
    obtain ⟨ad307,e307,hx307_0⟩:=Kd.at_int HR0.out (ji3) p307 q307
    cases e307
    replace p307:=eq_true p307;replace q307:=eq_true q307;go_wp2;go_roundg k1
    case measure=>have:=HK1.out;omega
    case rel=>exact ⟨(Go.bits .xor .u64 (Int.tmod (IntKind.u64.wrap (x3_1 * 2)) 4294967296) 2168537515),(wrap64 (x4_1 + 1)),(by first|rfl|(simp;done)|(simp [*];done)),(by first|rfl|(simp;done)|(simp [*];done)),H',⟨by have:=HK1.out;omega⟩,by repeat (first|exact Drawn0.refl _|apply Drawn0.step)⟩
   rw [if_pos c9] at H
   have c9b0 : ((IntKind.u64.wrap (Int.tdiv x3_1 2147483648)) == (Int.tmod (ji8) 2))=true:=beq_iff_eq.mpr c9;have c9b1 : ((IntKind.u64.wrap (Int.tdiv x3_1 2147483648)) != (Int.tmod (ji8) 2))=false:=bne_eq_false_iff_eq.mpr c9;clear c9;have H':=A_ H;clear H
   have p307 : 0≤((ji3) : Int):=od_ (by first|(with_reducible assumption)|assumption)
   have q307 : (ji3)<(l0.length : Int):=od_ (by first|(with_reducible assumption)|assumption)
   obtain ⟨ad307,e307,hx307_0⟩:=Kd.at_int HR0.out (ji3) p307 q307
   cases e307
   replace p307:=eq_true p307;replace q307:=eq_true q307;go_wp2;go_roundg k1
   case measure=>have:=HK1.out;omega
   case rel=>exact ⟨(Int.tmod (IntKind.u64.wrap (x3_1 * 2)) 4294967296),(wrap64 (x4_1 + 1)),(by first|rfl|(simp;done)|(simp [*];done)),(by first|rfl|(simp;done)|(simp [*];done)),H',⟨by have:=HK1.out;omega⟩,by repeat (first|exact Drawn0.refl _|apply Drawn0.step)⟩
def humusref02_Seal.f (k : Nat) (l0 : List Int) : Option (List Int):=(humusref02_Sum.f k l0).bind fun t308=>((humusref02_Four.f t308).bind fun t309=>(if t309.length + l0.length<140737488355328 then (some (t309++l0)) else (none)))
set_option maxHeartbeats 8000000 in
set_option maxRecDepth 100000 in
theorem humusref02_Seal.calls (k : Nat) (A0 : Option Addr) (c0 : Nat) (l0 : List Int) (r : List Int) (w : World) (hr0 : Kd.C (Kd.int .u8) w A0 l0.length l0) (hc0 : l0.length≤c0) (h : humusref02_Seal.f k l0=some r) :
  Calls Tryd.prog 25 #[.slice A0 l0.length c0] w fun e w'=>∃ v0_ : Value,e=.returned (v0_)∧Kd.R (Kd.int .u8) 5 w' w.heap.size (fun _=>True) v0_ r∧Below w.heap.size w w':=by
 have HR0:=A_ hr0;have HC0:=A_ hc0;clear hr0 hc0;have HB:=A_ (Below.refl w.heap.size w)
 have H : ((humusref02_Sum.f k l0).bind fun t308=>((humusref02_Four.f t308).bind fun t309=>(if t309.length + l0.length<140737488355328 then (some (t309++l0)) else (none))))=some r:=h
 clear h;replace H:=Option.bind_eq_some_iff.mp H;obtain ⟨t308,A20,H⟩:=H
 replace H : ((humusref02_Four.f t308).bind fun t309=>(if t309.length + l0.length<140737488355328 then (some (t309++l0)) else (none)))=some r:=H
 have A2:=A_ A20;clear A20;replace H:=Option.bind_eq_some_iff.mp H;obtain ⟨t309,A30,H⟩:=H
 replace H : (if t309.length + l0.length<140737488355328 then (some (t309++l0)) else (none))=some r:=H
 have A3:=A_ A30;clear A30
 by_cases c4 : t309.length + l0.length<140737488355328
 rotate_left
 ·rw [if_neg c4] at H
  exact absurd H (by simp)
 rw [if_pos c4] at H
 have LMc4:=A_ c4;clear c4
 obtain ⟨y312,hy312⟩ : ∃ y_ : List Int,y_=(t309++l0):=⟨_,rfl⟩
 replace H : (some y312)=some r:=by first|(rw [hy312];with_reducible exact H)|(have H2_:=(Option.bind_some _ _).symm.trans H;rw [hy312];with_reducible exact H2_)|(have H2_:=(Option.bind_some _ _).symm.trans H;with_reducible exact H2_)|with_reducible exact H|(rw [hy312];exact H)|exact H
 have Ny312:=A_ hy312;clear hy312;obtain rfl:=Option.some.inj H;go_enter Tryd.func25,Tryd.ntmps25
 go_wp2_with (first|((with_reducible refine gate_callee (f:=44) rfl ?_);refine goesL_ (some 4) rfl rfl Tryd.func44 (by kernel_rfl) rfl #[.slice A0 l0.length c0] rfl (by (try simp only [List.map_toArray,List.map_cons,List.map_nil]);first|done|rfl|(simp only [List.length_drop,List.length_take];rfl)) ?_;(with_reducible refine (humusref02_Sum.calls k _ _ l0 t308 _ ?side1 ?side2 A2.out).mono ?_);(case side1=>repeat (first|exact HR0.out|(with_reducible refine Kd.C_alloc ?_ _)|(with_reducible refine Kd.C_drewN ?_ _)|(with_reducible refine Kd.C_drew ?_)));(case side2=>exact HC0.out);rintro e w' ⟨rfl,⟨nd,rfl⟩⟩;refine ⟨_,rfl,?_⟩)|((with_reducible refine gate_callee (f:=43) rfl ?_);refine goesL_ (some 5) rfl rfl Tryd.func43 (by kernel_rfl) rfl #[.int .u32 t308] rfl (by (try simp only [List.map_toArray,List.map_cons,List.map_nil]);first|done|rfl|(simp only [List.length_drop,List.length_take];rfl)) ?_;(with_reducible refine (humusref02_Four.calls t308 t309 _ A3.out).mono ?_);rintro e w5 ⟨v310,rfl,ho0,hb⟩;refine ⟨_,rfl,?_⟩;have n0_:=A_ (Kd.R_lower ho0 (bz_ (hb0_ HB.out)));have n1_:=A_ (bp_ (hb0_ HB.out) hb);clear HB;have HO311:=n0_;have HB:=n1_;clear n0_ n1_;(try clear hb);(try clear hb2);(try clear hk);(try clear hi);(try clear ho0))|((with_reducible refine gate_builtin (b:=.append) (xs:=#[.tmp 5,.tmp 6]) rfl ?_);at_builtin;refine Kd.R_append_rows (Kd.int .u8) (w0:=w) w.heap.size rfl (.tmp 5) (.tmp 6) 22 5 (.int .u8 0) 1 rfl Tryd.underlying22 info5 rfl (by decide) (by omega) v310 t309 l0 _ _ _ (fun _=>True) (fun _=>False) rfl rfl ?aO ?aR (fun _ _ h=>h) (fun _ h=>h.elim) ?aF ?aB ?aS ?aL ?_;(case aR=>repeat (first|exact (Kd.C_below HR0.out HB.out)|(with_reducible refine Kd.C_alloc ?_ _)|(with_reducible refine Kd.C_drewN ?_ _)|(with_reducible refine Kd.C_drew ?_)));(case aB=>exact (hb0_ HB.out));(case aF=>exact (fun _ _=>trivial));(case aO=>exact (by (with_reducible repeat (first|apply ra_|apply rn_|apply re_));exact HO311.out));(case aS=>exact (bz_ (hb0_ HB.out)));(case aL=>have:=LMc4.out;omega);intro v313 w6 ho hb hg hat;rw [← Ny312.out] at ho;have n0_:=A_ (hb);have n1_:=A_ (ho);clear HB;clear HO311;have HB:=n0_;have HO314:=n1_;clear n0_ n1_;clear ho hb hg hat))
 go_ret
 exact ⟨_,by first|rfl|(simp [errW_none,errW_some] <;> rfl)|(simp [*,errW_none,errW_some] <;> rfl),by (with_reducible repeat (first|apply ra_|apply rn_|apply re_));exact HO314.out,hb0_ HB.out⟩
end Go.Proofs.YtbmcbhpkefjhbaaDoor.P
