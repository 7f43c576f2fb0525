/- by wip/prune.py -/
import Derived.Test.YtbmcbhpkefjhbaaDoorMTableDecodes4
import Derived.Test.YtbmcbhpkefjhbaaDoorMTableDecodes5
import Derived.Test.YtbmcbhpkefjhbaaDoorMTableDecodes7
set_option linter.unusedSimpArgs false
set_option linter.unusedVariables false
namespace Go.Proofs.YtbmcbhpkefjhbaaDoor.P
open Go.RowKit YtbmcbhpkefjhbaaDoorW.PrintWords YtbmcbhpkefjhbaaDoorW.PrintLast YtbmcbhpkefjhbaaDoorW.PrintMore
attribute [local go_sem] max2_int min2_int max_two min_two max_three min_three max_four min_four   -- for this text's walks alone
attribute [local go_sem] run_store_float
attribute [local go_sem high] eqA56
def slices_Index_api_Entry_api_Entry.l0 : Nat→List (S56)→Int→Int→Int→Int→Int→Int→Option (Int)
 | 0,_,_,_,_,_,_,_=>none
 | k + 1,x0,x7,x8,x134000,x134001,x134002,x134003=>if x8<x7 then (if 0≤x8 then (if x8<(x0.length : Int) then (if (x134000 == ((rd_T56 x0 x8).f0) && (x134001 == ((rd_T56 x0 x8).f1) && (x134002 == ((rd_T56 x0 x8).f2) && (x134003 == ((rd_T56 x0 x8).f3)))))=true then (some x8) else (slices_Index_api_Entry_api_Entry.l0 k x0 x7 (wrap64 (x8 + 1)) x134000 x134001 x134002 x134003)) else (none)) else (none)) else (some (-1))
def slices_Index_api_Entry_api_Entry.f (k : Nat) (l0 : List (S56)) (a1_0 : Int) (a1_1 : Int) (a1_2 : Int) (a1_3 : Int) : Option (Int):=slices_Index_api_Entry_api_Entry.l0 k l0 (l0.length : Int) 0 a1_0 a1_1 a1_2 a1_3
theorem slices_Index_api_Entry_api_Entry.mono_l : ∀ k,(∀ y0 y1 y2 y3 y4 y5 y6,LeO (slices_Index_api_Entry_api_Entry.l0 k y0 y1 y2 y3 y4 y5 y6) (slices_Index_api_Entry_api_Entry.l0 (k + 1) y0 y1 y2 y3 y4 y5 y6))
 | 0=>fun _ _ _ _ _ _ _ r h=>by simp [slices_Index_api_Entry_api_Entry.l0] at h
 | k + 1=>by
  have ih0:=slices_Index_api_Entry_api_Entry.mono_l k
  ·intro y0 y1 y2 y3 y4 y5 y6
   unfold slices_Index_api_Entry_api_Entry.l0
   repeat' first
   | (with_reducible exact ih0 _ _ _ _ _ _ _)
   | (with_reducible exact LeO.refl _)
   | (with_reducible exact LeO.none _)
   | (with_reducible refine LeO.ite ?_ ?_)
   | (with_reducible refine LeO.bind ?_ (fun _=>?_))
   | exact ih0 _ _ _ _ _ _ _
   | exact LeO.none _
   | refine LeO.ite ?_ ?_
   | refine LeO.bind ?_ (fun _=>?_)
theorem slices_Index_api_Entry_api_Entry.mono : ∀ a0 a1 a2 a3 a4 k,LeO (slices_Index_api_Entry_api_Entry.f k a0 a1 a2 a3 a4) (slices_Index_api_Entry_api_Entry.f (k + 1) a0 a1 a2 a3 a4):=by
 intro a0 a1 a2 a3 a4 k;have ih0:=slices_Index_api_Entry_api_Entry.mono_l k
 unfold slices_Index_api_Entry_api_Entry.f
 repeat' first
   | (with_reducible exact ih0 _ _ _ _ _ _ _)
   | (with_reducible exact LeO.refl _)
   | (with_reducible exact LeO.none _)
   | (with_reducible refine LeO.ite ?_ ?_)
   | (with_reducible refine LeO.bind ?_ (fun _=>?_))
   | exact ih0 _ _ _ _ _ _ _
   | exact LeO.none _
   | refine LeO.ite ?_ ?_
   | refine LeO.bind ?_ (fun _=>?_)
set_option maxHeartbeats 8000000 in
set_option maxRecDepth 100000 in
theorem slices_Index_api_Entry_api_Entry.calls (k : Nat) (A0 : Option Addr) (c0 : Nat) (l0 : List (S56)) (a1_0 : Int) (a1_1 : Int) (a1_2 : Int) (a1_3 : Int) (r : Int) (w : World) (hr0 : Kd.C k56 w A0 l0.length l0) (hc0 : l0.length≤c0) (h : slices_Index_api_Entry_api_Entry.f k l0 a1_0 a1_1 a1_2 a1_3=some r) :
  Calls Tryd.prog 36 #[.slice A0 l0.length c0,.agg #[.int .i64 a1_0,.int .i64 a1_1,.int .i64 a1_2,.int .i64 a1_3]] w fun e w'=>e=.returned (.int .i64 r)∧Below w.heap.size w w':=by
 have hu56:=Tryd.underlying56;have HR0:=A_ hr0;have HC0:=A_ hc0;clear hr0 hc0;have HB:=A_ (Below.refl w.heap.size w);have H : (slices_Index_api_Entry_api_Entry.l0 k l0 (l0.length : Int) 0 a1_0 a1_1 a1_2 a1_3)=some r:=h;clear h;have H':=A_ H;clear H;go_enter Tryd.func36,Tryd.ntmps36
 go_wp2_with (first|((with_reducible refine gate_dst (N:=3) rfl ?_);refine box_event ?hg (N:=3) ?hd (cs:=#[.int .i64 a1_0,.int .i64 a1_1,.int .i64 a1_2,.int .i64 a1_3]) (t:=56) ?hr ?_;(case hd=>rfl);(case hg=>rfl);(case hr=>first|(go_simp;done)|(go_simp;rfl));intro gb133 hg w3 hbox hb;have n0_:=A_ (bp_ (hb0_ HB.out) hb);have n1_:=A_ (hbox);have n2_:=A_ ((by rw [hg];exact (bz_ (hb0_ HB.out)) : w.heap.size≤gb133));have n3_:=n2_;clear HB;have HB:=n0_;have BK133:=n1_;have GW133:=n2_;have GE133:=n3_;clear n0_ n1_ n2_ n3_;clear hb hbox hg))
 repeat (go_quiet (first|((with_reducible refine gate_dst (N:=3) rfl ?_);refine box_event ?hg (N:=3) ?hd (cs:=#[.int .i64 a1_0,.int .i64 a1_1,.int .i64 a1_2,.int .i64 a1_3]) (t:=56) ?hr ?_;(case hd=>rfl);(case hg=>rfl);(case hr=>first|(go_simp;done)|(go_simp;rfl));intro gb133 hg w3 hbox hb;have n0_:=A_ (bp_ (hb0_ HB.out) hb);have n1_:=A_ (hbox);have n2_:=A_ ((by rw [hg];exact (bz_ (hb0_ HB.out)) : w.heap.size≤gb133));have n3_:=n2_;clear HB;have HB:=n0_;have BK133:=n1_;have GW133:=n2_;have GE133:=n3_;clear n0_ n1_ n2_ n3_;clear hb hbox hg));try go_wp2_with (first|((with_reducible refine gate_dst (N:=3) rfl ?_);refine box_event ?hg (N:=3) ?hd (cs:=#[.int .i64 a1_0,.int .i64 a1_1,.int .i64 a1_2,.int .i64 a1_3]) (t:=56) ?hr ?_;(case hd=>rfl);(case hg=>rfl);(case hr=>first|(go_simp;done)|(go_simp;rfl));intro gb133 hg w3 hbox hb;have n0_:=A_ (bp_ (hb0_ HB.out) hb);have n1_:=A_ (hbox);have n2_:=A_ ((by rw [hg];exact (bz_ (hb0_ HB.out)) : w.heap.size≤gb133));have n3_:=n2_;clear HB;have HB:=n0_;have BK133:=n1_;have GW133:=n2_;have GE133:=n3_;clear n0_ n1_ n2_ n3_;clear hb hbox hg)))
 go_loopg [8] k (fun kq v8 w'=>∃ (x8_1 : Int),v8=.int .i64 x8_1∧Aside0 (slices_Index_api_Entry_api_Entry.l0 kq l0 (l0.length : Int) x8_1 a1_0 a1_1 a1_2 a1_3=some r)∧Aside0 (kq≤k)∧Aside0 (w'.heap[gb133]?=some (.cells #[.int .i64 a1_0,.int .i64 a1_1,.int .i64 a1_2,.int .i64 a1_3] 56 (0,0)))∧Aside0 (Below w.heap.size w w'))
 case atStart=>exact ⟨(0),(by first|rfl|(simp;done)|(simp [*];done)),H',⟨Nat.le_refl _⟩,⟨by exact kk_ BK133.out⟩,⟨hb1_ HB.out GE133.out⟩⟩
 case round =>
  clear H';(try clear p2);(try clear c3);obtain ⟨x8_1,rfl,HA,HK1,BK133,HB⟩:=hrel
  cases gk with
  | zero=>exact absurd HA.out (by simp [slices_Index_api_Entry_api_Entry.l0])
  | succ k1 =>
   have H:=HA.out;clear HA
   simp only [slices_Index_api_Entry_api_Entry.l0] at H
   by_cases c4 : x8_1<(l0.length : Int)
   rotate_left
   ·rw [if_neg c4] at H
    have c4b0 : decide (x8_1<(l0.length : Int))=false:=df_ c4;clear c4;obtain rfl:=Option.some.inj H;go_wp2
    repeat (go_quiet (fail);try go_wp2)
    go_ret
    exact ⟨by first|rfl|(simp [errW_none,errW_some] <;> rfl)|(simp [*,errW_none,errW_some] <;> rfl),hb1_ HB.out GE133.out⟩
   rw [if_pos c4] at H
   have c4b0 : decide (x8_1<(l0.length : Int))=true:=dt_ c4;clear c4
   by_cases c5 : 0≤x8_1
   rotate_left
   ·rw [if_neg c5] at H
    exact absurd H (by simp)
   rw [if_pos c5] at H
   have c5b0 : decide (0≤x8_1)=true:=dt_ c5;clear c5
   by_cases c6 : x8_1<(l0.length : Int)
   rotate_left
   ·rw [if_neg c6] at H
    exact absurd H (by simp)
   rw [if_pos c6] at H
   have c6b0 : decide (x8_1<(l0.length : Int))=true:=dt_ c6;clear c6
   by_cases c7 : (a1_0 == ((rd_T56 l0 x8_1).f0) && (a1_1 == ((rd_T56 l0 x8_1).f1) && (a1_2 == ((rd_T56 l0 x8_1).f2) && (a1_3 == ((rd_T56 l0 x8_1).f3)))))=true
   ·rw [if_pos c7] at H
    have c7b0 : (a1_0 == ((rd_T56 l0 x8_1).f0) && (a1_1 == ((rd_T56 l0 x8_1).f1) && (a1_2 == ((rd_T56 l0 x8_1).f2) && (a1_3 == ((rd_T56 l0 x8_1).f3)))))=true:=c7
    (try (have c7b1 : decide (a1_0=((rd_T56 l0 x8_1).f0) && (a1_1 == ((rd_T56 l0 x8_1).f1) && (a1_2 == ((rd_T56 l0 x8_1).f2) && (a1_3 == ((rd_T56 l0 x8_1).f3)))))=true:=by simpa using c7))
    (try (have c7b2 : (a1_0 == ((rd_T56 l0 x8_1).f0) && (a1_1 == ((rd_T56 l0 x8_1).f1) && (a1_2 == ((rd_T56 l0 x8_1).f2) && (a1_3 == ((rd_T56 l0 x8_1).f3)))))=true:=by simpa using c7))
    clear c7;obtain rfl:=Option.some.inj H;obtain ⟨z8_0,z8_1,z8_2,z8_3⟩:=blkc_4 BK133.out;obtain ⟨y8_0,y8_1,y8_2,y8_3⟩:=blkz_4 BK133.out
    have p134 : 0≤(x8_1 : Int):=od_ (by first|(with_reducible assumption)|assumption)
    have q134 : x8_1<(l0.length : Int):=od_ (by first|(with_reducible assumption)|assumption)
    obtain ⟨ad134,e134,hx134_0,hx134_1,hx134_2,hx134_3⟩:=at_T56 HR0.out x8_1 p134 q134
    cases e134
    replace hx134_0:=(HB.out.cell (wb_ w _ hx134_0)).trans hx134_0;replace hx134_1:=(HB.out.cell (wb_ w _ hx134_1)).trans hx134_1;replace hx134_2:=(HB.out.cell (wb_ w _ hx134_2)).trans hx134_2;replace hx134_3:=(HB.out.cell (wb_ w _ hx134_3)).trans hx134_3;replace p134:=eq_true p134;replace q134:=eq_true q134;go_wp2
    repeat (go_quiet (fail);try go_wp2)
    go_ret
    exact ⟨by first|rfl|(simp [errW_none,errW_some] <;> rfl)|(simp [*,errW_none,errW_some] <;> rfl),hb1_ HB.out GE133.out⟩
   rw [if_neg c7] at H
   have c7b0 : (a1_0 == ((rd_T56 l0 x8_1).f0) && (a1_1 == ((rd_T56 l0 x8_1).f1) && (a1_2 == ((rd_T56 l0 x8_1).f2) && (a1_3 == ((rd_T56 l0 x8_1).f3)))))=false:=by simpa using c7
   (try (have c7b1 : decide (a1_0=((rd_T56 l0 x8_1).f0) && (a1_1 == ((rd_T56 l0 x8_1).f1) && (a1_2 == ((rd_T56 l0 x8_1).f2) && (a1_3 == ((rd_T56 l0 x8_1).f3)))))=false:=by simpa using c7))
   (try (have c7b2 : (a1_0 == ((rd_T56 l0 x8_1).f0) && (a1_1 == ((rd_T56 l0 x8_1).f1) && (a1_2 == ((rd_T56 l0 x8_1).f2) && (a1_3 == ((rd_T56 l0 x8_1).f3)))))=false:=by simpa using c7))
   (try (have c7b3 : ¬ (a1_0=((rd_T56 l0 x8_1).f0) && (a1_1 == ((rd_T56 l0 x8_1).f1) && (a1_2 == ((rd_T56 l0 x8_1).f2) && (a1_3 == ((rd_T56 l0 x8_1).f3))))):=by simpa using c7))
   clear c7;have H':=A_ H;clear H;obtain ⟨z9_0,z9_1,z9_2,z9_3⟩:=blkc_4 BK133.out;obtain ⟨y9_0,y9_1,y9_2,y9_3⟩:=blkz_4 BK133.out
   have p134 : 0≤(x8_1 : Int):=od_ (by first|(with_reducible assumption)|assumption)
   have q134 : x8_1<(l0.length : Int):=od_ (by first|(with_reducible assumption)|assumption)
   obtain ⟨ad134,e134,hx134_0,hx134_1,hx134_2,hx134_3⟩:=at_T56 HR0.out x8_1 p134 q134
   cases e134
   replace hx134_0:=(HB.out.cell (wb_ w _ hx134_0)).trans hx134_0;replace hx134_1:=(HB.out.cell (wb_ w _ hx134_1)).trans hx134_1;replace hx134_2:=(HB.out.cell (wb_ w _ hx134_2)).trans hx134_2;replace hx134_3:=(HB.out.cell (wb_ w _ hx134_3)).trans hx134_3;replace p134:=eq_true p134;replace q134:=eq_true q134;go_wp2
   repeat (go_quiet (fail);try go_wp2)
   go_roundg k1
   case measure=>have:=HK1.out;omega
   case rel=>exact ⟨(wrap64 (x8_1 + 1)),(by first|rfl|(simp;done)|(simp [*];done)),H',⟨by have:=HK1.out;omega⟩,⟨by exact kk_ BK133.out⟩,⟨hb1_ HB.out GE133.out⟩⟩
def slices_Clone_api_Entry_api_Entry.f (l0 : List (S56)) : Option ((List (S56))):=(some (([] : List (S56)) : List (S56))).bind fun y135=>(if y135.length + l0.length<4398046511104 then (some (y135++l0)) else (none))
set_option maxHeartbeats 8000000 in
set_option maxRecDepth 100000 in
theorem slices_Clone_api_Entry_api_Entry.calls (A0 : Option Addr) (c0 : Nat) (l0 : List (S56)) (r : List (S56)) (w : World) (hr0 : Kd.C k56 w A0 l0.length l0) (hc0 : l0.length≤c0) (h : slices_Clone_api_Entry_api_Entry.f l0=some r) :
  Calls Tryd.prog 54 #[.slice A0 l0.length c0] w fun e w'=>∃ v0_ : Value,e=.returned (v0_)∧Kd.R k56 56 w' w.heap.size (fun _=>True) v0_ r∧Below w.heap.size w w':=by
 have hnl0_:=fun w_=>nil_eq Tryd.underlying24 A0 l0.length c0 w_
 by_cases hA_ : A0=none
 ·subst hA_
  obtain rfl:=C_nil_ hr0
  have h2_ : slices_Clone_api_Entry_api_Entry.f []=some []:=by simp [slices_Clone_api_Entry_api_Entry.f]
  rw [h2_] at h;obtain rfl:=Option.some.inj h;clear hnl0_
  have hnl1_ : ∀ w_,(binOp BinOp.eql 24 (.slice none 0 c0) (.slice none 0 0)).run Tryd.prog w_=.ok (.bool true) w_:=fun w_=>nil_eq Tryd.underlying24 none 0 c0 w_
  simp only [List.length_nil]
  go_enter Tryd.func54,Tryd.ntmps54;go_wp2;go_ret
  exact ⟨_,by rfl,by first|exact Kd.R_nil _ _ _ _ _|exact Kd.N_nil _ _ _ _ _|exact Kd.V_nil _ _ _ _ _|exact Kd.S_nil _ _ _ _ _,Below.refl _ _⟩
 have hnl_ : ∀ w_,(binOp BinOp.eql 24 (.slice A0 l0.length c0) (.slice none 0 0)).run Tryd.prog w_=.ok (.bool false) w_:=by
  intro w_;have h3_:=hnl0_ w_
  cases A0 with
  | none=>exact absurd rfl hA_
  | some a_=>exact h3_
 clear hnl0_ hA_;have HR0:=A_ hr0;have HC0:=A_ hc0;clear hr0 hc0;have HB:=A_ (Below.refl w.heap.size w)
 have H : ((some (([] : List (S56)) : List (S56))).bind fun y135=>(if y135.length + l0.length<4398046511104 then (some (y135++l0)) else (none)))=some r:=h
 clear h
 obtain ⟨y135,hy135⟩ : ∃ y_ : List (S56),y_=(([] : List (S56))):=⟨_,rfl⟩
 replace H : (if y135.length + l0.length<4398046511104 then (some (y135++l0)) else (none))=some r:=by first|(rw [hy135];with_reducible exact H)|(have H2_:=(Option.bind_some _ _).symm.trans H;rw [hy135];with_reducible exact H2_)|(have H2_:=(Option.bind_some _ _).symm.trans H;with_reducible exact H2_)|with_reducible exact H|(rw [hy135];exact H)|exact H
 have Ny135:=A_ hy135;clear hy135
 by_cases c2 : y135.length + l0.length<4398046511104
 rotate_left
 ·rw [if_neg c2] at H
  exact absurd H (by simp)
 rw [if_pos c2] at H
 have LMc2:=A_ c2;clear c2
 obtain ⟨y138,hy138⟩ : ∃ y_ : List (S56),y_=(y135++l0):=⟨_,rfl⟩
 replace H : (some y138)=some r:=by first|(rw [hy138];with_reducible exact H)|(have H2_:=(Option.bind_some _ _).symm.trans H;rw [hy138];with_reducible exact H2_)|(have H2_:=(Option.bind_some _ _).symm.trans H;with_reducible exact H2_)|with_reducible exact H|(rw [hy138];exact H)|exact H
 have Ny138:=A_ hy138;clear hy138;obtain rfl:=Option.some.inj H;go_enter Tryd.func54,Tryd.ntmps54
 go_wp2_with (first|((with_reducible refine gate_dst (N:=5) rfl ?_);refine Kd.R_lit k56 _ 56 ?hg (N:=5) ?hd (xs:=([] : List (S56))) (inner:=[]) (ok:=fun _=>True) (okp:=fun _=>True) ?hr ?hp (fun _ hk=>hk) trivial (Below.refl _ _) (Nat.le_refl _) (by simp) ?_;(case hd=>rfl);(case hg=>rfl);(case hr=>first|(go_simp;done)|(go_simp;rfl));(case hp=>exact (Reps.none _ _));intro v136 w3 ho4 hb hg_ hnew_;clear hg_ hnew_;(first|rw [← Ny135.out] at ho4|(simp only [Int.reduceToNat] at ho4;rw [← Ny135.out] at ho4));have n0_:=A_ (Kd.R_lower ho4 (bz_ (hb0_ HB.out)));have n1_:=A_ (bp_ (hb0_ HB.out) hb);clear HB;have HO137:=n0_;have HB:=n1_;clear n0_ n1_;clear hb ho4)|((with_reducible refine gate_builtin (b:=.append) (xs:=#[.tmp 5,.tmp 6]) rfl ?_);at_builtin;refine Kd.R_append_rows k56 (w0:=w) w.heap.size rfl (.tmp 5) (.tmp 6) 24 56 (.agg #[(.int .i64 0),(.int .i64 0),(.int .i64 0),(.int .i64 0)]) 32 rfl Tryd.underlying24 info56 rfl (by decide) (by omega) v136 y135 l0 _ _ _ (fun _=>True) (fun _=>False) rfl rfl ?aO ?aR (fun _ _ h=>h) (fun _ h=>h.elim) ?aF ?aB ?aS ?aL ?_;(case aR=>repeat (first|exact (Kd.C_below HR0.out HB.out)|(with_reducible refine Kd.C_alloc ?_ _)|(with_reducible refine Kd.C_drewN ?_ _)|(with_reducible refine Kd.C_drew ?_)));(case aB=>exact (hb0_ HB.out));(case aF=>exact (fun _ _=>trivial));(case aO=>exact (by (with_reducible repeat (first|apply ra_|apply rn_|apply re_));exact HO137.out));(case aS=>exact (bz_ (hb0_ HB.out)));(case aL=>have:=LMc2.out;omega);intro v139 w5 ho hb hg hat;rw [← Ny138.out] at ho;have n0_:=A_ (hb);have n1_:=A_ (ho);clear HB;clear HO137;have HB:=n0_;have HO140:=n1_;clear n0_ n1_;clear ho hb hg hat))
 go_ret
 exact ⟨_,by first|rfl|(simp [errW_none,errW_some] <;> rfl)|(simp [*,errW_none,errW_some] <;> rfl),by (with_reducible repeat (first|apply ra_|apply rn_|apply re_));exact HO140.out,hb0_ HB.out⟩
def table_own.f (a0_0 : Int) (a0_1 : Int) (a0_2 : Int) (l0_3 : List (S56)) : Option (Int × Int × Int × (List (S56))):=(slices_Clone_api_Entry_api_Entry.f l0_3).bind fun t143=>(some (a0_0,a0_1,a0_2,t143))
set_option maxHeartbeats 8000000 in
set_option maxRecDepth 100000 in
theorem table_own.calls (a0_0 : Int) (a0_1 : Int) (a0_2 : Int) (A0_3 : Option Addr) (c0_3 : Nat) (l0_3 : List (S56)) (r1 : Int) (r2 : Int) (r3 : Int) (r4 : List (S56)) (w : World) (hr0_3 : Kd.C k56 w A0_3 l0_3.length l0_3) (hc0_3 : l0_3.length≤c0_3) (h : table_own.f a0_0 a0_1 a0_2 l0_3=some (r1,r2,r3,r4)) :
  Calls Tryd.prog 37 #[.agg #[.int .i64 a0_0,.int .i64 a0_1,.int .i64 a0_2,.slice A0_3 l0_3.length c0_3]] w fun e w'=>∃ v3_ : Value,e=.returned (.agg #[.int .i64 r1,.int .i64 r2,.int .i64 r3,v3_])∧Kd.R k56 56 w' w.heap.size (fun _=>True) v3_ r4∧Below w.heap.size w w':=by
 have hu26:=Tryd.underlying26;have HR0_3:=A_ hr0_3;have HC0_3:=A_ hc0_3;clear hr0_3 hc0_3;have HB:=A_ (Below.refl w.heap.size w)
 have H : ((slices_Clone_api_Entry_api_Entry.f l0_3).bind fun t143=>(some (a0_0,a0_1,a0_2,t143)))=some (r1,r2,r3,r4):=h
 clear h;replace H:=Option.bind_eq_some_iff.mp H;obtain ⟨t143,A20,H⟩:=H;replace H : (some (a0_0,a0_1,a0_2,t143))=some (r1,r2,r3,r4):=H;have A2:=A_ A20;clear A20
 simp only [Option.some.injEq,Prod.mk.injEq] at H
 obtain ⟨rfl,rfl,rfl,rfl⟩:=H;go_enter Tryd.func37,Tryd.ntmps37
 go_wp2_with (first|((with_reducible refine gate_dst (N:=1) rfl ?_);refine box_event ?hg (N:=1) ?hd (cs:=#[.int .i64 a0_0,.int .i64 a0_1,.int .i64 a0_2,.slice A0_3 l0_3.length c0_3]) (t:=26) ?hr ?_;(case hd=>rfl);(case hg=>rfl);(case hr=>first|(go_simp;done)|(go_simp;rfl));intro gb141 hg w3 hbox hb;have n0_:=A_ (bp_ (hb0_ HB.out) hb);have n1_:=A_ (hbox);have n2_:=A_ ((by rw [hg];exact (bz_ (hb0_ HB.out)) : w.heap.size≤gb141));have n3_:=n2_;clear HB;have HB:=n0_;have BK141:=n1_;have GW141:=n2_;have GE141:=n3_;clear n0_ n1_ n2_ n3_;clear hb hbox hg)|((with_reducible refine gate_dst (N:=2) rfl ?_);refine box_event ?hg (N:=2) ?hd (cs:=#[.int .i64 0,.int .i64 0,.int .i64 0,.slice none 0 0]) (t:=26) ?hr ?_;(case hd=>rfl);(case hg=>rfl);(case hr=>first|(go_simp;done)|(go_simp;rfl));intro gb142 hg w4 hbox hb;have n0_:=A_ (bx_ BK141.out kf_ hb);have n1_:=A_ (bp_ (hb1_ HB.out GE141.out) hb);have n2_:=A_ (hbox);have n3_:=A_ ((by rw [hg];exact (bz_ (hb1_ HB.out GE141.out)) : w.heap.size≤gb142));have n4_:=n3_;have n5_:=A_ ((by rw [hg];exact Nat.ne_of_lt (bl_ BK141.out kf_) : gb141≠gb142));have n6_:=A_ (Ne.symm n5_.out);clear BK141;clear HB;have BK141:=n0_;have HB:=n1_;have BK142:=n2_;have GW142:=n3_;have GE142:=n4_;have NB141_142:=n5_;have NB142_141:=n6_;clear n0_ n1_ n2_ n3_ n4_ n5_ n6_;clear hb hbox hg;have hnb5:=NB141_142.out;have hnc5:=NB142_141.out;obtain ⟨z6_0,z6_1,z6_2,z6_3⟩:=blkc_4 BK141.out;obtain ⟨y6_0,y6_1,y6_2⟩:=blkz_3 BK141.out;have y6_3:=bf_ BK141.out 3)|((with_reducible refine gate_callee (f:=54) rfl ?_);refine goesL_ (some 5) rfl rfl Tryd.func54 (by kernel_rfl) rfl #[.slice A0_3 l0_3.length c0_3] rfl (by (try simp only [List.map_toArray,List.map_cons,List.map_nil]);first|done|rfl|(simp only [List.length_drop,List.length_take];rfl)) ?_;(with_reducible refine (slices_Clone_api_Entry_api_Entry.calls _ _ l0_3 t143 _ ?side1 ?side2 A2.out).mono ?_);(case side1=>repeat (first|exact (Kd.C_below HR0_3.out HB.out)|(with_reducible refine Kd.C_alloc ?_ _)|(with_reducible refine Kd.C_drewN ?_ _)|(with_reducible refine Kd.C_drew ?_)));(case side2=>exact HC0_3.out);rintro e w7 ⟨v144,rfl,ho0,hb⟩;refine ⟨_,rfl,?_⟩;have n0_:=A_ (Kd.R_lower ho0 (bz_ (hb2_ HB.out GE141.out GE142.out)));have n1_:=A_ (bx_ BK141.out kf_ hb);have n2_:=A_ (bx_ BK142.out kf_ hb);have n3_:=A_ (bp_ (hb2_ HB.out GE141.out GE142.out) hb);clear BK141;clear BK142;clear HB;have HO145:=n0_;have BK141:=n1_;have BK142:=n2_;have HB:=n3_;clear n0_ n1_ n2_ n3_;(try clear hb);(try clear hb2);(try clear hk);(try clear hi);(try clear ho0);obtain ⟨Ao8,co8,eo8⟩:=Kd.R_slice HO145.out;subst eo8;obtain ⟨z9_0,z9_1,z9_2,z9_3⟩:=blkc_4 BK141.out;obtain ⟨y9_0,y9_1,y9_2,y9_3⟩:=blkz_4 BK141.out;obtain ⟨z10_0,z10_1,z10_2,z10_3⟩:=blkc_4 BK142.out;obtain ⟨y10_0,y10_1,y10_2⟩:=blkz_3 BK142.out;have y10_3:=bf_ BK142.out 3))
 refine bodyPost_ret (results_cell_row rfl _ _ gb142 26 #[.int .i64 a0_0,.int .i64 a0_1,.int .i64 a0_2,.slice Ao8 t143.length co8] (0,0) _ rfl (by refine kk_ ?_;apply blkf_4_0_3;refine kk_ ?_;refine blk_far ?_ NB142_141.out _;exact kk_ BK142.out) Tryd.underlying26 rfl (by kernel_rfl)) rfl ?_
 exact ⟨_,by first|rfl|(simp [errW_none,errW_some] <;> rfl)|(simp [*,errW_none,errW_some] <;> rfl),by (with_reducible repeat (first|apply ra_|apply rn_|apply re_));exact Kd.R_mono (rf_ (p:=⟨gb142,3,none⟩) (rf_ (p:=⟨gb142,2,none⟩) (rf_ (p:=⟨gb142,1,none⟩) (rf_ (p:=⟨gb142,0,none⟩) (rf_ (p:=⟨gb141,3,none⟩) (Kd.R_types (Kd.R_types HO145.out BK141.out (by decide)) BK142.out (by decide)) (fun _ hk=>hk.1.2) (.slice Ao8 t143.length co8)) (fun _ hk=>hk.2) (.int .i64 a0_0)) (fun _ hk=>hk.2) (.int .i64 a0_1)) (fun _ hk=>hk.2) (.int .i64 a0_2)) (fun _ hk=>hk.2) (.slice Ao8 t143.length co8)) (fun _ hk=>trivial),hb2_ HB.out GE141.out GE142.out⟩
def table_Enter.f (k : Nat) (a0_0 : Int) (a0_1 : Int) (a0_2 : Int) (l0_3 : List (S56)) (a1 : Int) : Option (Int × Int × Int × (List (S56)) × Int × Int):=(table_Check.f k a0_0 a0_1 a0_2 l0_3).bind fun t148=>(if t148=0 then ((slices_Index_api_Entry_api_Entry.f k l0_3 0 0 0 0).bind fun t149=>((table_own.f a0_0 a0_1 a0_2 l0_3).bind fun bt150=>((table_in.f a1 1 2147483646).bind fun t156=>(if t156=true then ((table_Find.f k bt150.1 bt150.2.1 bt150.2.2.1 bt150.2.2.2 a1).bind fun t157=>(if t157 ≥ 0 then (some (bt150.1,bt150.2.1,bt150.2.2.1,bt150.2.2.2,(-1),2)) else (if t149<0 then (some (bt150.1,bt150.2.1,bt150.2.2.1,bt150.2.2.2,(-1),12)) else (if 0≤t149 then (if t149<(bt150.2.2.2.length : Int) then (some (mx bt150.1 (wrap64 (a1 + 1)),bt150.2.1,bt150.2.2.1,(bt150.2.2.2.set (t149 : Int).toNat (⟨a1,1,0,0⟩ : S56)),t149,0)) else (none)) else (none))))) else (some (bt150.1,bt150.2.1,bt150.2.2.1,bt150.2.2.2,(-1),1)))))) else (some (0,0,0,([] : List (S56)),(-1),t148)))
theorem table_Enter.mono : ∀ a0 a1 a2 a3 a4 k,LeO (table_Enter.f k a0 a1 a2 a3 a4) (table_Enter.f (k + 1) a0 a1 a2 a3 a4):=by
 intro a0 a1 a2 a3 a4 k
 unfold table_Enter.f
 repeat' first
   | (with_reducible exact slices_Index_api_Entry_api_Entry.mono _ _ _ _ _ _)
   | (with_reducible exact table_Check.mono _ _ _ _ _)
   | (with_reducible exact table_Find.mono _ _ _ _ _ _)
   | (with_reducible exact LeO.refl _)
   | (with_reducible exact LeO.none _)
   | (with_reducible refine LeO.ite ?_ ?_)
   | (with_reducible refine LeO.bind ?_ (fun _=>?_))
   | exact slices_Index_api_Entry_api_Entry.mono _ _ _ _ _ _
   | exact table_Check.mono _ _ _ _ _
   | exact table_Find.mono _ _ _ _ _ _
   | exact LeO.none _
   | refine LeO.ite ?_ ?_
   | refine LeO.bind ?_ (fun _=>?_)
set_option maxHeartbeats 8000000 in
set_option maxRecDepth 100000 in
theorem table_Enter.calls (k : Nat) (a0_0 : Int) (a0_1 : Int) (a0_2 : Int) (A0_3 : Option Addr) (c0_3 : Nat) (l0_3 : List (S56)) (a1 : Int) (r1 : Int) (r2 : Int) (r3 : Int) (r4 : List (S56)) (r5 : Int) (r6 : Int) (w : World) (hr0_3 : Kd.C k56 w A0_3 l0_3.length l0_3) (hc0_3 : l0_3.length≤c0_3) (h : table_Enter.f k a0_0 a0_1 a0_2 l0_3 a1=some (r1,r2,r3,r4,r5,r6)) :
  Calls Tryd.prog 18 #[.agg #[.int .i64 a0_0,.int .i64 a0_1,.int .i64 a0_2,.slice A0_3 l0_3.length c0_3],.int .i64 a1] w fun e w'=>∃ v3_ : Value,e=.returned (.tuple #[.agg #[.int .i64 r1,.int .i64 r2,.int .i64 r3,v3_],.int .i64 r5,.int .i64 r6])∧Kd.R k56 56 w' w.heap.size (fun _=>True) v3_ r4∧Below w.heap.size w w':=by
 have hu26:=Tryd.underlying26;have hu56:=Tryd.underlying56;have HR0_3:=A_ hr0_3;have HC0_3:=A_ hc0_3;clear hr0_3 hc0_3;have HB:=A_ (Below.refl w.heap.size w)
 have H : ((table_Check.f k a0_0 a0_1 a0_2 l0_3).bind fun t148=>(if t148=0 then ((slices_Index_api_Entry_api_Entry.f k l0_3 0 0 0 0).bind fun t149=>((table_own.f a0_0 a0_1 a0_2 l0_3).bind fun bt150=>((table_in.f a1 1 2147483646).bind fun t156=>(if t156=true then ((table_Find.f k bt150.1 bt150.2.1 bt150.2.2.1 bt150.2.2.2 a1).bind fun t157=>(if t157 ≥ 0 then (some (bt150.1,bt150.2.1,bt150.2.2.1,bt150.2.2.2,(-1),2)) else (if t149<0 then (some (bt150.1,bt150.2.1,bt150.2.2.1,bt150.2.2.2,(-1),12)) else (if 0≤t149 then (if t149<(bt150.2.2.2.length : Int) then (some (mx bt150.1 (wrap64 (a1 + 1)),bt150.2.1,bt150.2.2.1,(bt150.2.2.2.set (t149 : Int).toNat (⟨a1,1,0,0⟩ : S56)),t149,0)) else (none)) else (none))))) else (some (bt150.1,bt150.2.1,bt150.2.2.1,bt150.2.2.2,(-1),1)))))) else (some (0,0,0,([] : List (S56)),(-1),t148))))=some (r1,r2,r3,r4,r5,r6):=h
 clear h;replace H:=Option.bind_eq_some_iff.mp H;obtain ⟨t148,A30,H⟩:=H
 replace H : (if t148=0 then ((slices_Index_api_Entry_api_Entry.f k l0_3 0 0 0 0).bind fun t149=>((table_own.f a0_0 a0_1 a0_2 l0_3).bind fun bt150=>((table_in.f a1 1 2147483646).bind fun t156=>(if t156=true then ((table_Find.f k bt150.1 bt150.2.1 bt150.2.2.1 bt150.2.2.2 a1).bind fun t157=>(if t157 ≥ 0 then (some (bt150.1,bt150.2.1,bt150.2.2.1,bt150.2.2.2,(-1),2)) else (if t149<0 then (some (bt150.1,bt150.2.1,bt150.2.2.1,bt150.2.2.2,(-1),12)) else (if 0≤t149 then (if t149<(bt150.2.2.2.length : Int) then (some (mx bt150.1 (wrap64 (a1 + 1)),bt150.2.1,bt150.2.2.1,(bt150.2.2.2.set (t149 : Int).toNat (⟨a1,1,0,0⟩ : S56)),t149,0)) else (none)) else (none))))) else (some (bt150.1,bt150.2.1,bt150.2.2.1,bt150.2.2.2,(-1),1)))))) else (some (0,0,0,([] : List (S56)),(-1),t148)))=some (r1,r2,r3,r4,r5,r6):=H
 have A3:=A_ A30;clear A30
 by_cases c4 : t148=0
 rotate_left
 ·rw [if_neg c4] at H
  have c4b0 : (t148 == 0)=false:=beq_eq_false_iff_ne.mpr c4;have c4b1 : (t148 != 0)=true:=bne_iff_ne.mpr c4
  simp only [Option.some.injEq,Prod.mk.injEq] at H
  obtain ⟨rfl,rfl,rfl,rfl,rfl,rfl⟩:=H;go_enter Tryd.func18,Tryd.ntmps18
  go_wp2_with (first|((with_reducible refine gate_dst (N:=2) rfl ?_);refine box_event ?hg (N:=2) ?hd (cs:=#[.int .i64 a0_0,.int .i64 a0_1,.int .i64 a0_2,.slice A0_3 l0_3.length c0_3]) (t:=26) ?hr ?_;(case hd=>rfl);(case hg=>rfl);(case hr=>first|(go_simp;done)|(go_simp;rfl));intro gb146 hg w73 hbox hb;have n0_:=A_ (bp_ (hb0_ HB.out) hb);have n1_:=A_ (hbox);have n2_:=A_ ((by rw [hg];exact (bz_ (hb0_ HB.out)) : w.heap.size≤gb146));have n3_:=n2_;clear HB;have HB:=n0_;have BK146:=n1_;have GW146:=n2_;have GE146:=n3_;clear n0_ n1_ n2_ n3_;clear hb hbox hg)|((with_reducible refine gate_dst (N:=4) rfl ?_);refine box_event ?hg (N:=4) ?hd (cs:=#[.int .i64 0,.int .i64 0,.int .i64 0,.slice none 0 0]) (t:=26) ?hr ?_;(case hd=>rfl);(case hg=>rfl);(case hr=>first|(go_simp;done)|(go_simp;rfl));intro gb147 hg w74 hbox hb;have n0_:=A_ (bx_ BK146.out kf_ hb);have n1_:=A_ (bp_ (hb1_ HB.out GE146.out) hb);have n2_:=A_ (hbox);have n3_:=A_ ((by rw [hg];exact (bz_ (hb1_ HB.out GE146.out)) : w.heap.size≤gb147));have n4_:=n3_;have n5_:=A_ ((by rw [hg];exact Nat.ne_of_lt (bl_ BK146.out kf_) : gb146≠gb147));have n6_:=A_ (Ne.symm n5_.out);clear BK146;clear HB;have BK146:=n0_;have HB:=n1_;have BK147:=n2_;have GW147:=n3_;have GE147:=n4_;have NB146_147:=n5_;have NB147_146:=n6_;clear n0_ n1_ n2_ n3_ n4_ n5_ n6_;clear hb hbox hg;have hnb75:=NB146_147.out;have hnc75:=NB147_146.out;obtain ⟨z76_0,z76_1,z76_2,z76_3⟩:=blkc_4 BK146.out;obtain ⟨y76_0,y76_1,y76_2⟩:=blkz_3 BK146.out;have y76_3:=bf_ BK146.out 3)|((with_reducible refine gate_callee (f:=13) rfl ?_);refine goesL_ (some 10) rfl rfl Tryd.func13 (by kernel_rfl) rfl #[.agg #[.int .i64 a0_0,.int .i64 a0_1,.int .i64 a0_2,.slice A0_3 l0_3.length c0_3]] rfl (by (try simp only [List.map_toArray,List.map_cons,List.map_nil]);first|done|rfl|(simp only [List.length_drop,List.length_take];rfl)) ?_;(with_reducible refine (table_Check.calls k a0_0 a0_1 a0_2 _ _ l0_3 t148 _ ?side1 ?side2 A3.out).mono ?_);(case side1=>repeat (first|exact (Kd.C_below HR0_3.out HB.out)|(with_reducible refine Kd.C_alloc ?_ _)|(with_reducible refine Kd.C_drewN ?_ _)|(with_reducible refine Kd.C_drew ?_)));(case side2=>exact HC0_3.out);rintro e w77 ⟨rfl,hb⟩;refine ⟨_,rfl,?_⟩;have n0_:=A_ (bx_ BK146.out kf_ hb);have n1_:=A_ (bx_ BK147.out kf_ hb);have n2_:=A_ (bp_ (hb2_ HB.out GE146.out GE147.out) hb);clear BK146;clear BK147;clear HB;have BK146:=n0_;have BK147:=n1_;have HB:=n2_;clear n0_ n1_ n2_;(try clear hb);(try clear hb2);(try clear hk);(try clear hi);obtain ⟨z78_0,z78_1,z78_2,z78_3⟩:=blkc_4 BK147.out;obtain ⟨y78_0,y78_1,y78_2⟩:=blkz_3 BK147.out;have y78_3:=bf_ BK147.out 3))
  refine bodyPost_ret (results_ctt rfl _ _ gb147 26 #[.int .i64 0,.int .i64 0,.int .i64 0,.slice none 0 0] (0,0) _ rfl (by refine kk_ ?_;apply blkf_4_0_3;exact kk_ BK147.out) Tryd.underlying26 rfl (by kernel_rfl)) rfl ?_
  exact ⟨_,by first|rfl|(simp [errW_none,errW_some] <;> rfl)|(simp [*,errW_none,errW_some] <;> rfl),by first|exact Kd.R_nil _ _ _ _ _|exact Kd.N_nil _ _ _ _ _|exact Kd.V_nil _ _ _ _ _|exact Kd.Q_nil _ _ _ _ _|exact Kd.S_nil _ _ _ _ _,hb2_ HB.out GE146.out GE147.out⟩
 rw [if_pos c4] at H
 have c4b0 : (t148 == 0)=true:=beq_iff_eq.mpr c4;have c4b1 : (t148 != 0)=false:=bne_eq_false_iff_eq.mpr c4;clear c4;replace H:=Option.bind_eq_some_iff.mp H;obtain ⟨t149,A50,H⟩:=H
 replace H : ((table_own.f a0_0 a0_1 a0_2 l0_3).bind fun bt150=>((table_in.f a1 1 2147483646).bind fun t156=>(if t156=true then ((table_Find.f k bt150.1 bt150.2.1 bt150.2.2.1 bt150.2.2.2 a1).bind fun t157=>(if t157 ≥ 0 then (some (bt150.1,bt150.2.1,bt150.2.2.1,bt150.2.2.2,(-1),2)) else (if t149<0 then (some (bt150.1,bt150.2.1,bt150.2.2.1,bt150.2.2.2,(-1),12)) else (if 0≤t149 then (if t149<(bt150.2.2.2.length : Int) then (some (mx bt150.1 (wrap64 (a1 + 1)),bt150.2.1,bt150.2.2.1,(bt150.2.2.2.set (t149 : Int).toNat (⟨a1,1,0,0⟩ : S56)),t149,0)) else (none)) else (none))))) else (some (bt150.1,bt150.2.1,bt150.2.2.1,bt150.2.2.2,(-1),1)))))=some (r1,r2,r3,r4,r5,r6):=H
 have A5:=A_ A50;clear A50;replace H:=Option.bind_eq_some_iff.mp H;obtain ⟨⟨t150,t151,t152,t153⟩,A60,H⟩:=H
 replace H : ((table_in.f a1 1 2147483646).bind fun t156=>(if t156=true then ((table_Find.f k t150 t151 t152 t153 a1).bind fun t157=>(if t157 ≥ 0 then (some (t150,t151,t152,t153,(-1),2)) else (if t149<0 then (some (t150,t151,t152,t153,(-1),12)) else (if 0≤t149 then (if t149<(t153.length : Int) then (some (mx t150 (wrap64 (a1 + 1)),t151,t152,(t153.set (t149 : Int).toNat (⟨a1,1,0,0⟩ : S56)),t149,0)) else (none)) else (none))))) else (some (t150,t151,t152,t153,(-1),1))))=some (r1,r2,r3,r4,r5,r6):=H
 have A6:=A_ A60;clear A60;replace H:=Option.bind_eq_some_iff.mp H;obtain ⟨t156,A70,H⟩:=H
 replace H : (if t156=true then ((table_Find.f k t150 t151 t152 t153 a1).bind fun t157=>(if t157 ≥ 0 then (some (t150,t151,t152,t153,(-1),2)) else (if t149<0 then (some (t150,t151,t152,t153,(-1),12)) else (if 0≤t149 then (if t149<(t153.length : Int) then (some (mx t150 (wrap64 (a1 + 1)),t151,t152,(t153.set (t149 : Int).toNat (⟨a1,1,0,0⟩ : S56)),t149,0)) else (none)) else (none))))) else (some (t150,t151,t152,t153,(-1),1)))=some (r1,r2,r3,r4,r5,r6):=H
 have A7:=A_ A70;clear A70
 by_cases c8 : t156=true
 rotate_left
 ·replace c8:=Bool.eq_false_iff.mpr c8
  subst c8
  have H1 : (some (t150,t151,t152,t153,(-1),1))=some (r1,r2,r3,r4,r5,r6):=by rw [if_neg (show ¬ (false=true) by decide)] at H;exact H
  clear H;have H:=H1;clear H1
  simp only [Option.some.injEq,Prod.mk.injEq] at H
  obtain ⟨rfl,rfl,rfl,rfl,rfl,rfl⟩:=H;go_enter Tryd.func18,Tryd.ntmps18
  go_wp2_with (first|((with_reducible refine gate_dst (N:=2) rfl ?_);refine box_event ?hg (N:=2) ?hd (cs:=#[.int .i64 a0_0,.int .i64 a0_1,.int .i64 a0_2,.slice A0_3 l0_3.length c0_3]) (t:=26) ?hr ?_;(case hd=>rfl);(case hg=>rfl);(case hr=>first|(go_simp;done)|(go_simp;rfl));intro gb146 hg w61 hbox hb;have n0_:=A_ (bp_ (hb0_ HB.out) hb);have n1_:=A_ (hbox);have n2_:=A_ ((by rw [hg];exact (bz_ (hb0_ HB.out)) : w.heap.size≤gb146));have n3_:=n2_;clear HB;have HB:=n0_;have BK146:=n1_;have GW146:=n2_;have GE146:=n3_;clear n0_ n1_ n2_ n3_;clear hb hbox hg)|((with_reducible refine gate_dst (N:=4) rfl ?_);refine box_event ?hg (N:=4) ?hd (cs:=#[.int .i64 0,.int .i64 0,.int .i64 0,.slice none 0 0]) (t:=26) ?hr ?_;(case hd=>rfl);(case hg=>rfl);(case hr=>first|(go_simp;done)|(go_simp;rfl));intro gb147 hg w62 hbox hb;have n0_:=A_ (bx_ BK146.out kf_ hb);have n1_:=A_ (bp_ (hb1_ HB.out GE146.out) hb);have n2_:=A_ (hbox);have n3_:=A_ ((by rw [hg];exact (bz_ (hb1_ HB.out GE146.out)) : w.heap.size≤gb147));have n4_:=n3_;have n5_:=A_ ((by rw [hg];exact Nat.ne_of_lt (bl_ BK146.out kf_) : gb146≠gb147));have n6_:=A_ (Ne.symm n5_.out);clear BK146;clear HB;have BK146:=n0_;have HB:=n1_;have BK147:=n2_;have GW147:=n3_;have GE147:=n4_;have NB146_147:=n5_;have NB147_146:=n6_;clear n0_ n1_ n2_ n3_ n4_ n5_ n6_;clear hb hbox hg;have hnb63:=NB146_147.out;have hnc63:=NB147_146.out;obtain ⟨z64_0,z64_1,z64_2,z64_3⟩:=blkc_4 BK146.out;obtain ⟨y64_0,y64_1,y64_2⟩:=blkz_3 BK146.out;have y64_3:=bf_ BK146.out 3)|((with_reducible refine gate_callee (f:=13) rfl ?_);refine goesL_ (some 10) rfl rfl Tryd.func13 (by kernel_rfl) rfl #[.agg #[.int .i64 a0_0,.int .i64 a0_1,.int .i64 a0_2,.slice A0_3 l0_3.length c0_3]] rfl (by (try simp only [List.map_toArray,List.map_cons,List.map_nil]);first|done|rfl|(simp only [List.length_drop,List.length_take];rfl)) ?_;(with_reducible refine (table_Check.calls k a0_0 a0_1 a0_2 _ _ l0_3 t148 _ ?side1 ?side2 A3.out).mono ?_);(case side1=>repeat (first|exact (Kd.C_below HR0_3.out HB.out)|(with_reducible refine Kd.C_alloc ?_ _)|(with_reducible refine Kd.C_drewN ?_ _)|(with_reducible refine Kd.C_drew ?_)));(case side2=>exact HC0_3.out);rintro e w65 ⟨rfl,hb⟩;refine ⟨_,rfl,?_⟩;have n0_:=A_ (bx_ BK146.out kf_ hb);have n1_:=A_ (bx_ BK147.out kf_ hb);have n2_:=A_ (bp_ (hb2_ HB.out GE146.out GE147.out) hb);clear BK146;clear BK147;clear HB;have BK146:=n0_;have BK147:=n1_;have HB:=n2_;clear n0_ n1_ n2_;(try clear hb);(try clear hb2);(try clear hk);(try clear hi);obtain ⟨z66_0,z66_1,z66_2,z66_3⟩:=blkc_4 BK146.out;obtain ⟨y66_0,y66_1,y66_2⟩:=blkz_3 BK146.out;have y66_3:=bf_ BK146.out 3)|((with_reducible refine gate_callee (f:=36) rfl ?_);refine goesL_ (some 18) rfl rfl Tryd.func36 (by kernel_rfl) rfl #[.slice A0_3 l0_3.length c0_3,.agg #[.int .i64 0,.int .i64 0,.int .i64 0,.int .i64 0]] rfl (by (try simp only [List.map_toArray,List.map_cons,List.map_nil]);first|done|rfl|(simp only [List.length_drop,List.length_take];rfl)) ?_;(with_reducible refine (slices_Index_api_Entry_api_Entry.calls k _ _ l0_3 0 0 0 0 t149 _ ?side1 ?side2 A5.out).mono ?_);(case side1=>repeat (first|exact (Kd.C_below HR0_3.out HB.out)|(with_reducible refine Kd.C_alloc ?_ _)|(with_reducible refine Kd.C_drewN ?_ _)|(with_reducible refine Kd.C_drew ?_)));(case side2=>exact HC0_3.out);rintro e w67 ⟨rfl,hb⟩;refine ⟨_,rfl,?_⟩;have n0_:=A_ (bx_ BK146.out kf_ hb);have n1_:=A_ (bx_ BK147.out kf_ hb);have n2_:=A_ (bp_ (hb2_ HB.out GE146.out GE147.out) hb);clear BK146;clear BK147;clear HB;have BK146:=n0_;have BK147:=n1_;have HB:=n2_;clear n0_ n1_ n2_;(try clear hb);(try clear hb2);(try clear hk);(try clear hi);obtain ⟨z68_0,z68_1,z68_2,z68_3⟩:=blkc_4 BK146.out;obtain ⟨y68_0,y68_1,y68_2⟩:=blkz_3 BK146.out;have y68_3:=bf_ BK146.out 3)|((with_reducible refine gate_callee (f:=37) rfl ?_);refine goesL_ (some 20) rfl rfl Tryd.func37 (by kernel_rfl) rfl #[.agg #[.int .i64 a0_0,.int .i64 a0_1,.int .i64 a0_2,.slice A0_3 l0_3.length c0_3]] rfl (by (try simp only [List.map_toArray,List.map_cons,List.map_nil]);first|done|rfl|(simp only [List.length_drop,List.length_take];rfl)) ?_;(with_reducible refine (table_own.calls a0_0 a0_1 a0_2 _ _ l0_3 t150 t151 t152 t153 _ ?side1 ?side2 A6.out).mono ?_);(case side1=>repeat (first|exact (Kd.C_below HR0_3.out HB.out)|(with_reducible refine Kd.C_alloc ?_ _)|(with_reducible refine Kd.C_drewN ?_ _)|(with_reducible refine Kd.C_drew ?_)));(case side2=>exact HC0_3.out);rintro e w69 ⟨v154,rfl,ho0,hb⟩;refine ⟨_,rfl,?_⟩;have n0_:=A_ (Kd.R_lower ho0 (bz_ (hb2_ HB.out GE146.out GE147.out)));have n1_:=A_ (bx_ BK146.out kf_ hb);have n2_:=A_ (bx_ BK147.out kf_ hb);have n3_:=A_ (bp_ (hb2_ HB.out GE146.out GE147.out) hb);clear BK146;clear BK147;clear HB;have HO155:=n0_;have BK146:=n1_;have BK147:=n2_;have HB:=n3_;clear n0_ n1_ n2_ n3_;(try clear hb);(try clear hb2);(try clear hk);(try clear hi);(try clear ho0);obtain ⟨z70_0,z70_1,z70_2,z70_3⟩:=blkc_4 BK146.out;obtain ⟨y70_0,y70_1,y70_2,y70_3⟩:=blkz_4 BK146.out;obtain ⟨Ao71,co71,eo71⟩:=Kd.R_slice HO155.out;subst eo71)|((with_reducible refine gate_callee (f:=29) rfl ?_);refine goesL_ (some 23) rfl rfl Tryd.func29 (by kernel_rfl) rfl #[.int .i64 a1,.int .i64 1,.int .i64 2147483646] rfl (by (try simp only [List.map_toArray,List.map_cons,List.map_nil]);first|done|rfl|(simp only [List.length_drop,List.length_take];rfl)) ?_;(with_reducible refine (table_in.calls a1 1 2147483646 false _ A7.out).mono ?_);rintro e w' ⟨rfl,⟨nd,rfl⟩⟩;refine ⟨_,rfl,?_⟩;obtain ⟨z72_0,z72_1,z72_2,z72_3⟩:=blkc_4 BK147.out;obtain ⟨y72_0,y72_1,y72_2⟩:=blkz_3 BK147.out;have y72_3:=bf_ BK147.out 3))
  refine bodyPost_ret (results_ctt rfl _ _ gb147 26 #[.int .i64 t150,.int .i64 t151,.int .i64 t152,.slice Ao71 t153.length co71] (0,0) _ rfl (by refine kk_ ?_;apply blkf_4_0_3;refine kk_ ?_;refine blk_far ?_ NB147_146.out _;refine kk_ ?_;refine blk_far ?_ NB147_146.out _;refine kk_ ?_;refine blk_far ?_ NB147_146.out _;refine kk_ ?_;refine blk_far ?_ NB147_146.out _;exact kk_ BK147.out) Tryd.underlying26 rfl (by kernel_rfl)) rfl ?_
  exact ⟨_,by first|rfl|(simp [errW_none,errW_some] <;> rfl)|(simp [*,errW_none,errW_some] <;> rfl),by (with_reducible repeat (first|apply ra_|apply rn_|apply re_));exact Kd.R_mono (rf_ (p:=⟨gb147,3,none⟩) (rf_ (p:=⟨gb147,2,none⟩) (rf_ (p:=⟨gb147,1,none⟩) (rf_ (p:=⟨gb147,0,none⟩) (rf_ (p:=⟨gb146,3,none⟩) (rf_ (p:=⟨gb146,2,none⟩) (rf_ (p:=⟨gb146,1,none⟩) (rf_ (p:=⟨gb146,0,none⟩) (Kd.R_types (Kd.R_types HO155.out BK146.out (by decide)) BK147.out (by decide)) (fun _ hk=>hk.1.2) (.int .i64 t150)) (fun _ hk=>hk.1.2) (.int .i64 t151)) (fun _ hk=>hk.1.2) (.int .i64 t152)) (fun _ hk=>hk.1.2) (.slice Ao71 t153.length co71)) (fun _ hk=>hk.2) (.int .i64 t150)) (fun _ hk=>hk.2) (.int .i64 t151)) (fun _ hk=>hk.2) (.int .i64 t152)) (fun _ hk=>hk.2) (.slice Ao71 t153.length co71)) (fun _ hk=>trivial),hb2_ HB.out GE146.out GE147.out⟩
 subst c8
 have H1 : ((table_Find.f k t150 t151 t152 t153 a1).bind fun t157=>(if t157 ≥ 0 then (some (t150,t151,t152,t153,(-1),2)) else (if t149<0 then (some (t150,t151,t152,t153,(-1),12)) else (if 0≤t149 then (if t149<(t153.length : Int) then (some (mx t150 (wrap64 (a1 + 1)),t151,t152,(t153.set (t149 : Int).toNat (⟨a1,1,0,0⟩ : S56)),t149,0)) else (none)) else (none)))))=some (r1,r2,r3,r4,r5,r6):=by rw [if_pos rfl] at H;exact H
 clear H;have H:=H1;clear H1;replace H:=Option.bind_eq_some_iff.mp H;obtain ⟨t157,A90,H⟩:=H
 replace H : (if t157 ≥ 0 then (some (t150,t151,t152,t153,(-1),2)) else (if t149<0 then (some (t150,t151,t152,t153,(-1),12)) else (if 0≤t149 then (if t149<(t153.length : Int) then (some (mx t150 (wrap64 (a1 + 1)),t151,t152,(t153.set (t149 : Int).toNat (⟨a1,1,0,0⟩ : S56)),t149,0)) else (none)) else (none))))=some (r1,r2,r3,r4,r5,r6):=H
 have A9:=A_ A90;clear A90
 by_cases c10 : t157 ≥ 0
 ·rw [if_pos c10] at H
  have c10b0 : decide (0≤t157)=true:=dt_ c10;clear c10
  simp only [Option.some.injEq,Prod.mk.injEq] at H
  obtain ⟨rfl,rfl,rfl,rfl,rfl,rfl⟩:=H;go_enter Tryd.func18,Tryd.ntmps18
  go_wp2_with (first|((with_reducible refine gate_dst (N:=2) rfl ?_);refine box_event ?hg (N:=2) ?hd (cs:=#[.int .i64 a0_0,.int .i64 a0_1,.int .i64 a0_2,.slice A0_3 l0_3.length c0_3]) (t:=26) ?hr ?_;(case hd=>rfl);(case hg=>rfl);(case hr=>first|(go_simp;done)|(go_simp;rfl));intro gb146 hg w11 hbox hb;have n0_:=A_ (bp_ (hb0_ HB.out) hb);have n1_:=A_ (hbox);have n2_:=A_ ((by rw [hg];exact (bz_ (hb0_ HB.out)) : w.heap.size≤gb146));have n3_:=n2_;clear HB;have HB:=n0_;have BK146:=n1_;have GW146:=n2_;have GE146:=n3_;clear n0_ n1_ n2_ n3_;clear hb hbox hg)|((with_reducible refine gate_dst (N:=4) rfl ?_);refine box_event ?hg (N:=4) ?hd (cs:=#[.int .i64 0,.int .i64 0,.int .i64 0,.slice none 0 0]) (t:=26) ?hr ?_;(case hd=>rfl);(case hg=>rfl);(case hr=>first|(go_simp;done)|(go_simp;rfl));intro gb147 hg w12 hbox hb;have n0_:=A_ (bx_ BK146.out kf_ hb);have n1_:=A_ (bp_ (hb1_ HB.out GE146.out) hb);have n2_:=A_ (hbox);have n3_:=A_ ((by rw [hg];exact (bz_ (hb1_ HB.out GE146.out)) : w.heap.size≤gb147));have n4_:=n3_;have n5_:=A_ ((by rw [hg];exact Nat.ne_of_lt (bl_ BK146.out kf_) : gb146≠gb147));have n6_:=A_ (Ne.symm n5_.out);clear BK146;clear HB;have BK146:=n0_;have HB:=n1_;have BK147:=n2_;have GW147:=n3_;have GE147:=n4_;have NB146_147:=n5_;have NB147_146:=n6_;clear n0_ n1_ n2_ n3_ n4_ n5_ n6_;clear hb hbox hg;have hnb13:=NB146_147.out;have hnc13:=NB147_146.out;obtain ⟨z14_0,z14_1,z14_2,z14_3⟩:=blkc_4 BK146.out;obtain ⟨y14_0,y14_1,y14_2⟩:=blkz_3 BK146.out;have y14_3:=bf_ BK146.out 3)|((with_reducible refine gate_callee (f:=13) rfl ?_);refine goesL_ (some 10) rfl rfl Tryd.func13 (by kernel_rfl) rfl #[.agg #[.int .i64 a0_0,.int .i64 a0_1,.int .i64 a0_2,.slice A0_3 l0_3.length c0_3]] rfl (by (try simp only [List.map_toArray,List.map_cons,List.map_nil]);first|done|rfl|(simp only [List.length_drop,List.length_take];rfl)) ?_;(with_reducible refine (table_Check.calls k a0_0 a0_1 a0_2 _ _ l0_3 t148 _ ?side1 ?side2 A3.out).mono ?_);(case side1=>repeat (first|exact (Kd.C_below HR0_3.out HB.out)|(with_reducible refine Kd.C_alloc ?_ _)|(with_reducible refine Kd.C_drewN ?_ _)|(with_reducible refine Kd.C_drew ?_)));(case side2=>exact HC0_3.out);rintro e w15 ⟨rfl,hb⟩;refine ⟨_,rfl,?_⟩;have n0_:=A_ (bx_ BK146.out kf_ hb);have n1_:=A_ (bx_ BK147.out kf_ hb);have n2_:=A_ (bp_ (hb2_ HB.out GE146.out GE147.out) hb);clear BK146;clear BK147;clear HB;have BK146:=n0_;have BK147:=n1_;have HB:=n2_;clear n0_ n1_ n2_;(try clear hb);(try clear hb2);(try clear hk);(try clear hi);obtain ⟨z16_0,z16_1,z16_2,z16_3⟩:=blkc_4 BK146.out;obtain ⟨y16_0,y16_1,y16_2⟩:=blkz_3 BK146.out;have y16_3:=bf_ BK146.out 3)|((with_reducible refine gate_callee (f:=36) rfl ?_);refine goesL_ (some 18) rfl rfl Tryd.func36 (by kernel_rfl) rfl #[.slice A0_3 l0_3.length c0_3,.agg #[.int .i64 0,.int .i64 0,.int .i64 0,.int .i64 0]] rfl (by (try simp only [List.map_toArray,List.map_cons,List.map_nil]);first|done|rfl|(simp only [List.length_drop,List.length_take];rfl)) ?_;(with_reducible refine (slices_Index_api_Entry_api_Entry.calls k _ _ l0_3 0 0 0 0 t149 _ ?side1 ?side2 A5.out).mono ?_);(case side1=>repeat (first|exact (Kd.C_below HR0_3.out HB.out)|(with_reducible refine Kd.C_alloc ?_ _)|(with_reducible refine Kd.C_drewN ?_ _)|(with_reducible refine Kd.C_drew ?_)));(case side2=>exact HC0_3.out);rintro e w17 ⟨rfl,hb⟩;refine ⟨_,rfl,?_⟩;have n0_:=A_ (bx_ BK146.out kf_ hb);have n1_:=A_ (bx_ BK147.out kf_ hb);have n2_:=A_ (bp_ (hb2_ HB.out GE146.out GE147.out) hb);clear BK146;clear BK147;clear HB;have BK146:=n0_;have BK147:=n1_;have HB:=n2_;clear n0_ n1_ n2_;(try clear hb);(try clear hb2);(try clear hk);(try clear hi);obtain ⟨z18_0,z18_1,z18_2,z18_3⟩:=blkc_4 BK146.out;obtain ⟨y18_0,y18_1,y18_2⟩:=blkz_3 BK146.out;have y18_3:=bf_ BK146.out 3)|((with_reducible refine gate_callee (f:=37) rfl ?_);refine goesL_ (some 20) rfl rfl Tryd.func37 (by kernel_rfl) rfl #[.agg #[.int .i64 a0_0,.int .i64 a0_1,.int .i64 a0_2,.slice A0_3 l0_3.length c0_3]] rfl (by (try simp only [List.map_toArray,List.map_cons,List.map_nil]);first|done|rfl|(simp only [List.length_drop,List.length_take];rfl)) ?_;(with_reducible refine (table_own.calls a0_0 a0_1 a0_2 _ _ l0_3 t150 t151 t152 t153 _ ?side1 ?side2 A6.out).mono ?_);(case side1=>repeat (first|exact (Kd.C_below HR0_3.out HB.out)|(with_reducible refine Kd.C_alloc ?_ _)|(with_reducible refine Kd.C_drewN ?_ _)|(with_reducible refine Kd.C_drew ?_)));(case side2=>exact HC0_3.out);rintro e w19 ⟨v154,rfl,ho0,hb⟩;refine ⟨_,rfl,?_⟩;have n0_:=A_ (Kd.R_lower ho0 (bz_ (hb2_ HB.out GE146.out GE147.out)));have n1_:=A_ (bx_ BK146.out kf_ hb);have n2_:=A_ (bx_ BK147.out kf_ hb);have n3_:=A_ (bp_ (hb2_ HB.out GE146.out GE147.out) hb);clear BK146;clear BK147;clear HB;have HO155:=n0_;have BK146:=n1_;have BK147:=n2_;have HB:=n3_;clear n0_ n1_ n2_ n3_;(try clear hb);(try clear hb2);(try clear hk);(try clear hi);(try clear ho0);obtain ⟨z20_0,z20_1,z20_2,z20_3⟩:=blkc_4 BK146.out;obtain ⟨y20_0,y20_1,y20_2,y20_3⟩:=blkz_4 BK146.out;obtain ⟨Ao21,co21,eo21⟩:=Kd.R_slice HO155.out;subst eo21)|((with_reducible refine gate_callee (f:=29) rfl ?_);refine goesL_ (some 23) rfl rfl Tryd.func29 (by kernel_rfl) rfl #[.int .i64 a1,.int .i64 1,.int .i64 2147483646] rfl (by (try simp only [List.map_toArray,List.map_cons,List.map_nil]);first|done|rfl|(simp only [List.length_drop,List.length_take];rfl)) ?_;(with_reducible refine (table_in.calls a1 1 2147483646 true _ A7.out).mono ?_);rintro e w' ⟨rfl,⟨nd,rfl⟩⟩;refine ⟨_,rfl,?_⟩)|((with_reducible refine gate_callee (f:=16) rfl ?_);refine goesL_ (some 29) rfl rfl Tryd.func16 (by kernel_rfl) rfl #[.agg #[.int .i64 t150,.int .i64 t151,.int .i64 t152,.slice Ao21 t153.length co21],.int .i64 a1] rfl (by (try simp only [List.map_toArray,List.map_cons,List.map_nil]);first|done|rfl|(simp only [List.length_drop,List.length_take];rfl)) ?_;(with_reducible refine (table_Find.calls k t150 t151 t152 _ _ t153 a1 t157 _ ?side1 ?side2 A9.out).mono ?_);(case side1=>refine (Kd.R_reads' (e:=56) (base:=w.heap.size) (ok:=fun k_=>True) (n:=t153.length) (c:=co21) ?_).2.2;exact (by (with_reducible repeat (first|apply ra_|apply rn_|apply re_));exact (Kd.R_mono (rf_ (p:=⟨gb146,3,none⟩) (rf_ (p:=⟨gb146,2,none⟩) (rf_ (p:=⟨gb146,1,none⟩) (rf_ (p:=⟨gb146,0,none⟩) (Kd.R_types HO155.out BK146.out (by decide)) (fun _ hk=>hk.2) (.int .i64 t150)) (fun _ hk=>hk.2) (.int .i64 t151)) (fun _ hk=>hk.2) (.int .i64 t152)) (fun _ hk=>hk.2) (.slice Ao21 t153.length co21)) (fun _ h_=>h_.1))));(case side2=>exact (Kd.R_reads' HO155.out).2.1);rintro e w22 ⟨rfl,hb⟩;refine ⟨_,rfl,?_⟩;have n0_:=A_ (Kd.R_below (by (with_reducible repeat (first|apply ra_|apply rn_|apply re_));exact (Kd.R_mono (rf_ (p:=⟨gb146,3,none⟩) (rf_ (p:=⟨gb146,2,none⟩) (rf_ (p:=⟨gb146,1,none⟩) (rf_ (p:=⟨gb146,0,none⟩) (Kd.R_types HO155.out BK146.out (by decide)) (fun _ hk=>hk.2) (.int .i64 t150)) (fun _ hk=>hk.2) (.int .i64 t151)) (fun _ hk=>hk.2) (.int .i64 t152)) (fun _ hk=>hk.2) (.slice Ao21 t153.length co21)) (fun _ h_=>h_.1))) hb);have n1_:=A_ (bb_ (g:=gb146) (o:=.cells #[.int .i64 t150,.int .i64 t151,.int .i64 t152,.slice Ao21 t153.length co21] 26 (0,0)) (by refine kk_ ?_;apply blkf_4_0_3;exact kk_ BK146.out) hb);have n2_:=A_ (bb_ (g:=gb147) (o:=.cells #[.int .i64 0,.int .i64 0,.int .i64 0,.slice none 0 0] 26 (0,0)) (by refine kk_ ?_;refine blk_far ?_ NB147_146.out _;refine kk_ ?_;refine blk_far ?_ NB147_146.out _;refine kk_ ?_;refine blk_far ?_ NB147_146.out _;refine kk_ ?_;refine blk_far ?_ NB147_146.out _;exact kk_ BK147.out) hb);have n3_:=A_ (bp_ (hb2_ HB.out GE146.out GE147.out) hb);clear HO155;clear BK146;clear BK147;clear HB;have HO155:=n0_;have BK146:=n1_;have BK147:=n2_;have HB:=n3_;clear n0_ n1_ n2_ n3_;(try clear hb);(try clear hb2);(try clear hk);(try clear hi);obtain ⟨z23_0,z23_1,z23_2,z23_3⟩:=blkc_4 BK146.out;obtain ⟨y23_0,y23_1,y23_2,y23_3⟩:=blkz_4 BK146.out;obtain ⟨z24_0,z24_1,z24_2,z24_3⟩:=blkc_4 BK147.out;obtain ⟨y24_0,y24_1,y24_2⟩:=blkz_3 BK147.out;have y24_3:=bf_ BK147.out 3))
  refine bodyPost_ret (results_ctt rfl _ _ gb147 26 #[.int .i64 t150,.int .i64 t151,.int .i64 t152,.slice Ao21 t153.length co21] (0,0) _ rfl (by refine kk_ ?_;apply blkf_4_0_3;exact kk_ BK147.out) Tryd.underlying26 rfl (by kernel_rfl)) rfl ?_
  exact ⟨_,by first|rfl|(simp [errW_none,errW_some] <;> rfl)|(simp [*,errW_none,errW_some] <;> rfl),by (with_reducible repeat (first|apply ra_|apply rn_|apply re_));exact Kd.R_mono (rf_ (p:=⟨gb147,3,none⟩) (rf_ (p:=⟨gb147,2,none⟩) (rf_ (p:=⟨gb147,1,none⟩) (rf_ (p:=⟨gb147,0,none⟩) (Kd.R_types HO155.out BK147.out (by decide)) (fun _ hk=>hk.2) (.int .i64 t150)) (fun _ hk=>hk.2) (.int .i64 t151)) (fun _ hk=>hk.2) (.int .i64 t152)) (fun _ hk=>hk.2) (.slice Ao21 t153.length co21)) (fun _ hk=>trivial),hb2_ HB.out GE146.out GE147.out⟩
 rw [if_neg c10] at H
 have c10b0 : decide (0≤t157)=false:=df_ c10;clear c10
 by_cases c25 : t149<0
 ·rw [if_pos c25] at H
  have c25b0 : decide (t149<0)=true:=dt_ c25;clear c25
  simp only [Option.some.injEq,Prod.mk.injEq] at H
  obtain ⟨rfl,rfl,rfl,rfl,rfl,rfl⟩:=H;go_enter Tryd.func18,Tryd.ntmps18
  go_wp2_with (first|((with_reducible refine gate_dst (N:=2) rfl ?_);refine box_event ?hg (N:=2) ?hd (cs:=#[.int .i64 a0_0,.int .i64 a0_1,.int .i64 a0_2,.slice A0_3 l0_3.length c0_3]) (t:=26) ?hr ?_;(case hd=>rfl);(case hg=>rfl);(case hr=>first|(go_simp;done)|(go_simp;rfl));intro gb146 hg w26 hbox hb;have n0_:=A_ (bp_ (hb0_ HB.out) hb);have n1_:=A_ (hbox);have n2_:=A_ ((by rw [hg];exact (bz_ (hb0_ HB.out)) : w.heap.size≤gb146));have n3_:=n2_;clear HB;have HB:=n0_;have BK146:=n1_;have GW146:=n2_;have GE146:=n3_;clear n0_ n1_ n2_ n3_;clear hb hbox hg)|((with_reducible refine gate_dst (N:=4) rfl ?_);refine box_event ?hg (N:=4) ?hd (cs:=#[.int .i64 0,.int .i64 0,.int .i64 0,.slice none 0 0]) (t:=26) ?hr ?_;(case hd=>rfl);(case hg=>rfl);(case hr=>first|(go_simp;done)|(go_simp;rfl));intro gb147 hg w27 hbox hb;have n0_:=A_ (bx_ BK146.out kf_ hb);have n1_:=A_ (bp_ (hb1_ HB.out GE146.out) hb);have n2_:=A_ (hbox);have n3_:=A_ ((by rw [hg];exact (bz_ (hb1_ HB.out GE146.out)) : w.heap.size≤gb147));have n4_:=n3_;have n5_:=A_ ((by rw [hg];exact Nat.ne_of_lt (bl_ BK146.out kf_) : gb146≠gb147));have n6_:=A_ (Ne.symm n5_.out);clear BK146;clear HB;have BK146:=n0_;have HB:=n1_;have BK147:=n2_;have GW147:=n3_;have GE147:=n4_;have NB146_147:=n5_;have NB147_146:=n6_;clear n0_ n1_ n2_ n3_ n4_ n5_ n6_;clear hb hbox hg;have hnb28:=NB146_147.out;have hnc28:=NB147_146.out;obtain ⟨z29_0,z29_1,z29_2,z29_3⟩:=blkc_4 BK146.out;obtain ⟨y29_0,y29_1,y29_2⟩:=blkz_3 BK146.out;have y29_3:=bf_ BK146.out 3)|((with_reducible refine gate_callee (f:=13) rfl ?_);refine goesL_ (some 10) rfl rfl Tryd.func13 (by kernel_rfl) rfl #[.agg #[.int .i64 a0_0,.int .i64 a0_1,.int .i64 a0_2,.slice A0_3 l0_3.length c0_3]] rfl (by (try simp only [List.map_toArray,List.map_cons,List.map_nil]);first|done|rfl|(simp only [List.length_drop,List.length_take];rfl)) ?_;(with_reducible refine (table_Check.calls k a0_0 a0_1 a0_2 _ _ l0_3 t148 _ ?side1 ?side2 A3.out).mono ?_);(case side1=>repeat (first|exact (Kd.C_below HR0_3.out HB.out)|(with_reducible refine Kd.C_alloc ?_ _)|(with_reducible refine Kd.C_drewN ?_ _)|(with_reducible refine Kd.C_drew ?_)));(case side2=>exact HC0_3.out);rintro e w30 ⟨rfl,hb⟩;refine ⟨_,rfl,?_⟩;have n0_:=A_ (bx_ BK146.out kf_ hb);have n1_:=A_ (bx_ BK147.out kf_ hb);have n2_:=A_ (bp_ (hb2_ HB.out GE146.out GE147.out) hb);clear BK146;clear BK147;clear HB;have BK146:=n0_;have BK147:=n1_;have HB:=n2_;clear n0_ n1_ n2_;(try clear hb);(try clear hb2);(try clear hk);(try clear hi);obtain ⟨z31_0,z31_1,z31_2,z31_3⟩:=blkc_4 BK146.out;obtain ⟨y31_0,y31_1,y31_2⟩:=blkz_3 BK146.out;have y31_3:=bf_ BK146.out 3)|((with_reducible refine gate_callee (f:=36) rfl ?_);refine goesL_ (some 18) rfl rfl Tryd.func36 (by kernel_rfl) rfl #[.slice A0_3 l0_3.length c0_3,.agg #[.int .i64 0,.int .i64 0,.int .i64 0,.int .i64 0]] rfl (by (try simp only [List.map_toArray,List.map_cons,List.map_nil]);first|done|rfl|(simp only [List.length_drop,List.length_take];rfl)) ?_;(with_reducible refine (slices_Index_api_Entry_api_Entry.calls k _ _ l0_3 0 0 0 0 t149 _ ?side1 ?side2 A5.out).mono ?_);(case side1=>repeat (first|exact (Kd.C_below HR0_3.out HB.out)|(with_reducible refine Kd.C_alloc ?_ _)|(with_reducible refine Kd.C_drewN ?_ _)|(with_reducible refine Kd.C_drew ?_)));(case side2=>exact HC0_3.out);rintro e w32 ⟨rfl,hb⟩;refine ⟨_,rfl,?_⟩;have n0_:=A_ (bx_ BK146.out kf_ hb);have n1_:=A_ (bx_ BK147.out kf_ hb);have n2_:=A_ (bp_ (hb2_ HB.out GE146.out GE147.out) hb);clear BK146;clear BK147;clear HB;have BK146:=n0_;have BK147:=n1_;have HB:=n2_;clear n0_ n1_ n2_;(try clear hb);(try clear hb2);(try clear hk);(try clear hi);obtain ⟨z33_0,z33_1,z33_2,z33_3⟩:=blkc_4 BK146.out;obtain ⟨y33_0,y33_1,y33_2⟩:=blkz_3 BK146.out;have y33_3:=bf_ BK146.out 3)|((with_reducible refine gate_callee (f:=37) rfl ?_);refine goesL_ (some 20) rfl rfl Tryd.func37 (by kernel_rfl) rfl #[.agg #[.int .i64 a0_0,.int .i64 a0_1,.int .i64 a0_2,.slice A0_3 l0_3.length c0_3]] rfl (by (try simp only [List.map_toArray,List.map_cons,List.map_nil]);first|done|rfl|(simp only [List.length_drop,List.length_take];rfl)) ?_;(with_reducible refine (table_own.calls a0_0 a0_1 a0_2 _ _ l0_3 t150 t151 t152 t153 _ ?side1 ?side2 A6.out).mono ?_);(case side1=>repeat (first|exact (Kd.C_below HR0_3.out HB.out)|(with_reducible refine Kd.C_alloc ?_ _)|(with_reducible refine Kd.C_drewN ?_ _)|(with_reducible refine Kd.C_drew ?_)));(case side2=>exact HC0_3.out);rintro e w34 ⟨v154,rfl,ho0,hb⟩;refine ⟨_,rfl,?_⟩;have n0_:=A_ (Kd.R_lower ho0 (bz_ (hb2_ HB.out GE146.out GE147.out)));have n1_:=A_ (bx_ BK146.out kf_ hb);have n2_:=A_ (bx_ BK147.out kf_ hb);have n3_:=A_ (bp_ (hb2_ HB.out GE146.out GE147.out) hb);clear BK146;clear BK147;clear HB;have HO155:=n0_;have BK146:=n1_;have BK147:=n2_;have HB:=n3_;clear n0_ n1_ n2_ n3_;(try clear hb);(try clear hb2);(try clear hk);(try clear hi);(try clear ho0);obtain ⟨z35_0,z35_1,z35_2,z35_3⟩:=blkc_4 BK146.out;obtain ⟨y35_0,y35_1,y35_2,y35_3⟩:=blkz_4 BK146.out;obtain ⟨Ao36,co36,eo36⟩:=Kd.R_slice HO155.out;subst eo36)|((with_reducible refine gate_callee (f:=29) rfl ?_);refine goesL_ (some 23) rfl rfl Tryd.func29 (by kernel_rfl) rfl #[.int .i64 a1,.int .i64 1,.int .i64 2147483646] rfl (by (try simp only [List.map_toArray,List.map_cons,List.map_nil]);first|done|rfl|(simp only [List.length_drop,List.length_take];rfl)) ?_;(with_reducible refine (table_in.calls a1 1 2147483646 true _ A7.out).mono ?_);rintro e w' ⟨rfl,⟨nd,rfl⟩⟩;refine ⟨_,rfl,?_⟩)|((with_reducible refine gate_callee (f:=16) rfl ?_);refine goesL_ (some 29) rfl rfl Tryd.func16 (by kernel_rfl) rfl #[.agg #[.int .i64 t150,.int .i64 t151,.int .i64 t152,.slice Ao36 t153.length co36],.int .i64 a1] rfl (by (try simp only [List.map_toArray,List.map_cons,List.map_nil]);first|done|rfl|(simp only [List.length_drop,List.length_take];rfl)) ?_;(with_reducible refine (table_Find.calls k t150 t151 t152 _ _ t153 a1 t157 _ ?side1 ?side2 A9.out).mono ?_);(case side1=>refine (Kd.R_reads' (e:=56) (base:=w.heap.size) (ok:=fun k_=>True) (n:=t153.length) (c:=co36) ?_).2.2;exact (by (with_reducible repeat (first|apply ra_|apply rn_|apply re_));exact (Kd.R_mono (rf_ (p:=⟨gb146,3,none⟩) (rf_ (p:=⟨gb146,2,none⟩) (rf_ (p:=⟨gb146,1,none⟩) (rf_ (p:=⟨gb146,0,none⟩) (Kd.R_types HO155.out BK146.out (by decide)) (fun _ hk=>hk.2) (.int .i64 t150)) (fun _ hk=>hk.2) (.int .i64 t151)) (fun _ hk=>hk.2) (.int .i64 t152)) (fun _ hk=>hk.2) (.slice Ao36 t153.length co36)) (fun _ h_=>h_.1))));(case side2=>exact (Kd.R_reads' HO155.out).2.1);rintro e w37 ⟨rfl,hb⟩;refine ⟨_,rfl,?_⟩;have n0_:=A_ (Kd.R_below (by (with_reducible repeat (first|apply ra_|apply rn_|apply re_));exact (Kd.R_mono (rf_ (p:=⟨gb146,3,none⟩) (rf_ (p:=⟨gb146,2,none⟩) (rf_ (p:=⟨gb146,1,none⟩) (rf_ (p:=⟨gb146,0,none⟩) (Kd.R_types HO155.out BK146.out (by decide)) (fun _ hk=>hk.2) (.int .i64 t150)) (fun _ hk=>hk.2) (.int .i64 t151)) (fun _ hk=>hk.2) (.int .i64 t152)) (fun _ hk=>hk.2) (.slice Ao36 t153.length co36)) (fun _ h_=>h_.1))) hb);have n1_:=A_ (bb_ (g:=gb146) (o:=.cells #[.int .i64 t150,.int .i64 t151,.int .i64 t152,.slice Ao36 t153.length co36] 26 (0,0)) (by refine kk_ ?_;apply blkf_4_0_3;exact kk_ BK146.out) hb);have n2_:=A_ (bb_ (g:=gb147) (o:=.cells #[.int .i64 0,.int .i64 0,.int .i64 0,.slice none 0 0] 26 (0,0)) (by refine kk_ ?_;refine blk_far ?_ NB147_146.out _;refine kk_ ?_;refine blk_far ?_ NB147_146.out _;refine kk_ ?_;refine blk_far ?_ NB147_146.out _;refine kk_ ?_;refine blk_far ?_ NB147_146.out _;exact kk_ BK147.out) hb);have n3_:=A_ (bp_ (hb2_ HB.out GE146.out GE147.out) hb);clear HO155;clear BK146;clear BK147;clear HB;have HO155:=n0_;have BK146:=n1_;have BK147:=n2_;have HB:=n3_;clear n0_ n1_ n2_ n3_;(try clear hb);(try clear hb2);(try clear hk);(try clear hi);obtain ⟨z38_0,z38_1,z38_2,z38_3⟩:=blkc_4 BK146.out;obtain ⟨y38_0,y38_1,y38_2,y38_3⟩:=blkz_4 BK146.out;obtain ⟨z39_0,z39_1,z39_2,z39_3⟩:=blkc_4 BK147.out;obtain ⟨y39_0,y39_1,y39_2⟩:=blkz_3 BK147.out;have y39_3:=bf_ BK147.out 3))
  refine bodyPost_ret (results_ctt rfl _ _ gb147 26 #[.int .i64 t150,.int .i64 t151,.int .i64 t152,.slice Ao36 t153.length co36] (0,0) _ rfl (by refine kk_ ?_;apply blkf_4_0_3;exact kk_ BK147.out) Tryd.underlying26 rfl (by kernel_rfl)) rfl ?_
  exact ⟨_,by first|rfl|(simp [errW_none,errW_some] <;> rfl)|(simp [*,errW_none,errW_some] <;> rfl),by (with_reducible repeat (first|apply ra_|apply rn_|apply re_));exact Kd.R_mono (rf_ (p:=⟨gb147,3,none⟩) (rf_ (p:=⟨gb147,2,none⟩) (rf_ (p:=⟨gb147,1,none⟩) (rf_ (p:=⟨gb147,0,none⟩) (Kd.R_types HO155.out BK147.out (by decide)) (fun _ hk=>hk.2) (.int .i64 t150)) (fun _ hk=>hk.2) (.int .i64 t151)) (fun _ hk=>hk.2) (.int .i64 t152)) (fun _ hk=>hk.2) (.slice Ao36 t153.length co36)) (fun _ hk=>trivial),hb2_ HB.out GE146.out GE147.out⟩
 rw [if_neg c25] at H
 have c25b0 : decide (t149<0)=false:=df_ c25;clear c25
 by_cases c40 : 0≤t149
 rotate_left
 ·rw [if_neg c40] at H
  exact absurd H (by simp)
 rw [if_pos c40] at H
 have c40b0 : decide (0≤t149)=true:=dt_ c40;clear c40
 by_cases c41 : t149<(t153.length : Int)
 rotate_left
 ·rw [if_neg c41] at H
  exact absurd H (by simp)
 rw [if_pos c41] at H
 have c41b0 : decide (t149<(t153.length : Int))=true:=dt_ c41;clear c41
 obtain ⟨y158,hy158⟩ : ∃ y_ : List (S56),y_=(t153.set (t149 : Int).toNat (⟨a1,1,0,0⟩ : S56)):=⟨_,rfl⟩
 replace H : (some (mx t150 (wrap64 (a1 + 1)),t151,t152,y158,t149,0))=some (r1,r2,r3,r4,r5,r6):=by first|(rw [hy158];with_reducible exact H)|(have H2_:=(Option.bind_some _ _).symm.trans H;rw [hy158];with_reducible exact H2_)|(have H2_:=(Option.bind_some _ _).symm.trans H;with_reducible exact H2_)|with_reducible exact H|(rw [hy158];exact H)|exact H
 have Ny158:=A_ hy158;clear hy158
 obtain ⟨ji43,hji43⟩ : ∃ j_ : Int,(mx t150 (wrap64 (a1 + 1)))=j_:=⟨_,rfl⟩
 replace H : (some (ji43,t151,t152,y158,t149,0))=some (r1,r2,r3,r4,r5,r6):=by first|(rw [hji43] at H;exact H)|(simp only [hji43] at H ⊢;exact H)
 (try rw [hji43] at A3);(try rw [hji43] at A5);(try rw [hji43] at A6);(try rw [hji43] at A7);(try rw [hji43] at A9)
 have hji43_ : (if t150<(wrap64 (a1 + 1)) then (wrap64 (a1 + 1)) else t150)=ji43:=hji43
 simp only [Option.some.injEq,Prod.mk.injEq] at H
 obtain ⟨rfl,rfl,rfl,rfl,rfl,rfl⟩:=H;go_enter Tryd.func18,Tryd.ntmps18
 go_wp2_with (first|((with_reducible refine gate_dst (N:=2) rfl ?_);refine box_event ?hg (N:=2) ?hd (cs:=#[.int .i64 a0_0,.int .i64 a0_1,.int .i64 a0_2,.slice A0_3 l0_3.length c0_3]) (t:=26) ?hr ?_;(case hd=>rfl);(case hg=>rfl);(case hr=>first|(go_simp;done)|(go_simp;rfl));intro gb146 hg w44 hbox hb;have n0_:=A_ (bp_ (hb0_ HB.out) hb);have n1_:=A_ (hbox);have n2_:=A_ ((by rw [hg];exact (bz_ (hb0_ HB.out)) : w.heap.size≤gb146));have n3_:=n2_;clear HB;have HB:=n0_;have BK146:=n1_;have GW146:=n2_;have GE146:=n3_;clear n0_ n1_ n2_ n3_;clear hb hbox hg)|((with_reducible refine gate_dst (N:=4) rfl ?_);refine box_event ?hg (N:=4) ?hd (cs:=#[.int .i64 0,.int .i64 0,.int .i64 0,.slice none 0 0]) (t:=26) ?hr ?_;(case hd=>rfl);(case hg=>rfl);(case hr=>first|(go_simp;done)|(go_simp;rfl));intro gb147 hg w45 hbox hb;have n0_:=A_ (bx_ BK146.out kf_ hb);have n1_:=A_ (bp_ (hb1_ HB.out GE146.out) hb);have n2_:=A_ (hbox);have n3_:=A_ ((by rw [hg];exact (bz_ (hb1_ HB.out GE146.out)) : w.heap.size≤gb147));have n4_:=n3_;have n5_:=A_ ((by rw [hg];exact Nat.ne_of_lt (bl_ BK146.out kf_) : gb146≠gb147));have n6_:=A_ (Ne.symm n5_.out);clear BK146;clear HB;have BK146:=n0_;have HB:=n1_;have BK147:=n2_;have GW147:=n3_;have GE147:=n4_;have NB146_147:=n5_;have NB147_146:=n6_;clear n0_ n1_ n2_ n3_ n4_ n5_ n6_;clear hb hbox hg;have hnb46:=NB146_147.out;have hnc46:=NB147_146.out;obtain ⟨z47_0,z47_1,z47_2,z47_3⟩:=blkc_4 BK146.out;obtain ⟨y47_0,y47_1,y47_2⟩:=blkz_3 BK146.out;have y47_3:=bf_ BK146.out 3)|((with_reducible refine gate_callee (f:=13) rfl ?_);refine goesL_ (some 10) rfl rfl Tryd.func13 (by kernel_rfl) rfl #[.agg #[.int .i64 a0_0,.int .i64 a0_1,.int .i64 a0_2,.slice A0_3 l0_3.length c0_3]] rfl (by (try simp only [List.map_toArray,List.map_cons,List.map_nil]);first|done|rfl|(simp only [List.length_drop,List.length_take];rfl)) ?_;(with_reducible refine (table_Check.calls k a0_0 a0_1 a0_2 _ _ l0_3 t148 _ ?side1 ?side2 A3.out).mono ?_);(case side1=>repeat (first|exact (Kd.C_below HR0_3.out HB.out)|(with_reducible refine Kd.C_alloc ?_ _)|(with_reducible refine Kd.C_drewN ?_ _)|(with_reducible refine Kd.C_drew ?_)));(case side2=>exact HC0_3.out);rintro e w48 ⟨rfl,hb⟩;refine ⟨_,rfl,?_⟩;have n0_:=A_ (bx_ BK146.out kf_ hb);have n1_:=A_ (bx_ BK147.out kf_ hb);have n2_:=A_ (bp_ (hb2_ HB.out GE146.out GE147.out) hb);clear BK146;clear BK147;clear HB;have BK146:=n0_;have BK147:=n1_;have HB:=n2_;clear n0_ n1_ n2_;(try clear hb);(try clear hb2);(try clear hk);(try clear hi);obtain ⟨z49_0,z49_1,z49_2,z49_3⟩:=blkc_4 BK146.out;obtain ⟨y49_0,y49_1,y49_2⟩:=blkz_3 BK146.out;have y49_3:=bf_ BK146.out 3)|((with_reducible refine gate_callee (f:=36) rfl ?_);refine goesL_ (some 18) rfl rfl Tryd.func36 (by kernel_rfl) rfl #[.slice A0_3 l0_3.length c0_3,.agg #[.int .i64 0,.int .i64 0,.int .i64 0,.int .i64 0]] rfl (by (try simp only [List.map_toArray,List.map_cons,List.map_nil]);first|done|rfl|(simp only [List.length_drop,List.length_take];rfl)) ?_;(with_reducible refine (slices_Index_api_Entry_api_Entry.calls k _ _ l0_3 0 0 0 0 t149 _ ?side1 ?side2 A5.out).mono ?_);(case side1=>repeat (first|exact (Kd.C_below HR0_3.out HB.out)|(with_reducible refine Kd.C_alloc ?_ _)|(with_reducible refine Kd.C_drewN ?_ _)|(with_reducible refine Kd.C_drew ?_)));(case side2=>exact HC0_3.out);rintro e w50 ⟨rfl,hb⟩;refine ⟨_,rfl,?_⟩;have n0_:=A_ (bx_ BK146.out kf_ hb);have n1_:=A_ (bx_ BK147.out kf_ hb);have n2_:=A_ (bp_ (hb2_ HB.out GE146.out GE147.out) hb);clear BK146;clear BK147;clear HB;have BK146:=n0_;have BK147:=n1_;have HB:=n2_;clear n0_ n1_ n2_;(try clear hb);(try clear hb2);(try clear hk);(try clear hi);obtain ⟨z51_0,z51_1,z51_2,z51_3⟩:=blkc_4 BK146.out;obtain ⟨y51_0,y51_1,y51_2⟩:=blkz_3 BK146.out;have y51_3:=bf_ BK146.out 3)|((with_reducible refine gate_callee (f:=37) rfl ?_);refine goesL_ (some 20) rfl rfl Tryd.func37 (by kernel_rfl) rfl #[.agg #[.int .i64 a0_0,.int .i64 a0_1,.int .i64 a0_2,.slice A0_3 l0_3.length c0_3]] rfl (by (try simp only [List.map_toArray,List.map_cons,List.map_nil]);first|done|rfl|(simp only [List.length_drop,List.length_take];rfl)) ?_;(with_reducible refine (table_own.calls a0_0 a0_1 a0_2 _ _ l0_3 t150 t151 t152 t153 _ ?side1 ?side2 A6.out).mono ?_);(case side1=>repeat (first|exact (Kd.C_below HR0_3.out HB.out)|(with_reducible refine Kd.C_alloc ?_ _)|(with_reducible refine Kd.C_drewN ?_ _)|(with_reducible refine Kd.C_drew ?_)));(case side2=>exact HC0_3.out);rintro e w52 ⟨v154,rfl,ho0,hb⟩;refine ⟨_,rfl,?_⟩;have n0_:=A_ (Kd.R_lower ho0 (bz_ (hb2_ HB.out GE146.out GE147.out)));have n1_:=A_ (bx_ BK146.out kf_ hb);have n2_:=A_ (bx_ BK147.out kf_ hb);have n3_:=A_ (bp_ (hb2_ HB.out GE146.out GE147.out) hb);clear BK146;clear BK147;clear HB;have HO155:=n0_;have BK146:=n1_;have BK147:=n2_;have HB:=n3_;clear n0_ n1_ n2_ n3_;(try clear hb);(try clear hb2);(try clear hk);(try clear hi);(try clear ho0);obtain ⟨z53_0,z53_1,z53_2,z53_3⟩:=blkc_4 BK146.out;obtain ⟨y53_0,y53_1,y53_2,y53_3⟩:=blkz_4 BK146.out;obtain ⟨Ao54,co54,eo54⟩:=Kd.R_slice HO155.out;subst eo54)|((with_reducible refine gate_callee (f:=29) rfl ?_);refine goesL_ (some 23) rfl rfl Tryd.func29 (by kernel_rfl) rfl #[.int .i64 a1,.int .i64 1,.int .i64 2147483646] rfl (by (try simp only [List.map_toArray,List.map_cons,List.map_nil]);first|done|rfl|(simp only [List.length_drop,List.length_take];rfl)) ?_;(with_reducible refine (table_in.calls a1 1 2147483646 true _ A7.out).mono ?_);rintro e w' ⟨rfl,⟨nd,rfl⟩⟩;refine ⟨_,rfl,?_⟩)|((with_reducible refine gate_callee (f:=16) rfl ?_);refine goesL_ (some 29) rfl rfl Tryd.func16 (by kernel_rfl) rfl #[.agg #[.int .i64 t150,.int .i64 t151,.int .i64 t152,.slice Ao54 t153.length co54],.int .i64 a1] rfl (by (try simp only [List.map_toArray,List.map_cons,List.map_nil]);first|done|rfl|(simp only [List.length_drop,List.length_take];rfl)) ?_;(with_reducible refine (table_Find.calls k t150 t151 t152 _ _ t153 a1 t157 _ ?side1 ?side2 A9.out).mono ?_);(case side1=>refine (Kd.R_reads' (e:=56) (base:=w.heap.size) (ok:=fun k_=>True) (n:=t153.length) (c:=co54) ?_).2.2;exact (by (with_reducible repeat (first|apply ra_|apply rn_|apply re_));exact (Kd.R_mono (rf_ (p:=⟨gb146,3,none⟩) (rf_ (p:=⟨gb146,2,none⟩) (rf_ (p:=⟨gb146,1,none⟩) (rf_ (p:=⟨gb146,0,none⟩) (Kd.R_types HO155.out BK146.out (by decide)) (fun _ hk=>hk.2) (.int .i64 t150)) (fun _ hk=>hk.2) (.int .i64 t151)) (fun _ hk=>hk.2) (.int .i64 t152)) (fun _ hk=>hk.2) (.slice Ao54 t153.length co54)) (fun _ h_=>h_.1))));(case side2=>exact (Kd.R_reads' HO155.out).2.1);rintro e w55 ⟨rfl,hb⟩;refine ⟨_,rfl,?_⟩;have n0_:=A_ (Kd.R_below (by (with_reducible repeat (first|apply ra_|apply rn_|apply re_));exact (Kd.R_mono (rf_ (p:=⟨gb146,3,none⟩) (rf_ (p:=⟨gb146,2,none⟩) (rf_ (p:=⟨gb146,1,none⟩) (rf_ (p:=⟨gb146,0,none⟩) (Kd.R_types HO155.out BK146.out (by decide)) (fun _ hk=>hk.2) (.int .i64 t150)) (fun _ hk=>hk.2) (.int .i64 t151)) (fun _ hk=>hk.2) (.int .i64 t152)) (fun _ hk=>hk.2) (.slice Ao54 t153.length co54)) (fun _ h_=>h_.1))) hb);have n1_:=A_ (bb_ (g:=gb146) (o:=.cells #[.int .i64 t150,.int .i64 t151,.int .i64 t152,.slice Ao54 t153.length co54] 26 (0,0)) (by refine kk_ ?_;apply blkf_4_0_3;exact kk_ BK146.out) hb);have n2_:=A_ (bb_ (g:=gb147) (o:=.cells #[.int .i64 0,.int .i64 0,.int .i64 0,.slice none 0 0] 26 (0,0)) (by refine kk_ ?_;refine blk_far ?_ NB147_146.out _;refine kk_ ?_;refine blk_far ?_ NB147_146.out _;refine kk_ ?_;refine blk_far ?_ NB147_146.out _;refine kk_ ?_;refine blk_far ?_ NB147_146.out _;exact kk_ BK147.out) hb);have n3_:=A_ (bp_ (hb2_ HB.out GE146.out GE147.out) hb);clear HO155;clear BK146;clear BK147;clear HB;have HO155:=n0_;have BK146:=n1_;have BK147:=n2_;have HB:=n3_;clear n0_ n1_ n2_ n3_;(try clear hb);(try clear hb2);(try clear hk);(try clear hi);obtain ⟨z56_0,z56_1,z56_2,z56_3⟩:=blkc_4 BK146.out;obtain ⟨y56_0,y56_1,y56_2,y56_3⟩:=blkz_4 BK146.out;have p42 : 0≤(t149 : Int):=od_ (by first|(with_reducible assumption)|assumption);have q42 : (t149 : Int)<((t153.length : Int) : Int):=od_ (by first|(with_reducible assumption)|assumption);obtain ⟨go42,co42,eo42,gb42,gl42,cl42,HG42⟩:=Kd.R_form HO155.out (by omega);(first|cases eo42|(injection eo42 with ea_ en_ ec_;(first|subst ea_|(injection ea_ with ea_;subst ea_));subst ec_;clear en_));have GB42:=A_ gb42;have GG42:=A_ HG42;clear gb42 gl42 HG42;obtain ⟨ce42,hcl42,hM42,hcc42,hfr42⟩:=Kd.R_elem HO155.out z56 (t149 : Int) p42 q42;obtain rfl:=k56_openM hM42;have hx42_0 : w55.cell? ⟨go42,(t149 : Int).toNat * 4,none⟩=some (.int .i64 ((rd_T56 t153 t149).f0)):=hcc42 0 _ rfl;have hx42_1 : w55.cell? ⟨go42,(t149 : Int).toNat * 4 + 1,none⟩=some (.int .i64 ((rd_T56 t153 t149).f1)):=hcc42 1 _ rfl;have hx42_2 : w55.cell? ⟨go42,(t149 : Int).toNat * 4 + 2,none⟩=some (.int .i64 ((rd_T56 t153 t149).f2)):=hcc42 2 _ rfl;have hx42_3 : w55.cell? ⟨go42,(t149 : Int).toNat * 4 + 3,none⟩=some (.int .i64 ((rd_T56 t153 t149).f3)):=hcc42 3 _ rfl;have hf42_0 : w55.frozen? ⟨go42,(t149 : Int).toNat * 4,none⟩=false:=hfr42 0;have hf42_1 : w55.frozen? ⟨go42,(t149 : Int).toNat * 4 + 1,none⟩=false:=hfr42 1;have hf42_2 : w55.frozen? ⟨go42,(t149 : Int).toNat * 4 + 2,none⟩=false:=hfr42 2;have hf42_3 : w55.frozen? ⟨go42,(t149 : Int).toNat * 4 + 3,none⟩=false:=hfr42 3;clear hcl42 hcc42 hfr42 hM42;replace p42:=eq_true p42;replace q42:=eq_true q42;have HX57:=A_ (show Kd.R k56 56 w55 w.heap.size (fun _=>True) (.slice (some ⟨go42,0,none⟩) t153.length co54) t153 from (by (with_reducible repeat (first|apply ra_|apply rn_|apply re_));exact HO155.out));obtain ⟨ce57,hcl57,hM57,hcc57,hfr57⟩:=Kd.R_elem HX57.out z56 (t149 : Int) (od_ (by first|(with_reducible assumption)|assumption)) (by have h_ : (t149 : Int)<((t153.length : Int) : Int):=od_ (by first|(with_reducible assumption)|assumption);first|exact h_|(have e_:=(Kd.R_reads' HO155.out).1;omega)|simpa using h_);obtain rfl:=k56_openM hM57;have HP57:=Kd.R_seg HX57.out (t149 : Int) (od_ (by first|(with_reducible assumption)|assumption)) (by have h_ : (t149 : Int)<((t153.length : Int) : Int):=od_ (by first|(with_reducible assumption)|assumption);first|exact h_|(have e_:=(Kd.R_reads' HO155.out).1;omega)|simpa using h_) (seg:=[.int .i64 a1,.int .i64 1,.int .i64 0,.int .i64 0]) (j:=0) hcl57 hcc57 (show 4≤4 from by decide) (x':=(⟨a1,1,0,0⟩ : S56)) (k56_mkM _ _ _ (⟨a1,1,0,0⟩ : S56) ) (fun _ hk=>hk);have hx57_0:=hcc57 0 _ rfl;(try simp only [show (k56).sz=4 from rfl,Nat.mul_one,Nat.add_zero] at hx57_0);have hf57_0:=hfr57 0;(try simp only [show (k56).sz=4 from rfl,Nat.mul_one,Nat.add_zero] at hf57_0);have hx57_1:=hcc57 1 _ rfl;(try simp only [show (k56).sz=4 from rfl,Nat.mul_one,Nat.add_zero] at hx57_1);have hf57_1:=hfr57 1;(try simp only [show (k56).sz=4 from rfl,Nat.mul_one,Nat.add_zero] at hf57_1);have hx57_2:=hcc57 2 _ rfl;(try simp only [show (k56).sz=4 from rfl,Nat.mul_one,Nat.add_zero] at hx57_2);have hf57_2:=hfr57 2;(try simp only [show (k56).sz=4 from rfl,Nat.mul_one,Nat.add_zero] at hf57_2);have hx57_3:=hcc57 3 _ rfl;(try simp only [show (k56).sz=4 from rfl,Nat.mul_one,Nat.add_zero] at hx57_3);have hf57_3:=hfr57 3;(try simp only [show (k56).sz=4 from rfl,Nat.mul_one,Nat.add_zero] at hf57_3);clear hcl57 hcc57 hfr57 hM57)|((with_reducible refine gate_store (t:=56) (p:=41) rfl ?_);refine store_event (t:=56) (p:=41) (v:=?vo_w58) (w1:=((((w55.setCell ⟨go42,(t149 : Int).toNat * 4,none⟩ (.int .i64 a1)).setCell ⟨go42,(t149 : Int).toNat * 4 + 1,none⟩ (.int .i64 1)).setCell ⟨go42,(t149 : Int).toNat * 4 + 2,none⟩ (.int .i64 0)).setCell ⟨go42,(t149 : Int).toNat * 4 + 3,none⟩ (.int .i64 0))) ?hg ?ho ?hn ?hr ?_;(case ho=>rfl);(case hg=>rfl);(case hn=>rfl);(case hr=>first|(go_simp;done)|(go_simp;rfl));intro w58 hw;have hg : w55.grownBy w58 (some go42):=(by rw [hw];exact HP57.2);have hp_ : Kd.R k56 56 w58 w.heap.size (fun _=>True) (.slice (some ⟨go42,0,none⟩) t153.length co54) y158:=(by rw [hw,Ny158.out];exact HP57.1);clear HP57;have n0_:=A_ (blk_grown (g:=gb146) (o:=.cells #[.int .i64 t150,.int .i64 t151,.int .i64 t152,.slice (some ⟨go42,0,none⟩) t153.length co54] 26 (0,0)) (by exact kk_ BK146.out) hg (Kd.R_ne HO155.out BK146.out (by decide)));have n1_:=A_ (blk_grown (g:=gb147) (o:=.cells #[.int .i64 0,.int .i64 0,.int .i64 0,.slice none 0 0] 26 (0,0)) (by exact kk_ BK147.out) hg (Kd.R_ne HO155.out BK147.out (by decide)));have n2_:=A_ (hp_);have n3_:=A_ ((by rw [hw];exact bs_ (bs_ (bs_ (bs_ (HB.out) GB42.out) GB42.out) GB42.out) GB42.out : Below w.heap.size w w58));clear BK146;clear BK147;clear HO155;clear HB;have BK146:=n0_;have BK147:=n1_;have HO155:=n2_;have HB:=n3_;clear n0_ n1_ n2_ n3_;clear hg hw hp_;obtain ⟨z59_0,z59_1,z59_2,z59_3⟩:=blkc_4 BK146.out;obtain ⟨y59_0,y59_1,y59_2,y59_3⟩:=blkz_4 BK146.out;obtain ⟨z60_0,z60_1,z60_2,z60_3⟩:=blkc_4 BK147.out;obtain ⟨y60_0,y60_1,y60_2⟩:=blkz_3 BK147.out;have y60_3:=bf_ BK147.out 3))
 refine bodyPost_ret (results_ctt rfl _ _ gb147 26 #[.int .i64 ji43,.int .i64 t151,.int .i64 t152,.slice (some ⟨go42,0,none⟩) t153.length co54] (0,0) _ rfl (by refine kk_ ?_;apply blkf_4_0_3;refine kk_ ?_;refine blk_far ?_ NB147_146.out _;exact kk_ BK147.out) Tryd.underlying26 rfl (by kernel_rfl)) rfl ?_
 exact ⟨_,by first|rfl|(simp [errW_none,errW_some] <;> rfl)|(simp only [← hji43];first|rfl|(simp [errW_none,errW_some] <;> rfl))|(simp [*,errW_none,errW_some] <;> rfl),by (with_reducible repeat (first|apply ra_|apply rn_|apply re_));exact Kd.R_mono (rf_ (p:=⟨gb147,3,none⟩) (rf_ (p:=⟨gb147,2,none⟩) (rf_ (p:=⟨gb147,1,none⟩) (rf_ (p:=⟨gb147,0,none⟩) (rf_ (p:=⟨gb146,0,none⟩) (Kd.R_types (Kd.R_types HO155.out BK146.out (by decide)) BK147.out (by decide)) (fun _ hk=>hk.1.2) (.int .i64 ji43)) (fun _ hk=>hk.2) (.int .i64 ji43)) (fun _ hk=>hk.2) (.int .i64 t151)) (fun _ hk=>hk.2) (.int .i64 t152)) (fun _ hk=>hk.2) (.slice (some ⟨go42,0,none⟩) t153.length co54)) (fun _ hk=>trivial),hb2_ HB.out GE146.out GE147.out⟩
def table_Commit.j0 : Nat→Int→Bool→Int→Int→Int→List (S56)→Option (Int × Int × Int × (List (S56)) × Int × Int)
 | 0,_,_,_,_,_,_=>none
 | k + 1,x8,x24,x160000,x160001,x160002,x160003=>if x24=true then (some (x160000,x160001,x160002,x160003,0,2)) else (if 0≤x8 then (if x8<(x160003.length : Int) then ((some (x160003.set (x8 : Int).toNat (⟨(rd_T56 x160003 x8).f0,2,(rd_T56 x160003 x8).f2,(rd_T56 x160003 x8).f3⟩ : S56) : List (S56))).bind fun y170=>(some (x160000,x160001,wrap64 (x160002 + 1),(y170.set (x8 : Int).toNat (⟨(rd_T56 y170 x8).f0,(rd_T56 y170 x8).f1,(rd_T56 y170 x8).f2,wrap64 (x160002 + 1)⟩ : S56)),wrap64 (x160002 + 1),0))) else (none)) else (none))
def table_Commit.f (k : Nat) (a0_0 : Int) (a0_1 : Int) (a0_2 : Int) (l0_3 : List (S56)) (a1 : Int) : Option (Int × Int × Int × (List (S56)) × Int × Int):=(table_Check.f k a0_0 a0_1 a0_2 l0_3).bind fun t161=>(if t161=0 then ((table_own.f a0_0 a0_1 a0_2 l0_3).bind fun bt162=>((table_Find.f k bt162.1 bt162.2.1 bt162.2.2.1 bt162.2.2.2 a1).bind fun t168=>(if t168<0 then (some (bt162.1,bt162.2.1,bt162.2.2.1,bt162.2.2.2,0,3)) else (if 0≤t168 then (if t168<(bt162.2.2.2.length : Int) then (if ((rd_T56 bt162.2.2.2 t168).f1)=1 then (table_Commit.j0 k t168 (bt162.2.2.1 == 2147483647) bt162.1 bt162.2.1 bt162.2.2.1 bt162.2.2.2) else (table_Commit.j0 k t168 true bt162.1 bt162.2.1 bt162.2.2.1 bt162.2.2.2)) else (none)) else (none))))) else (some (0,0,0,([] : List (S56)),0,t161)))
theorem table_Commit.mono_l : ∀ k,(∀ y0 y1 y2 y3 y4 y5,LeO (table_Commit.j0 k y0 y1 y2 y3 y4 y5) (table_Commit.j0 (k + 1) y0 y1 y2 y3 y4 y5))
 | 0=>fun _ _ _ _ _ _ r h=>by simp [table_Commit.j0] at h
 | k + 1=>by
  have ih0:=table_Commit.mono_l k
  ·intro y0 y1 y2 y3 y4 y5
   unfold table_Commit.j0
   repeat' first
   | (with_reducible exact ih0 _ _ _ _ _ _)
   | (with_reducible exact table_Check.mono _ _ _ _ _)
   | (with_reducible exact table_Find.mono _ _ _ _ _ _)
   | (with_reducible exact LeO.refl _)
   | (with_reducible exact LeO.none _)
   | (with_reducible refine LeO.ite ?_ ?_)
   | (with_reducible refine LeO.bind ?_ (fun _=>?_))
   | exact ih0 _ _ _ _ _ _
   | exact table_Check.mono _ _ _ _ _
   | exact table_Find.mono _ _ _ _ _ _
   | exact LeO.none _
   | refine LeO.ite ?_ ?_
   | refine LeO.bind ?_ (fun _=>?_)
theorem table_Commit.mono : ∀ a0 a1 a2 a3 a4 k,LeO (table_Commit.f k a0 a1 a2 a3 a4) (table_Commit.f (k + 1) a0 a1 a2 a3 a4):=by
 intro a0 a1 a2 a3 a4 k;have ih0:=table_Commit.mono_l k
 unfold table_Commit.f
 repeat' first
   | (with_reducible exact ih0 _ _ _ _ _ _)
   | (with_reducible exact table_Check.mono _ _ _ _ _)
   | (with_reducible exact table_Find.mono _ _ _ _ _ _)
   | (with_reducible exact LeO.refl _)
   | (with_reducible exact LeO.none _)
   | (with_reducible refine LeO.ite ?_ ?_)
   | (with_reducible refine LeO.bind ?_ (fun _=>?_))
   | exact ih0 _ _ _ _ _ _
   | exact table_Check.mono _ _ _ _ _
   | exact table_Find.mono _ _ _ _ _ _
   | exact LeO.none _
   | refine LeO.ite ?_ ?_
   | refine LeO.bind ?_ (fun _=>?_)
def table_Commit.T11 : Bool × List (List Nat × List Nat):=(true,[([],[]),([0],[0]),([],[]),([],[]),([3],[3]),([],[]),([],[]),([6],[6]),([1,2,0,1,2],[1,2]),([8,0,1,2],[8]),([9,0,1,2],[9]),([4,5,0,1,2,3,4,5,6,7,8,9,10],[4,5]),([11,0,1,2,3,4,5,6,7,8,9,10],[11]),([12,7,10,0,1,2,3,4,5,6,7,8,9,10],[7,12])])
def table_Commit.B11 : List Nat:=[0,1,0,0,8,0,0,64,7,263,775,2047,4095,8191]
theorem table_Commit.tab11 : rtab .any (opsOf Tryd.f19 11)=table_Commit.T11:=by kernel_rfl
theorem table_Commit.bits11 : waitsOk table_Commit.T11.2 table_Commit.B11=true:=by kernel_rfl
set_option maxHeartbeats 8000000 in
set_option maxRecDepth 100000 in
theorem table_Commit.calls (k : Nat) (a0_0 : Int) (a0_1 : Int) (a0_2 : Int) (A0_3 : Option Addr) (c0_3 : Nat) (l0_3 : List (S56)) (a1 : Int) (r1 : Int) (r2 : Int) (r3 : Int) (r4 : List (S56)) (r5 : Int) (r6 : Int) (w : World) (hr0_3 : Kd.C k56 w A0_3 l0_3.length l0_3) (hc0_3 : l0_3.length≤c0_3) (h : table_Commit.f k a0_0 a0_1 a0_2 l0_3 a1=some (r1,r2,r3,r4,r5,r6)) :
  Calls Tryd.prog 19 #[.agg #[.int .i64 a0_0,.int .i64 a0_1,.int .i64 a0_2,.slice A0_3 l0_3.length c0_3],.int .i64 a1] w fun e w'=>∃ v3_ : Value,e=.returned (.tuple #[.agg #[.int .i64 r1,.int .i64 r2,.int .i64 r3,v3_],.int .i64 r5,.int .i64 r6])∧Kd.R k56 56 w' w.heap.size (fun _=>True) v3_ r4∧Below w.heap.size w w':=by
 have hu26:=Tryd.underlying26;have HR0_3:=A_ hr0_3;have HC0_3:=A_ hc0_3;clear hr0_3 hc0_3;have HB:=A_ (Below.refl w.heap.size w)
 have H : ((table_Check.f k a0_0 a0_1 a0_2 l0_3).bind fun t161=>(if t161=0 then ((table_own.f a0_0 a0_1 a0_2 l0_3).bind fun bt162=>((table_Find.f k bt162.1 bt162.2.1 bt162.2.2.1 bt162.2.2.2 a1).bind fun t168=>(if t168<0 then (some (bt162.1,bt162.2.1,bt162.2.2.1,bt162.2.2.2,0,3)) else (if 0≤t168 then (if t168<(bt162.2.2.2.length : Int) then (if ((rd_T56 bt162.2.2.2 t168).f1)=1 then (table_Commit.j0 k t168 (bt162.2.2.1 == 2147483647) bt162.1 bt162.2.1 bt162.2.2.1 bt162.2.2.2) else (table_Commit.j0 k t168 true bt162.1 bt162.2.1 bt162.2.2.1 bt162.2.2.2)) else (none)) else (none))))) else (some (0,0,0,([] : List (S56)),0,t161))))=some (r1,r2,r3,r4,r5,r6):=h
 clear h;replace H:=Option.bind_eq_some_iff.mp H;obtain ⟨t161,A30,H⟩:=H
 replace H : (if t161=0 then ((table_own.f a0_0 a0_1 a0_2 l0_3).bind fun bt162=>((table_Find.f k bt162.1 bt162.2.1 bt162.2.2.1 bt162.2.2.2 a1).bind fun t168=>(if t168<0 then (some (bt162.1,bt162.2.1,bt162.2.2.1,bt162.2.2.2,0,3)) else (if 0≤t168 then (if t168<(bt162.2.2.2.length : Int) then (if ((rd_T56 bt162.2.2.2 t168).f1)=1 then (table_Commit.j0 k t168 (bt162.2.2.1 == 2147483647) bt162.1 bt162.2.1 bt162.2.2.1 bt162.2.2.2) else (table_Commit.j0 k t168 true bt162.1 bt162.2.1 bt162.2.2.1 bt162.2.2.2)) else (none)) else (none))))) else (some (0,0,0,([] : List (S56)),0,t161)))=some (r1,r2,r3,r4,r5,r6):=H
 have A3:=A_ A30;clear A30
 by_cases c4 : t161=0
 rotate_left
 ·rw [if_neg c4] at H
  have c4b0 : (t161 == 0)=false:=beq_eq_false_iff_ne.mpr c4;have c4b1 : (t161 != 0)=true:=bne_iff_ne.mpr c4
  simp only [Option.some.injEq,Prod.mk.injEq] at H
  obtain ⟨rfl,rfl,rfl,rfl,rfl,rfl⟩:=H;go_enter Tryd.func19,Tryd.ntmps19
  go_wp2_with (first|((with_reducible refine gate_dst (N:=2) rfl ?_);refine box_event ?hg (N:=2) ?hd (cs:=#[.int .i64 a0_0,.int .i64 a0_1,.int .i64 a0_2,.slice A0_3 l0_3.length c0_3]) (t:=26) ?hr ?_;(case hd=>rfl);(case hg=>rfl);(case hr=>first|(go_simp;done)|(go_simp;rfl));intro gb159 hg w58 hbox hb;have n0_:=A_ (bp_ (hb0_ HB.out) hb);have n1_:=A_ (hbox);have n2_:=A_ ((by rw [hg];exact (bz_ (hb0_ HB.out)) : w.heap.size≤gb159));have n3_:=n2_;clear HB;have HB:=n0_;have BK159:=n1_;have GW159:=n2_;have GE159:=n3_;clear n0_ n1_ n2_ n3_;clear hb hbox hg)|((with_reducible refine gate_dst (N:=4) rfl ?_);refine box_event ?hg (N:=4) ?hd (cs:=#[.int .i64 0,.int .i64 0,.int .i64 0,.slice none 0 0]) (t:=26) ?hr ?_;(case hd=>rfl);(case hg=>rfl);(case hr=>first|(go_simp;done)|(go_simp;rfl));intro gb160 hg w59 hbox hb;have n0_:=A_ (bx_ BK159.out kf_ hb);have n1_:=A_ (bp_ (hb1_ HB.out GE159.out) hb);have n2_:=A_ (hbox);have n3_:=A_ ((by rw [hg];exact (bz_ (hb1_ HB.out GE159.out)) : w.heap.size≤gb160));have n4_:=n3_;have n5_:=A_ ((by rw [hg];exact Nat.ne_of_lt (bl_ BK159.out kf_) : gb159≠gb160));have n6_:=A_ (Ne.symm n5_.out);clear BK159;clear HB;have BK159:=n0_;have HB:=n1_;have BK160:=n2_;have GW160:=n3_;have GE160:=n4_;have NB159_160:=n5_;have NB160_159:=n6_;clear n0_ n1_ n2_ n3_ n4_ n5_ n6_;clear hb hbox hg;have hnb60:=NB159_160.out;have hnc60:=NB160_159.out;obtain ⟨z61_0,z61_1,z61_2,z61_3⟩:=blkc_4 BK159.out;obtain ⟨y61_0,y61_1,y61_2⟩:=blkz_3 BK159.out;have y61_3:=bf_ BK159.out 3)|((with_reducible refine gate_callee (f:=13) rfl ?_);refine goesL_ (some 10) rfl rfl Tryd.func13 (by kernel_rfl) rfl #[.agg #[.int .i64 a0_0,.int .i64 a0_1,.int .i64 a0_2,.slice A0_3 l0_3.length c0_3]] rfl (by (try simp only [List.map_toArray,List.map_cons,List.map_nil]);first|done|rfl|(simp only [List.length_drop,List.length_take];rfl)) ?_;(with_reducible refine (table_Check.calls k a0_0 a0_1 a0_2 _ _ l0_3 t161 _ ?side1 ?side2 A3.out).mono ?_);(case side1=>repeat (first|exact (Kd.C_below HR0_3.out HB.out)|(with_reducible refine Kd.C_alloc ?_ _)|(with_reducible refine Kd.C_drewN ?_ _)|(with_reducible refine Kd.C_drew ?_)));(case side2=>exact HC0_3.out);rintro e w62 ⟨rfl,hb⟩;refine ⟨_,rfl,?_⟩;have n0_:=A_ (bx_ BK159.out kf_ hb);have n1_:=A_ (bx_ BK160.out kf_ hb);have n2_:=A_ (bp_ (hb2_ HB.out GE159.out GE160.out) hb);clear BK159;clear BK160;clear HB;have BK159:=n0_;have BK160:=n1_;have HB:=n2_;clear n0_ n1_ n2_;(try clear hb);(try clear hb2);(try clear hk);(try clear hi);obtain ⟨z63_0,z63_1,z63_2,z63_3⟩:=blkc_4 BK160.out;obtain ⟨y63_0,y63_1,y63_2⟩:=blkz_3 BK160.out;have y63_3:=bf_ BK160.out 3))
  refine bodyPost_ret (results_ctt rfl _ _ gb160 26 #[.int .i64 0,.int .i64 0,.int .i64 0,.slice none 0 0] (0,0) _ rfl (by refine kk_ ?_;apply blkf_4_0_3;exact kk_ BK160.out) Tryd.underlying26 rfl (by kernel_rfl)) rfl ?_
  exact ⟨_,by first|rfl|(simp [errW_none,errW_some] <;> rfl)|(simp [*,errW_none,errW_some] <;> rfl),by first|exact Kd.R_nil _ _ _ _ _|exact Kd.N_nil _ _ _ _ _|exact Kd.V_nil _ _ _ _ _|exact Kd.Q_nil _ _ _ _ _|exact Kd.S_nil _ _ _ _ _,hb2_ HB.out GE159.out GE160.out⟩
 rw [if_pos c4] at H
 have c4b0 : (t161 == 0)=true:=beq_iff_eq.mpr c4;have c4b1 : (t161 != 0)=false:=bne_eq_false_iff_eq.mpr c4;clear c4;replace H:=Option.bind_eq_some_iff.mp H;obtain ⟨⟨t162,t163,t164,t165⟩,A50,H⟩:=H
 replace H : ((table_Find.f k t162 t163 t164 t165 a1).bind fun t168=>(if t168<0 then (some (t162,t163,t164,t165,0,3)) else (if 0≤t168 then (if t168<(t165.length : Int) then (if ((rd_T56 t165 t168).f1)=1 then (table_Commit.j0 k t168 (t164 == 2147483647) t162 t163 t164 t165) else (table_Commit.j0 k t168 true t162 t163 t164 t165)) else (none)) else (none))))=some (r1,r2,r3,r4,r5,r6):=H
 have A5:=A_ A50;clear A50;replace H:=Option.bind_eq_some_iff.mp H;obtain ⟨t168,A60,H⟩:=H
 replace H : (if t168<0 then (some (t162,t163,t164,t165,0,3)) else (if 0≤t168 then (if t168<(t165.length : Int) then (if ((rd_T56 t165 t168).f1)=1 then (table_Commit.j0 k t168 (t164 == 2147483647) t162 t163 t164 t165) else (table_Commit.j0 k t168 true t162 t163 t164 t165)) else (none)) else (none)))=some (r1,r2,r3,r4,r5,r6):=H
 have A6:=A_ A60;clear A60
 by_cases c7 : t168<0
 ·rw [if_pos c7] at H
  have c7b0 : decide (t168<0)=true:=dt_ c7;clear c7
  simp only [Option.some.injEq,Prod.mk.injEq] at H
  obtain ⟨rfl,rfl,rfl,rfl,rfl,rfl⟩:=H;go_enter Tryd.func19,Tryd.ntmps19
  go_wp2_with (first|((with_reducible refine gate_dst (N:=2) rfl ?_);refine box_event ?hg (N:=2) ?hd (cs:=#[.int .i64 a0_0,.int .i64 a0_1,.int .i64 a0_2,.slice A0_3 l0_3.length c0_3]) (t:=26) ?hr ?_;(case hd=>rfl);(case hg=>rfl);(case hr=>first|(go_simp;done)|(go_simp;rfl));intro gb159 hg w8 hbox hb;have n0_:=A_ (bp_ (hb0_ HB.out) hb);have n1_:=A_ (hbox);have n2_:=A_ ((by rw [hg];exact (bz_ (hb0_ HB.out)) : w.heap.size≤gb159));have n3_:=n2_;clear HB;have HB:=n0_;have BK159:=n1_;have GW159:=n2_;have GE159:=n3_;clear n0_ n1_ n2_ n3_;clear hb hbox hg)|((with_reducible refine gate_dst (N:=4) rfl ?_);refine box_event ?hg (N:=4) ?hd (cs:=#[.int .i64 0,.int .i64 0,.int .i64 0,.slice none 0 0]) (t:=26) ?hr ?_;(case hd=>rfl);(case hg=>rfl);(case hr=>first|(go_simp;done)|(go_simp;rfl));intro gb160 hg w9 hbox hb;have n0_:=A_ (bx_ BK159.out kf_ hb);have n1_:=A_ (bp_ (hb1_ HB.out GE159.out) hb);have n2_:=A_ (hbox);have n3_:=A_ ((by rw [hg];exact (bz_ (hb1_ HB.out GE159.out)) : w.heap.size≤gb160));have n4_:=n3_;have n5_:=A_ ((by rw [hg];exact Nat.ne_of_lt (bl_ BK159.out kf_) : gb159≠gb160));have n6_:=A_ (Ne.symm n5_.out);clear BK159;clear HB;have BK159:=n0_;have HB:=n1_;have BK160:=n2_;have GW160:=n3_;have GE160:=n4_;have NB159_160:=n5_;have NB160_159:=n6_;clear n0_ n1_ n2_ n3_ n4_ n5_ n6_;clear hb hbox hg;have hnb10:=NB159_160.out;have hnc10:=NB160_159.out;obtain ⟨z11_0,z11_1,z11_2,z11_3⟩:=blkc_4 BK159.out;obtain ⟨y11_0,y11_1,y11_2⟩:=blkz_3 BK159.out;have y11_3:=bf_ BK159.out 3)|((with_reducible refine gate_callee (f:=13) rfl ?_);refine goesL_ (some 10) rfl rfl Tryd.func13 (by kernel_rfl) rfl #[.agg #[.int .i64 a0_0,.int .i64 a0_1,.int .i64 a0_2,.slice A0_3 l0_3.length c0_3]] rfl (by (try simp only [List.map_toArray,List.map_cons,List.map_nil]);first|done|rfl|(simp only [List.length_drop,List.length_take];rfl)) ?_;(with_reducible refine (table_Check.calls k a0_0 a0_1 a0_2 _ _ l0_3 t161 _ ?side1 ?side2 A3.out).mono ?_);(case side1=>repeat (first|exact (Kd.C_below HR0_3.out HB.out)|(with_reducible refine Kd.C_alloc ?_ _)|(with_reducible refine Kd.C_drewN ?_ _)|(with_reducible refine Kd.C_drew ?_)));(case side2=>exact HC0_3.out);rintro e w12 ⟨rfl,hb⟩;refine ⟨_,rfl,?_⟩;have n0_:=A_ (bx_ BK159.out kf_ hb);have n1_:=A_ (bx_ BK160.out kf_ hb);have n2_:=A_ (bp_ (hb2_ HB.out GE159.out GE160.out) hb);clear BK159;clear BK160;clear HB;have BK159:=n0_;have BK160:=n1_;have HB:=n2_;clear n0_ n1_ n2_;(try clear hb);(try clear hb2);(try clear hk);(try clear hi);obtain ⟨z13_0,z13_1,z13_2,z13_3⟩:=blkc_4 BK159.out;obtain ⟨y13_0,y13_1,y13_2⟩:=blkz_3 BK159.out;have y13_3:=bf_ BK159.out 3)|((with_reducible refine gate_callee (f:=37) rfl ?_);refine goesL_ (some 16) rfl rfl Tryd.func37 (by kernel_rfl) rfl #[.agg #[.int .i64 a0_0,.int .i64 a0_1,.int .i64 a0_2,.slice A0_3 l0_3.length c0_3]] rfl (by (try simp only [List.map_toArray,List.map_cons,List.map_nil]);first|done|rfl|(simp only [List.length_drop,List.length_take];rfl)) ?_;(with_reducible refine (table_own.calls a0_0 a0_1 a0_2 _ _ l0_3 t162 t163 t164 t165 _ ?side1 ?side2 A5.out).mono ?_);(case side1=>repeat (first|exact (Kd.C_below HR0_3.out HB.out)|(with_reducible refine Kd.C_alloc ?_ _)|(with_reducible refine Kd.C_drewN ?_ _)|(with_reducible refine Kd.C_drew ?_)));(case side2=>exact HC0_3.out);rintro e w14 ⟨v166,rfl,ho0,hb⟩;refine ⟨_,rfl,?_⟩;have n0_:=A_ (Kd.R_lower ho0 (bz_ (hb2_ HB.out GE159.out GE160.out)));have n1_:=A_ (bx_ BK159.out kf_ hb);have n2_:=A_ (bx_ BK160.out kf_ hb);have n3_:=A_ (bp_ (hb2_ HB.out GE159.out GE160.out) hb);clear BK159;clear BK160;clear HB;have HO167:=n0_;have BK159:=n1_;have BK160:=n2_;have HB:=n3_;clear n0_ n1_ n2_ n3_;(try clear hb);(try clear hb2);(try clear hk);(try clear hi);(try clear ho0);obtain ⟨z15_0,z15_1,z15_2,z15_3⟩:=blkc_4 BK159.out;obtain ⟨y15_0,y15_1,y15_2,y15_3⟩:=blkz_4 BK159.out;obtain ⟨Ao16,co16,eo16⟩:=Kd.R_slice HO167.out;subst eo16)|((with_reducible refine gate_callee (f:=16) rfl ?_);refine goesL_ (some 19) rfl rfl Tryd.func16 (by kernel_rfl) rfl #[.agg #[.int .i64 t162,.int .i64 t163,.int .i64 t164,.slice Ao16 t165.length co16],.int .i64 a1] rfl (by (try simp only [List.map_toArray,List.map_cons,List.map_nil]);first|done|rfl|(simp only [List.length_drop,List.length_take];rfl)) ?_;(with_reducible refine (table_Find.calls k t162 t163 t164 _ _ t165 a1 t168 _ ?side1 ?side2 A6.out).mono ?_);(case side1=>refine (Kd.R_reads' (e:=56) (base:=w.heap.size) (ok:=fun k_=>True) (n:=t165.length) (c:=co16) ?_).2.2;exact (by (with_reducible repeat (first|apply ra_|apply rn_|apply re_));exact (Kd.R_mono (rf_ (p:=⟨gb159,3,none⟩) (rf_ (p:=⟨gb159,2,none⟩) (rf_ (p:=⟨gb159,1,none⟩) (rf_ (p:=⟨gb159,0,none⟩) (Kd.R_types HO167.out BK159.out (by decide)) (fun _ hk=>hk.2) (.int .i64 t162)) (fun _ hk=>hk.2) (.int .i64 t163)) (fun _ hk=>hk.2) (.int .i64 t164)) (fun _ hk=>hk.2) (.slice Ao16 t165.length co16)) (fun _ h_=>h_.1))));(case side2=>exact (Kd.R_reads' HO167.out).2.1);rintro e w17 ⟨rfl,hb⟩;refine ⟨_,rfl,?_⟩;have n0_:=A_ (Kd.R_below (by (with_reducible repeat (first|apply ra_|apply rn_|apply re_));exact (Kd.R_mono (rf_ (p:=⟨gb159,3,none⟩) (rf_ (p:=⟨gb159,2,none⟩) (rf_ (p:=⟨gb159,1,none⟩) (rf_ (p:=⟨gb159,0,none⟩) (Kd.R_types HO167.out BK159.out (by decide)) (fun _ hk=>hk.2) (.int .i64 t162)) (fun _ hk=>hk.2) (.int .i64 t163)) (fun _ hk=>hk.2) (.int .i64 t164)) (fun _ hk=>hk.2) (.slice Ao16 t165.length co16)) (fun _ h_=>h_.1))) hb);have n1_:=A_ (bb_ (g:=gb159) (o:=.cells #[.int .i64 t162,.int .i64 t163,.int .i64 t164,.slice Ao16 t165.length co16] 26 (0,0)) (by refine kk_ ?_;apply blkf_4_0_3;exact kk_ BK159.out) hb);have n2_:=A_ (bb_ (g:=gb160) (o:=.cells #[.int .i64 0,.int .i64 0,.int .i64 0,.slice none 0 0] 26 (0,0)) (by refine kk_ ?_;refine blk_far ?_ NB160_159.out _;refine kk_ ?_;refine blk_far ?_ NB160_159.out _;refine kk_ ?_;refine blk_far ?_ NB160_159.out _;refine kk_ ?_;refine blk_far ?_ NB160_159.out _;exact kk_ BK160.out) hb);have n3_:=A_ (bp_ (hb2_ HB.out GE159.out GE160.out) hb);clear HO167;clear BK159;clear BK160;clear HB;have HO167:=n0_;have BK159:=n1_;have BK160:=n2_;have HB:=n3_;clear n0_ n1_ n2_ n3_;(try clear hb);(try clear hb2);(try clear hk);(try clear hi);obtain ⟨z18_0,z18_1,z18_2,z18_3⟩:=blkc_4 BK159.out;obtain ⟨y18_0,y18_1,y18_2,y18_3⟩:=blkz_4 BK159.out;obtain ⟨z19_0,z19_1,z19_2,z19_3⟩:=blkc_4 BK160.out;obtain ⟨y19_0,y19_1,y19_2⟩:=blkz_3 BK160.out;have y19_3:=bf_ BK160.out 3))
  refine bodyPost_ret (results_ctt rfl _ _ gb160 26 #[.int .i64 t162,.int .i64 t163,.int .i64 t164,.slice Ao16 t165.length co16] (0,0) _ rfl (by refine kk_ ?_;apply blkf_4_0_3;exact kk_ BK160.out) Tryd.underlying26 rfl (by kernel_rfl)) rfl ?_
  exact ⟨_,by first|rfl|(simp [errW_none,errW_some] <;> rfl)|(simp [*,errW_none,errW_some] <;> rfl),by (with_reducible repeat (first|apply ra_|apply rn_|apply re_));exact Kd.R_mono (rf_ (p:=⟨gb160,3,none⟩) (rf_ (p:=⟨gb160,2,none⟩) (rf_ (p:=⟨gb160,1,none⟩) (rf_ (p:=⟨gb160,0,none⟩) (Kd.R_types HO167.out BK160.out (by decide)) (fun _ hk=>hk.2) (.int .i64 t162)) (fun _ hk=>hk.2) (.int .i64 t163)) (fun _ hk=>hk.2) (.int .i64 t164)) (fun _ hk=>hk.2) (.slice Ao16 t165.length co16)) (fun _ hk=>trivial),hb2_ HB.out GE159.out GE160.out⟩
 rw [if_neg c7] at H
 have c7b0 : decide (t168<0)=false:=df_ c7;clear c7;have HC20:=A_ H;clear H;go_enter Tryd.func19,Tryd.ntmps19
 go_upto_region 8 with (first|((with_reducible refine gate_dst (N:=2) rfl ?_);refine box_event ?hg (N:=2) ?hd (cs:=#[.int .i64 a0_0,.int .i64 a0_1,.int .i64 a0_2,.slice A0_3 l0_3.length c0_3]) (t:=26) ?hr ?_;(case hd=>rfl);(case hg=>rfl);(case hr=>first|(go_simp;done)|(go_simp;rfl));intro gb159 hg w21 hbox hb;have n0_:=A_ (bp_ (hb0_ HB.out) hb);have n1_:=A_ (hbox);have n2_:=A_ ((by rw [hg];exact (bz_ (hb0_ HB.out)) : w.heap.size≤gb159));have n3_:=n2_;clear HB;have HB:=n0_;have BK159:=n1_;have GW159:=n2_;have GE159:=n3_;clear n0_ n1_ n2_ n3_;clear hb hbox hg)|((with_reducible refine gate_dst (N:=4) rfl ?_);refine box_event ?hg (N:=4) ?hd (cs:=#[.int .i64 0,.int .i64 0,.int .i64 0,.slice none 0 0]) (t:=26) ?hr ?_;(case hd=>rfl);(case hg=>rfl);(case hr=>first|(go_simp;done)|(go_simp;rfl));intro gb160 hg w22 hbox hb;have n0_:=A_ (bx_ BK159.out kf_ hb);have n1_:=A_ (bp_ (hb1_ HB.out GE159.out) hb);have n2_:=A_ (hbox);have n3_:=A_ ((by rw [hg];exact (bz_ (hb1_ HB.out GE159.out)) : w.heap.size≤gb160));have n4_:=n3_;have n5_:=A_ ((by rw [hg];exact Nat.ne_of_lt (bl_ BK159.out kf_) : gb159≠gb160));have n6_:=A_ (Ne.symm n5_.out);clear BK159;clear HB;have BK159:=n0_;have HB:=n1_;have BK160:=n2_;have GW160:=n3_;have GE160:=n4_;have NB159_160:=n5_;have NB160_159:=n6_;clear n0_ n1_ n2_ n3_ n4_ n5_ n6_;clear hb hbox hg;have hnb23:=NB159_160.out;have hnc23:=NB160_159.out;obtain ⟨z24_0,z24_1,z24_2,z24_3⟩:=blkc_4 BK159.out;obtain ⟨y24_0,y24_1,y24_2⟩:=blkz_3 BK159.out;have y24_3:=bf_ BK159.out 3)|((with_reducible refine gate_callee (f:=13) rfl ?_);refine goesL_ (some 10) rfl rfl Tryd.func13 (by kernel_rfl) rfl #[.agg #[.int .i64 a0_0,.int .i64 a0_1,.int .i64 a0_2,.slice A0_3 l0_3.length c0_3]] rfl (by (try simp only [List.map_toArray,List.map_cons,List.map_nil]);first|done|rfl|(simp only [List.length_drop,List.length_take];rfl)) ?_;(with_reducible refine (table_Check.calls k a0_0 a0_1 a0_2 _ _ l0_3 t161 _ ?side1 ?side2 A3.out).mono ?_);(case side1=>repeat (first|exact (Kd.C_below HR0_3.out HB.out)|(with_reducible refine Kd.C_alloc ?_ _)|(with_reducible refine Kd.C_drewN ?_ _)|(with_reducible refine Kd.C_drew ?_)));(case side2=>exact HC0_3.out);rintro e w25 ⟨rfl,hb⟩;refine ⟨_,rfl,?_⟩;have n0_:=A_ (bx_ BK159.out kf_ hb);have n1_:=A_ (bx_ BK160.out kf_ hb);have n2_:=A_ (bp_ (hb2_ HB.out GE159.out GE160.out) hb);clear BK159;clear BK160;clear HB;have BK159:=n0_;have BK160:=n1_;have HB:=n2_;clear n0_ n1_ n2_;(try clear hb);(try clear hb2);(try clear hk);(try clear hi);obtain ⟨z26_0,z26_1,z26_2,z26_3⟩:=blkc_4 BK159.out;obtain ⟨y26_0,y26_1,y26_2⟩:=blkz_3 BK159.out;have y26_3:=bf_ BK159.out 3)|((with_reducible refine gate_callee (f:=37) rfl ?_);refine goesL_ (some 16) rfl rfl Tryd.func37 (by kernel_rfl) rfl #[.agg #[.int .i64 a0_0,.int .i64 a0_1,.int .i64 a0_2,.slice A0_3 l0_3.length c0_3]] rfl (by (try simp only [List.map_toArray,List.map_cons,List.map_nil]);first|done|rfl|(simp only [List.length_drop,List.length_take];rfl)) ?_;(with_reducible refine (table_own.calls a0_0 a0_1 a0_2 _ _ l0_3 t162 t163 t164 t165 _ ?side1 ?side2 A5.out).mono ?_);(case side1=>repeat (first|exact (Kd.C_below HR0_3.out HB.out)|(with_reducible refine Kd.C_alloc ?_ _)|(with_reducible refine Kd.C_drewN ?_ _)|(with_reducible refine Kd.C_drew ?_)));(case side2=>exact HC0_3.out);rintro e w27 ⟨v166,rfl,ho0,hb⟩;refine ⟨_,rfl,?_⟩;have n0_:=A_ (Kd.R_lower ho0 (bz_ (hb2_ HB.out GE159.out GE160.out)));have n1_:=A_ (bx_ BK159.out kf_ hb);have n2_:=A_ (bx_ BK160.out kf_ hb);have n3_:=A_ (bp_ (hb2_ HB.out GE159.out GE160.out) hb);clear BK159;clear BK160;clear HB;have HO167:=n0_;have BK159:=n1_;have BK160:=n2_;have HB:=n3_;clear n0_ n1_ n2_ n3_;(try clear hb);(try clear hb2);(try clear hk);(try clear hi);(try clear ho0);obtain ⟨z28_0,z28_1,z28_2,z28_3⟩:=blkc_4 BK159.out;obtain ⟨y28_0,y28_1,y28_2,y28_3⟩:=blkz_4 BK159.out;obtain ⟨Ao29,co29,eo29⟩:=Kd.R_slice HO167.out;subst eo29)|((with_reducible refine gate_callee (f:=16) rfl ?_);refine goesL_ (some 19) rfl rfl Tryd.func16 (by kernel_rfl) rfl #[.agg #[.int .i64 t162,.int .i64 t163,.int .i64 t164,.slice Ao29 t165.length co29],.int .i64 a1] rfl (by (try simp only [List.map_toArray,List.map_cons,List.map_nil]);first|done|rfl|(simp only [List.length_drop,List.length_take];rfl)) ?_;(with_reducible refine (table_Find.calls k t162 t163 t164 _ _ t165 a1 t168 _ ?side1 ?side2 A6.out).mono ?_);(case side1=>refine (Kd.R_reads' (e:=56) (base:=w.heap.size) (ok:=fun k_=>True) (n:=t165.length) (c:=co29) ?_).2.2;exact (by (with_reducible repeat (first|apply ra_|apply rn_|apply re_));exact (Kd.R_mono (rf_ (p:=⟨gb159,3,none⟩) (rf_ (p:=⟨gb159,2,none⟩) (rf_ (p:=⟨gb159,1,none⟩) (rf_ (p:=⟨gb159,0,none⟩) (Kd.R_types HO167.out BK159.out (by decide)) (fun _ hk=>hk.2) (.int .i64 t162)) (fun _ hk=>hk.2) (.int .i64 t163)) (fun _ hk=>hk.2) (.int .i64 t164)) (fun _ hk=>hk.2) (.slice Ao29 t165.length co29)) (fun _ h_=>h_.1))));(case side2=>exact (Kd.R_reads' HO167.out).2.1);rintro e w30 ⟨rfl,hb⟩;refine ⟨_,rfl,?_⟩;have n0_:=A_ (Kd.R_below (by (with_reducible repeat (first|apply ra_|apply rn_|apply re_));exact (Kd.R_mono (rf_ (p:=⟨gb159,3,none⟩) (rf_ (p:=⟨gb159,2,none⟩) (rf_ (p:=⟨gb159,1,none⟩) (rf_ (p:=⟨gb159,0,none⟩) (Kd.R_types HO167.out BK159.out (by decide)) (fun _ hk=>hk.2) (.int .i64 t162)) (fun _ hk=>hk.2) (.int .i64 t163)) (fun _ hk=>hk.2) (.int .i64 t164)) (fun _ hk=>hk.2) (.slice Ao29 t165.length co29)) (fun _ h_=>h_.1))) hb);have n1_:=A_ (bb_ (g:=gb159) (o:=.cells #[.int .i64 t162,.int .i64 t163,.int .i64 t164,.slice Ao29 t165.length co29] 26 (0,0)) (by refine kk_ ?_;apply blkf_4_0_3;exact kk_ BK159.out) hb);have n2_:=A_ (bb_ (g:=gb160) (o:=.cells #[.int .i64 0,.int .i64 0,.int .i64 0,.slice none 0 0] 26 (0,0)) (by refine kk_ ?_;refine blk_far ?_ NB160_159.out _;refine kk_ ?_;refine blk_far ?_ NB160_159.out _;refine kk_ ?_;refine blk_far ?_ NB160_159.out _;refine kk_ ?_;refine blk_far ?_ NB160_159.out _;exact kk_ BK160.out) hb);have n3_:=A_ (bp_ (hb2_ HB.out GE159.out GE160.out) hb);clear HO167;clear BK159;clear BK160;clear HB;have HO167:=n0_;have BK159:=n1_;have BK160:=n2_;have HB:=n3_;clear n0_ n1_ n2_ n3_;(try clear hb);(try clear hb2);(try clear hk);(try clear hi)))
 (try simp only [Act.put,u1_,u2_,u3_])
 go_cut [24] (fun v24 wc=>∃ (kq : Nat) (x24_19 : Bool),v24=.bool x24_19∧Aside0 (table_Commit.j0 kq t168 x24_19 t162 t163 t164 t165=some (r1,r2,r3,r4,r5,r6))∧Aside0 (kq≤k)∧Aside0 (Kd.R k56 56 wc w.heap.size (fun _=>True) (.slice Ao29 t165.length co29) t165)∧Aside0 (wc.heap[gb159]?=some (.cells #[.int .i64 t162,.int .i64 t163,.int .i64 t164,(.slice Ao29 t165.length co29)] 26 (0,0)))∧Aside0 (wc.heap[gb160]?=some (.cells #[.int .i64 0,.int .i64 0,.int .i64 0,(.slice none 0 0)] 26 (0,0)))∧Aside0 (Below w.heap.size w wc))
 case first =>
  have H:=HC20.out;clear HC20
  by_cases c31 : 0≤t168
  rotate_left
  ·rw [if_neg c31] at H
   exact absurd H (by simp)
  rw [if_pos c31] at H
  have c31b0 : decide (0≤t168)=true:=dt_ c31;clear c31;(first|rw [c31b0]|(simp only [i64_w,i32_w];rw [c31b0])|skip)
  by_cases c32 : t168<(t165.length : Int)
  rotate_left
  ·rw [if_neg c32] at H
   exact absurd H (by simp)
  rw [if_pos c32] at H
  have c32b0 : decide (t168<(t165.length : Int))=true:=dt_ c32;clear c32
  by_cases c33 : ((rd_T56 t165 t168).f1)=1
  rotate_left
  ·rw [if_neg c33] at H
   have c33b0 : (((rd_T56 t165 t168).f1) == 1)=false:=beq_eq_false_iff_ne.mpr c33;have c33b1 : (((rd_T56 t165 t168).f1) != 1)=true:=bne_iff_ne.mpr c33;have H':=A_ H;clear H;have hnb36:=NB159_160.out;have hnc36:=NB160_159.out;obtain ⟨z37_0,z37_1,z37_2,z37_3⟩:=blkc_4 BK159.out;obtain ⟨y37_0,y37_1,y37_2,y37_3⟩:=blkz_4 BK159.out
   have p169 : 0≤(t168 : Int):=od_ (by first|(with_reducible assumption)|assumption)
   have q169 : t168<(t165.length : Int):=od_ (by first|(with_reducible assumption)|assumption)
   obtain ⟨ad169,e169,hx169_0,hx169_1,hx169_2,hx169_3⟩:=at_T56 (Kd.R_reads' HO167.out).2.2 t168 p169 q169
   cases e169
   replace p169:=eq_true p169;replace q169:=eq_true q169;go_wp2;go_meet
   case rel=>exact ⟨_,true,rfl,H',⟨by first|omega|exact Nat.le_refl _⟩,⟨by (with_reducible repeat (first|apply ra_|apply rn_|apply re_));exact HO167.out⟩,⟨by exact kk_ BK159.out⟩,⟨by exact kk_ BK160.out⟩,⟨hb2_ HB.out GE159.out GE160.out⟩⟩
  rw [if_pos c33] at H
  have c33b0 : (((rd_T56 t165 t168).f1) == 1)=true:=beq_iff_eq.mpr c33;have c33b1 : (((rd_T56 t165 t168).f1) != 1)=false:=bne_eq_false_iff_eq.mpr c33;clear c33;have H':=A_ H;clear H;have hnb34:=NB159_160.out;have hnc34:=NB160_159.out;obtain ⟨z35_0,z35_1,z35_2,z35_3⟩:=blkc_4 BK159.out;obtain ⟨y35_0,y35_1,y35_2,y35_3⟩:=blkz_4 BK159.out
  have p169 : 0≤(t168 : Int):=od_ (by first|(with_reducible assumption)|assumption)
  have q169 : t168<(t165.length : Int):=od_ (by first|(with_reducible assumption)|assumption)
  obtain ⟨ad169,e169,hx169_0,hx169_1,hx169_2,hx169_3⟩:=at_T56 (Kd.R_reads' HO167.out).2.2 t168 p169 q169
  cases e169
  replace p169:=eq_true p169;replace q169:=eq_true q169;go_wp2;go_meet
  case rel=>exact ⟨_,((t164 == 2147483647)),(by first|rfl|(simp;done)|(simp [*];done)),H',⟨by first|omega|exact Nat.le_refl _⟩,⟨by (with_reducible repeat (first|apply ra_|apply rn_|apply re_));exact HO167.out⟩,⟨by exact kk_ BK159.out⟩,⟨by exact kk_ BK160.out⟩,⟨hb2_ HB.out GE159.out GE160.out⟩⟩
 case rest =>
  clear HC20;(try clear c1);(try clear p1);(try clear q1);(try clear hx1);(try clear c2);(try clear p2);(try clear c3);(try clear c4);(try clear c4b0);(try clear c4b1);(try clear c7);(try clear c7b0);(try clear c10);(try clear c13);(try clear c16);(try clear p16);(try clear q16);(try clear hx16);(try clear c19);(try clear c23);(try clear c31);(try clear c31b0);(try clear c32);(try clear c32b0);(try clear c33);(try clear c33b0);(try clear c33b1);(try clear c34);(try clear c36);(try clear c37);(try clear hx169_0);(try clear hx169_1);(try clear hx169_2);(try clear hx169_3);(try clear p169);(try clear q169);(try clear z11_0 z11_1 z11_2 z11_3 z13_0 z13_1 z13_2 z13_3 z15_0 z15_1 z15_2 z15_3 z18_0 z18_1 z18_2 z18_3 z19_0 z19_1 z19_2 z19_3 z24_0 z24_1 z24_2 z24_3 z26_0 z26_1 z26_2 z26_3 z28_0 z28_1 z28_2 z28_3 z35_0 z35_1 z35_2 z35_3 z37_0 z37_1 z37_2 z37_3 y11_0 y11_1 y11_2 y11_3 y13_0 y13_1 y13_2 y13_3 y15_0 y15_1 y15_2 y15_3 y18_0 y18_1 y18_2 y18_3 y19_0 y19_1 y19_2 y19_3 y24_0 y24_1 y24_2 y24_3 y26_0 y26_1 y26_2 y26_3 y28_0 y28_1 y28_2 y28_3 y35_0 y35_1 y35_2 y35_3 y37_0 y37_1 y37_2 y37_3);obtain ⟨kq,x24_19,rfl,HA,HJ19,HO_160003,BK159,BK160,HB⟩:=hcut
  cases kq with
  | zero=>exact absurd HA.out (by simp [table_Commit.j0])
  | succ kj19 =>
   have H:=HA.out;clear HA
   simp only [table_Commit.j0] at H
   by_cases c38 : x24_19=true
   ·subst c38
    have H1 : (some (t162,t163,t164,t165,0,2))=some (r1,r2,r3,r4,r5,r6):=by rw [if_pos rfl] at H;exact H
    clear H;have H:=H1;clear H1
    simp only [Option.some.injEq,Prod.mk.injEq] at H
    obtain ⟨rfl,rfl,rfl,rfl,rfl,rfl⟩:=H;have hnb39:=NB159_160.out;have hnc39:=NB160_159.out;obtain ⟨z40_0,z40_1,z40_2,z40_3⟩:=blkc_4 BK159.out;obtain ⟨y40_0,y40_1,y40_2,y40_3⟩:=blkz_4 BK159.out;obtain ⟨z41_0,z41_1,z41_2,z41_3⟩:=blkc_4 BK160.out;obtain ⟨y41_0,y41_1,y41_2,y41_3⟩:=blkz_4 BK160.out;go_wp2
    refine bodyPost_ret (results_ctt rfl _ _ gb160 26 #[.int .i64 t162,.int .i64 t163,.int .i64 t164,.slice Ao29 t165.length co29] (0,0) _ rfl (by refine kk_ ?_;apply blkf_4_0_3;exact kk_ BK160.out) Tryd.underlying26 rfl (by kernel_rfl)) rfl ?_
    exact ⟨_,by first|rfl|(simp [errW_none,errW_some] <;> rfl)|(simp [*,errW_none,errW_some] <;> rfl),by (with_reducible repeat (first|apply ra_|apply rn_|apply re_));exact Kd.R_mono (rf_ (p:=⟨gb160,3,none⟩) (rf_ (p:=⟨gb160,2,none⟩) (rf_ (p:=⟨gb160,1,none⟩) (rf_ (p:=⟨gb160,0,none⟩) (Kd.R_types HO_160003.out BK160.out (by decide)) (fun _ hk=>hk.2) (.int .i64 t162)) (fun _ hk=>hk.2) (.int .i64 t163)) (fun _ hk=>hk.2) (.int .i64 t164)) (fun _ hk=>hk.2) (.slice Ao29 t165.length co29)) (fun _ hk=>trivial),hb2_ HB.out GE159.out GE160.out⟩
   replace c38:=Bool.eq_false_iff.mpr c38
   subst c38
   have H1 : (if 0≤t168 then (if t168<(t165.length : Int) then ((some (t165.set (t168 : Int).toNat (⟨(rd_T56 t165 t168).f0,2,(rd_T56 t165 t168).f2,(rd_T56 t165 t168).f3⟩ : S56) : List (S56))).bind fun y170=>(some (t162,t163,wrap64 (t164 + 1),(y170.set (t168 : Int).toNat (⟨(rd_T56 y170 t168).f0,(rd_T56 y170 t168).f1,(rd_T56 y170 t168).f2,wrap64 (t164 + 1)⟩ : S56)),wrap64 (t164 + 1),0))) else (none)) else (none))=some (r1,r2,r3,r4,r5,r6):=by rw [if_neg (show ¬ (false=true) by decide)] at H;exact H
   clear H;have H:=H1;clear H1
   by_cases c42 : 0≤t168
   rotate_left
   ·rw [if_neg c42] at H
    exact absurd H (by simp)
   rw [if_pos c42] at H
   have c42b0 : decide (0≤t168)=true:=dt_ c42;clear c42
   by_cases c43 : t168<(t165.length : Int)
   rotate_left
   ·rw [if_neg c43] at H
    exact absurd H (by simp)
   rw [if_pos c43] at H
   have c43b0 : decide (t168<(t165.length : Int))=true:=dt_ c43;clear c43
   obtain ⟨y170,hy170⟩ : ∃ y_ : List (S56),y_=(t165.set (t168 : Int).toNat (⟨(rd_T56 t165 t168).f0,2,(rd_T56 t165 t168).f2,(rd_T56 t165 t168).f3⟩ : S56)):=⟨_,rfl⟩
   replace H : (some (t162,t163,wrap64 (t164 + 1),(y170.set (t168 : Int).toNat (⟨(rd_T56 y170 t168).f0,(rd_T56 y170 t168).f1,(rd_T56 y170 t168).f2,wrap64 (t164 + 1)⟩ : S56)),wrap64 (t164 + 1),0))=some (r1,r2,r3,r4,r5,r6):=by first|(rw [hy170];with_reducible exact H)|(have H2_:=(Option.bind_some _ _).symm.trans H;rw [hy170];with_reducible exact H2_)|(have H2_:=(Option.bind_some _ _).symm.trans H;with_reducible exact H2_)|with_reducible exact H|(rw [hy170];exact H)|exact H
   have Ny170:=A_ hy170;clear hy170
   obtain ⟨y171,hy171⟩ : ∃ y_ : List (S56),y_=(y170.set (t168 : Int).toNat (⟨(rd_T56 y170 t168).f0,(rd_T56 y170 t168).f1,(rd_T56 y170 t168).f2,wrap64 (t164 + 1)⟩ : S56)):=⟨_,rfl⟩
   replace H : (some (t162,t163,wrap64 (t164 + 1),y171,wrap64 (t164 + 1),0))=some (r1,r2,r3,r4,r5,r6):=by first|(rw [hy171];with_reducible exact H)|(have H2_:=(Option.bind_some _ _).symm.trans H;rw [hy171];with_reducible exact H2_)|(have H2_:=(Option.bind_some _ _).symm.trans H;with_reducible exact H2_)|with_reducible exact H|(rw [hy171];exact H)|exact H
   have Ny171:=A_ hy171;clear hy171
   simp only [Option.some.injEq,Prod.mk.injEq] at H
   obtain ⟨rfl,rfl,rfl,rfl,rfl,rfl⟩:=H;have hnb46:=NB159_160.out;have hnc46:=NB160_159.out;obtain ⟨z47_0,z47_1,z47_2,z47_3⟩:=blkc_4 BK159.out;obtain ⟨y47_0,y47_1,y47_2,y47_3⟩:=blkz_4 BK159.out
   try go_wp2
   have n0_ : Aside0 (Kd.R k56 56 (wc.setCell ⟨gb159,2,none⟩ (.int .i64 (wrap64 (t164 + 1)))) w.heap.size (fun _=>True) (.slice Ao29 t165.length co29) t165):=⟨by (with_reducible repeat (first|apply ra_|apply rn_|apply re_));exact Kd.R_mono (rf_ (p:=⟨gb159,2,none⟩) (Kd.R_types HO_160003.out BK159.out (by decide)) (fun _ hk=>hk.2) (.int .i64 (wrap64 (t164 + 1)))) (fun _ hk=>trivial)⟩
   have n1_ : Aside0 ((wc.setCell ⟨gb159,2,none⟩ (.int .i64 (wrap64 (t164 + 1)))).heap[gb159]?=some (.cells #[.int .i64 t162,.int .i64 t163,.int .i64 (wrap64 (t164 + 1)),.slice Ao29 t165.length co29] 26 (0,0))):=⟨by refine kk_ ?_;refine blk_put (cs:=#[.int .i64 t162,.int .i64 t163,.int .i64 t164,.slice Ao29 t165.length co29]) ?_ 2 _ rfl;exact kk_ BK159.out⟩
   have n2_ : Aside0 ((wc.setCell ⟨gb159,2,none⟩ (.int .i64 (wrap64 (t164 + 1)))).heap[gb160]?=some (.cells #[.int .i64 0,.int .i64 0,.int .i64 0,.slice none 0 0] 26 (0,0))):=⟨by refine kk_ ?_;refine blk_far ?_ NB160_159.out _;exact kk_ BK160.out⟩
   have n3_ : Aside0 (Below w.heap.size w (wc.setCell ⟨gb159,2,none⟩ (.int .i64 (wrap64 (t164 + 1))))):=⟨hb2_ HB.out GE159.out GE160.out⟩;(try clear HO_160003);(try clear BK159);(try clear BK160);(try clear HB)
   generalize (wc.setCell ⟨gb159,2,none⟩ (.int .i64 (wrap64 (t164 + 1))))=w48 at n0_ n1_ n2_ n3_ ⊢
   have HO_160003:=n0_;have BK159:=n1_;have BK160:=n2_;have HB:=n3_;clear n0_ n1_ n2_ n3_;have n0_:=A_ (re_ HO_160003.out);have n1_:=A_ (ke_ BK159.out);have n2_:=A_ (ke_ BK160.out);have n3_:=A_ (be_ HB.out);clear HO_160003;clear BK159;clear BK160;clear HB;have HO_160003:=n0_;have BK159:=n1_;have BK160:=n2_;have HB:=n3_;clear n0_ n1_ n2_ n3_
   have p44 : 0≤(t168 : Int):=od_ (by first|(with_reducible assumption)|assumption)
   have q44 : (t168 : Int)<((t165.length : Int) : Int):=od_ (by first|(with_reducible assumption)|assumption)
   obtain ⟨go44,co44,eo44,gb44,gl44,cl44,HG44⟩:=Kd.R_form HO_160003.out (by omega)
   (first|cases eo44|(injection eo44 with ea_ en_ ec_;(first|subst ea_|(injection ea_ with ea_;subst ea_));subst ec_;clear en_))
   have GB44:=A_ gb44;have GG44:=A_ HG44;clear gb44 gl44 HG44;obtain ⟨ce44,hcl44,hM44,hcc44,hfr44⟩:=Kd.R_elem HO_160003.out z56 (t168 : Int) p44 q44;obtain rfl:=k56_openM hM44;have hx44_0 : World.cell? _ ⟨go44,(t168 : Int).toNat * 4,none⟩=some (.int .i64 ((rd_T56 t165 t168).f0)):=hcc44 0 _ rfl;have hx44_1 : World.cell? _ ⟨go44,(t168 : Int).toNat * 4 + 1,none⟩=some (.int .i64 ((rd_T56 t165 t168).f1)):=hcc44 1 _ rfl;have hx44_2 : World.cell? _ ⟨go44,(t168 : Int).toNat * 4 + 2,none⟩=some (.int .i64 ((rd_T56 t165 t168).f2)):=hcc44 2 _ rfl;have hx44_3 : World.cell? _ ⟨go44,(t168 : Int).toNat * 4 + 3,none⟩=some (.int .i64 ((rd_T56 t165 t168).f3)):=hcc44 3 _ rfl;have hf44_0 : World.frozen? _ ⟨go44,(t168 : Int).toNat * 4,none⟩=false:=hfr44 0;have hf44_1 : World.frozen? _ ⟨go44,(t168 : Int).toNat * 4 + 1,none⟩=false:=hfr44 1;have hf44_2 : World.frozen? _ ⟨go44,(t168 : Int).toNat * 4 + 2,none⟩=false:=hfr44 2;have hf44_3 : World.frozen? _ ⟨go44,(t168 : Int).toNat * 4 + 3,none⟩=false:=hfr44 3;clear hcl44 hcc44 hfr44 hM44;replace p44:=eq_true p44;replace q44:=eq_true q44
   obtain ⟨ce50,hcl50,hM50,hcc50,hfr50⟩:=Kd.R_elem HO_160003.out z56 (t168 : Int) (od_ (by first|(with_reducible assumption)|assumption)) (by have h_ : (t168 : Int)<((t165.length : Int) : Int):=od_ (by first|(with_reducible assumption)|assumption);first|exact h_|(have e_:=(Kd.R_reads' HO_160003.out).1;omega)|simpa using h_)
   obtain rfl:=k56_openM hM50
   have HP50:=(Kd.R_seg HO_160003.out (t168 : Int) (od_ (by first|(with_reducible assumption)|assumption)) (by have h_ : (t168 : Int)<((t165.length : Int) : Int):=od_ (by first|(with_reducible assumption)|assumption);first|exact h_|(have e_:=(Kd.R_reads' HO_160003.out).1;omega)|simpa using h_) (seg:=[.int .i64 2]) (j:=1) hcl50 hcc50 (show 2≤4 from by decide) (x':=(⟨(rd_T56 t165 t168).f0,2,(rd_T56 t165 t168).f2,(rd_T56 t165 t168).f3⟩ : S56)) (k56_mkM _ _ _ (⟨(rd_T56 t165 t168).f0,2,(rd_T56 t165 t168).f2,(rd_T56 t165 t168).f3⟩ : S56) ) (fun _ hk=>hk)).1
   rw [← Ny170.out] at HP50;have HQ50:=A_ HP50;clear hcl50 hcc50 hfr50 hM50 HP50
   have p45 : 0≤(t168 : Int):=od_ (by first|(with_reducible assumption)|assumption)
   have q45 : (t168 : Int)<((t165.length : Int) : Int):=od_ (by first|(with_reducible assumption)|assumption)
   replace p45:=eq_true p45;replace q45:=eq_true q45
   obtain ⟨ce51,hcl51,hM51,hcc51,hfr51⟩:=Kd.R_elem HQ50.out z56 (t168 : Int) (od_ (by first|(with_reducible assumption)|assumption)) (by have h_ : (t168 : Int)<((t165.length : Int) : Int):=od_ (by first|(with_reducible assumption)|assumption);first|exact h_|(have e_:=(Kd.R_reads' HO_160003.out).1;omega)|simpa using h_)
   obtain rfl:=k56_openM hM51
   have HP51:=(Kd.R_seg HQ50.out (t168 : Int) (od_ (by first|(with_reducible assumption)|assumption)) (by have h_ : (t168 : Int)<((t165.length : Int) : Int):=od_ (by first|(with_reducible assumption)|assumption);first|exact h_|(have e_:=(Kd.R_reads' HO_160003.out).1;omega)|simpa using h_) (seg:=[.int .i64 (wrap64 (t164 + 1))]) (j:=3) hcl51 hcc51 (show 4≤4 from by decide) (x':=(⟨(rd_T56 y170 t168).f0,(rd_T56 y170 t168).f1,(rd_T56 y170 t168).f2,wrap64 (t164 + 1)⟩ : S56)) (k56_mkM _ _ _ (⟨(rd_T56 y170 t168).f0,(rd_T56 y170 t168).f1,(rd_T56 y170 t168).f2,wrap64 (t164 + 1)⟩ : S56) ) (fun _ hk=>hk)).1
   rw [← Ny171.out] at HP51;have HQ51:=A_ HP51;clear hcl51 hcc51 hfr51 hM51 HP51
   refine start_ (n:=14) (S:=fun w'=>w'.cell? ⟨gb159,0,none⟩=some (.int .i64 t162)∧w'.cell? ⟨gb159,1,none⟩=some (.int .i64 t163)∧w'.cell? ⟨gb159,2,none⟩=some (.int .i64 (wrap64 (t164 + 1)))∧w'.cell? ⟨gb159,3,none⟩=some (.slice (some ⟨go44,0,none⟩) t165.length co29)) (ds:=[13]) #[Z,Z,Z,Z,Z,Z,Z,Z,Z,Z,Z,Z,Z,Z] (by kernel_rfl) rfl rfl ⟨(bc_ BK159.out 0).trans rfl,(bc_ BK159.out 1).trans rfl,(bc_ BK159.out 2).trans rfl,(bc_ BK159.out 3).trans rfl⟩ (fun hHeld=>?_);refine with_tabW table_Commit.tab11 table_Commit.bits11 (fun HT_ HW_=>?_)
   generalize w48.drew=w49 at HO_160003 BK159 BK160 HB GG44 HQ50 HQ51 hf44_0 hf44_1 hf44_2 hf44_3 hx44_0 hx44_1 hx44_2 hx44_3 hHeld ⊢
   refine pu_ (i:=0) (N:=some 42) (v:=?_) (a':=?_) #[Y,Z,Z,Z,Z,Z,Z,Z,Z,Z,Z,Z,Z,Z] rfl rfl HT_.out (by kernel_rfl) (fun _ _ _ h=>h) (by rfl) ?_ ?_ ?_;rotate_left;(intro w';go_simp;with_reducible rfl);rotate_left;(simp only [Act.put,q1_,q2_,q3_,i64_w,i32_w];rfl)
   refine pu_ (i:=2) (N:=some 44) (v:=?_) (a':=?_) #[Y,Z,Y,Z,Z,Z,Z,Z,Z,Z,Z,Z,Z,Z] rfl rfl HT_.out (by kernel_rfl) (fun _ _ _ h=>h) (by rfl) ?_ ?_ ?_;rotate_left;(intro w';go_simp;with_reducible rfl);rotate_left;(simp only [Act.put,q1_,q2_,q3_,i64_w,i32_w];rfl)
   refine pu_ (i:=3) (N:=some 45) (v:=?_) (a':=?_) #[Y,Z,Y,Y,Z,Z,Z,Z,Z,Z,Z,Z,Z,Z] rfl rfl HT_.out (by kernel_rfl) (fun _ _ _ h=>h) (by rfl) ?_ ?_ ?_;rotate_left;(intro w';go_simp;with_reducible rfl);rotate_left;(simp only [Act.put,q1_,q2_,q3_,i64_w,i32_w];rfl)
   refine pu_ (i:=5) (N:=some 47) (v:=?_) (a':=?_) #[Y,Z,Y,Y,Z,Y,Z,Z,Z,Z,Z,Z,Z,Z] rfl rfl HT_.out (by kernel_rfl) (fun _ _ _ h=>h) (by rfl) ?_ ?_ ?_;rotate_left;(intro w';go_simp;with_reducible rfl);rotate_left;(simp only [Act.put,q1_,q2_,q3_,i64_w,i32_w];rfl)
   refine pu_ (i:=6) (N:=some 48) (v:=?_) (a':=?_) #[Y,Z,Y,Y,Z,Y,Y,Z,Z,Z,Z,Z,Z,Z] rfl rfl HT_.out (by kernel_rfl) (fun _ _ _ h=>h) (by rfl) ?_ ?_ ?_;rotate_left;(intro w';go_simp;with_reducible rfl);rotate_left;(simp only [Act.put,q1_,q2_,q3_,i64_w,i32_w];rfl)
   refine ta_ (i:=1) (N:=some 43) (v:=?_) (a':=?_) #[Y,Y,Y,Y,Z,Y,Y,Z,Z,Z,Z,Z,Z,Z] rfl rfl HT_.out HW_.out (by kernel_rfl) (fun _ _ _ h=>h) (by rfl) ?_ hHeld ?_ ?_;rotate_left;(rintro w' ⟨s0,s1,s2,s3⟩;go_simp;with_reducible rfl);rotate_left;(simp only [Act.put,q1_,q2_,q3_,i64_w,i32_w];rfl)
   refine pu_ (i:=8) (N:=some 50) (v:=?_) (a':=?_) #[Y,Y,Y,Y,Z,Y,Y,Z,Y,Z,Z,Z,Z,Z] rfl rfl HT_.out (by kernel_rfl) (fun _ _ _ h=>h) (by rfl) ?_ ?_ ?_;rotate_left;(intro w';go_simp;with_reducible rfl);rotate_left;(simp only [Act.put,q1_,q2_,q3_,i64_w,i32_w];rfl)
   refine pu_ (i:=9) (N:=some 51) (v:=?_) (a':=?_) #[Y,Y,Y,Y,Z,Y,Y,Z,Y,Y,Z,Z,Z,Z] rfl rfl HT_.out (by kernel_rfl) (fun _ _ _ h=>h) (by rfl) ?_ ?_ ?_;rotate_left;(intro w';go_simp;with_reducible rfl);rotate_left;(simp only [Act.put,q1_,q2_,q3_,i64_w,i32_w];rfl)
   refine ta_ (i:=4) (N:=some 46) (v:=?_) (a':=?_) #[Y,Y,Y,Y,Y,Y,Y,Z,Y,Y,Z,Z,Z,Z] rfl rfl HT_.out HW_.out (by kernel_rfl) (fun _ _ _ h=>h) (by rfl) ?_ hHeld ?_ ?_;rotate_left;(rintro w' ⟨s0,s1,s2,s3⟩;go_simp;with_reducible rfl);rotate_left;(simp only [Act.put,q1_,q2_,q3_,i64_w,i32_w];rfl)
   refine ta_ (i:=7) (N:=some 49) (v:=?_) (a':=?_) #[Y,Y,Y,Y,Y,Y,Y,Y,Y,Y,Z,Z,Z,Z] rfl rfl HT_.out HW_.out (by kernel_rfl) (fun _ _ _ h=>h) (by rfl) ?_ hHeld ?_ ?_;rotate_left;(rintro w' ⟨s0,s1,s2,s3⟩;go_simp;with_reducible rfl);rotate_left;(simp only [Act.put,q1_,q2_,q3_,i64_w,i32_w];rfl)
   refine one_ (i:=10) (N:=none) #[Y,Y,Y,Y,Y,Y,Y,Y,Y,Y,Y,Z,Z,Z] rfl rfl (one_of HT_.out (by kernel_rfl)) (by decide) (fun K hK=>?_)
   refine skip_ (w1:=?_) (by rfl) rfl ?_ ?_
   rotate_left
   ·go_simp
    rfl
   refine hK.out _ _ ⟨((cell_far (p:=⟨go44,_,none⟩) (by have h_:=Kd.R_ne HO_160003.out BK159.out (by decide);intro e_;exact h_ (congrArg some e_)) _).trans (hHeld.1)),((cell_far (p:=⟨go44,_,none⟩) (by have h_:=Kd.R_ne HO_160003.out BK159.out (by decide);intro e_;exact h_ (congrArg some e_)) _).trans (hHeld.2.1)),((cell_far (p:=⟨go44,_,none⟩) (by have h_:=Kd.R_ne HO_160003.out BK159.out (by decide);intro e_;exact h_ (congrArg some e_)) _).trans (hHeld.2.2.1)),((cell_far (p:=⟨go44,_,none⟩) (by have h_:=Kd.R_ne HO_160003.out BK159.out (by decide);intro e_;exact h_ (congrArg some e_)) _).trans (hHeld.2.2.2))⟩ (fun hHeld=>?_)
   clear hK K
   refine pu_ (i:=11) (N:=some 52) (v:=?_) (a':=?_) #[Y,Y,Y,Y,Y,Y,Y,Y,Y,Y,Y,Y,Z,Z] rfl rfl HT_.out (by kernel_rfl) (fun _ _ _ h=>h) (by rfl) ?_ ?_ ?_;rotate_left;(intro w';go_simp;with_reducible rfl);rotate_left;(simp only [Act.put,q1_,q2_,q3_,i64_w,i32_w];rfl)
   refine pu_ (i:=12) (N:=some 53) (v:=?_) (a':=?_) #[Y,Y,Y,Y,Y,Y,Y,Y,Y,Y,Y,Y,Y,Z] rfl rfl HT_.out (by kernel_rfl) (fun _ _ _ h=>h) (by rfl) ?_ ?_ ?_;rotate_left;(intro w';go_simp;with_reducible rfl);rotate_left;(simp only [Act.put,q1_,q2_,q3_,i64_w,i32_w];rfl)
   refine last_ (i:=13) (N:=none) #[Y,Y,Y,Y,Y,Y,Y,Y,Y,Y,Y,Y,Y,Y] rfl rfl (one_of HT_.out (by kernel_rfl)) (by decide) (fun K hK=>?_)
   refine skip_ (w1:=?_) (by rfl) rfl ?_ ?_
   rotate_left
   ·go_simp
    rfl
   refine hK.out _ _ ?_;clear hK K;refine done_ (done_of HT_.out (by kernel_rfl)) ?_
   have n0_ : Aside0 (Kd.R k56 56 ((w49.setCell ⟨go44,(t168 : Int).toNat * 4 + 1,none⟩ (.int .i64 2)).setCell ⟨go44,(t168 : Int).toNat * 4 + 3,none⟩ (.int .i64 (wrap64 (t164 + 1)))) w.heap.size (fun _=>True) (.slice (some ⟨go44,0,none⟩) t165.length co29) y171):=⟨by (with_reducible repeat (first|apply ra_|apply rn_|apply re_));exact HQ51.out⟩
   have n1_ : Aside0 (((w49.setCell ⟨go44,(t168 : Int).toNat * 4 + 1,none⟩ (.int .i64 2)).setCell ⟨go44,(t168 : Int).toNat * 4 + 3,none⟩ (.int .i64 (wrap64 (t164 + 1)))).heap[gb159]?=some (.cells #[.int .i64 t162,.int .i64 t163,.int .i64 (wrap64 (t164 + 1)),.slice (some ⟨go44,0,none⟩) t165.length co29] 26 (0,0))):=⟨by refine kk_ ?_;refine blk_far ?_ (by have h_:=Kd.R_ne HO_160003.out BK159.out (by decide);intro e_;exact h_ (by rw [e_];rfl)) _;refine kk_ ?_;refine blk_far ?_ (by have h_:=Kd.R_ne HO_160003.out BK159.out (by decide);intro e_;exact h_ (by rw [e_];rfl)) _;exact kk_ BK159.out⟩
   have n2_ : Aside0 (((w49.setCell ⟨go44,(t168 : Int).toNat * 4 + 1,none⟩ (.int .i64 2)).setCell ⟨go44,(t168 : Int).toNat * 4 + 3,none⟩ (.int .i64 (wrap64 (t164 + 1)))).heap[gb160]?=some (.cells #[.int .i64 0,.int .i64 0,.int .i64 0,.slice none 0 0] 26 (0,0))):=⟨by refine kk_ ?_;refine blk_far ?_ (by have h_:=Kd.R_ne HO_160003.out BK160.out (by decide);intro e_;exact h_ (by rw [e_];rfl)) _;refine kk_ ?_;refine blk_far ?_ (by have h_:=Kd.R_ne HO_160003.out BK160.out (by decide);intro e_;exact h_ (by rw [e_];rfl)) _;exact kk_ BK160.out⟩
   have n3_ : Aside0 (Below w.heap.size w ((w49.setCell ⟨go44,(t168 : Int).toNat * 4 + 1,none⟩ (.int .i64 2)).setCell ⟨go44,(t168 : Int).toNat * 4 + 3,none⟩ (.int .i64 (wrap64 (t164 + 1))))):=⟨hb4_ HB.out GB44.out GB44.out GE159.out GE160.out⟩;(try clear HO_160003);(try clear BK159);(try clear BK160);(try clear HB)
   generalize ((w49.setCell ⟨go44,(t168 : Int).toNat * 4 + 1,none⟩ (.int .i64 2)).setCell ⟨go44,(t168 : Int).toNat * 4 + 3,none⟩ (.int .i64 (wrap64 (t164 + 1))))=w52 at n0_ n1_ n2_ n3_ ⊢
   have HO_160003:=n0_;have BK159:=n1_;have BK160:=n2_;have HB:=n3_;clear n0_ n1_ n2_ n3_
   try go_wp2
   have n0_:=A_ (re_ HO_160003.out);have n1_:=A_ (ke_ BK159.out);have n2_:=A_ (ke_ BK160.out);have n3_:=A_ (be_ HB.out);clear HO_160003;clear BK159;clear BK160;clear HB;have HO_160003:=n0_;have BK159:=n1_;have BK160:=n2_;have HB:=n3_;clear n0_ n1_ n2_ n3_
   refine start_ (n:=6) (S:=fun w'=>w'.cell? ⟨gb159,0,none⟩=some (.int .i64 t162)∧w'.cell? ⟨gb159,1,none⟩=some (.int .i64 t163)∧w'.cell? ⟨gb159,2,none⟩=some (.int .i64 (wrap64 (t164 + 1)))∧w'.cell? ⟨gb159,3,none⟩=some (.slice (some ⟨go44,0,none⟩) t165.length co29)) (ds:=[]) #[Z,Z,Z,Z,Z,Z] (by kernel_rfl) rfl rfl ⟨(bc_ BK159.out 0).trans rfl,(bc_ BK159.out 1).trans rfl,(bc_ BK159.out 2).trans rfl,(bc_ BK159.out 3).trans rfl⟩ (fun hHeld=>?_)
   generalize w52.drew=w53 at HO_160003 BK159 BK160 HB hHeld ⊢
   refine pure_ (i:=1) (N:=some 55) (v:=?_) (a':=?_) #[Z,Y,Z,Z,Z,Z] rfl rfl (by kernel_rfl) (fun _ _ _ h=>h) (Or.inl ⟨by rfl,?_⟩) ?_ ?_;rotate_left;(intro w';go_simp;with_reducible rfl);rotate_left;(simp only [Act.put,q1_,q2_,q3_,i64_w,i32_w];rfl)
   refine take_ (i:=0) (N:=some 54) (v:=?_) (a':=?_) #[Y,Y,Z,Z,Z,Z] rfl rfl (by kernel_rfl) (fun _ _ _ h=>h) (Or.inl ⟨by rfl,?_⟩) hHeld ?_ ?_;rotate_left;(rintro w' ⟨s0,s1,s2,s3⟩;go_simp;with_reducible rfl);rotate_left;(simp only [Act.put,q1_,q2_,q3_,i64_w,i32_w];rfl)
   refine take_ (i:=2) (N:=some 56) (v:=?_) (a':=?_) #[Y,Y,Y,Z,Z,Z] rfl rfl (by kernel_rfl) (fun _ _ _ h=>h) (Or.inl ⟨by rfl,?_⟩) hHeld ?_ ?_;rotate_left;(rintro w' ⟨s0,s1,s2,s3⟩;go_simp;with_reducible rfl);rotate_left;(simp only [Act.put,q1_,q2_,q3_,i64_w,i32_w];rfl)
   refine one_ (i:=3) (N:=none) #[Y,Y,Y,Y,Z,Z] rfl rfl (by kernel_rfl) (by decide) (fun K hK=>?_)
   have hs54 : w53.cell? ⟨gb160,0,none⟩=some (.int .i64 0):=(bc_ BK160.out 0).trans rfl;have hfs54:=bf_ BK160.out 0;have hns54_0:=NB159_160.out;have hms54_0:=NB160_159.out;have hs55 : w53.cell? ⟨gb160,1,none⟩=some (.int .i64 0):=(bc_ BK160.out 1).trans rfl;have hfs55:=bf_ BK160.out 1;have hns55_0:=NB159_160.out;have hms55_0:=NB160_159.out;have hs56 : w53.cell? ⟨gb160,2,none⟩=some (.int .i64 0):=(bc_ BK160.out 2).trans rfl;have hfs56:=bf_ BK160.out 2;have hns56_0:=NB159_160.out;have hms56_0:=NB160_159.out;have hs57 : w53.cell? ⟨gb160,3,none⟩=some (.slice none 0 0):=(bc_ BK160.out 3).trans rfl;have hfs57:=bf_ BK160.out 3;have hns57_0:=NB159_160.out;have hms57_0:=NB160_159.out
   refine skip_ (w1:=?_) (by rfl) rfl ?_ ?_
   rotate_left
   ·go_simp
    rfl
   refine hK.out _ _ ⟨((cell_far (p:=⟨gb160,_,none⟩) NB159_160.out _).trans (((cell_far (p:=⟨gb160,_,none⟩) NB159_160.out _).trans (((cell_far (p:=⟨gb160,_,none⟩) NB159_160.out _).trans (((cell_far (p:=⟨gb160,_,none⟩) NB159_160.out _).trans (hHeld.1)))))))),((cell_far (p:=⟨gb160,_,none⟩) NB159_160.out _).trans (((cell_far (p:=⟨gb160,_,none⟩) NB159_160.out _).trans (((cell_far (p:=⟨gb160,_,none⟩) NB159_160.out _).trans (((cell_far (p:=⟨gb160,_,none⟩) NB159_160.out _).trans (hHeld.2.1)))))))),((cell_far (p:=⟨gb160,_,none⟩) NB159_160.out _).trans (((cell_far (p:=⟨gb160,_,none⟩) NB159_160.out _).trans (((cell_far (p:=⟨gb160,_,none⟩) NB159_160.out _).trans (((cell_far (p:=⟨gb160,_,none⟩) NB159_160.out _).trans (hHeld.2.2.1)))))))),((cell_far (p:=⟨gb160,_,none⟩) NB159_160.out _).trans (((cell_far (p:=⟨gb160,_,none⟩) NB159_160.out _).trans (((cell_far (p:=⟨gb160,_,none⟩) NB159_160.out _).trans (((cell_far (p:=⟨gb160,_,none⟩) NB159_160.out _).trans (hHeld.2.2.2))))))))⟩ (fun hHeld=>?_)
   clear hK K
   refine pure_ (i:=4) (N:=some 5) (v:=?_) (a':=?_) #[Y,Y,Y,Y,Y,Z] rfl rfl (by kernel_rfl) (fun _ _ _ h=>h) (Or.inl ⟨by rfl,?_⟩) ?_ ?_;rotate_left;(intro w';go_simp;with_reducible rfl);rotate_left;(simp only [Act.put,q1_,q2_,q3_,i64_w,i32_w];rfl)
   refine pure_ (i:=5) (N:=some 6) (v:=?_) (a':=?_) #[Y,Y,Y,Y,Y,Y] rfl rfl (by kernel_rfl) (fun _ _ _ h=>h) (Or.inl ⟨by rfl,?_⟩) ?_ ?_;rotate_left;(intro w';go_simp;with_reducible rfl);rotate_left;(simp only [Act.put,q1_,q2_,q3_,i64_w,i32_w];rfl)
   refine done_ (by kernel_rfl) ?_
   try go_wp2
   refine bodyPost_ret (results_ctt rfl _ _ gb160 26 #[.int .i64 t162,.int .i64 t163,.int .i64 (wrap64 (t164 + 1)),.slice (some ⟨go44,0,none⟩) t165.length co29] (0,0) _ rfl (by refine kk_ ?_;apply blkf_4_0_3;exact kk_ BK160.out) Tryd.underlying26 rfl (by kernel_rfl)) rfl ?_
   exact ⟨_,by first|rfl|(simp [errW_none,errW_some] <;> rfl)|(simp [*,errW_none,errW_some] <;> rfl),by (with_reducible repeat (first|apply ra_|apply rn_|apply re_));exact Kd.R_mono (rf_ (p:=⟨gb160,3,none⟩) (rf_ (p:=⟨gb160,2,none⟩) (rf_ (p:=⟨gb160,1,none⟩) (rf_ (p:=⟨gb160,0,none⟩) (Kd.R_types HO_160003.out BK160.out (by decide)) (fun _ hk=>hk.2) (.int .i64 t162)) (fun _ hk=>hk.2) (.int .i64 t163)) (fun _ hk=>hk.2) (.int .i64 (wrap64 (t164 + 1)))) (fun _ hk=>hk.2) (.slice (some ⟨go44,0,none⟩) t165.length co29)) (fun _ hk=>trivial),hb2_ HB.out GE159.out GE160.out⟩
def humuslaw11_awake.j0 : Nat→Bool→Option (Bool)
 | 0,_=>none
 | k + 1,x0=>some x0
def humuslaw11_awake.f (k : Nat)  : Option (Bool):=(table_First.f).bind fun bt172=>((table_Enter.f k bt172.1 bt172.2.1 bt172.2.2.1 bt172.2.2.2 5).bind fun bt178=>((table_Commit.f k bt178.1 bt178.2.1 bt178.2.2.1 bt178.2.2.2.1 5).bind fun bt187=>(if bt178.2.2.2.2.2=0 then (if bt187.2.2.2.2.2=0 then (if bt178.2.2.2.2.1=0 then (if bt187.2.2.2.2.1=1 then (if bt187.1=6 then ((table_Eldest.f k bt187.1 bt187.2.1 bt187.2.2.1 bt187.2.2.2.1).bind fun t195=>(humuslaw11_awake.j0 k (t195 == 5))) else (humuslaw11_awake.j0 k false)) else (humuslaw11_awake.j0 k false)) else (humuslaw11_awake.j0 k false)) else (humuslaw11_awake.j0 k false)) else (humuslaw11_awake.j0 k false))))
theorem humuslaw11_awake.mono_l : ∀ k,(∀ y0,LeO (humuslaw11_awake.j0 k y0) (humuslaw11_awake.j0 (k + 1) y0))
 | 0=>fun _ r h=>by simp [humuslaw11_awake.j0] at h
 | k + 1=>by
  have ih0:=humuslaw11_awake.mono_l k
  ·intro y0
   unfold humuslaw11_awake.j0
   repeat' first
   | (with_reducible exact ih0 _)
   | (with_reducible exact table_Commit.mono _ _ _ _ _ _)
   | (with_reducible exact table_Eldest.mono _ _ _ _ _)
   | (with_reducible exact table_Enter.mono _ _ _ _ _ _)
   | (with_reducible exact LeO.refl _)
   | (with_reducible exact LeO.none _)
   | (with_reducible refine LeO.ite ?_ ?_)
   | (with_reducible refine LeO.bind ?_ (fun _=>?_))
   | exact ih0 _
   | exact table_Commit.mono _ _ _ _ _ _
   | exact table_Eldest.mono _ _ _ _ _
   | exact table_Enter.mono _ _ _ _ _ _
   | exact LeO.none _
   | refine LeO.ite ?_ ?_
   | refine LeO.bind ?_ (fun _=>?_)
theorem humuslaw11_awake.mono : ∀ k,LeO (humuslaw11_awake.f k ) (humuslaw11_awake.f (k + 1) ):=by
 intro  k;have ih0:=humuslaw11_awake.mono_l k
 unfold humuslaw11_awake.f
 repeat' first
   | (with_reducible exact ih0 _)
   | (with_reducible exact table_Commit.mono _ _ _ _ _ _)
   | (with_reducible exact table_Eldest.mono _ _ _ _ _)
   | (with_reducible exact table_Enter.mono _ _ _ _ _ _)
   | (with_reducible exact LeO.refl _)
   | (with_reducible exact LeO.none _)
   | (with_reducible refine LeO.ite ?_ ?_)
   | (with_reducible refine LeO.bind ?_ (fun _=>?_))
   | exact ih0 _
   | exact table_Commit.mono _ _ _ _ _ _
   | exact table_Eldest.mono _ _ _ _ _
   | exact table_Enter.mono _ _ _ _ _ _
   | exact LeO.none _
   | refine LeO.ite ?_ ?_
   | refine LeO.bind ?_ (fun _=>?_)
set_option maxHeartbeats 8000000 in
set_option maxRecDepth 100000 in
theorem humuslaw11_awake.calls (k : Nat)  (r : Bool) (w : World) (h : humuslaw11_awake.f k  = some r) :
  Calls Tryd.prog 5 #[] w fun e w'=>e=.returned (.bool r)∧Below w.heap.size w w':=by
 have hu26:=Tryd.underlying26;have HB:=A_ (Below.refl w.heap.size w)
 have H : ((table_First.f).bind fun bt172=>((table_Enter.f k bt172.1 bt172.2.1 bt172.2.2.1 bt172.2.2.2 5).bind fun bt178=>((table_Commit.f k bt178.1 bt178.2.1 bt178.2.2.1 bt178.2.2.2.1 5).bind fun bt187=>(if bt178.2.2.2.2.2=0 then (if bt187.2.2.2.2.2=0 then (if bt178.2.2.2.2.1=0 then (if bt187.2.2.2.2.1=1 then (if bt187.1=6 then ((table_Eldest.f k bt187.1 bt187.2.1 bt187.2.2.1 bt187.2.2.2.1).bind fun t195=>(humuslaw11_awake.j0 k (t195 == 5))) else (humuslaw11_awake.j0 k false)) else (humuslaw11_awake.j0 k false)) else (humuslaw11_awake.j0 k false)) else (humuslaw11_awake.j0 k false)) else (humuslaw11_awake.j0 k false)))))=some r:=h
 clear h;replace H:=Option.bind_eq_some_iff.mp H;obtain ⟨⟨t172,t173,t174,t175⟩,A10,H⟩:=H
 replace H : ((table_Enter.f k t172 t173 t174 t175 5).bind fun bt178=>((table_Commit.f k bt178.1 bt178.2.1 bt178.2.2.1 bt178.2.2.2.1 5).bind fun bt187=>(if bt178.2.2.2.2.2=0 then (if bt187.2.2.2.2.2=0 then (if bt178.2.2.2.2.1=0 then (if bt187.2.2.2.2.1=1 then (if bt187.1=6 then ((table_Eldest.f k bt187.1 bt187.2.1 bt187.2.2.1 bt187.2.2.2.1).bind fun t195=>(humuslaw11_awake.j0 k (t195 == 5))) else (humuslaw11_awake.j0 k false)) else (humuslaw11_awake.j0 k false)) else (humuslaw11_awake.j0 k false)) else (humuslaw11_awake.j0 k false)) else (humuslaw11_awake.j0 k false))))=some r:=H
 have A1:=A_ A10;clear A10;replace H:=Option.bind_eq_some_iff.mp H;obtain ⟨⟨t178,t179,t180,t181,t184,t185⟩,A20,H⟩:=H
 replace H : ((table_Commit.f k t178 t179 t180 t181 5).bind fun bt187=>(if t185=0 then (if bt187.2.2.2.2.2=0 then (if t184=0 then (if bt187.2.2.2.2.1=1 then (if bt187.1=6 then ((table_Eldest.f k bt187.1 bt187.2.1 bt187.2.2.1 bt187.2.2.2.1).bind fun t195=>(humuslaw11_awake.j0 k (t195 == 5))) else (humuslaw11_awake.j0 k false)) else (humuslaw11_awake.j0 k false)) else (humuslaw11_awake.j0 k false)) else (humuslaw11_awake.j0 k false)) else (humuslaw11_awake.j0 k false)))=some r:=H
 have A2:=A_ A20;clear A20;replace H:=Option.bind_eq_some_iff.mp H;obtain ⟨⟨t187,t188,t189,t190,t193,t194⟩,A30,H⟩:=H
 replace H : (if t185=0 then (if t194=0 then (if t184=0 then (if t193=1 then (if t187=6 then ((table_Eldest.f k t187 t188 t189 t190).bind fun t195=>(humuslaw11_awake.j0 k (t195 == 5))) else (humuslaw11_awake.j0 k false)) else (humuslaw11_awake.j0 k false)) else (humuslaw11_awake.j0 k false)) else (humuslaw11_awake.j0 k false)) else (humuslaw11_awake.j0 k false))=some r:=H
 have A3:=A_ A30;clear A30;have HC4:=A_ H;clear H;go_enter Tryd.func5,Tryd.ntmps5
 go_upto_region 3 with (first|((with_reducible refine gate_callee (f:=9) rfl ?_);refine goesL_ (some 7) rfl rfl Tryd.func9 (by kernel_rfl) rfl #[] rfl (by (try simp only [List.map_toArray,List.map_cons,List.map_nil]);first|done|rfl|(simp only [List.length_drop,List.length_take];rfl)) ?_;(with_reducible refine (table_First.calls  t172 t173 t174 t175 _ A1.out).mono ?_);rintro e w5 ⟨v176,rfl,ho0,hb⟩;refine ⟨_,rfl,?_⟩;have n0_:=A_ (Kd.R_lower ho0 (bz_ (hb0_ HB.out)));have n1_:=A_ (bp_ (hb0_ HB.out) hb);clear HB;have HO177:=n0_;have HB:=n1_;clear n0_ n1_;(try clear hb);(try clear hb2);(try clear hk);(try clear hi);(try clear ho0);obtain ⟨Ao6,co6,eo6⟩:=Kd.R_slice HO177.out;subst eo6)|((with_reducible refine gate_callee (f:=18) rfl ?_);refine goesL_ (some 8) rfl rfl Tryd.func18 (by kernel_rfl) rfl #[.agg #[.int .i64 t172,.int .i64 t173,.int .i64 t174,.slice Ao6 t175.length co6],.int .i64 5] rfl (by (try simp only [List.map_toArray,List.map_cons,List.map_nil]);first|done|rfl|(simp only [List.length_drop,List.length_take];rfl)) ?_;(with_reducible refine (table_Enter.calls k t172 t173 t174 _ _ t175 5 t178 t179 t180 t181 t184 t185 _ ?side1 ?side2 A2.out).mono ?_);(case side1=>repeat (first|exact (Kd.R_reads' HO177.out).2.2|(with_reducible refine Kd.C_alloc ?_ _)|(with_reducible refine Kd.C_drewN ?_ _)|(with_reducible refine Kd.C_drew ?_)));(case side2=>exact (Kd.R_reads' HO177.out).2.1);rintro e w7 ⟨v182,rfl,ho0,hb⟩;refine ⟨_,rfl,?_⟩;have n0_:=A_ (Kd.R_elder' (by (with_reducible repeat (first|apply ra_|apply rn_|apply re_));exact HO177.out) (Kd.R_base ho0) hb);have n1_:=A_ (Kd.R_lower (Kd.R_new' ho0 (Kd.R_lt (by (with_reducible repeat (first|apply ra_|apply rn_|apply re_));exact HO177.out))) (bz_ (hb0_ HB.out)));have n2_:=A_ (bp_ (hb0_ HB.out) hb);clear HO177;clear HB;have HO177:=n0_;have HO183:=n1_;have HB:=n2_;clear n0_ n1_ n2_;(try clear hb);(try clear hb2);(try clear hk);(try clear hi);(try clear ho0))|((with_reducible refine gate_dst (N:=1) rfl ?_);refine box_event ?hg (N:=1) ?hd (cs:=#[.int .i64 0,.int .i64 0,.int .i64 0,.slice none 0 0]) (t:=26) ?hr ?_;(case hd=>rfl);(case hg=>rfl);(case hr=>first|(go_simp;done)|(go_simp;rfl));intro gb186 hg w8 hbox hb;have n0_:=A_ (Kd.R_below (by (with_reducible repeat (first|apply ra_|apply rn_|apply re_));exact HO177.out) hb);have n1_:=A_ (Kd.R_below (by (with_reducible repeat (first|apply ra_|apply rn_|apply re_));exact HO183.out) hb);have n2_:=A_ (bp_ (hb0_ HB.out) hb);have n3_:=A_ (hbox);have n4_:=A_ ((by rw [hg];exact (bz_ (hb0_ HB.out)) : w.heap.size≤gb186));have n5_:=n4_;clear HO177;clear HO183;clear HB;have HO177:=n0_;have HO183:=n1_;have HB:=n2_;have BK186:=n3_;have GW186:=n4_;have GE186:=n5_;clear n0_ n1_ n2_ n3_ n4_ n5_;clear hb hbox hg;obtain ⟨z9_0,z9_1,z9_2,z9_3⟩:=blkc_4 BK186.out;obtain ⟨y9_0,y9_1,y9_2,y9_3⟩:=blkz_4 BK186.out;obtain ⟨Ao10,co10,eo10⟩:=Kd.R_slice HO183.out;subst eo10)|((with_reducible refine gate_callee (f:=19) rfl ?_);refine goesL_ (some 14) rfl rfl Tryd.func19 (by kernel_rfl) rfl #[.agg #[.int .i64 t178,.int .i64 t179,.int .i64 t180,.slice Ao10 t181.length co10],.int .i64 5] rfl (by (try simp only [List.map_toArray,List.map_cons,List.map_nil]);first|done|rfl|(simp only [List.length_drop,List.length_take];rfl)) ?_;(with_reducible refine (table_Commit.calls k t178 t179 t180 _ _ t181 5 t187 t188 t189 t190 t193 t194 _ ?side1 ?side2 A3.out).mono ?_);(case side1=>refine (Kd.R_reads' (e:=56) (base:=w.heap.size) (ok:=fun k_=>(True∧some k_≠(.slice Ao6 t175.length co6 : Value).ownBlock)) (n:=t181.length) (c:=co10) ?_).2.2;exact (by (with_reducible repeat (first|apply ra_|apply rn_|apply re_));exact (Kd.R_mono (rf_ (p:=⟨gb186,3,none⟩) (rf_ (p:=⟨gb186,2,none⟩) (rf_ (p:=⟨gb186,1,none⟩) (rf_ (p:=⟨gb186,0,none⟩) (Kd.R_types HO183.out BK186.out (by decide)) (fun _ hk=>hk.2) (.int .i64 t178)) (fun _ hk=>hk.2) (.int .i64 t179)) (fun _ hk=>hk.2) (.int .i64 t180)) (fun _ hk=>hk.2) (.slice Ao10 t181.length co10)) (fun _ h_=>h_.1))));(case side2=>exact (Kd.R_reads' HO183.out).2.1);rintro e w11 ⟨v191,rfl,ho0,hb⟩;refine ⟨_,rfl,?_⟩;have n0_:=A_ (Kd.R_elder' (by (with_reducible repeat (first|apply ra_|apply rn_|apply re_));exact (Kd.R_mono (rf_ (p:=⟨gb186,3,none⟩) (rf_ (p:=⟨gb186,2,none⟩) (rf_ (p:=⟨gb186,1,none⟩) (rf_ (p:=⟨gb186,0,none⟩) (Kd.R_types HO177.out BK186.out (by decide)) (fun _ hk=>hk.2) (.int .i64 t178)) (fun _ hk=>hk.2) (.int .i64 t179)) (fun _ hk=>hk.2) (.int .i64 t180)) (fun _ hk=>hk.2) (.slice Ao10 t181.length co10)) (fun _ h_=>h_.1))) (Kd.R_base ho0) hb);have n1_:=A_ (Kd.R_elder' (by (with_reducible repeat (first|apply ra_|apply rn_|apply re_));exact (Kd.R_mono (rf_ (p:=⟨gb186,3,none⟩) (rf_ (p:=⟨gb186,2,none⟩) (rf_ (p:=⟨gb186,1,none⟩) (rf_ (p:=⟨gb186,0,none⟩) (Kd.R_types HO183.out BK186.out (by decide)) (fun _ hk=>hk.2) (.int .i64 t178)) (fun _ hk=>hk.2) (.int .i64 t179)) (fun _ hk=>hk.2) (.int .i64 t180)) (fun _ hk=>hk.2) (.slice Ao10 t181.length co10)) (fun _ h_=>h_.1))) (Kd.R_base ho0) hb);have n2_:=A_ (Kd.R_lower (Kd.R_new' (Kd.R_new' ho0 (Kd.R_lt (by (with_reducible repeat (first|apply ra_|apply rn_|apply re_));exact (Kd.R_mono (rf_ (p:=⟨gb186,3,none⟩) (rf_ (p:=⟨gb186,2,none⟩) (rf_ (p:=⟨gb186,1,none⟩) (rf_ (p:=⟨gb186,0,none⟩) (Kd.R_types HO177.out BK186.out (by decide)) (fun _ hk=>hk.2) (.int .i64 t178)) (fun _ hk=>hk.2) (.int .i64 t179)) (fun _ hk=>hk.2) (.int .i64 t180)) (fun _ hk=>hk.2) (.slice Ao10 t181.length co10)) (fun _ h_=>h_.1))))) (Kd.R_lt (by (with_reducible repeat (first|apply ra_|apply rn_|apply re_));exact (Kd.R_mono (rf_ (p:=⟨gb186,3,none⟩) (rf_ (p:=⟨gb186,2,none⟩) (rf_ (p:=⟨gb186,1,none⟩) (rf_ (p:=⟨gb186,0,none⟩) (Kd.R_types HO183.out BK186.out (by decide)) (fun _ hk=>hk.2) (.int .i64 t178)) (fun _ hk=>hk.2) (.int .i64 t179)) (fun _ hk=>hk.2) (.int .i64 t180)) (fun _ hk=>hk.2) (.slice Ao10 t181.length co10)) (fun _ h_=>h_.1))))) (bz_ (hb1_ HB.out GE186.out)));have n3_:=A_ (bb_ (g:=gb186) (o:=.cells #[.int .i64 t178,.int .i64 t179,.int .i64 t180,.slice Ao10 t181.length co10] 26 (0,0)) (by refine kk_ ?_;apply blkf_4_0_3;exact kk_ BK186.out) hb);have n4_:=A_ (bp_ (hb1_ HB.out GE186.out) hb);clear HO177;clear HO183;clear BK186;clear HB;have HO177:=n0_;have HO183:=n1_;have HO192:=n2_;have BK186:=n3_;have HB:=n4_;clear n0_ n1_ n2_ n3_ n4_;(try clear hb);(try clear hb2);(try clear hk);(try clear hi);(try clear ho0);obtain ⟨z12_0,z12_1,z12_2,z12_3⟩:=blkc_4 BK186.out;obtain ⟨y12_0,y12_1,y12_2,y12_3⟩:=blkz_4 BK186.out;obtain ⟨Ao13,co13,eo13⟩:=Kd.R_slice HO192.out;subst eo13))
 (try simp only [Act.put,u1_,u2_,u3_])
 go_cut [0] (fun v0 wc=>∃ (kq : Nat) (x0_3 : Bool),v0=.bool x0_3∧Aside0 (humuslaw11_awake.j0 kq x0_3=some r)∧Aside0 (kq≤k)∧Aside0 (Kd.R k56 56 wc w.heap.size (fun _=>True) (.slice Ao13 t190.length co13) t190)∧Aside0 (wc.heap[gb186]?=some (.cells #[.int .i64 t187,.int .i64 t188,.int .i64 t189,(.slice Ao13 t190.length co13)] 26 (0,0)))∧Aside0 (Below w.heap.size w wc))
 case first =>
  have H:=HC4.out;clear HC4
  by_cases c14 : t185=0
  rotate_left
  ·rw [if_neg c14] at H
   have c14b0 : (t185 == 0)=false:=beq_eq_false_iff_ne.mpr c14;have c14b1 : (t185 != 0)=true:=bne_iff_ne.mpr c14;(first|rw [c14b0]|(simp only [i64_w,i32_w];rw [c14b0])|skip);have H':=A_ H;clear H;go_wp2;go_meet
   case rel=>exact ⟨_,false,rfl,H',⟨by first|omega|exact Nat.le_refl _⟩,⟨by (with_reducible repeat (first|apply ra_|apply rn_|apply re_));exact Kd.R_mono (rf_ (p:=⟨gb186,3,none⟩) (rf_ (p:=⟨gb186,2,none⟩) (rf_ (p:=⟨gb186,1,none⟩) (rf_ (p:=⟨gb186,0,none⟩) (Kd.R_types HO192.out BK186.out (by decide)) (fun _ hk=>hk.2) (.int .i64 t187)) (fun _ hk=>hk.2) (.int .i64 t188)) (fun _ hk=>hk.2) (.int .i64 t189)) (fun _ hk=>hk.2) (.slice Ao13 t190.length co13)) (fun _ hk=>trivial)⟩,⟨by refine kk_ ?_;apply blkf_4_0_3;exact kk_ BK186.out⟩,⟨hb1_ HB.out GE186.out⟩⟩
  rw [if_pos c14] at H
  have c14b0 : (t185 == 0)=true:=beq_iff_eq.mpr c14;have c14b1 : (t185 != 0)=false:=bne_eq_false_iff_eq.mpr c14;clear c14;(first|rw [c14b0]|(simp only [i64_w,i32_w];rw [c14b0])|skip)
  by_cases c15 : t194=0
  rotate_left
  ·rw [if_neg c15] at H
   have c15b0 : (t194 == 0)=false:=beq_eq_false_iff_ne.mpr c15;have c15b1 : (t194 != 0)=true:=bne_iff_ne.mpr c15;have H':=A_ H;clear H;go_wp2;go_meet
   case rel=>exact ⟨_,false,rfl,H',⟨by first|omega|exact Nat.le_refl _⟩,⟨by (with_reducible repeat (first|apply ra_|apply rn_|apply re_));exact Kd.R_mono (rf_ (p:=⟨gb186,3,none⟩) (rf_ (p:=⟨gb186,2,none⟩) (rf_ (p:=⟨gb186,1,none⟩) (rf_ (p:=⟨gb186,0,none⟩) (Kd.R_types HO192.out BK186.out (by decide)) (fun _ hk=>hk.2) (.int .i64 t187)) (fun _ hk=>hk.2) (.int .i64 t188)) (fun _ hk=>hk.2) (.int .i64 t189)) (fun _ hk=>hk.2) (.slice Ao13 t190.length co13)) (fun _ hk=>trivial)⟩,⟨by refine kk_ ?_;apply blkf_4_0_3;exact kk_ BK186.out⟩,⟨hb1_ HB.out GE186.out⟩⟩
  rw [if_pos c15] at H
  have c15b0 : (t194 == 0)=true:=beq_iff_eq.mpr c15;have c15b1 : (t194 != 0)=false:=bne_eq_false_iff_eq.mpr c15;clear c15
  by_cases c16 : t184=0
  rotate_left
  ·rw [if_neg c16] at H
   have c16b0 : (t184 == 0)=false:=beq_eq_false_iff_ne.mpr c16;have c16b1 : (t184 != 0)=true:=bne_iff_ne.mpr c16;have H':=A_ H;clear H;go_wp2;go_meet
   case rel=>exact ⟨_,false,rfl,H',⟨by first|omega|exact Nat.le_refl _⟩,⟨by (with_reducible repeat (first|apply ra_|apply rn_|apply re_));exact Kd.R_mono (rf_ (p:=⟨gb186,3,none⟩) (rf_ (p:=⟨gb186,2,none⟩) (rf_ (p:=⟨gb186,1,none⟩) (rf_ (p:=⟨gb186,0,none⟩) (Kd.R_types HO192.out BK186.out (by decide)) (fun _ hk=>hk.2) (.int .i64 t187)) (fun _ hk=>hk.2) (.int .i64 t188)) (fun _ hk=>hk.2) (.int .i64 t189)) (fun _ hk=>hk.2) (.slice Ao13 t190.length co13)) (fun _ hk=>trivial)⟩,⟨by refine kk_ ?_;apply blkf_4_0_3;exact kk_ BK186.out⟩,⟨hb1_ HB.out GE186.out⟩⟩
  rw [if_pos c16] at H
  have c16b0 : (t184 == 0)=true:=beq_iff_eq.mpr c16;have c16b1 : (t184 != 0)=false:=bne_eq_false_iff_eq.mpr c16;clear c16
  by_cases c17 : t193=1
  rotate_left
  ·rw [if_neg c17] at H
   have c17b0 : (t193 == 1)=false:=beq_eq_false_iff_ne.mpr c17;have c17b1 : (t193 != 1)=true:=bne_iff_ne.mpr c17;have H':=A_ H;clear H;go_wp2;go_meet
   case rel=>exact ⟨_,false,rfl,H',⟨by first|omega|exact Nat.le_refl _⟩,⟨by (with_reducible repeat (first|apply ra_|apply rn_|apply re_));exact Kd.R_mono (rf_ (p:=⟨gb186,3,none⟩) (rf_ (p:=⟨gb186,2,none⟩) (rf_ (p:=⟨gb186,1,none⟩) (rf_ (p:=⟨gb186,0,none⟩) (Kd.R_types HO192.out BK186.out (by decide)) (fun _ hk=>hk.2) (.int .i64 t187)) (fun _ hk=>hk.2) (.int .i64 t188)) (fun _ hk=>hk.2) (.int .i64 t189)) (fun _ hk=>hk.2) (.slice Ao13 t190.length co13)) (fun _ hk=>trivial)⟩,⟨by refine kk_ ?_;apply blkf_4_0_3;exact kk_ BK186.out⟩,⟨hb1_ HB.out GE186.out⟩⟩
  rw [if_pos c17] at H
  have c17b0 : (t193 == 1)=true:=beq_iff_eq.mpr c17;have c17b1 : (t193 != 1)=false:=bne_eq_false_iff_eq.mpr c17;clear c17
  by_cases c18 : t187=6
  rotate_left
  ·rw [if_neg c18] at H
   have c18b0 : (t187 == 6)=false:=beq_eq_false_iff_ne.mpr c18;have c18b1 : (t187 != 6)=true:=bne_iff_ne.mpr c18;have H':=A_ H;clear H;obtain ⟨z22_0,z22_1,z22_2,z22_3⟩:=blkc_4 BK186.out;obtain ⟨y22_0,y22_1,y22_2,y22_3⟩:=blkz_4 BK186.out;go_wp2;go_meet
   case rel=>exact ⟨_,false,rfl,H',⟨by first|omega|exact Nat.le_refl _⟩,⟨by (with_reducible repeat (first|apply ra_|apply rn_|apply re_));exact Kd.R_mono (rf_ (p:=⟨gb186,3,none⟩) (rf_ (p:=⟨gb186,2,none⟩) (rf_ (p:=⟨gb186,1,none⟩) (rf_ (p:=⟨gb186,0,none⟩) (Kd.R_types HO192.out BK186.out (by decide)) (fun _ hk=>hk.2) (.int .i64 t187)) (fun _ hk=>hk.2) (.int .i64 t188)) (fun _ hk=>hk.2) (.int .i64 t189)) (fun _ hk=>hk.2) (.slice Ao13 t190.length co13)) (fun _ hk=>trivial)⟩,⟨by refine kk_ ?_;apply blkf_4_0_3;exact kk_ BK186.out⟩,⟨hb1_ HB.out GE186.out⟩⟩
  rw [if_pos c18] at H
  have c18b0 : (t187 == 6)=true:=beq_iff_eq.mpr c18;have c18b1 : (t187 != 6)=false:=bne_eq_false_iff_eq.mpr c18;clear c18;replace H:=Option.bind_eq_some_iff.mp H;obtain ⟨t195,A190,H⟩:=H;replace H : (humuslaw11_awake.j0 k (t195 == 5))=some r:=H;have A19:=A_ A190;clear A190;have H':=A_ H;clear H;obtain ⟨z20_0,z20_1,z20_2,z20_3⟩:=blkc_4 BK186.out;obtain ⟨y20_0,y20_1,y20_2,y20_3⟩:=blkz_4 BK186.out
  go_wp2_with (first|(go_at_call 15;(with_reducible refine (table_Eldest.calls k t187 t188 t189 _ _ t190 t195 _ ?side1 ?side2 A19.out).mono ?_);(case side1=>refine (Kd.R_reads' (e:=56) (base:=w.heap.size) (ok:=fun k_=>((True∧some k_≠(.slice Ao6 t175.length co6 : Value).ownBlock)∧some k_≠(.slice Ao10 t181.length co10 : Value).ownBlock)) (n:=t190.length) (c:=co13) ?_).2.2;exact (by (with_reducible repeat (first|apply ra_|apply rn_|apply re_));exact (Kd.R_mono (rf_ (p:=⟨gb186,3,none⟩) (rf_ (p:=⟨gb186,2,none⟩) (rf_ (p:=⟨gb186,1,none⟩) (rf_ (p:=⟨gb186,0,none⟩) (Kd.R_types HO192.out BK186.out (by decide)) (fun _ hk=>hk.2) (.int .i64 t187)) (fun _ hk=>hk.2) (.int .i64 t188)) (fun _ hk=>hk.2) (.int .i64 t189)) (fun _ hk=>hk.2) (.slice Ao13 t190.length co13)) (fun _ h_=>h_.1))));(case side2=>exact (Kd.R_reads' HO192.out).2.1);rintro e w21 ⟨rfl,hb⟩;have n0_:=A_ (Kd.R_below (by (with_reducible repeat (first|apply ra_|apply rn_|apply re_));exact (Kd.R_mono (rf_ (p:=⟨gb186,3,none⟩) (rf_ (p:=⟨gb186,2,none⟩) (rf_ (p:=⟨gb186,1,none⟩) (rf_ (p:=⟨gb186,0,none⟩) (Kd.R_types HO177.out BK186.out (by decide)) (fun _ hk=>hk.2) (.int .i64 t187)) (fun _ hk=>hk.2) (.int .i64 t188)) (fun _ hk=>hk.2) (.int .i64 t189)) (fun _ hk=>hk.2) (.slice Ao13 t190.length co13)) (fun _ h_=>h_.1))) hb);have n1_:=A_ (Kd.R_below (by (with_reducible repeat (first|apply ra_|apply rn_|apply re_));exact (Kd.R_mono (rf_ (p:=⟨gb186,3,none⟩) (rf_ (p:=⟨gb186,2,none⟩) (rf_ (p:=⟨gb186,1,none⟩) (rf_ (p:=⟨gb186,0,none⟩) (Kd.R_types HO183.out BK186.out (by decide)) (fun _ hk=>hk.2) (.int .i64 t187)) (fun _ hk=>hk.2) (.int .i64 t188)) (fun _ hk=>hk.2) (.int .i64 t189)) (fun _ hk=>hk.2) (.slice Ao13 t190.length co13)) (fun _ h_=>h_.1))) hb);have n2_:=A_ (Kd.R_below (by (with_reducible repeat (first|apply ra_|apply rn_|apply re_));exact (Kd.R_mono (rf_ (p:=⟨gb186,3,none⟩) (rf_ (p:=⟨gb186,2,none⟩) (rf_ (p:=⟨gb186,1,none⟩) (rf_ (p:=⟨gb186,0,none⟩) (Kd.R_types HO192.out BK186.out (by decide)) (fun _ hk=>hk.2) (.int .i64 t187)) (fun _ hk=>hk.2) (.int .i64 t188)) (fun _ hk=>hk.2) (.int .i64 t189)) (fun _ hk=>hk.2) (.slice Ao13 t190.length co13)) (fun _ h_=>h_.1))) hb);have n3_:=A_ (bb_ (g:=gb186) (o:=.cells #[.int .i64 t187,.int .i64 t188,.int .i64 t189,.slice Ao13 t190.length co13] 26 (0,0)) (by refine kk_ ?_;apply blkf_4_0_3;exact kk_ BK186.out) hb);have n4_:=A_ (bp_ (hb1_ HB.out GE186.out) hb);clear HO177;clear HO183;clear HO192;clear BK186;clear HB;have HO177:=n0_;have HO183:=n1_;have HO192:=n2_;have BK186:=n3_;have HB:=n4_;clear n0_ n1_ n2_ n3_ n4_;(try clear hb);(try clear hb2);(try clear hk);(try clear hi)))
  go_meet
  case rel=>exact ⟨_,((t195 == 5)),(by first|rfl|(simp;done)|(simp [*];done)),H',⟨by first|omega|exact Nat.le_refl _⟩,⟨by (with_reducible repeat (first|apply ra_|apply rn_|apply re_));exact Kd.R_mono HO192.out (fun _ hk=>trivial)⟩,⟨by exact kk_ BK186.out⟩,⟨hb1_ HB.out GE186.out⟩⟩
 case rest =>
  clear HC4;(try clear c1);(try clear p2);(try clear c5);(try clear c9);(try clear c14);(try clear c14b0);(try clear c14b1);(try clear c15);(try clear c15b0);(try clear c15b1);(try clear c16);(try clear c16b0);(try clear c16b1);(try clear c17);(try clear c17b0);(try clear c17b1);(try clear c18);(try clear c18b0);(try clear c18b1);(try clear c19);(try clear z12_0 z12_1 z12_2 z12_3 z20_0 z20_1 z20_2 z20_3 z22_0 z22_1 z22_2 z22_3 z9_0 z9_1 z9_2 z9_3 y12_0 y12_1 y12_2 y12_3 y20_0 y20_1 y20_2 y20_3 y22_0 y22_1 y22_2 y22_3 y9_0 y9_1 y9_2 y9_3);obtain ⟨kq,x0_3,rfl,HA,HJ3,HO_187003,BK186,HB⟩:=hcut
  cases kq with
  | zero=>exact absurd HA.out (by simp [humuslaw11_awake.j0])
  | succ kj3 =>
   have H:=HA.out;clear HA
   simp only [humuslaw11_awake.j0] at H
   obtain rfl:=Option.some.inj H;go_wp2;go_ret
   exact ⟨by first|rfl|(simp [errW_none,errW_some] <;> rfl)|(simp [*,errW_none,errW_some] <;> rfl),hb1_ HB.out GE186.out⟩
def bytes_trimLeftByte.l0 : Nat→List Int→Int→Option (List Int)
 | 0,_,_=>none
 | k + 1,x0,x1=>if (x0.length : Int) > 0 then (if 0<(x0.length : Int) then (if (rd x0 0)=x1 then (if 1≤(x0.length : Int) then (bytes_trimLeftByte.l0 k (x0.drop 1) x1) else (none)) else (if (x0.length : Int)=0 then (some ([] : List Int)) else (some x0))) else (none)) else (if (x0.length : Int)=0 then (some ([] : List Int)) else (some x0))
def bytes_trimLeftByte.f (k : Nat) (l0 : List Int) (a1 : Int) : Option (List Int):=bytes_trimLeftByte.l0 k l0 a1
set_option maxHeartbeats 8000000 in
set_option maxRecDepth 100000 in
theorem bytes_trimLeftByte.calls (k : Nat) (P0_ : Nat→Prop) (A0 : Option Addr) (c0 : Nat) (l0 : List Int) (a1 : Int) (r : List Int) (w : World) (hs0 : Kd.V (Kd.int .u8) 5 w w.heap.size (fun k_=>P0_ k_) (.slice A0 l0.length c0) l0) (h : bytes_trimLeftByte.f k l0 a1=some r) :
  Calls Tryd.prog 55 #[.slice A0 l0.length c0,.int .u8 a1] w fun e w'=>∃ v0_ : Value,e=.returned (v0_)∧Kd.V (Kd.int .u8) 5 w' w.heap.size (fun k_=>(P0_ k_∨w.heap.size≤k_)) v0_ r∧Below w.heap.size w w':=by
 have HO0:=A_ (show Kd.V (Kd.int .u8) 5 w w.heap.size (fun k_=>(P0_ k_∨w.heap.size≤k_)) (.slice A0 l0.length c0) l0 from Kd.V_mono hs0 (fun k_ hk=>.inl hk))
 have HB:=A_ (Below.refl w.heap.size w);have H : (bytes_trimLeftByte.l0 k l0 a1)=some r:=h;clear h;have H':=A_ H;clear H;go_enter Tryd.func55,Tryd.ntmps55;go_wp2
 go_loopg [0] k (fun kq v0 w'=>∃ (x0_1 : List Int),Aside0 (bytes_trimLeftByte.l0 kq x0_1 a1=some r)∧Aside0 (kq≤k)∧Aside0 (Kd.V (Kd.int .u8) 5 w' w.heap.size (fun k_=>(P0_ k_∨w.heap.size≤k_)) v0 x0_1)∧Aside0 (Below w.heap.size w w'))
 case atStart=>exact ⟨(l0),H',⟨Nat.le_refl _⟩,⟨by (with_reducible repeat (first|apply Kd.V_alloc|apply Kd.V_drewN|apply Kd.V_drew));exact HO0.out⟩,⟨hb0_ HB.out⟩⟩
 case round =>
  clear H';(try clear p2);obtain ⟨x0_1,HA,HK1,HO_0,HB⟩:=hrel
  cases gk with
  | zero=>exact absurd HA.out (by simp [bytes_trimLeftByte.l0])
  | succ k1 =>
   have H:=HA.out;clear HA
   simp only [bytes_trimLeftByte.l0] at H
   by_cases c3 : (x0_1.length : Int) > 0
   rotate_left
   ·rw [if_neg c3] at H
    have c3b0 : decide (0<(x0_1.length : Int))=false:=df_ c3
    have c3b1 : decide (0<x0_1.length)=false:=df_ (by omega)
    clear c3
    by_cases c12 : (x0_1.length : Int)=0
    ·rw [if_pos c12] at H
     have c12b0 : ((x0_1.length : Int) == 0)=true:=beq_iff_eq.mpr c12;have c12b1 : ((x0_1.length : Int) != 0)=false:=bne_eq_false_iff_eq.mpr c12;clear c12;obtain rfl:=Option.some.inj H;obtain ⟨Ao13,co13,eo13⟩:=Kd.V_slice HO_0.out;subst eo13;go_wp2;go_ret
     exact ⟨_,by first|rfl|(simp [errW_none,errW_some] <;> rfl)|(simp [*,errW_none,errW_some] <;> rfl),Kd.V_nil _ _ _ _ _,hb0_ HB.out⟩
    rw [if_neg c12] at H
    have c12b0 : ((x0_1.length : Int) == 0)=false:=beq_eq_false_iff_ne.mpr c12;have c12b1 : ((x0_1.length : Int) != 0)=true:=bne_iff_ne.mpr c12
    have c12b2 : ¬ (x0_1=[]):=fun h_=>c12 (by rw [h_];rfl)
    obtain rfl:=Option.some.inj H;obtain ⟨Ao14,co14,eo14⟩:=Kd.V_slice HO_0.out;subst eo14;go_wp2;go_ret
    exact ⟨_,by first|rfl|(simp [errW_none,errW_some] <;> rfl)|(simp [*,errW_none,errW_some] <;> rfl),by (with_reducible repeat (first|apply Kd.V_alloc|apply Kd.V_drewN|apply Kd.V_drew));exact HO_0.out,hb0_ HB.out⟩
   rw [if_pos c3] at H
   have c3b0 : decide (0<(x0_1.length : Int))=true:=dt_ c3
   have c3b1 : decide (0<x0_1.length)=true:=dt_ (by omega)
   clear c3
   by_cases c4 : 0<(x0_1.length : Int)
   rotate_left
   ·rw [if_neg c4] at H
    exact absurd H (by simp)
   rw [if_pos c4] at H
   have c4b0 : decide (0<(x0_1.length : Int))=true:=dt_ c4
   have c4b1 : decide (0<x0_1.length)=true:=dt_ (by omega)
   clear c4
   by_cases c5 : (rd x0_1 0)=a1
   rotate_left
   ·rw [if_neg c5] at H
    have c5b0 : ((rd x0_1 0) == a1)=false:=beq_eq_false_iff_ne.mpr c5;have c5b1 : ((rd x0_1 0) != a1)=true:=bne_iff_ne.mpr c5
    by_cases c9 : (x0_1.length : Int)=0
    ·rw [if_pos c9] at H
     have c9b0 : ((x0_1.length : Int) == 0)=true:=beq_iff_eq.mpr c9;have c9b1 : ((x0_1.length : Int) != 0)=false:=bne_eq_false_iff_eq.mpr c9;clear c9;obtain rfl:=Option.some.inj H;obtain ⟨Ao10,co10,eo10⟩:=Kd.V_slice HO_0.out;subst eo10
     have p196 : 0≤(0 : Int):=(by omega)
     have q196 : 0<(x0_1.length : Int):=od_ (by first|(with_reducible assumption)|assumption)
     obtain ⟨ad196,e196,hx196_0⟩:=Kd.at_int (Kd.V_reads' HO_0.out).2.2 0 p196 q196
     cases e196
     have qi196 : (0<x0_1.length)=True:=eq_true (by omega)
     (try rw [N0_] at hx196_0);(try rw [Addr.add_zero'] at hx196_0);replace p196:=eq_true p196;replace q196:=eq_true q196;go_wp2;go_ret
     exact ⟨_,by first|rfl|(simp [errW_none,errW_some] <;> rfl)|(simp [*,errW_none,errW_some] <;> rfl),Kd.V_nil _ _ _ _ _,hb0_ HB.out⟩
    rw [if_neg c9] at H
    have c9b0 : ((x0_1.length : Int) == 0)=false:=beq_eq_false_iff_ne.mpr c9;have c9b1 : ((x0_1.length : Int) != 0)=true:=bne_iff_ne.mpr c9
    have c9b2 : ¬ (x0_1=[]):=fun h_=>c9 (by rw [h_];rfl)
    obtain rfl:=Option.some.inj H;obtain ⟨Ao11,co11,eo11⟩:=Kd.V_slice HO_0.out;subst eo11
    have p196 : 0≤(0 : Int):=(by omega)
    have q196 : 0<(x0_1.length : Int):=od_ (by first|(with_reducible assumption)|assumption)
    obtain ⟨ad196,e196,hx196_0⟩:=Kd.at_int (Kd.V_reads' HO_0.out).2.2 0 p196 q196
    cases e196
    have qi196 : (0<x0_1.length)=True:=eq_true (by omega)
    (try rw [N0_] at hx196_0);(try rw [Addr.add_zero'] at hx196_0);replace p196:=eq_true p196;replace q196:=eq_true q196;go_wp2;go_ret
    exact ⟨_,by first|rfl|(simp [errW_none,errW_some] <;> rfl)|(simp [*,errW_none,errW_some] <;> rfl),by (with_reducible repeat (first|apply Kd.V_alloc|apply Kd.V_drewN|apply Kd.V_drew));exact HO_0.out,hb0_ HB.out⟩
   rw [if_pos c5] at H
   have c5b0 : ((rd x0_1 0) == a1)=true:=beq_iff_eq.mpr c5;have c5b1 : ((rd x0_1 0) != a1)=false:=bne_eq_false_iff_eq.mpr c5;clear c5
   by_cases c6 : 1≤(x0_1.length : Int)
   rotate_left
   ·rw [if_neg c6] at H
    exact absurd H (by simp)
   rw [if_pos c6] at H
   have c6b0:=eq_true c6;have c6b1 : decide (1≤(x0_1.length : Int))=true:=dt_ c6;clear c6
   obtain ⟨y197,hy197⟩ : ∃ y_ : List Int,y_=(x0_1.drop 1):=⟨_,rfl⟩
   replace H : (bytes_trimLeftByte.l0 k1 y197 a1)=some r:=by first|(rw [hy197];with_reducible exact H)|(have H2_:=(Option.bind_some _ _).symm.trans H;rw [hy197];with_reducible exact H2_)|(have H2_:=(Option.bind_some _ _).symm.trans H;with_reducible exact H2_)|with_reducible exact H|(rw [hy197];exact H)|exact H
   have Ny197:=A_ hy197;clear hy197;have H':=A_ H;clear H;obtain ⟨Ao7,co7,eo7⟩:=Kd.V_slice HO_0.out;subst eo7
   have p196 : 0≤(0 : Int):=(by omega)
   have q196 : 0<(x0_1.length : Int):=od_ (by first|(with_reducible assumption)|assumption)
   obtain ⟨ad196,e196,hx196_0⟩:=Kd.at_int (Kd.V_reads' HO_0.out).2.2 0 p196 q196
   cases e196
   have qi196 : (0<x0_1.length)=True:=eq_true (by omega)
   (try rw [N0_] at hx196_0);(try rw [Addr.add_zero'] at hx196_0);replace p196:=eq_true p196;replace q196:=eq_true q196
   have q8 : (1 : Int)≤((x0_1.length : Int) : Int):=od_ (by first|(with_reducible assumption)|assumption)
   obtain ⟨i08,hi08,_,hsz8,_⟩:=info_parts info5;have hroom8 : x0_1.length≤co7:=(Kd.V_reads' HO_0.out).2.1;have hC8 : Kd.F (Kd.int .u8) _ _ (some ad196) x0_1.length x0_1:=(Kd.V_at (base:=w.heap.size) HO_0.out).2.2
   have hcut8:=cut_from (P:=Tryd.prog) 22 5 .i64 Tryd.underlying22 hi08 1 hsz8 (some ad196) x0_1.length co7 1 (by omega) q8
   have hr8:=Kd.F_cut (m:=(1 : Int).toNat) (c:=co7) hC8 (by omega) hroom8
   obtain ⟨A8,hA8⟩ : ∃ A1,A1=(if co7=(1 : Int).toNat then (some ad196) else ((some ad196) : Option Addr).map (·.add ((1 : Int).toNat * 1))):=⟨_,rfl⟩
   obtain ⟨c8,hc8⟩ : ∃ c1,c1=co7 - (1 : Int).toNat:=⟨_,rfl⟩
   have hy8 : y197.length=x0_1.length - (1 : Int).toNat:=(by rw [Ny197.out,List.length_drop] <;> omega)
   rw [show (x0_1).drop (1 : Int).toNat=y197 from Ny197.out.symm] at hr8
   replace hr8 : Kd.F (Kd.int .u8) _ _ A8 y197.length y197:=(by rw [hA8];exact hr8)
   rw [← hy8,← hA8,← hc8] at hcut8
   have HO201:=A_ (show Kd.V (Kd.int .u8) 5 _ w.heap.size _ (.slice A8 y197.length c8) y197 from Kd.V_mk (by rw [hy8,hc8];exact Nat.sub_le_sub_right hroom8 _) hr8)
   have HC201:=A_ (show y197.length≤c8 from by rw [hy8,hc8];exact Nat.sub_le_sub_right hroom8 _)
   clear hr8 hC8 hroom8 hi08 hsz8 hc8;have KY8:=A_ hy8;have KA8:=A_ hA8;clear hy8 hA8;replace q8:=eq_true q8;go_wp2;go_roundg k1
   case measure=>have:=HK1.out;omega
   case rel=>exact ⟨(y197),H',⟨by have:=HK1.out;omega⟩,⟨by (with_reducible repeat (first|apply Kd.V_alloc|apply Kd.V_drewN|apply Kd.V_drew));exact HO201.out⟩,⟨hb0_ HB.out⟩⟩
def bytes_trimRightByte.l0 : Nat→List Int→Int→Option (List Int)
 | 0,_,_=>none
 | k + 1,x0,x1=>if (x0.length : Int) > 0 then (if 0≤(wrap64 ((x0.length : Int) - 1)) then (if (wrap64 ((x0.length : Int) - 1))<(x0.length : Int) then (if (rd x0 (wrap64 ((x0.length : Int) - 1)))=x1 then (if (wrap64 ((x0.length : Int) - 1))≤(x0.length : Int) then (bytes_trimRightByte.l0 k (x0.take ((wrap64 ((x0.length : Int) - 1)) : Int).toNat) x1) else (none)) else (some x0)) else (none)) else (none)) else (some x0)
def bytes_trimRightByte.f (k : Nat) (l0 : List Int) (a1 : Int) : Option (List Int):=bytes_trimRightByte.l0 k l0 a1
set_option maxHeartbeats 8000000 in
set_option maxRecDepth 100000 in
theorem bytes_trimRightByte.calls (k : Nat) (P0_ : Nat→Prop) (A0 : Option Addr) (c0 : Nat) (l0 : List Int) (a1 : Int) (r : List Int) (w : World) (hs0 : Kd.V (Kd.int .u8) 5 w w.heap.size (fun k_=>P0_ k_) (.slice A0 l0.length c0) l0) (h : bytes_trimRightByte.f k l0 a1=some r) :
  Calls Tryd.prog 56 #[.slice A0 l0.length c0,.int .u8 a1] w fun e w'=>∃ v0_ : Value,e=.returned (v0_)∧Kd.V (Kd.int .u8) 5 w' w.heap.size (fun k_=>(P0_ k_∨w.heap.size≤k_)) v0_ r∧Below w.heap.size w w':=by
 have HO0:=A_ (show Kd.V (Kd.int .u8) 5 w w.heap.size (fun k_=>(P0_ k_∨w.heap.size≤k_)) (.slice A0 l0.length c0) l0 from Kd.V_mono hs0 (fun k_ hk=>.inl hk))
 have HB:=A_ (Below.refl w.heap.size w);have H : (bytes_trimRightByte.l0 k l0 a1)=some r:=h;clear h;have H':=A_ H;clear H;go_enter Tryd.func56,Tryd.ntmps56;go_wp2
 go_loopg [0] k (fun kq v0 w'=>∃ (x0_1 : List Int),Aside0 (bytes_trimRightByte.l0 kq x0_1 a1=some r)∧Aside0 (kq≤k)∧Aside0 (Kd.V (Kd.int .u8) 5 w' w.heap.size (fun k_=>(P0_ k_∨w.heap.size≤k_)) v0 x0_1)∧Aside0 (Below w.heap.size w w'))
 case atStart=>exact ⟨(l0),H',⟨Nat.le_refl _⟩,⟨by (with_reducible repeat (first|apply Kd.V_alloc|apply Kd.V_drewN|apply Kd.V_drew));exact HO0.out⟩,⟨hb0_ HB.out⟩⟩
 case round =>
  clear H';(try clear p2);obtain ⟨x0_1,HA,HK1,HO_0,HB⟩:=hrel
  cases gk with
  | zero=>exact absurd HA.out (by simp [bytes_trimRightByte.l0])
  | succ k1 =>
   have H:=HA.out;clear HA
   simp only [bytes_trimRightByte.l0] at H
   by_cases c3 : (x0_1.length : Int) > 0
   rotate_left
   ·rw [if_neg c3] at H
    have c3b0 : decide (0<(x0_1.length : Int))=false:=df_ c3
    have c3b1 : decide (0<x0_1.length)=false:=df_ (by omega)
    clear c3;obtain rfl:=Option.some.inj H;obtain ⟨Ao13,co13,eo13⟩:=Kd.V_slice HO_0.out;subst eo13;go_wp2;go_ret
    exact ⟨_,by first|rfl|(simp [errW_none,errW_some] <;> rfl)|(simp [*,errW_none,errW_some] <;> rfl),by (with_reducible repeat (first|apply Kd.V_alloc|apply Kd.V_drewN|apply Kd.V_drew));exact HO_0.out,hb0_ HB.out⟩
   rw [if_pos c3] at H
   have c3b0 : decide (0<(x0_1.length : Int))=true:=dt_ c3
   have c3b1 : decide (0<x0_1.length)=true:=dt_ (by omega)
   clear c3
   obtain ⟨ji4,hji4⟩ : ∃ j_ : Int,(wrap64 ((x0_1.length : Int) - 1))=j_:=⟨_,rfl⟩
   replace H : (if 0≤(ji4) then (if (ji4)<(x0_1.length : Int) then (if (rd x0_1 (ji4))=a1 then (if (ji4)≤(x0_1.length : Int) then (bytes_trimRightByte.l0 k1 (x0_1.take ((ji4) : Int).toNat) a1) else (none)) else (some x0_1)) else (none)) else (none))=some r:=by first|(rw [hji4] at H;exact H)|(simp only [hji4] at H ⊢;exact H)
   have hji4w : (IntKind.i64.wrap ((x0_1.length : Int) - 1))=ji4:=(i64_w _).trans hji4
   by_cases c5 : 0≤(ji4)
   rotate_left
   ·rw [if_neg c5] at H
    exact absurd H (by simp)
   rw [if_pos c5] at H
   have c5b0 : decide (0≤(ji4))=true:=dt_ c5;clear c5
   by_cases c6 : (ji4)<(x0_1.length : Int)
   rotate_left
   ·rw [if_neg c6] at H
    exact absurd H (by simp)
   rw [if_pos c6] at H
   have c6b0 : decide ((ji4)<(x0_1.length : Int))=true:=dt_ c6;clear c6
   by_cases c7 : (rd x0_1 (ji4))=a1
   rotate_left
   ·rw [if_neg c7] at H
    have c7b0 : ((rd x0_1 (ji4)) == a1)=false:=beq_eq_false_iff_ne.mpr c7;have c7b1 : ((rd x0_1 (ji4)) != a1)=true:=bne_iff_ne.mpr c7;obtain rfl:=Option.some.inj H;obtain ⟨Ao12,co12,eo12⟩:=Kd.V_slice HO_0.out;subst eo12
    have p202 : 0≤((ji4) : Int):=od_ (by first|(with_reducible assumption)|assumption)
    have q202 : (ji4)<(x0_1.length : Int):=od_ (by first|(with_reducible assumption)|assumption)
    obtain ⟨ad202,e202,hx202_0⟩:=Kd.at_int (Kd.V_reads' HO_0.out).2.2 (ji4) p202 q202
    cases e202
    replace p202:=eq_true p202;replace q202:=eq_true q202;go_wp2;go_ret
    exact ⟨_,by first|rfl|(simp [errW_none,errW_some] <;> rfl)|(simp only [← hji4];first|rfl|(simp [errW_none,errW_some] <;> rfl))|(simp [*,errW_none,errW_some] <;> rfl),by (with_reducible repeat (first|apply Kd.V_alloc|apply Kd.V_drewN|apply Kd.V_drew));exact HO_0.out,hb0_ HB.out⟩
   rw [if_pos c7] at H
   have c7b0 : ((rd x0_1 (ji4)) == a1)=true:=beq_iff_eq.mpr c7;have c7b1 : ((rd x0_1 (ji4)) != a1)=false:=bne_eq_false_iff_eq.mpr c7;clear c7
   have c8b0:=eq_true (od_ (by first|(with_reducible assumption)|assumption) : 0≤(ji4))
   by_cases c9 : (ji4)≤(x0_1.length : Int)
   rotate_left
   ·rw [if_neg c9] at H
    exact absurd H (by simp)
   rw [if_pos c9] at H
   have c9b0:=eq_true c9;have c9b1 : decide ((ji4)≤(x0_1.length : Int))=true:=dt_ c9;clear c9
   obtain ⟨y203,hy203⟩ : ∃ y_ : List Int,y_=(x0_1.take ((ji4) : Int).toNat):=⟨_,rfl⟩
   replace H : (bytes_trimRightByte.l0 k1 y203 a1)=some r:=by first|(rw [hy203];with_reducible exact H)|(have H2_:=(Option.bind_some _ _).symm.trans H;rw [hy203];with_reducible exact H2_)|(have H2_:=(Option.bind_some _ _).symm.trans H;with_reducible exact H2_)|with_reducible exact H|(rw [hy203];exact H)|exact H
   have Ny203:=A_ hy203;clear hy203;have H':=A_ H;clear H;obtain ⟨Ao10,co10,eo10⟩:=Kd.V_slice HO_0.out;subst eo10
   have p202 : 0≤((ji4) : Int):=od_ (by first|(with_reducible assumption)|assumption)
   have q202 : (ji4)<(x0_1.length : Int):=od_ (by first|(with_reducible assumption)|assumption)
   obtain ⟨ad202,e202,hx202_0⟩:=Kd.at_int (Kd.V_reads' HO_0.out).2.2 (ji4) p202 q202
   cases e202
   replace p202:=eq_true p202;replace q202:=eq_true q202
   have q11 : ((ji4) : Int)≤((x0_1.length : Int) : Int):=od_ (by first|(with_reducible assumption)|assumption)
   obtain ⟨i011,hi011,_,hsz11,_⟩:=info_parts info5;have hroom11 : x0_1.length≤co10:=(Kd.V_reads' HO_0.out).2.1;have hC11 : Kd.F (Kd.int .u8) _ _ (some ad202) x0_1.length x0_1:=(Kd.V_at (base:=w.heap.size) HO_0.out).2.2
   have hcut11:=cut_to (P:=Tryd.prog) 22 5 .i64 Tryd.underlying22 hi011 (some ad202) x0_1.length co10 (ji4) (od_ (by first|(with_reducible assumption)|assumption)) q11 hroom11
   have hr11:=Kd.F_take (m:=((ji4) : Int).toNat) hC11 (by omega)
   have hy11 : y203.length=((ji4) : Int).toNat:=(by rw [Ny203.out,List.length_take];omega)
   rw [← Ny203.out] at hr11;rw [← hy11] at hcut11
   have HO207:=A_ (show Kd.V (Kd.int .u8) 5 _ w.heap.size _ (.slice (some ad202) y203.length co10) y203 from Kd.V_mk (by omega) hr11)
   have HC207:=A_ (show y203.length≤co10 from by omega)
   clear hr11 hC11 hroom11 hi011 hsz11;have KY11:=A_ hy11;clear hy11;replace q11:=eq_true q11;go_wp2;go_roundg k1
   case measure=>have:=HK1.out;omega
   case rel=>exact ⟨(y203),H',⟨by have:=HK1.out;omega⟩,⟨by (with_reducible repeat (first|apply Kd.V_alloc|apply Kd.V_drewN|apply Kd.V_drew));exact HO207.out⟩,⟨hb0_ HB.out⟩⟩
def bytes_Trim.j0 : Nat→List Int→ByteArray→Bool→Option (List Int)
 | 0,_,_,_=>none
 | k + 1,x0,x1,x20=>if x20=true then (if 0<(x1.size : Int) then ((bytes_trimRightByte.f k x0 (bt x1 0)).bind fun t215=>((bytes_trimLeftByte.f k t215 (bt x1 0)).bind fun t218=>(some t218))) else (none)) else (none)
def bytes_Trim.f (k : Nat) (l0 : List Int) (a1 : ByteArray) : Option (List Int):=if (l0.length : Int)=0 then (some ([] : List Int)) else (if a1.toList=([] : List UInt8) then (some l0) else (if (a1.size : Int)=1 then (if 0<(a1.size : Int) then (bytes_Trim.j0 k l0 a1 (decide ((bt a1 0)<128))) else (none)) else (bytes_Trim.j0 k l0 a1 false)))
def bytes_Trim.T6 : Bool × List (List Nat × List Nat):=(true,[([],[]),([],[]),([1],[1]),([0,2],[0,2]),([],[]),([4],[4]),([3,5,3],[3,5]),([6,6,0,1,2,3,4,5,6],[6])])
def bytes_Trim.B6 : List Nat:=[0,0,2,7,0,16,63,127]
theorem bytes_Trim.tab6 : rtab .any (opsOf Tryd.f38 6)=bytes_Trim.T6:=by kernel_rfl
theorem bytes_Trim.bits6 : waitsOk bytes_Trim.T6.2 bytes_Trim.B6=true:=by kernel_rfl
set_option maxHeartbeats 8000000 in
set_option maxRecDepth 100000 in
theorem bytes_Trim.calls (k : Nat) (P0_ : Nat→Prop) (A0 : Option Addr) (c0 : Nat) (l0 : List Int) (a1 : ByteArray) (r : List Int) (w : World) (hs0 : Kd.V (Kd.int .u8) 5 w w.heap.size (fun k_=>P0_ k_) (.slice A0 l0.length c0) l0) (h : bytes_Trim.f k l0 a1=some r) :
  Calls Tryd.prog 38 #[.slice A0 l0.length c0,.string a1] w fun e w'=>∃ v0_ : Value,e=.returned (v0_)∧Kd.V (Kd.int .u8) 5 w' w.heap.size (fun k_=>(P0_ k_∨w.heap.size≤k_)) v0_ r∧Below w.heap.size w w':=by
 have HO0:=A_ (show Kd.V (Kd.int .u8) 5 w w.heap.size (fun k_=>(P0_ k_∨w.heap.size≤k_)) (.slice A0 l0.length c0) l0 from Kd.V_mono hs0 (fun k_ hk=>.inl hk))
 have HB:=A_ (Below.refl w.heap.size w)
 have H : (if (l0.length : Int)=0 then (some ([] : List Int)) else (if a1.toList=([] : List UInt8) then (some l0) else (if (a1.size : Int)=1 then (if 0<(a1.size : Int) then (bytes_Trim.j0 k l0 a1 (decide ((bt a1 0)<128))) else (none)) else (bytes_Trim.j0 k l0 a1 false))))=some r:=h
 clear h
 by_cases c3 : (l0.length : Int)=0
 ·rw [if_pos c3] at H
  have c3b0 : ((l0.length : Int) == 0)=true:=beq_iff_eq.mpr c3;have c3b1 : ((l0.length : Int) != 0)=false:=bne_eq_false_iff_eq.mpr c3;clear c3;obtain rfl:=Option.some.inj H;go_enter Tryd.func38,Tryd.ntmps38;go_wp2;go_ret
  exact ⟨_,by first|rfl|(simp [errW_none,errW_some] <;> rfl)|(simp [*,errW_none,errW_some] <;> rfl),Kd.V_nil _ _ _ _ _,hb0_ HB.out⟩
 rw [if_neg c3] at H
 have c3b0 : ((l0.length : Int) == 0)=false:=beq_eq_false_iff_ne.mpr c3;have c3b1 : ((l0.length : Int) != 0)=true:=bne_iff_ne.mpr c3
 have c3b2 : ¬ (l0=[]):=fun h_=>c3 (by rw [h_];rfl)
 by_cases c4 : a1.toList=([] : List UInt8)
 ·rw [if_pos c4] at H
  have c4b0 : (a1.toList == ([] : List UInt8))=true:=beq_iff_eq.mpr c4;have c4b1 : (a1.toList != ([] : List UInt8))=false:=bne_eq_false_iff_eq.mpr c4;clear c4;obtain rfl:=Option.some.inj H;go_enter Tryd.func38,Tryd.ntmps38;go_wp2;go_ret
  exact ⟨_,by first|rfl|(simp [errW_none,errW_some] <;> rfl)|(simp [*,errW_none,errW_some] <;> rfl),by (with_reducible repeat (first|apply Kd.V_alloc|apply Kd.V_drewN|apply Kd.V_drew));exact HO0.out,hb0_ HB.out⟩
 rw [if_neg c4] at H
 have c4b0 : (a1.toList == ([] : List UInt8))=false:=beq_eq_false_iff_ne.mpr c4;have c4b1 : (a1.toList != ([] : List UInt8))=true:=bne_iff_ne.mpr c4;have HC5:=A_ H;clear H;go_enter Tryd.func38,Tryd.ntmps38
 go_upto_region 5 with (fail)
 go_cut [20] (fun v20 wc=>∃ (kq : Nat) (x20_4 : Bool),v20=.bool x20_4∧Aside0 (bytes_Trim.j0 kq l0 a1 x20_4=some r)∧Aside0 (kq≤k)∧Aside0 (Kd.V (Kd.int .u8) 5 wc w.heap.size (fun k_=>(P0_ k_∨w.heap.size≤k_)) (.slice A0 l0.length c0) l0)∧Aside0 (Below w.heap.size w wc))
 case first =>
  have H:=HC5.out;clear HC5
  by_cases c6 : (a1.size : Int)=1
  rotate_left
  ·rw [if_neg c6] at H
   have c6b0 : ((a1.size : Int) == 1)=false:=beq_eq_false_iff_ne.mpr c6;have c6b1 : ((a1.size : Int) != 1)=true:=bne_iff_ne.mpr c6;(first|rw [c6b0]|(simp only [i64_w,i32_w];rw [c6b0])|skip);have H':=A_ H;clear H;go_wp2;go_meet
   case rel=>exact ⟨_,false,rfl,H',⟨by first|omega|exact Nat.le_refl _⟩,⟨by (with_reducible repeat (first|apply Kd.V_alloc|apply Kd.V_drewN|apply Kd.V_drew));exact HO0.out⟩,⟨hb0_ HB.out⟩⟩
  rw [if_pos c6] at H
  have c6b0 : ((a1.size : Int) == 1)=true:=beq_iff_eq.mpr c6;have c6b1 : ((a1.size : Int) != 1)=false:=bne_eq_false_iff_eq.mpr c6;clear c6;(first|rw [c6b0]|(simp only [i64_w,i32_w];rw [c6b0])|skip)
  by_cases c7 : 0<(a1.size : Int)
  rotate_left
  ·rw [if_neg c7] at H
   exact absurd H (by simp)
  rw [if_pos c7] at H
  have c7b0 : decide (0<(a1.size : Int))=true:=dt_ c7
  have c7b1 : decide (0<a1.size)=true:=dt_ (by omega)
  clear c7;have H':=A_ H;clear H
  have p8 : 0≤(0 : Int):=(by omega)
  have q8 : 0<a1.size:=(by have : (0 : Int)<(a1.size : Int):=od_ (by first|(with_reducible assumption)|assumption);omega)
  have hx8 : ∀ h : 0<a1.size,((a1[0]'h).toNat : Int)=bt a1 0:=bt_at a1 0
  clear p8
  have qi8 : (0<(a1.size : Int))=True:=eq_true (od_ (by first|(with_reducible assumption)|assumption))
  replace q8:=eq_true q8;go_wp2;go_meet
  case rel=>exact ⟨_,(decide ((bt a1 0)<128)),(by first|rfl|(simp;done)|(simp [*];done)),H',⟨by first|omega|exact Nat.le_refl _⟩,⟨by (with_reducible repeat (first|apply Kd.V_alloc|apply Kd.V_drewN|apply Kd.V_drew));exact HO0.out⟩,⟨hb0_ HB.out⟩⟩
 case rest =>
  clear HC5;(try clear p2);(try clear c3);(try clear c3b0);(try clear c3b1);(try clear c3b2);(try clear c4);(try clear c4b0);(try clear c4b1);(try clear c6);(try clear c6b0);(try clear c6b1);(try clear c7);(try clear c7b0);(try clear c7b1);(try clear p8);(try clear q8);(try clear hx8);(try clear qi8);(try clear p8);(try clear q8);obtain ⟨kq,x20_4,rfl,HA,HJ4,HO_0,HB⟩:=hcut
  cases kq with
  | zero=>exact absurd HA.out (by simp [bytes_Trim.j0])
  | succ kj4 =>
   have H:=HA.out;clear HA
   simp only [bytes_Trim.j0] at H
   by_cases c9 : x20_4=true
   rotate_left
   ·replace c9:=Bool.eq_false_iff.mpr c9
    subst c9
    have H1 : (none)=some r:=by rw [if_neg (show ¬ (false=true) by decide)] at H;exact H
    clear H;have H:=H1;clear H1
    exact absurd H (by simp)
   subst c9
   have H1 : (if 0<(a1.size : Int) then ((bytes_trimRightByte.f kj4 l0 (bt a1 0)).bind fun t215=>((bytes_trimLeftByte.f kj4 t215 (bt a1 0)).bind fun t218=>(some t218))) else (none))=some r:=by rw [if_pos rfl] at H;exact H
   clear H;have H:=H1;clear H1
   by_cases c10 : 0<(a1.size : Int)
   rotate_left
   ·rw [if_neg c10] at H
    exact absurd H (by simp)
   rw [if_pos c10] at H
   have c10b0 : decide (0<(a1.size : Int))=true:=dt_ c10
   have c10b1 : decide (0<a1.size)=true:=dt_ (by omega)
   clear c10;replace H:=Option.bind_eq_some_iff.mp H;obtain ⟨t215,A120,H⟩:=H
   replace H : ((bytes_trimLeftByte.f kj4 t215 (bt a1 0)).bind fun t218=>(some t218))=some r:=H
   have A12:=A_ A120;clear A120;replace H:=Option.bind_eq_some_iff.mp H;obtain ⟨t218,A140,H⟩:=H;replace H : (some t218)=some r:=H;have A14:=A_ A140;clear A140;obtain rfl:=Option.some.inj H
   try go_wp2
   have n0_:=A_ (Kd.V_drew HO_0.out);have n1_:=A_ (be_ HB.out);clear HO_0;clear HB;have HO_0:=n0_;have HB:=n1_;clear n0_ n1_
   have p11 : 0≤(0 : Int):=(by omega)
   have q11 : 0<a1.size:=(by have : (0 : Int)<(a1.size : Int):=od_ (by first|(with_reducible assumption)|assumption);omega)
   have hx11 : ∀ h : 0<a1.size,((a1[0]'h).toNat : Int)=bt a1 0:=bt_at a1 0
   clear p11
   have qi11 : (0<(a1.size : Int))=True:=eq_true (od_ (by first|(with_reducible assumption)|assumption))
   replace q11:=eq_true q11
   have p13 : 0≤(0 : Int):=(by omega)
   have q13 : 0<a1.size:=(by have : (0 : Int)<(a1.size : Int):=od_ (by first|(with_reducible assumption)|assumption);omega)
   have hx13 : ∀ h : 0<a1.size,((a1[0]'h).toNat : Int)=bt a1 0:=bt_at a1 0
   clear p13
   have qi13 : (0<(a1.size : Int))=True:=eq_true (od_ (by first|(with_reducible assumption)|assumption))
   replace q13:=eq_true q13
   refine start_ (n:=8) (S:=fun w'=>True) (ds:=[]) #[Z,Z,Z,Z,Z,Z,Z,Z] (by kernel_rfl) rfl rfl trivial (fun hHeld=>?_);refine with_tabW bytes_Trim.tab6 bytes_Trim.bits6 (fun HT_ HW_=>?_)
   generalize wc.drew=w15 at HO_0 HB hHeld ⊢
   refine pu_ (i:=0) (N:=some 21) (v:=?_) (a':=?_) #[Y,Z,Z,Z,Z,Z,Z,Z] rfl rfl HT_.out (by kernel_rfl) (fun _ _ _ h=>h) (by rfl) ?_ ?_ ?_;rotate_left;(intro w';go_simp;with_reducible rfl);rotate_left;(simp only [Act.put,q1_,q2_,q3_,i64_w,i32_w];rfl)
   refine pu_ (i:=1) (N:=some 22) (v:=?_) (a':=?_) #[Y,Y,Z,Z,Z,Z,Z,Z] rfl rfl HT_.out (by kernel_rfl) (fun _ _ _ h=>h) (by rfl) ?_ ?_ ?_;rotate_left;(intro w';go_simp;with_reducible rfl);rotate_left;(simp only [Act.put,q1_,q2_,q3_,i64_w,i32_w];rfl)
   refine pu_ (i:=4) (N:=some 25) (v:=?_) (a':=?_) #[Y,Y,Z,Z,Y,Z,Z,Z] rfl rfl HT_.out (by kernel_rfl) (fun _ _ _ h=>h) (by rfl) ?_ ?_ ?_;rotate_left;(intro w';go_simp;with_reducible rfl);rotate_left;(simp only [Act.put,q1_,q2_,q3_,i64_w,i32_w];rfl)
   refine ta_ (i:=2) (N:=some 23) (v:=?_) (a':=?_) #[Y,Y,Y,Z,Y,Z,Z,Z] rfl rfl HT_.out HW_.out (by kernel_rfl) (fun _ _ _ h=>h) (by rfl) ?_ hHeld ?_ ?_;rotate_left;(intro w' _;go_simp;with_reducible rfl);rotate_left;(simp only [Act.put,q1_,q2_,q3_,i64_w,i32_w];rfl)
   refine ta_ (i:=5) (N:=some 26) (v:=?_) (a':=?_) #[Y,Y,Y,Z,Y,Y,Z,Z] rfl rfl HT_.out HW_.out (by kernel_rfl) (fun _ _ _ h=>h) (by rfl) ?_ hHeld ?_ ?_;rotate_left;(intro w' _;go_simp;with_reducible rfl);rotate_left;(simp only [Act.put,q1_,q2_,q3_,i64_w,i32_w];rfl)
   refine one_ (i:=3) (N:=some 24) #[Y,Y,Y,Y,Y,Y,Z,Z] rfl rfl (one_of HT_.out (by kernel_rfl)) (by decide) (fun K hK=>?_)
   refine goes_ Tryd.func56 (by kernel_rfl) rfl #[.slice A0 l0.length c0,.int .u8 (bt a1 0)] (by rfl) rfl rfl (by (try simp only [List.map_toArray,List.map_cons,List.map_nil]);first|done|rfl|(simp only [List.length_drop,List.length_take];rfl)) ?_
   with_reducible refine (bytes_trimRightByte.calls kj4 (fun k_=>(P0_ k_∨w.heap.size≤k_)) _ _ l0 (bt a1 0) t215 _ ?side1 A12.out).mono ?_
   (case side1=>exact HO_0.out)
   rintro e w16 ⟨v216,rfl,ho0,hb⟩;refine ⟨_,rfl,?_⟩
   have n0_:=A_ (Kd.V_below (by (with_reducible repeat (first|apply Kd.V_alloc|apply Kd.V_drewN|apply Kd.V_drew));exact HO_0.out) hb)
   have n1_:=A_ (Kd.V_lower (Kd.V_mono (ok':=fun k_=>(P0_ k_∨w.heap.size≤k_)) ho0 (fun k_ hk_=>Or.elim hk_ (fun hs_=>hs_) (fun hn_=>(.inr (Nat.le_trans (bz_ (hb0_ HB.out)) hn_))))) (bz_ (hb0_ HB.out)))
   have n2_:=A_ (bp_ (hb0_ HB.out) hb);clear HO_0;clear HB;have HO_0:=n0_;have HO217:=n1_;have HB:=n2_;clear n0_ n1_ n2_;(try clear hb);(try clear hb2);(try clear hk);(try clear hi);(try clear ho0);obtain ⟨Ao17,co17,eo17⟩:=Kd.V_slice HO217.out
   (first|subst eo17|(injection eo17 with f1_ f2_ f3_;have f4_:=f1_.symm;have f5_:=f3_.symm;clear f1_ f2_ f3_;subst f4_;subst f5_))
   refine hK.out _ _ trivial (fun hHeld=>?_)
   clear hK K
   refine norm_ (a':=?_) ?_ ?_;rotate_left;(show Act.put _ (some 24) _=_;simp only [Act.put,q1_,q2_,q3_,i64_w,i32_w];rfl)
   refine one_ (i:=6) (N:=some 27) #[Y,Y,Y,Y,Y,Y,Y,Z] rfl rfl (one_of HT_.out (by kernel_rfl)) (by decide) (fun K hK=>?_)
   refine goes_ Tryd.func55 (by kernel_rfl) rfl #[.slice Ao17 t215.length co17,.int .u8 (bt a1 0)] (by rfl) rfl rfl (by (try simp only [List.map_toArray,List.map_cons,List.map_nil]);first|done|rfl|(simp only [List.length_drop,List.length_take];rfl)) ?_
   with_reducible refine (bytes_trimLeftByte.calls kj4 (fun k_=>(P0_ k_∨w.heap.size≤k_)) _ _ t215 (bt a1 0) t218 _ ?side1 A14.out).mono ?_
   (case side1=>exact HO217.out)
   rintro e w18 ⟨v219,rfl,ho0,hb⟩;refine ⟨_,rfl,?_⟩
   have n0_:=A_ (Kd.V_below (by (with_reducible repeat (first|apply Kd.V_alloc|apply Kd.V_drewN|apply Kd.V_drew));exact HO_0.out) hb)
   have n1_:=A_ (Kd.V_below (by (with_reducible repeat (first|apply Kd.V_alloc|apply Kd.V_drewN|apply Kd.V_drew));exact HO217.out) hb)
   have n2_:=A_ (Kd.V_lower (Kd.V_mono (ok':=fun k_=>(P0_ k_∨w.heap.size≤k_)) ho0 (fun k_ hk_=>Or.elim hk_ (fun hs_=>hs_) (fun hn_=>(.inr (Nat.le_trans (bz_ (hb0_ HB.out)) hn_))))) (bz_ (hb0_ HB.out)))
   have n3_:=A_ (bp_ (hb0_ HB.out) hb);clear HO_0;clear HO217;clear HB;have HO_0:=n0_;have HO217:=n1_;have HO220:=n2_;have HB:=n3_;clear n0_ n1_ n2_ n3_;(try clear hb);(try clear hb2);(try clear hk);(try clear hi);(try clear ho0)
   refine hK.out _ _ trivial (fun hHeld=>?_)
   clear hK K
   refine norm_ (a':=?_) ?_ ?_;rotate_left;(show Act.put _ (some 27) _=_;simp only [Act.put,q1_,q2_,q3_,i64_w,i32_w];rfl)
   refine pu_ (i:=7) (N:=some 4) (v:=?_) (a':=?_) #[Y,Y,Y,Y,Y,Y,Y,Y] rfl rfl HT_.out (by kernel_rfl) (fun _ _ _ h=>h) (by rfl) ?_ ?_ ?_;rotate_left;(intro w';go_simp;with_reducible rfl);rotate_left;(simp only [Act.put,q1_,q2_,q3_,i64_w,i32_w];rfl)
   refine done_ (done_of HT_.out (by kernel_rfl)) ?_
   try go_wp2
   go_ret
   exact ⟨_,by first|rfl|(simp [errW_none,errW_some] <;> rfl)|(simp [*,errW_none,errW_some] <;> rfl),by (with_reducible repeat (first|apply Kd.V_alloc|apply Kd.V_drewN|apply Kd.V_drew));exact HO220.out,hb0_ HB.out⟩
def table_nought.f (k : Nat) (l0 : List Int) : Option (Bool):=(bytes_Trim.f k l0 (⟨#[0]⟩ : ByteArray)).bind fun t221=>(some ((t221.length : Int) == 0))
set_option maxHeartbeats 8000000 in
set_option maxRecDepth 100000 in
theorem table_nought.calls (k : Nat) (A0 : Option Addr) (c0 : Nat) (l0 : List Int) (r : Bool) (w : World) (hr0 : Kd.C (Kd.int .u8) w A0 l0.length l0) (hc0 : l0.length≤c0) (h : table_nought.f k l0=some r) :
  Calls Tryd.prog 20 #[.slice A0 l0.length c0] w fun e w'=>e=.returned (.bool r)∧Below w.heap.size w w':=by
 have HR0:=A_ hr0;have HC0:=A_ hc0;clear hr0 hc0;have HB:=A_ (Below.refl w.heap.size w)
 have H : ((bytes_Trim.f k l0 (⟨#[0]⟩ : ByteArray)).bind fun t221=>(some ((t221.length : Int) == 0)))=some r:=h
 clear h;replace H:=Option.bind_eq_some_iff.mp H;obtain ⟨t221,A20,H⟩:=H;replace H : (some ((t221.length : Int) == 0))=some r:=H;have A2:=A_ A20;clear A20;obtain rfl:=Option.some.inj H;go_enter Tryd.func20,Tryd.ntmps20
 go_wp2_with (first|((with_reducible refine gate_callee (f:=38) rfl ?_);refine goesL_ (some 4) rfl rfl Tryd.func38 (by kernel_rfl) rfl #[.slice A0 l0.length c0,.string (⟨#[0]⟩ : ByteArray)] rfl (by (try simp only [List.map_toArray,List.map_cons,List.map_nil]);first|done|rfl|(simp only [List.length_drop,List.length_take];rfl)) ?_;(with_reducible refine (bytes_Trim.calls k (fun k_=>k_<w.heap.size) _ _ l0 (⟨#[0]⟩ : ByteArray) t221 _ ?side1 A2.out).mono ?_);(case side1=>exact Kd.V_mk HC0.out (Kd.F_below (Kd.C_F (Kd.heap_int .u8) HR0.out) (hb0_ HB.out)));rintro e w3 ⟨v222,rfl,ho0,hb⟩;refine ⟨_,rfl,?_⟩;have n0_:=A_ (Kd.V_lower (Kd.V_mono (ok':=fun k_=>True) ho0 (fun k_ hk_=>trivial)) (bz_ (hb0_ HB.out)));have n1_:=A_ (bp_ (hb0_ HB.out) hb);clear HB;have HO223:=n0_;have HB:=n1_;clear n0_ n1_;(try clear hb);(try clear hb2);(try clear hk);(try clear hi);(try clear ho0);obtain ⟨Ao4,co4,eo4⟩:=Kd.V_slice HO223.out;subst eo4))
 go_ret
 exact ⟨by first|rfl|(simp [errW_none,errW_some] <;> rfl)|(simp [*,errW_none,errW_some] <;> rfl),hb0_ HB.out⟩
mutual
def tally_More.l0 : Nat→Int→List Int→Int→Int→Option (Int)
 | 0,_,_,_,_=>none
 | k + 1,x0,x8,x9,x10=>if x10<x9 then (if 0≤x10 then (if x10<(x8.length : Int) then (tally_More.l1 k (Go.bits .xor .u32 x0 ((((rd x8 x10) % 4294967296) * 16777216) % 4294967296)) x8 x9 x10 0) else (none)) else (none)) else (some x0)
def tally_More.l1 : Nat→Int→List Int→Int→Int→Int→Option (Int)
 | 0,_,_,_,_,_=>none
 | k + 1,x0,x8,x9,x10,x19=>if x19<8 then (if (x0 / 2147483648)=1 then (tally_More.l1 k (Go.bits .xor .u32 ((x0 * 2) % 4294967296) 2168537515) x8 x9 x10 (wrap64 (x19 + 1))) else (tally_More.l1 k ((x0 * 2) % 4294967296) x8 x9 x10 (wrap64 (x19 + 1)))) else (tally_More.l0 k x0 x8 x9 (wrap64 (x10 + 1)))
end
def tally_More.f (k : Nat) (a0 : Int) (l1 : List Int) : Option (Int):=tally_More.l0 k a0 l1 (l1.length : Int) 0
set_option maxHeartbeats 8000000 in
set_option maxRecDepth 100000 in
theorem tally_More.calls (k : Nat) (a0 : Int) (A1 : Option Addr) (c1 : Nat) (l1 : List Int) (r : Int) (w : World) (hr1 : Kd.C (Kd.int .u8) w A1 l1.length l1) (hc1 : l1.length≤c1) (h : tally_More.f k a0 l1=some r) :
  Calls Tryd.prog 70 #[.int .u32 a0,.slice A1 l1.length c1] w fun e w'=>e=.returned (.int .u32 r)∧Drawn0 w w':=by
 have HR1:=A_ hr1;have HC1:=A_ hc1;clear hr1 hc1;have H : (tally_More.l0 k a0 l1 (l1.length : Int) 0)=some r:=h;clear h;have H':=A_ H;clear H;go_enter Tryd.func70,Tryd.ntmps70;go_wp2
 go_loopg [0,10] k (fun kq v0 v10 w'=>∃ (x0_1 : Int) (x10_1 : Int),v0=.int .u32 x0_1∧v10=.int .i64 x10_1∧Aside0 (tally_More.l0 kq x0_1 l1 (l1.length : Int) x10_1=some r)∧Aside0 (kq≤k)∧Drawn0 w w')
 case atStart=>exact ⟨(a0),(0),(by first|rfl|(simp;done)|(simp [*];done)),(by first|rfl|(simp;done)|(simp [*];done)),H',⟨Nat.le_refl _⟩,by repeat (first|exact Drawn0.refl _|apply Drawn0.step)⟩
 case round =>
  clear H';(try clear c1);(try clear p2);obtain ⟨x0_1,x10_1,rfl,rfl,HA,HK1,⟨m1,rfl⟩⟩:=hrel
  cases gk with
  | zero=>exact absurd HA.out (by simp [tally_More.l0])
  | succ k1 =>
   have H:=HA.out;clear HA
   simp only [tally_More.l0] at H
   by_cases c3 : x10_1<(l1.length : Int)
   rotate_left
   ·rw [if_neg c3] at H
    have c3b0 : decide (x10_1<(l1.length : Int))=false:=df_ c3;clear c3;obtain rfl:=Option.some.inj H;go_wp2;go_ret
    exact ⟨by first|rfl|(simp;done)|(simp [*];done),by repeat (first|exact Drawn0.refl _|apply Drawn0.step)⟩
   rw [if_pos c3] at H
   have c3b0 : decide (x10_1<(l1.length : Int))=true:=dt_ c3;clear c3
   by_cases c4 : 0≤x10_1
   rotate_left
   ·rw [if_neg c4] at H
    exact absurd H (by simp)
   rw [if_pos c4] at H
   have c4b0 : decide (0≤x10_1)=true:=dt_ c4;clear c4
   by_cases c5 : x10_1<(l1.length : Int)
   rotate_left
   ·rw [if_neg c5] at H
    exact absurd H (by simp)
   rw [if_pos c5] at H
   have c5b0 : decide (x10_1<(l1.length : Int))=true:=dt_ c5;clear c5;have H':=A_ H;clear H
   have p224 : 0≤(x10_1 : Int):=od_ (by first|(with_reducible assumption)|assumption)
   have q224 : x10_1<(l1.length : Int):=od_ (by first|(with_reducible assumption)|assumption)
   obtain ⟨ad224,e224,hx224_0⟩:=Kd.at_int HR1.out x10_1 p224 q224
   cases e224
   replace p224:=eq_true p224;replace q224:=eq_true q224;go_wp2
   go_loopg [0,19] k1 (fun kq v0 v19 w'=>∃ (x0_2 : Int) (x19_2 : Int),v0=.int .u32 x0_2∧v19=.int .i64 x19_2∧Aside0 (tally_More.l1 kq x0_2 l1 (l1.length : Int) x10_1 x19_2=some r)∧Aside0 (kq≤k1)∧Drawn0 w w')
   case atStart=>exact ⟨(Go.bits .xor .u32 x0_1 ((((rd l1 x10_1) % 4294967296) * 16777216) % 4294967296)),(0),(by first|rfl|(simp;done)|(simp [*];done)),(by first|rfl|(simp;done)|(simp [*];done)),H',⟨Nat.le_refl _⟩,by repeat (first|exact Drawn0.refl _|apply Drawn0.step)⟩
   case round =>
    clear H';(try clear c1);(try clear p2);(try clear q2);(try clear hx2);(try clear c3);(try clear c3b0);(try clear c4);(try clear c4b0);(try clear c5);(try clear c5b0);(try clear hx224_0);(try clear p2);(try clear p224);(try clear q224);obtain ⟨x0_2,x19_2,rfl,rfl,HA,HK2,⟨m2,rfl⟩⟩:=hrel
    cases gk with
    | zero=>exact absurd HA.out (by simp [tally_More.l1])
    | succ k2 =>
     have H:=HA.out;clear HA
     simp only [tally_More.l1] at H
     by_cases c6 : x19_2<8
     rotate_left
     ·rw [if_neg c6] at H
      have c6b0 : decide (x19_2<8)=false:=df_ c6;clear c6;have H':=A_ H;clear H;go_wp2;go_roundg k2
      case measure=>have:=HK1.out;have:=HK2.out;omega
      case rel=>exact ⟨(x0_2),(wrap64 (x10_1 + 1)),(by first|rfl|(simp;done)|(simp [*];done)),(by first|rfl|(simp;done)|(simp [*];done)),H',⟨by have:=HK1.out;have:=HK2.out;omega⟩,by repeat (first|exact Drawn0.refl _|apply Drawn0.step)⟩
     rw [if_pos c6] at H
     have c6b0 : decide (x19_2<8)=true:=dt_ c6;clear c6
     by_cases c7 : (x0_2 / 2147483648)=1
     rotate_left
     ·rw [if_neg c7] at H
      have c7b0 : ((x0_2 / 2147483648) == 1)=false:=beq_eq_false_iff_ne.mpr c7;have c7b1 : ((x0_2 / 2147483648) != 1)=true:=bne_iff_ne.mpr c7;have H':=A_ H;clear H;go_wp2;go_roundg k2
      case measure=>have:=HK1.out;have:=HK2.out;omega
      case rel=>exact ⟨((x0_2 * 2) % 4294967296),(wrap64 (x19_2 + 1)),(by first|rfl|(simp;done)|(simp [*];done)),(by first|rfl|(simp;done)|(simp [*];done)),H',⟨by have:=HK1.out;have:=HK2.out;omega⟩,by repeat (first|exact Drawn0.refl _|apply Drawn0.step)⟩
     rw [if_pos c7] at H
     have c7b0 : ((x0_2 / 2147483648) == 1)=true:=beq_iff_eq.mpr c7;have c7b1 : ((x0_2 / 2147483648) != 1)=false:=bne_eq_false_iff_eq.mpr c7;clear c7;have H':=A_ H;clear H;go_wp2;go_roundg k2
     case measure=>have:=HK1.out;have:=HK2.out;omega
     case rel=>exact ⟨(Go.bits .xor .u32 ((x0_2 * 2) % 4294967296) 2168537515),(wrap64 (x19_2 + 1)),(by first|rfl|(simp;done)|(simp [*];done)),(by first|rfl|(simp;done)|(simp [*];done)),H',⟨by have:=HK1.out;have:=HK2.out;omega⟩,by repeat (first|exact Drawn0.refl _|apply Drawn0.step)⟩
def tally_Sum.f (k : Nat) (l0 : List Int) : Option (Int):=(tally_More.f k 4294967295 l0).bind fun t225=>(some t225)
set_option maxHeartbeats 8000000 in
set_option maxRecDepth 100000 in
theorem tally_Sum.calls (k : Nat) (A0 : Option Addr) (c0 : Nat) (l0 : List Int) (r : Int) (w : World) (hr0 : Kd.C (Kd.int .u8) w A0 l0.length l0) (hc0 : l0.length≤c0) (h : tally_Sum.f k l0=some r) :
  Calls Tryd.prog 53 #[.slice A0 l0.length c0] w fun e w'=>e=.returned (.int .u32 r)∧Drawn0 w w':=by
 have HR0:=A_ hr0;have HC0:=A_ hc0;clear hr0 hc0
 have H : ((tally_More.f k 4294967295 l0).bind fun t225=>(some t225))=some r:=h
 clear h;replace H:=Option.bind_eq_some_iff.mp H;obtain ⟨t225,A20,H⟩:=H;replace H : (some t225)=some r:=H;have A2:=A_ A20;clear A20;obtain rfl:=Option.some.inj H;go_enter Tryd.func53,Tryd.ntmps53
 go_wp2_with (first|((with_reducible refine gate_callee (f:=70) rfl ?_);refine goesL_ (some 4) rfl rfl Tryd.func70 (by kernel_rfl) rfl #[.int .u32 4294967295,.slice A0 l0.length c0] rfl (by (try simp only [List.map_toArray,List.map_cons,List.map_nil]);first|done|rfl|(simp only [List.length_drop,List.length_take];rfl)) ?_;(with_reducible refine (tally_More.calls k 4294967295 _ _ l0 t225 _ ?side1 ?side2 A2.out).mono ?_);(case side1=>repeat (first|exact HR0.out|(with_reducible refine Kd.C_alloc ?_ _)|(with_reducible refine Kd.C_drewN ?_ _)|(with_reducible refine Kd.C_drew ?_)));(case side2=>exact HC0.out);rintro e w' ⟨rfl,⟨nd,rfl⟩⟩;refine ⟨_,rfl,?_⟩))
 go_ret
 exact ⟨by first|rfl|(simp;done)|(simp [*];done),by repeat (first|exact Drawn0.refl _|apply Drawn0.step)⟩
def tally_Seal.f (k : Nat) (l0 : List Int) : Option (List Int):=(tally_Sum.f k l0).bind fun t226=>((some (([(t226 / 16777216) % 256,(t226 / 65536) % 256,(t226 / 256) % 256,(t226) % 256] : List Int) : List Int)).bind fun y227=>(if y227.length + l0.length<140737488355328 then (some (y227++l0)) else (none)))
set_option maxHeartbeats 8000000 in
set_option maxRecDepth 100000 in
theorem tally_Seal.calls (k : Nat) (A0 : Option Addr) (c0 : Nat) (l0 : List Int) (r : List Int) (w : World) (hr0 : Kd.C (Kd.int .u8) w A0 l0.length l0) (hc0 : l0.length≤c0) (h : tally_Seal.f k l0=some r) :
  Calls Tryd.prog 28 #[.slice A0 l0.length c0] w fun e w'=>∃ v0_ : Value,e=.returned (v0_)∧Kd.R (Kd.int .u8) 5 w' w.heap.size (fun _=>True) v0_ r∧Below w.heap.size w w':=by
 have HR0:=A_ hr0;have HC0:=A_ hc0;clear hr0 hc0;have HB:=A_ (Below.refl w.heap.size w)
 have H : ((tally_Sum.f k l0).bind fun t226=>((some (([(t226 / 16777216) % 256,(t226 / 65536) % 256,(t226 / 256) % 256,(t226) % 256] : List Int) : List Int)).bind fun y227=>(if y227.length + l0.length<140737488355328 then (some (y227++l0)) else (none))))=some r:=h
 clear h;replace H:=Option.bind_eq_some_iff.mp H;obtain ⟨t226,A20,H⟩:=H
 replace H : ((some (([(t226 / 16777216) % 256,(t226 / 65536) % 256,(t226 / 256) % 256,(t226) % 256] : List Int) : List Int)).bind fun y227=>(if y227.length + l0.length<140737488355328 then (some (y227++l0)) else (none)))=some r:=H
 have A2:=A_ A20;clear A20
 obtain ⟨y227,hy227⟩ : ∃ y_ : List Int,y_=(([(t226 / 16777216) % 256,(t226 / 65536) % 256,(t226 / 256) % 256,(t226) % 256] : List Int)):=⟨_,rfl⟩
 replace H : (if y227.length + l0.length<140737488355328 then (some (y227++l0)) else (none))=some r:=by first|(rw [hy227];with_reducible exact H)|(have H2_:=(Option.bind_some _ _).symm.trans H;rw [hy227];with_reducible exact H2_)|(have H2_:=(Option.bind_some _ _).symm.trans H;with_reducible exact H2_)|with_reducible exact H|(rw [hy227];exact H)|exact H
 have Ny227:=A_ hy227;clear hy227
 by_cases c3 : y227.length + l0.length<140737488355328
 rotate_left
 ·rw [if_neg c3] at H
  exact absurd H (by simp)
 rw [if_pos c3] at H
 have LMc3:=A_ c3;clear c3
 obtain ⟨y230,hy230⟩ : ∃ y_ : List Int,y_=(y227++l0):=⟨_,rfl⟩
 replace H : (some y230)=some r:=by first|(rw [hy230];with_reducible exact H)|(have H2_:=(Option.bind_some _ _).symm.trans H;rw [hy230];with_reducible exact H2_)|(have H2_:=(Option.bind_some _ _).symm.trans H;with_reducible exact H2_)|with_reducible exact H|(rw [hy230];exact H)|exact H
 have Ny230:=A_ hy230;clear hy230;obtain rfl:=Option.some.inj H;go_enter Tryd.func28,Tryd.ntmps28
 go_wp2_with (first|((with_reducible refine gate_callee (f:=53) rfl ?_);refine goesL_ (some 5) rfl rfl Tryd.func53 (by kernel_rfl) rfl #[.slice A0 l0.length c0] rfl (by (try simp only [List.map_toArray,List.map_cons,List.map_nil]);first|done|rfl|(simp only [List.length_drop,List.length_take];rfl)) ?_;(with_reducible refine (tally_Sum.calls k _ _ l0 t226 _ ?side1 ?side2 A2.out).mono ?_);(case side1=>repeat (first|exact HR0.out|(with_reducible refine Kd.C_alloc ?_ _)|(with_reducible refine Kd.C_drewN ?_ _)|(with_reducible refine Kd.C_drew ?_)));(case side2=>exact HC0.out);rintro e w' ⟨rfl,⟨nd,rfl⟩⟩;refine ⟨_,rfl,?_⟩)|((with_reducible refine gate_dst (N:=17) rfl ?_);refine Kd.R_lit (Kd.int .u8) _ 5 ?hg (N:=17) ?hd (xs:=([(t226 / 16777216) % 256,(t226 / 65536) % 256,(t226 / 256) % 256,(t226) % 256] : List Int)) (inner:=[.int .u8 ((t226 / 16777216) % 256),.int .u8 ((t226 / 65536) % 256),.int .u8 ((t226 / 256) % 256),.int .u8 ((t226) % 256)]) (ok:=fun _=>True) (okp:=fun _=>True) ?hr ?hp (fun _ hk=>hk) trivial (Below.refl _ _) (Nat.le_refl _) (by simp) ?_;(case hd=>rfl);(case hg=>rfl);(case hr=>first|(go_simp;done)|(go_simp;rfl));(case hp=>exact (Reps.one (show Kd.M (Kd.int .u8) _ _ _ ((t226 / 16777216) % 256) [.int .u8 ((t226 / 16777216) % 256)] from rfl) (Reps.one (show Kd.M (Kd.int .u8) _ _ _ ((t226 / 65536) % 256) [.int .u8 ((t226 / 65536) % 256)] from rfl) (Reps.one (show Kd.M (Kd.int .u8) _ _ _ ((t226 / 256) % 256) [.int .u8 ((t226 / 256) % 256)] from rfl) (Reps.one (show Kd.M (Kd.int .u8) _ _ _ ((t226) % 256) [.int .u8 ((t226) % 256)] from rfl) (Reps.none _ _))))));intro v228 w4 ho5 hb hg_ hnew_;clear hg_ hnew_;(first|rw [← Ny227.out] at ho5|(simp only [Int.reduceToNat] at ho5;rw [← Ny227.out] at ho5));have n0_:=A_ (Kd.R_lower ho5 (bz_ (hb0_ HB.out)));have n1_:=A_ (bp_ (hb0_ HB.out) hb);clear HB;have HO229:=n0_;have HB:=n1_;clear n0_ n1_;clear hb ho5)|((with_reducible refine gate_builtin (b:=.append) (xs:=#[.tmp 17,.tmp 18]) rfl ?_);at_builtin;refine Kd.R_append_rows (Kd.int .u8) (w0:=w) w.heap.size rfl (.tmp 17) (.tmp 18) 22 5 (.int .u8 0) 1 rfl Tryd.underlying22 info5 rfl (by decide) (by omega) v228 y227 l0 _ _ _ (fun _=>True) (fun _=>False) rfl rfl ?aO ?aR (fun _ _ h=>h) (fun _ h=>h.elim) ?aF ?aB ?aS ?aL ?_;(case aR=>repeat (first|exact (Kd.C_below HR0.out HB.out)|(with_reducible refine Kd.C_alloc ?_ _)|(with_reducible refine Kd.C_drewN ?_ _)|(with_reducible refine Kd.C_drew ?_)));(case aB=>exact (hb0_ HB.out));(case aF=>exact (fun _ _=>trivial));(case aO=>exact (by (with_reducible repeat (first|apply ra_|apply rn_|apply re_));exact HO229.out));(case aS=>exact (bz_ (hb0_ HB.out)));(case aL=>have:=LMc3.out;omega);intro v231 w6 ho hb hg hat;rw [← Ny230.out] at ho;have n0_:=A_ (hb);have n1_:=A_ (ho);clear HB;clear HO229;have HB:=n0_;have HO232:=n1_;clear n0_ n1_;clear ho hb hg hat))
 go_ret
 exact ⟨_,by first|rfl|(simp [errW_none,errW_some] <;> rfl)|(simp [*,errW_none,errW_some] <;> rfl),by (with_reducible repeat (first|apply ra_|apply rn_|apply re_));exact HO232.out,hb0_ HB.out⟩
def tally_Open.f (k : Nat) (l0 : List Int) : Option (List Int × Int):=if (l0.length : Int)<4 then (some (([] : List Int),4)) else (if 4≤(l0.length : Int) then ((tally_Seal.f k (l0.drop 4)).bind fun t234=>(if 4≤(t234.length : Int) then (if (strOfNums (t234.take 4)).toList=(strOfNums (l0.take 4)).toList then (some ((t234.drop (4 : Int).toNat),0)) else (some (([] : List Int),5))) else (none))) else (none))
set_option maxHeartbeats 8000000 in
set_option maxRecDepth 100000 in
theorem tally_Open.calls (k : Nat) (A0 : Option Addr) (c0 : Nat) (l0 : List Int) (r1 : List Int) (r2 : Int) (w : World) (hr0 : Kd.C (Kd.int .u8) w A0 l0.length l0) (hc0 : l0.length≤c0) (h : tally_Open.f k l0=some (r1,r2)) :
  Calls Tryd.prog 21 #[.slice A0 l0.length c0] w fun e w'=>∃ v0_ : Value,e=.returned (.tuple #[v0_,.int .i64 r2])∧Kd.Q (Kd.int .u8) 5 w' w.heap.size (fun _=>True) v0_ r1∧Below w.heap.size w w':=by
 have HR0:=A_ hr0;have HC0:=A_ hc0;clear hr0 hc0;have HB:=A_ (Below.refl w.heap.size w)
 have H : (if (l0.length : Int)<4 then (some (([] : List Int),4)) else (if 4≤(l0.length : Int) then ((tally_Seal.f k (l0.drop 4)).bind fun t234=>(if 4≤(t234.length : Int) then (if (strOfNums (t234.take 4)).toList=(strOfNums (l0.take 4)).toList then (some ((t234.drop (4 : Int).toNat),0)) else (some (([] : List Int),5))) else (none))) else (none)))=some (r1,r2):=h
 clear h
 by_cases c2 : (l0.length : Int)<4
 ·rw [if_pos c2] at H
  have c2b0 : decide ((l0.length : Int)<4)=true:=dt_ c2
  have c2b1 : decide (l0.length<4)=true:=dt_ (by omega)
  clear c2
  simp only [Option.some.injEq,Prod.mk.injEq] at H
  obtain ⟨rfl,rfl⟩:=H;go_enter Tryd.func21,Tryd.ntmps21;go_wp2;go_ret2
  exact ⟨_,by first|rfl|(simp [errW_none,errW_some] <;> rfl)|(simp [*,errW_none,errW_some] <;> rfl),Kd.Q_of_R (by first|exact Kd.R_nil _ _ _ _ _|exact Kd.N_nil _ _ _ _ _|exact Kd.V_nil _ _ _ _ _|exact Kd.Q_nil _ _ _ _ _|exact Kd.S_nil _ _ _ _ _),hb0_ HB.out⟩
 rw [if_neg c2] at H
 have c2b0 : decide ((l0.length : Int)<4)=false:=df_ c2
 have c2b1 : decide (l0.length<4)=false:=df_ (by omega)
 clear c2
 by_cases c3 : 4≤(l0.length : Int)
 rotate_left
 ·rw [if_neg c3] at H
  exact absurd H (by simp)
 rw [if_pos c3] at H
 have c3b0:=eq_true c3;have c3b1 : decide (4≤(l0.length : Int))=true:=dt_ c3;clear c3;replace H:=Option.bind_eq_some_iff.mp H;obtain ⟨t234,A40,H⟩:=H
 replace H : (if 4≤(t234.length : Int) then (if (strOfNums (t234.take 4)).toList=(strOfNums (l0.take 4)).toList then (some ((t234.drop (4 : Int).toNat),0)) else (some (([] : List Int),5))) else (none))=some (r1,r2):=H
 have A4:=A_ A40;clear A40
 by_cases c5 : 4≤(t234.length : Int)
 rotate_left
 ·rw [if_neg c5] at H
  exact absurd H (by simp)
 rw [if_pos c5] at H
 have c5b0:=eq_true c5;have c5b1 : decide (4≤(t234.length : Int))=true:=dt_ c5;clear c5
 obtain ⟨y237,hy237⟩ : ∃ y_ : List Int,y_=(t234.take 4):=⟨_,rfl⟩
 replace H : (if (strOfNums y237).toList=(strOfNums (l0.take 4)).toList then (some ((t234.drop (4 : Int).toNat),0)) else (some (([] : List Int),5)))=some (r1,r2):=by first|(rw [hy237];with_reducible exact H)|(have H2_:=(Option.bind_some _ _).symm.trans H;rw [hy237];with_reducible exact H2_)|(have H2_:=(Option.bind_some _ _).symm.trans H;with_reducible exact H2_)|with_reducible exact H|(rw [hy237];exact H)|exact H
 have Ny237:=A_ hy237;clear hy237
 have c6b0:=eq_true (od_ (by first|(with_reducible assumption)|assumption) : 4≤(l0.length : Int))
 by_cases c7 : (strOfNums y237).toList=(strOfNums (l0.take 4)).toList
 rotate_left
 ·rw [if_neg c7] at H
  have c7b0 : ((strOfNums y237).toList == (strOfNums (l0.take 4)).toList)=false:=beq_eq_false_iff_ne.mpr c7;have c7b1 : ((strOfNums y237).toList != (strOfNums (l0.take 4)).toList)=true:=bne_iff_ne.mpr c7
  simp only [Option.some.injEq,Prod.mk.injEq] at H
  obtain ⟨rfl,rfl⟩:=H;obtain ⟨i016,hi016,_,hsz16,_⟩:=info_parts info5;(try clear hcut9)
  obtain ⟨A16,hcut16,hA16,hC16⟩:=print_drop_of (P:=Tryd.prog) (Value.int .u8) 0 22 5 .i64 Tryd.underlying22 hi016 hsz16 A0 c0 l0 4 (by omega) (od_ (by first|(with_reducible assumption)|assumption)) HC0.out
  have HR233:=A_ (Kd.C_of_reads (h1:=fun _=>rfl) (hA16 _ (Kd.reads_of_C HR0.out)))
  have HC233:=A_ hC16;clear hA16 hC16 hi016 hsz16;go_enter Tryd.func21,Tryd.ntmps21
  try go_wp2_with (first|((with_reducible refine gate_callee (f:=28) rfl ?_);refine goesL_ (some 10) rfl rfl Tryd.func28 (by kernel_rfl) rfl #[.slice A16 (l0.drop 4).length (c0 - 4)] rfl (by (try simp only [List.map_toArray,List.map_cons,List.map_nil]);first|done|(rw [show (l0.drop 4).length=(l0.length - 4) from List.length_drop] <;> rfl)|rfl|(simp only [List.length_drop,List.length_take];rfl)) ?_;(with_reducible refine (tally_Seal.calls k _ _ (l0.drop 4) t234 _ ?side1 ?side2 A4.out).mono ?_);(case side1=>repeat (first|exact HR233.out|(with_reducible refine Kd.C_alloc ?_ _)|(with_reducible refine Kd.C_drewN ?_ _)|(with_reducible refine Kd.C_drew ?_)));(case side2=>exact HC233.out);rintro e w17 ⟨v235,rfl,ho0,hb⟩;refine ⟨_,rfl,?_⟩;have n0_:=A_ (Kd.R_lower ho0 (bz_ (hb0_ HB.out)));have n1_:=A_ (bp_ (hb0_ HB.out) hb);clear HB;have HO236:=n0_;have HB:=n1_;clear n0_ n1_;(try clear hb);(try clear hb2);(try clear hk);(try clear hi);(try clear ho0)))
  have n0_:=A_ (re_ HO236.out);have n1_:=A_ (be_ HB.out);clear HO236;clear HB;have HO236:=n0_;have HB:=n1_;clear n0_ n1_;obtain ⟨Ao20,co20,eo20⟩:=Kd.R_slice HO236.out
  (first|subst eo20|(injection eo20 with f1_ f2_ f3_;have f4_:=f1_.symm;have f5_:=f3_.symm;clear f1_ f2_ f3_;subst f4_;subst f5_))
  have q19 : (4 : Int)≤((t234.length : Int) : Int):=od_ (by first|(with_reducible assumption)|assumption)
  obtain ⟨i019,hi019,_,hsz19,_⟩:=info_parts info5;have hroom19 : t234.length≤co20:=(Kd.R_reads' HO236.out).2.1;have hC19 : Kd.C (Kd.int .u8) _ Ao20 t234.length t234:=(Kd.R_reads' HO236.out).2.2
  have hcut19:=cut_to (P:=Tryd.prog) 22 5 .i64 Tryd.underlying22 hi019 Ao20 t234.length co20 4 (by omega) q19 hroom19
  have hr19:=Kd.C_take (m:=4) hC19 (by omega)
  have hy19 : y237.length=(4 : Int).toNat:=(by rw [Ny237.out,List.length_take];omega)
  rw [← Ny237.out] at hr19;rw [← hy19] at hcut19;have HR240:=A_ hr19
  have HC240:=A_ (show y237.length≤co20 from by omega)
  clear hr19 hC19 hroom19 hi019 hsz19;have KY19:=A_ hy19;clear hy19
  have KL19:=A_ (show 4≤t234.length from by omega)
  replace q19:=eq_true q19;obtain ⟨i021,hi021,_,hsz21,_⟩:=info_parts info5
  obtain ⟨hcut21,hA21,hC21⟩:=print_take_of (P:=Tryd.prog) (Value.int .u8) 0 22 5 .i64 Tryd.underlying22 hi021 hsz21 A0 c0 l0 4 (by omega) (od_ (by first|(with_reducible assumption)|assumption)) HC0.out
  have HR241:=A_ (Kd.C_of_reads (h1:=fun _=>rfl) (hA21 _ (Kd.reads_of_C HR0.out)))
  have HC241:=A_ hC21;clear hA21 hC21 hi021 hsz21
  refine start_ (n:=7) (S:=fun w'=>(convert 22 9 (.slice Ao20 y237.length co20)).run Tryd.prog w'=.ok (.string (strOfNums y237)) w'∧(convert 22 9 (.slice A0 (min 4 l0.length) c0)).run Tryd.prog w'=.ok (.string (strOfNums (l0.take 4))) w') (ds:=[]) #[Z,Z,Z,Z,Z,Z,Z] (by kernel_rfl) rfl rfl ⟨Kd.C_string (P:=Tryd.prog) (A:=Ao20) (c:=co20) Tryd.underlying22 Tryd.underlying5 Tryd.underlying9 (by repeat (first|(with_reducible exact HR240.out)|(with_reducible refine Kd.C_alloc ?_ _)|(with_reducible refine Kd.C_drewN ?_ _)|(with_reducible refine Kd.C_drew ?_)|exact HR240.out)),(by first|(have h_:=Kd.C_string (P:=Tryd.prog) (A:=A0) (c:=c0) Tryd.underlying22 Tryd.underlying5 Tryd.underlying9 (Kd.C_below HR241.out HB.out);rw [List.length_take] at h_;exact h_)|(rw [← List.length_take];exact Kd.C_string (P:=Tryd.prog) (A:=A0) (c:=c0) Tryd.underlying22 Tryd.underlying5 Tryd.underlying9 (Kd.C_drewN (Kd.C_below HR241.out HB.out) _)))⟩ (fun hHeld=>?_)
  generalize w17.drew=w18 at HO236 HB HR240 HR241 hHeld ⊢
  refine pure_ (i:=0) (N:=some 11) (v:=?_) (a':=?_) #[Y,Z,Z,Z,Z,Z,Z] rfl rfl (by kernel_rfl) (fun _ _ _ h=>h) (Or.inl ⟨by rfl,?_⟩) ?_ ?_;rotate_left;(intro w';go_simp;with_reducible rfl);rotate_left;(simp only [Act.put,q1_,q2_,q3_,i64_w,i32_w];rfl)
  refine pure_ (i:=1) (N:=some 12) (v:=?_) (a':=?_) #[Y,Y,Z,Z,Z,Z,Z] rfl rfl (by kernel_rfl) (fun _ _ _ h=>h) (Or.inl ⟨by rfl,?_⟩) ?_ ?_;rotate_left;(intro w';go_simp;with_reducible rfl);rotate_left;(simp only [Act.put,q1_,q2_,q3_,i64_w,i32_w];rfl)
  refine pure_ (i:=3) (N:=some 14) (v:=?_) (a':=?_) #[Y,Y,Z,Y,Z,Z,Z] rfl rfl (by kernel_rfl) (fun _ _ _ h=>h) (Or.inl ⟨by rfl,?_⟩) ?_ ?_;rotate_left;(intro w';go_simp;with_reducible rfl);rotate_left;(simp only [Act.put,q1_,q2_,q3_,i64_w,i32_w];rfl)
  refine pure_ (i:=4) (N:=some 15) (v:=?_) (a':=?_) #[Y,Y,Z,Y,Y,Z,Z] rfl rfl (by kernel_rfl) (fun _ _ _ h=>h) (Or.inl ⟨by rfl,?_⟩) ?_ ?_;rotate_left;(intro w';go_simp;with_reducible rfl);rotate_left;(simp only [Act.put,q1_,q2_,q3_,i64_w,i32_w];rfl)
  refine take_ (i:=2) (N:=some 13) (v:=?_) (a':=?_) #[Y,Y,Y,Y,Y,Z,Z] rfl rfl (by kernel_rfl) (fun _ _ _ h=>h) (Or.inl ⟨by rfl,?_⟩) hHeld ?_ ?_;rotate_left;(rintro w' ⟨s0,s1⟩;go_simp;with_reducible rfl);rotate_left;(simp only [Act.put,q1_,q2_,q3_,i64_w,i32_w];rfl)
  refine take_ (i:=5) (N:=some 16) (v:=?_) (a':=?_) #[Y,Y,Y,Y,Y,Y,Z] rfl rfl (by kernel_rfl) (fun _ _ _ h=>h) (Or.inl ⟨by rfl,?_⟩) hHeld ?_ ?_;rotate_left;(rintro w' ⟨s0,s1⟩;go_simp;with_reducible rfl);rotate_left;(simp only [Act.put,q1_,q2_,q3_,i64_w,i32_w];rfl)
  refine pure_ (i:=6) (N:=some 17) (v:=?_) (a':=?_) #[Y,Y,Y,Y,Y,Y,Y] rfl rfl (by kernel_rfl) (fun _ _ _ h=>h) (Or.inl ⟨by rfl,?_⟩) ?_ ?_;rotate_left;(intro w';go_simp;with_reducible rfl);rotate_left;(simp only [Act.put,q1_,q2_,q3_,i64_w,i32_w];rfl)
  refine done_ (by kernel_rfl) ?_
  try go_wp2
  go_ret2
  exact ⟨_,by first|rfl|(simp [errW_none,errW_some] <;> rfl)|(simp [*,errW_none,errW_some] <;> rfl),Kd.Q_of_R (by first|exact Kd.R_nil _ _ _ _ _|exact Kd.N_nil _ _ _ _ _|exact Kd.V_nil _ _ _ _ _|exact Kd.Q_nil _ _ _ _ _|exact Kd.S_nil _ _ _ _ _),hb0_ HB.out⟩
 rw [if_pos c7] at H
 have c7b0 : ((strOfNums y237).toList == (strOfNums (l0.take 4)).toList)=true:=beq_iff_eq.mpr c7;have c7b1 : ((strOfNums y237).toList != (strOfNums (l0.take 4)).toList)=false:=bne_eq_false_iff_eq.mpr c7;clear c7
 have c8b0:=eq_true (od_ (by first|(with_reducible assumption)|assumption) : 4≤(t234.length : Int))
 obtain ⟨y242,hy242⟩ : ∃ y_ : List Int,y_=(t234.drop (4 : Int).toNat):=⟨_,rfl⟩
 replace H : (some (y242,0))=some (r1,r2):=by first|(rw [hy242];with_reducible exact H)|(have H2_:=(Option.bind_some _ _).symm.trans H;rw [hy242];with_reducible exact H2_)|(have H2_:=(Option.bind_some _ _).symm.trans H;with_reducible exact H2_)|with_reducible exact H|(rw [hy242];exact H)|exact H
 have Ny242:=A_ hy242;clear hy242
 simp only [Option.some.injEq,Prod.mk.injEq] at H
 obtain ⟨rfl,rfl⟩:=H;obtain ⟨i09,hi09,_,hsz9,_⟩:=info_parts info5
 obtain ⟨A9,hcut9,hA9,hC9⟩:=print_drop_of (P:=Tryd.prog) (Value.int .u8) 0 22 5 .i64 Tryd.underlying22 hi09 hsz9 A0 c0 l0 4 (by omega) (od_ (by first|(with_reducible assumption)|assumption)) HC0.out
 have HR233:=A_ (Kd.C_of_reads (h1:=fun _=>rfl) (hA9 _ (Kd.reads_of_C HR0.out)))
 have HC233:=A_ hC9;clear hA9 hC9 hi09 hsz9;go_enter Tryd.func21,Tryd.ntmps21
 try go_wp2_with (first|((with_reducible refine gate_callee (f:=28) rfl ?_);refine goesL_ (some 10) rfl rfl Tryd.func28 (by kernel_rfl) rfl #[.slice A9 (l0.drop 4).length (c0 - 4)] rfl (by (try simp only [List.map_toArray,List.map_cons,List.map_nil]);first|done|(rw [show (l0.drop 4).length=(l0.length - 4) from List.length_drop] <;> rfl)|rfl|(simp only [List.length_drop,List.length_take];rfl)) ?_;(with_reducible refine (tally_Seal.calls k _ _ (l0.drop 4) t234 _ ?side1 ?side2 A4.out).mono ?_);(case side1=>repeat (first|exact HR233.out|(with_reducible refine Kd.C_alloc ?_ _)|(with_reducible refine Kd.C_drewN ?_ _)|(with_reducible refine Kd.C_drew ?_)));(case side2=>exact HC233.out);rintro e w10 ⟨v235,rfl,ho0,hb⟩;refine ⟨_,rfl,?_⟩;have n0_:=A_ (Kd.R_lower ho0 (bz_ (hb0_ HB.out)));have n1_:=A_ (bp_ (hb0_ HB.out) hb);clear HB;have HO236:=n0_;have HB:=n1_;clear n0_ n1_;(try clear hb);(try clear hb2);(try clear hk);(try clear hi);(try clear ho0)))
 have n0_:=A_ (re_ HO236.out);have n1_:=A_ (be_ HB.out);clear HO236;clear HB;have HO236:=n0_;have HB:=n1_;clear n0_ n1_;obtain ⟨Ao13,co13,eo13⟩:=Kd.R_slice HO236.out
 (first|subst eo13|(injection eo13 with f1_ f2_ f3_;have f4_:=f1_.symm;have f5_:=f3_.symm;clear f1_ f2_ f3_;subst f4_;subst f5_))
 have q12 : (4 : Int)≤((t234.length : Int) : Int):=od_ (by first|(with_reducible assumption)|assumption)
 obtain ⟨i012,hi012,_,hsz12,_⟩:=info_parts info5;have hroom12 : t234.length≤co13:=(Kd.R_reads' HO236.out).2.1;have hC12 : Kd.C (Kd.int .u8) _ Ao13 t234.length t234:=(Kd.R_reads' HO236.out).2.2
 have hcut12:=cut_to (P:=Tryd.prog) 22 5 .i64 Tryd.underlying22 hi012 Ao13 t234.length co13 4 (by omega) q12 hroom12
 have hr12:=Kd.C_take (m:=4) hC12 (by omega)
 have hy12 : y237.length=(4 : Int).toNat:=(by rw [Ny237.out,List.length_take];omega)
 rw [← Ny237.out] at hr12;rw [← hy12] at hcut12;have HR240:=A_ hr12
 have HC240:=A_ (show y237.length≤co13 from by omega)
 clear hr12 hC12 hroom12 hi012 hsz12;have KY12:=A_ hy12;clear hy12
 have KL12:=A_ (show 4≤t234.length from by omega)
 replace q12:=eq_true q12;obtain ⟨i014,hi014,_,hsz14,_⟩:=info_parts info5
 obtain ⟨hcut14,hA14,hC14⟩:=print_take_of (P:=Tryd.prog) (Value.int .u8) 0 22 5 .i64 Tryd.underlying22 hi014 hsz14 A0 c0 l0 4 (by omega) (od_ (by first|(with_reducible assumption)|assumption)) HC0.out
 have HR241:=A_ (Kd.C_of_reads (h1:=fun _=>rfl) (hA14 _ (Kd.reads_of_C HR0.out)))
 have HC241:=A_ hC14;clear hA14 hC14 hi014 hsz14
 refine start_ (n:=7) (S:=fun w'=>(convert 22 9 (.slice Ao13 y237.length co13)).run Tryd.prog w'=.ok (.string (strOfNums y237)) w'∧(convert 22 9 (.slice A0 (min 4 l0.length) c0)).run Tryd.prog w'=.ok (.string (strOfNums (l0.take 4))) w') (ds:=[]) #[Z,Z,Z,Z,Z,Z,Z] (by kernel_rfl) rfl rfl ⟨Kd.C_string (P:=Tryd.prog) (A:=Ao13) (c:=co13) Tryd.underlying22 Tryd.underlying5 Tryd.underlying9 (by repeat (first|(with_reducible exact HR240.out)|(with_reducible refine Kd.C_alloc ?_ _)|(with_reducible refine Kd.C_drewN ?_ _)|(with_reducible refine Kd.C_drew ?_)|exact HR240.out)),(by first|(have h_:=Kd.C_string (P:=Tryd.prog) (A:=A0) (c:=c0) Tryd.underlying22 Tryd.underlying5 Tryd.underlying9 (Kd.C_below HR241.out HB.out);rw [List.length_take] at h_;exact h_)|(rw [← List.length_take];exact Kd.C_string (P:=Tryd.prog) (A:=A0) (c:=c0) Tryd.underlying22 Tryd.underlying5 Tryd.underlying9 (Kd.C_drewN (Kd.C_below HR241.out HB.out) _)))⟩ (fun hHeld=>?_)
 generalize w10.drew=w11 at HO236 HB HR240 HR241 hHeld ⊢
 refine pure_ (i:=0) (N:=some 11) (v:=?_) (a':=?_) #[Y,Z,Z,Z,Z,Z,Z] rfl rfl (by kernel_rfl) (fun _ _ _ h=>h) (Or.inl ⟨by rfl,?_⟩) ?_ ?_;rotate_left;(intro w';go_simp;with_reducible rfl);rotate_left;(simp only [Act.put,q1_,q2_,q3_,i64_w,i32_w];rfl)
 refine pure_ (i:=1) (N:=some 12) (v:=?_) (a':=?_) #[Y,Y,Z,Z,Z,Z,Z] rfl rfl (by kernel_rfl) (fun _ _ _ h=>h) (Or.inl ⟨by rfl,?_⟩) ?_ ?_;rotate_left;(intro w';go_simp;with_reducible rfl);rotate_left;(simp only [Act.put,q1_,q2_,q3_,i64_w,i32_w];rfl)
 refine pure_ (i:=3) (N:=some 14) (v:=?_) (a':=?_) #[Y,Y,Z,Y,Z,Z,Z] rfl rfl (by kernel_rfl) (fun _ _ _ h=>h) (Or.inl ⟨by rfl,?_⟩) ?_ ?_;rotate_left;(intro w';go_simp;with_reducible rfl);rotate_left;(simp only [Act.put,q1_,q2_,q3_,i64_w,i32_w];rfl)
 refine pure_ (i:=4) (N:=some 15) (v:=?_) (a':=?_) #[Y,Y,Z,Y,Y,Z,Z] rfl rfl (by kernel_rfl) (fun _ _ _ h=>h) (Or.inl ⟨by rfl,?_⟩) ?_ ?_;rotate_left;(intro w';go_simp;with_reducible rfl);rotate_left;(simp only [Act.put,q1_,q2_,q3_,i64_w,i32_w];rfl)
 refine take_ (i:=2) (N:=some 13) (v:=?_) (a':=?_) #[Y,Y,Y,Y,Y,Z,Z] rfl rfl (by kernel_rfl) (fun _ _ _ h=>h) (Or.inl ⟨by rfl,?_⟩) hHeld ?_ ?_;rotate_left;(rintro w' ⟨s0,s1⟩;go_simp;with_reducible rfl);rotate_left;(simp only [Act.put,q1_,q2_,q3_,i64_w,i32_w];rfl)
 refine take_ (i:=5) (N:=some 16) (v:=?_) (a':=?_) #[Y,Y,Y,Y,Y,Y,Z] rfl rfl (by kernel_rfl) (fun _ _ _ h=>h) (Or.inl ⟨by rfl,?_⟩) hHeld ?_ ?_;rotate_left;(rintro w' ⟨s0,s1⟩;go_simp;with_reducible rfl);rotate_left;(simp only [Act.put,q1_,q2_,q3_,i64_w,i32_w];rfl)
 refine pure_ (i:=6) (N:=some 17) (v:=?_) (a':=?_) #[Y,Y,Y,Y,Y,Y,Y] rfl rfl (by kernel_rfl) (fun _ _ _ h=>h) (Or.inl ⟨by rfl,?_⟩) ?_ ?_;rotate_left;(intro w';go_simp;with_reducible rfl);rotate_left;(simp only [Act.put,q1_,q2_,q3_,i64_w,i32_w];rfl)
 refine done_ (by kernel_rfl) ?_
 have q15 : (4 : Int)≤((t234.length : Int) : Int):=od_ (by first|(with_reducible assumption)|assumption)
 obtain ⟨i015,hi015,_,hsz15,_⟩:=info_parts info5
 have hcut15:=cut_from (P:=Tryd.prog) 22 5 .i64 Tryd.underlying22 hi015 1 hsz15 Ao13 t234.length co13 4 (by omega) q15
 have hr15:=Kd.Q_drop (k:=(4 : Int).toNat) (Kd.Q_of_R HO236.out) (by omega)
 obtain ⟨A15,hA15⟩ : ∃ A1,A1=(if co13=(4 : Int).toNat then Ao13 else (Ao13 : Option Addr).map (·.add ((4 : Int).toNat * 1))):=⟨_,rfl⟩
 obtain ⟨c15,hc15⟩ : ∃ c1,c1=co13 - (4 : Int).toNat:=⟨_,rfl⟩
 have hy15 : y242.length=t234.length - (4 : Int).toNat:=(by rw [Ny242.out,List.length_drop])
 rw [← Ny242.out] at hr15;rw [← hy15,← hA15,← hc15] at hcut15
 replace hr15 : Kd.Q (Kd.int .u8) 5 w11 w.heap.size (fun _=>True) (.slice A15 y242.length c15) y242:=(by rw [hA15,hc15,hy15];exact hr15)
 have HE15 : Aside0 ((Value.slice A15 y242.length c15).ownBlock=(.slice Ao13 t234.length co13 : Value).ownBlock):=⟨by rw [hA15];split <;> (cases (Ao13 : Option Addr) <;> rfl)⟩
 clear hy15 hi015 hsz15 HO236 hA15 hc15;have HO244:=A_ hr15;clear hr15;replace q15:=eq_true q15
 try go_wp2
 go_ret2
 exact ⟨_,by first|rfl|(simp [errW_none,errW_some] <;> rfl)|(simp [*,errW_none,errW_some] <;> rfl),by (with_reducible repeat (first|apply Kd.Q_alloc|apply Kd.Q_drewN|apply Kd.Q_drew));exact HO244.out,hb0_ HB.out⟩
end Go.Proofs.YtbmcbhpkefjhbaaDoor.P
