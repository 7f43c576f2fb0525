/- by wip/prune.py -/
import Derived.Test.YtjigckhopkclgaaMLeafDecodes3
import Derived.Test.YtjigckhopkclgaaMLeafDecodes4
import Derived.Test.YtjigckhopkclgaaMLeafDecodes8
import Derived.Test.YtjigckhopkclgaaMLeafDecodes13
import Derived.Test.YtjigckhopkclgaaMLeafDecodes16
set_option linter.unusedSimpArgs false
set_option linter.unusedVariables false
namespace Go.Proofs.Ytjigckhopkclgaa.P
open Go.RowKit YtjigckhopkclgaaW.PrintWords YtjigckhopkclgaaW.PrintLast YtjigckhopkclgaaW.PrintMore
attribute [local go_sem] max2_int min2_int max_two min_two max_three min_three max_four min_four   -- for this text's walks alone
attribute [local go_sem] run_store_float
def humusref02_Four.f (a0 : Int) : Option (List Int):=some (([((Int.tdiv a0 16777216) % 4294967296) % 256,((Int.tdiv a0 65536) % 4294967296) % 256,((Int.tdiv a0 256) % 4294967296) % 256,(a0) % 256] : List Int))
set_option maxHeartbeats 8000000 in
set_option maxRecDepth 100000 in
theorem humusref02_Four.calls (a0 : Int) (r : List Int) (w : World) (h : humusref02_Four.f a0=some r) :
  Calls Try.prog 29 #[.int .u32 a0] w fun e w'=>∃ v0_ : Value,e=.returned (v0_)∧Kd.R (Kd.int .u8) 5 w' w.heap.size (fun _=>True) v0_ r∧Below w.heap.size w w':=by
 have HB:=A_ (Below.refl w.heap.size w);have H : (some (([((Int.tdiv a0 16777216) % 4294967296) % 256,((Int.tdiv a0 65536) % 4294967296) % 256,((Int.tdiv a0 256) % 4294967296) % 256,(a0) % 256] : List Int)))=some r:=h;clear h
 obtain ⟨y372,hy372⟩ : ∃ y_ : List Int,y_=(([((Int.tdiv a0 16777216) % 4294967296) % 256,((Int.tdiv a0 65536) % 4294967296) % 256,((Int.tdiv a0 256) % 4294967296) % 256,(a0) % 256] : List Int)):=⟨_,rfl⟩
 replace H : (some y372)=some r:=by first|(rw [hy372];with_reducible exact H)|(have H2_:=(Option.bind_some _ _).symm.trans H;rw [hy372];with_reducible exact H2_)|(have H2_:=(Option.bind_some _ _).symm.trans H;with_reducible exact H2_)|with_reducible exact H|(rw [hy372];exact H)|exact H
 have Ny372:=A_ hy372;clear hy372;obtain rfl:=Option.some.inj H;go_enter Try.func29,Try.ntmps29
 go_wp2_with (first|((with_reducible refine gate_dst (N:=14) rfl ?_);refine Kd.R_lit (Kd.int .u8) _ 5 ?hg (N:=14) ?hd (xs:=([((Int.tdiv a0 16777216) % 4294967296) % 256,((Int.tdiv a0 65536) % 4294967296) % 256,((Int.tdiv a0 256) % 4294967296) % 256,(a0) % 256] : List Int)) (inner:=[.int .u8 (((Int.tdiv a0 16777216) % 4294967296) % 256),.int .u8 (((Int.tdiv a0 65536) % 4294967296) % 256),.int .u8 (((Int.tdiv a0 256) % 4294967296) % 256),.int .u8 ((a0) % 256)]) (ok:=fun _=>True) (okp:=fun _=>True) ?hr ?hp (fun _ hk=>hk) trivial (Below.refl _ _) (Nat.le_refl _) (by simp) ?_;(case hd=>rfl);(case hg=>rfl);(case hr=>first|(go_simp;done)|(go_simp;rfl));(case hp=>exact (Reps.one (show Kd.M (Kd.int .u8) _ _ _ (((Int.tdiv a0 16777216) % 4294967296) % 256) [.int .u8 (((Int.tdiv a0 16777216) % 4294967296) % 256)] from rfl) (Reps.one (show Kd.M (Kd.int .u8) _ _ _ (((Int.tdiv a0 65536) % 4294967296) % 256) [.int .u8 (((Int.tdiv a0 65536) % 4294967296) % 256)] from rfl) (Reps.one (show Kd.M (Kd.int .u8) _ _ _ (((Int.tdiv a0 256) % 4294967296) % 256) [.int .u8 (((Int.tdiv a0 256) % 4294967296) % 256)] from rfl) (Reps.one (show Kd.M (Kd.int .u8) _ _ _ ((a0) % 256) [.int .u8 ((a0) % 256)] from rfl) (Reps.none _ _))))));intro v373 w2 ho3 hb hg_ hnew_;clear hg_ hnew_;(first|rw [← Ny372.out] at ho3|(simp only [Int.reduceToNat] at ho3;rw [← Ny372.out] at ho3));have n0_:=A_ (Kd.R_lower ho3 (bz_ (hb0_ HB.out)));have n1_:=A_ (bp_ (hb0_ HB.out) hb);clear HB;have HO374:=n0_;have HB:=n1_;clear n0_ n1_;clear hb ho3))
 go_ret
 exact ⟨_,by first|rfl|(simp [errW_none,errW_some] <;> rfl)|(simp [*,errW_none,errW_some] <;> rfl),by (with_reducible repeat (first|apply ra_|apply rn_|apply re_));exact HO374.out,hb0_ HB.out⟩
def humusref02_Sum.l0 : Nat→List Int→Int→Int→Option (Int)
 | 0,_,_,_=>none
 | k + 1,x0,x3,x4=>if x4<(wrap64 (8 * (x0.length : Int))) then (if 0≤(wrap64 (Int.tdiv x4 8)) then (if (wrap64 (Int.tdiv x4 8))<(x0.length : Int) then (if 0≤(IntKind.u64.wrap (wrap64 (7 - (Int.tmod x4 8)))) then (if (IntKind.u64.wrap (Int.tdiv x3 2147483648))=(Int.tmod (shr .u64 (IntKind.u64.wrap (rd x0 (wrap64 (Int.tdiv x4 8)))) (IntKind.u64.wrap (wrap64 (7 - (Int.tmod x4 8))))) 2) then (humusref02_Sum.l0 k x0 (Int.tmod (IntKind.u64.wrap (x3 * 2)) 4294967296) (wrap64 (x4 + 1))) else (humusref02_Sum.l0 k x0 (Go.bits .xor .u64 (Int.tmod (IntKind.u64.wrap (x3 * 2)) 4294967296) 2168537515) (wrap64 (x4 + 1)))) else (none)) else (none)) else (none)) else (some ((x3) % 4294967296))
def humusref02_Sum.f (k : Nat) (l0 : List Int) : Option (Int):=humusref02_Sum.l0 k l0 4294967295 0
set_option maxHeartbeats 8000000 in
set_option maxRecDepth 100000 in
theorem humusref02_Sum.calls (k : Nat) (A0 : Option Addr) (c0 : Nat) (l0 : List Int) (r : Int) (w : World) (hr0 : Kd.C (Kd.int .u8) w A0 l0.length l0) (hc0 : l0.length≤c0) (h : humusref02_Sum.f k l0=some r) :
  Calls Try.prog 30 #[.slice A0 l0.length c0] w fun e w'=>e=.returned (.int .u32 r)∧Drawn0 w w':=by
 have HR0:=A_ hr0;have HC0:=A_ hc0;clear hr0 hc0;have H : (humusref02_Sum.l0 k l0 4294967295 0)=some r:=h;clear h;have H':=A_ H;clear H;go_enter Try.func30,Try.ntmps30;go_wp2
 go_loopg [3,4] k (fun kq v3 v4 w'=>∃ (x3_1 : Int) (x4_1 : Int),v3=.int .u64 x3_1∧v4=.int .i64 x4_1∧Aside0 (humusref02_Sum.l0 kq l0 x3_1 x4_1=some r)∧Aside0 (kq≤k)∧Drawn0 w w')
 case atStart=>exact ⟨(4294967295),(0),(by first|rfl|(simp;done)|(simp [*];done)),(by first|rfl|(simp;done)|(simp [*];done)),H',⟨Nat.le_refl _⟩,by repeat (first|exact Drawn0.refl _|apply Drawn0.step)⟩
 case round =>
  clear H';obtain ⟨x3_1,x4_1,rfl,rfl,HA,HK1,⟨m1,rfl⟩⟩:=hrel
  cases gk with
  | zero=>exact absurd HA.out (by simp [humusref02_Sum.l0])
  | succ k1 =>
   have H:=HA.out;clear HA
   simp only [humusref02_Sum.l0] at H
   by_cases c2 : x4_1<(wrap64 (8 * (l0.length : Int)))
   rotate_left
   ·rw [if_neg c2] at H
    have c2b0 : decide (x4_1<(wrap64 (8 * (l0.length : Int))))=false:=df_ c2;clear c2;obtain rfl:=Option.some.inj H;go_wp2;go_ret
    exact ⟨by first|rfl|(simp;done)|(simp [*];done),by repeat (first|exact Drawn0.refl _|apply Drawn0.step)⟩
   rw [if_pos c2] at H
   have c2b0 : decide (x4_1<(wrap64 (8 * (l0.length : Int))))=true:=dt_ c2;clear c2
   obtain ⟨ji3,hji3⟩ : ∃ j_ : Int,(wrap64 (Int.tdiv x4_1 8))=j_:=⟨_,rfl⟩
   replace H : (if 0≤(ji3) then (if (ji3)<(l0.length : Int) then (if 0≤(IntKind.u64.wrap (wrap64 (7 - (Int.tmod x4_1 8)))) then (if (IntKind.u64.wrap (Int.tdiv x3_1 2147483648))=(Int.tmod (shr .u64 (IntKind.u64.wrap (rd l0 (ji3))) (IntKind.u64.wrap (wrap64 (7 - (Int.tmod x4_1 8))))) 2) then (humusref02_Sum.l0 k1 l0 (Int.tmod (IntKind.u64.wrap (x3_1 * 2)) 4294967296) (wrap64 (x4_1 + 1))) else (humusref02_Sum.l0 k1 l0 (Go.bits .xor .u64 (Int.tmod (IntKind.u64.wrap (x3_1 * 2)) 4294967296) 2168537515) (wrap64 (x4_1 + 1)))) else (none)) else (none)) else (none))=some r:=by first|(rw [hji3] at H;exact H)|(simp only [hji3] at H ⊢;exact H)
   have hji3w : (IntKind.i64.wrap (Int.tdiv x4_1 8))=ji3:=(i64_w _).trans hji3
   by_cases c4 : 0≤(ji3)
   rotate_left
   ·rw [if_neg c4] at H
    exact absurd H (by simp)
   rw [if_pos c4] at H
   have c4b0 : decide (0≤(ji3))=true:=dt_ c4;clear c4
   by_cases c5 : (ji3)<(l0.length : Int)
   rotate_left
   ·rw [if_neg c5] at H
    exact absurd H (by simp)
   rw [if_pos c5] at H
   have c5b0 : decide ((ji3)<(l0.length : Int))=true:=dt_ c5;clear c5
   obtain ⟨ji6,hji6⟩ : ∃ j_ : Int,(IntKind.u64.wrap (wrap64 (7 - (Int.tmod x4_1 8))))=j_:=⟨_,rfl⟩
   replace H : (if 0≤(ji6) then (if (IntKind.u64.wrap (Int.tdiv x3_1 2147483648))=(Int.tmod (shr .u64 (IntKind.u64.wrap (rd l0 (ji3))) (ji6)) 2) then (humusref02_Sum.l0 k1 l0 (Int.tmod (IntKind.u64.wrap (x3_1 * 2)) 4294967296) (wrap64 (x4_1 + 1))) else (humusref02_Sum.l0 k1 l0 (Go.bits .xor .u64 (Int.tmod (IntKind.u64.wrap (x3_1 * 2)) 4294967296) 2168537515) (wrap64 (x4_1 + 1)))) else (none))=some r:=by first|(rw [hji6] at H;exact H)|(simp only [hji6] at H ⊢;exact H)
   by_cases c7 : 0≤(ji6)
   rotate_left
   ·rw [if_neg c7] at H
    exact absurd H (by simp)
   rw [if_pos c7] at H
   have c7b0:=eq_true c7;have c7b1 : decide (0≤(ji6))=true:=dt_ c7;clear c7
   obtain ⟨ji8,hji8⟩ : ∃ j_ : Int,(shr .u64 (IntKind.u64.wrap (rd l0 (ji3))) (ji6))=j_:=⟨_,rfl⟩
   replace H : (if (IntKind.u64.wrap (Int.tdiv x3_1 2147483648))=(Int.tmod (ji8) 2) then (humusref02_Sum.l0 k1 l0 (Int.tmod (IntKind.u64.wrap (x3_1 * 2)) 4294967296) (wrap64 (x4_1 + 1))) else (humusref02_Sum.l0 k1 l0 (Go.bits .xor .u64 (Int.tmod (IntKind.u64.wrap (x3_1 * 2)) 4294967296) 2168537515) (wrap64 (x4_1 + 1))))=some r:=by first|(rw [hji8] at H;exact H)|(simp only [hji8] at H ⊢;exact H)
   have hji8_ : ((IntKind.u64.wrap (rd l0 (ji3))) / 2 ^ min (ji6).toNat 64)=ji8:=hji8;have hji8z : (ji6)≤64→((IntKind.u64.wrap (rd l0 (ji3))) / 2 ^ (ji6).toNat)=ji8:=shr_small hji8
   by_cases c9 : (IntKind.u64.wrap (Int.tdiv x3_1 2147483648))=(Int.tmod (ji8) 2)
   rotate_left
   ·rw [if_neg c9] at H
    have c9b0 : ((IntKind.u64.wrap (Int.tdiv x3_1 2147483648)) == (Int.tmod (ji8) 2))=false:=beq_eq_false_iff_ne.mpr c9;have c9b1 : ((IntKind.u64.wrap (Int.tdiv x3_1 2147483648)) != (Int.tmod (ji8) 2))=true:=bne_iff_ne.mpr c9;have H':=A_ H;clear H
    have p375 : 0≤((ji3) : Int):=od_ (by first|(with_reducible assumption)|assumption)
    have q375 : (ji3)<(l0.length : Int):=od_ (by first|(with_reducible assumption)|assumption)
    obtain ⟨ad375,e375,hx375_0⟩:=Kd.at_int HR0.out (ji3) p375 q375
    cases e375
    replace p375:=eq_true p375;replace q375:=eq_true q375;go_wp2;go_roundg k1
    case measure=>have:=HK1.out;omega
    case rel=>exact ⟨(Go.bits .xor .u64 (Int.tmod (IntKind.u64.wrap (x3_1 * 2)) 4294967296) 2168537515),(wrap64 (x4_1 + 1)),(by first|rfl|(simp;done)|(simp [*];done)),(by first|rfl|(simp;done)|(simp [*];done)),H',⟨by have:=HK1.out;omega⟩,by repeat (first|exact Drawn0.refl _|apply Drawn0.step)⟩
   rw [if_pos c9] at H
   have c9b0 : ((IntKind.u64.wrap (Int.tdiv x3_1 2147483648)) == (Int.tmod (ji8) 2))=true:=beq_iff_eq.mpr c9;have c9b1 : ((IntKind.u64.wrap (Int.tdiv x3_1 2147483648)) != (Int.tmod (ji8) 2))=false:=bne_eq_false_iff_eq.mpr c9;clear c9;have H':=A_ H;clear H
   have p375 : 0≤((ji3) : Int):=od_ (by first|(with_reducible assumption)|assumption)
   have q375 : (ji3)<(l0.length : Int):=od_ (by first|(with_reducible assumption)|assumption)
   obtain ⟨ad375,e375,hx375_0⟩:=Kd.at_int HR0.out (ji3) p375 q375
   cases e375
   replace p375:=eq_true p375;replace q375:=eq_true q375;go_wp2;go_roundg k1
   case measure=>have:=HK1.out;omega
   case rel=>exact ⟨(Int.tmod (IntKind.u64.wrap (x3_1 * 2)) 4294967296),(wrap64 (x4_1 + 1)),(by first|rfl|(simp;done)|(simp [*];done)),(by first|rfl|(simp;done)|(simp [*];done)),H',⟨by have:=HK1.out;omega⟩,by repeat (first|exact Drawn0.refl _|apply Drawn0.step)⟩
def humusref02_Seal.f (k : Nat) (l0 : List Int) : Option (List Int):=(humusref02_Sum.f k l0).bind fun t376=>((humusref02_Four.f t376).bind fun t377=>(if t377.length + l0.length<140737488355328 then (some (t377++l0)) else (none)))
set_option maxHeartbeats 8000000 in
set_option maxRecDepth 100000 in
theorem humusref02_Seal.calls (k : Nat) (A0 : Option Addr) (c0 : Nat) (l0 : List Int) (r : List Int) (w : World) (hr0 : Kd.C (Kd.int .u8) w A0 l0.length l0) (hc0 : l0.length≤c0) (h : humusref02_Seal.f k l0=some r) :
  Calls Try.prog 48 #[.slice A0 l0.length c0] w fun e w'=>∃ v0_ : Value,e=.returned (v0_)∧Kd.R (Kd.int .u8) 5 w' w.heap.size (fun _=>True) v0_ r∧Below w.heap.size w w':=by
 have HR0:=A_ hr0;have HC0:=A_ hc0;clear hr0 hc0;have HB:=A_ (Below.refl w.heap.size w)
 have H : ((humusref02_Sum.f k l0).bind fun t376=>((humusref02_Four.f t376).bind fun t377=>(if t377.length + l0.length<140737488355328 then (some (t377++l0)) else (none))))=some r:=h
 clear h;replace H:=Option.bind_eq_some_iff.mp H;obtain ⟨t376,A20,H⟩:=H
 replace H : ((humusref02_Four.f t376).bind fun t377=>(if t377.length + l0.length<140737488355328 then (some (t377++l0)) else (none)))=some r:=H
 have A2:=A_ A20;clear A20;replace H:=Option.bind_eq_some_iff.mp H;obtain ⟨t377,A30,H⟩:=H
 replace H : (if t377.length + l0.length<140737488355328 then (some (t377++l0)) else (none))=some r:=H
 have A3:=A_ A30;clear A30
 by_cases c4 : t377.length + l0.length<140737488355328
 rotate_left
 ·rw [if_neg c4] at H
  exact absurd H (by simp)
 rw [if_pos c4] at H
 have LMc4:=A_ c4;clear c4
 obtain ⟨y380,hy380⟩ : ∃ y_ : List Int,y_=(t377++l0):=⟨_,rfl⟩
 replace H : (some y380)=some r:=by first|(rw [hy380];with_reducible exact H)|(have H2_:=(Option.bind_some _ _).symm.trans H;rw [hy380];with_reducible exact H2_)|(have H2_:=(Option.bind_some _ _).symm.trans H;with_reducible exact H2_)|with_reducible exact H|(rw [hy380];exact H)|exact H
 have Ny380:=A_ hy380;clear hy380;obtain rfl:=Option.some.inj H;go_enter Try.func48,Try.ntmps48
 go_wp2_with (first|((with_reducible refine gate_callee (f:=30) rfl ?_);refine goesL_ (some 4) rfl rfl Try.func30 (by kernel_rfl) rfl #[.slice A0 l0.length c0] rfl (by (try simp only [List.map_toArray,List.map_cons,List.map_nil]);first|done|rfl|(simp only [List.length_drop,List.length_take];rfl)) ?_;(with_reducible refine (humusref02_Sum.calls k _ _ l0 t376 _ ?side1 ?side2 A2.out).mono ?_);(case side1=>repeat (first|exact HR0.out|(with_reducible refine Kd.C_alloc ?_ _)|(with_reducible refine Kd.C_drewN ?_ _)|(with_reducible refine Kd.C_drew ?_)));(case side2=>exact HC0.out);rintro e w' ⟨rfl,⟨nd,rfl⟩⟩;refine ⟨_,rfl,?_⟩)|((with_reducible refine gate_callee (f:=29) rfl ?_);refine goesL_ (some 5) rfl rfl Try.func29 (by kernel_rfl) rfl #[.int .u32 t376] rfl (by (try simp only [List.map_toArray,List.map_cons,List.map_nil]);first|done|rfl|(simp only [List.length_drop,List.length_take];rfl)) ?_;(with_reducible refine (humusref02_Four.calls t376 t377 _ A3.out).mono ?_);rintro e w5 ⟨v378,rfl,ho0,hb⟩;refine ⟨_,rfl,?_⟩;have n0_:=A_ (Kd.R_lower ho0 (bz_ (hb0_ HB.out)));have n1_:=A_ (bp_ (hb0_ HB.out) hb);clear HB;have HO379:=n0_;have HB:=n1_;clear n0_ n1_;(try clear hb);(try clear hb2);(try clear hk);(try clear hi);(try clear ho0))|((with_reducible refine gate_builtin (b:=.append) (xs:=#[.tmp 5,.tmp 6]) rfl ?_);at_builtin;refine Kd.R_append_rows (Kd.int .u8) (w0:=w) w.heap.size rfl (.tmp 5) (.tmp 6) 22 5 (.int .u8 0) 1 rfl Try.underlying22 info5 rfl (by decide) (by omega) v378 t377 l0 _ _ _ (fun _=>True) (fun _=>False) rfl rfl ?aO ?aR (fun _ _ h=>h) (fun _ h=>h.elim) ?aF ?aB ?aS ?aL ?_;(case aR=>repeat (first|exact (Kd.C_below HR0.out HB.out)|(with_reducible refine Kd.C_alloc ?_ _)|(with_reducible refine Kd.C_drewN ?_ _)|(with_reducible refine Kd.C_drew ?_)));(case aB=>exact (hb0_ HB.out));(case aF=>exact (fun _ _=>trivial));(case aO=>exact (by (with_reducible repeat (first|apply ra_|apply rn_|apply re_));exact HO379.out));(case aS=>exact (bz_ (hb0_ HB.out)));(case aL=>have:=LMc4.out;omega);intro v381 w6 ho hb hg hat;rw [← Ny380.out] at ho;have n0_:=A_ (hb);have n1_:=A_ (ho);clear HB;clear HO379;have HB:=n0_;have HO382:=n1_;clear n0_ n1_;clear ho hb hg hat))
 go_ret
 exact ⟨_,by first|rfl|(simp [errW_none,errW_some] <;> rfl)|(simp [*,errW_none,errW_some] <;> rfl),by (with_reducible repeat (first|apply ra_|apply rn_|apply re_));exact HO382.out,hb0_ HB.out⟩
mutual
def humusref08_Page.l0 : Nat→List (S56)→Int→List Int→List (List Int)→Option (List Int)
 | 0,_,_,_,_=>none
 | k + 1,x3,x4,x384000,x384001=>if x4<4 then (if 0≤x4 then (if x4<(x384000.length : Int) then (if x3.length<3518437208883 then (humusref08_Page.l0 k (x3++[(⟨3,rd x384000 x4,0,(⟨#[]⟩ : ByteArray)⟩ : S56)]) (wrap64 (x4 + 1)) x384000 x384001) else (none)) else (none)) else (none)) else (if x3.length<3518437208883 then (humusref08_Page.l1 k (x3++[(⟨1,(x384001.length : Int),0,(⟨#[]⟩ : ByteArray)⟩ : S56)]) 0 x384000 x384001) else (none))
def humusref08_Page.l1 : Nat→List (S56)→Int→List Int→List (List Int)→Option (List Int)
 | 0,_,_,_,_=>none
 | k + 1,x3,x5,x384000,x384001=>if x5<(x384001.length : Int) then (if 0≤x5 then (if x3.length<3518437208883 then (humusref08_Page.l1 k (x3++[(⟨5,0,0,strOfNums (rd_L2 x384001 x5)⟩ : S56)]) (wrap64 (x5 + 1)) x384000 x384001) else (none)) else (none)) else ((humusref03_Put.f x3).bind fun bt398=>(humusref08_Page.l2 k bt398.1))
def humusref08_Page.l2 : Nat→List Int→Option (List Int)
 | 0,_=>none
 | k + 1,x6=>if (x6.length : Int)<508 then (if x6.length<140737488355328 then (humusref08_Page.l2 k (x6++[0])) else (none)) else ((humusref02_Seal.f k x6).bind fun t405=>(some t405))
end
theorem humusref08_Page.l2_s (k : Nat) (x6 : List Int) : humusref08_Page.l2 (k + 1) x6=(if (x6.length : Int)<508 then (if x6.length<140737488355328 then (humusref08_Page.l2 k (x6++[0])) else (none)) else ((humusref02_Seal.f k x6).bind fun t405=>(some t405))):=rfl
def humusref08_Page.f (k : Nat) (l0_0 : List Int) (l0_1 : List (List Int)) : Option (List Int):=humusref08_Page.l0 k (([(⟨1,76,0,(⟨#[]⟩ : ByteArray)⟩ : S56)] : List (S56))) 0 l0_0 l0_1
set_option maxHeartbeats 8000000 in
set_option maxRecDepth 100000 in
theorem humusref08_Page.calls (k : Nat) (A0_0 : Option Addr) (c0_0 : Nat) (l0_0 : List Int) (A0_1 : Option Addr) (c0_1 : Nat) (l0_1 : List (List Int)) (r : List Int) (w : World) (hr0_0 : Kd.C (Kd.int .i64) w A0_0 l0_0.length l0_0) (hc0_0 : l0_0.length≤c0_0) (hr0_1 : Kd.C (Kd.slice 5 (Kd.int .u8)) w A0_1 l0_1.length l0_1) (hc0_1 : l0_1.length≤c0_1) (h : humusref08_Page.f k l0_0 l0_1=some r) :
  Calls Try.prog 24 #[.agg #[.slice A0_0 l0_0.length c0_0,.slice A0_1 l0_1.length c0_1]] w fun e w'=>∃ v0_ : Value,e=.returned (v0_)∧Kd.R (Kd.int .u8) 5 w' w.heap.size (fun _=>True) v0_ r∧Below w.heap.size w w':=by
 have hu27:=Try.underlying27;have hu56:=Try.underlying56;have HR0_0:=A_ hr0_0;have HC0_0:=A_ hc0_0;clear hr0_0 hc0_0;have HR0_1:=A_ hr0_1;have HC0_1:=A_ hc0_1;clear hr0_1 hc0_1;have HB:=A_ (Below.refl w.heap.size w);have H : (humusref08_Page.l0 k (([(⟨1,76,0,(⟨#[]⟩ : ByteArray)⟩ : S56)] : List (S56))) 0 l0_0 l0_1)=some r:=h;clear h
 obtain ⟨y384,hy384⟩ : ∃ y_ : List (S56),y_=(([(⟨1,76,0,(⟨#[]⟩ : ByteArray)⟩ : S56)] : List (S56))):=⟨_,rfl⟩
 replace H : (humusref08_Page.l0 k y384 0 l0_0 l0_1)=some r:=by first|(rw [hy384];with_reducible exact H)|(have H2_:=(Option.bind_some _ _).symm.trans H;rw [hy384];with_reducible exact H2_)|(have H2_:=(Option.bind_some _ _).symm.trans H;with_reducible exact H2_)|with_reducible exact H|(rw [hy384];exact H)|exact H
 have Ny384:=A_ hy384;clear hy384;have H':=A_ H;clear H;go_enter Try.func24,Try.ntmps24
 go_wp2_with (first|((with_reducible refine gate_dst (N:=1) rfl ?_);refine box_event ?hg (N:=1) ?hd (cs:=#[.slice A0_0 l0_0.length c0_0,.slice A0_1 l0_1.length c0_1]) (t:=27) ?hr ?_;(case hd=>rfl);(case hg=>rfl);(case hr=>first|(go_simp;done)|(go_simp;rfl));intro gb383 hg w2 hbox hb;have n0_:=A_ (bp_ (hb0_ HB.out) hb);have n1_:=A_ (hbox);have n2_:=A_ ((by rw [hg];exact (bz_ (hb0_ HB.out)) : w.heap.size≤gb383));have n3_:=n2_;clear HB;have HB:=n0_;have BK383:=n1_;have GW383:=n2_;have GE383:=n3_;clear n0_ n1_ n2_ n3_;clear hb hbox hg)|((with_reducible refine gate_dst (N:=9) rfl ?_);refine Kd.R_lit k56 _ 56 ?hg (N:=9) ?hd (xs:=([(⟨1,76,0,(⟨#[]⟩ : ByteArray)⟩ : S56)] : List (S56))) (inner:=[.int .i64 1,.int .i64 76,.float .f64 0,.string (⟨#[]⟩ : ByteArray)]) (ok:=fun _=>True) (okp:=fun _=>True) ?hr ?hp (fun _ hk=>hk) trivial (Below.refl _ _) (Nat.le_refl _) (by simp) ?_;(case hd=>rfl);(case hg=>rfl);(case hr=>first|(go_simp;done)|(go_simp;rfl));(case hp=>exact (Reps.c4 (show Kd.M k56 _ _ _ (⟨1,76,0,(⟨#[]⟩ : ByteArray)⟩ : S56) [.int .i64 1,.int .i64 76,.float .f64 0,.string (⟨#[]⟩ : ByteArray)] from (k56_mkM _ _ _ (⟨1,76,0,(⟨#[]⟩ : ByteArray)⟩ : S56) )) (Reps.none _ _)));intro v385 w3 ho4 hb hg_ hnew_;clear hg_ hnew_;(first|rw [← Ny384.out] at ho4|(simp only [Int.reduceToNat] at ho4;rw [← Ny384.out] at ho4));have n0_:=A_ (Kd.R_lower ho4 (bz_ (hb1_ HB.out GE383.out)));have n1_:=A_ (bx_ BK383.out kf_ hb);have n2_:=A_ (bp_ (hb1_ HB.out GE383.out) hb);clear BK383;clear HB;have HO386:=n0_;have BK383:=n1_;have HB:=n2_;clear n0_ n1_ n2_;clear hb ho4))
 go_loopg [3,4] k (fun kq v3 v4 w'=>∃ (x3_1 : List (S56)) (x4_1 : Int),v4=.int .i64 x4_1∧Aside0 (humusref08_Page.l0 kq x3_1 x4_1 l0_0 l0_1=some r)∧Aside0 (kq≤k)∧Aside0 (Kd.R k56 56 w' w.heap.size (fun _=>True) v3 x3_1)∧Aside0 (w'.heap[gb383]?=some (.cells #[(.slice A0_0 l0_0.length c0_0),(.slice A0_1 l0_1.length c0_1)] 27 (0,0)))∧Aside0 (Below w.heap.size w w'))
 case atStart=>exact ⟨(y384),(0),(by first|rfl|(simp;done)|(simp [*];done)),H',⟨Nat.le_refl _⟩,⟨by (with_reducible repeat (first|apply ra_|apply rn_|apply re_));exact HO386.out⟩,⟨by exact kk_ BK383.out⟩,⟨hb1_ HB.out GE383.out⟩⟩
 case round =>
  clear H';(try clear c2);(try clear p2);(try clear c4);obtain ⟨x3_1,x4_1,rfl,HA,HK1,HO_3,BK383,HB⟩:=hrel
  cases gk with
  | zero=>exact absurd HA.out (by simp [humusref08_Page.l0])
  | succ k1 =>
   have H:=HA.out;clear HA
   simp only [humusref08_Page.l0] at H
   by_cases c5 : x4_1<4
   ·rw [if_pos c5] at H
    have c5b0 : decide (x4_1<4)=true:=dt_ c5;clear c5
    by_cases c6 : 0≤x4_1
    rotate_left
    ·rw [if_neg c6] at H
     exact absurd H (by simp)
    rw [if_pos c6] at H
    have c6b0 : decide (0≤x4_1)=true:=dt_ c6;clear c6
    by_cases c7 : x4_1<(l0_0.length : Int)
    rotate_left
    ·rw [if_neg c7] at H
     exact absurd H (by simp)
    rw [if_pos c7] at H
    have c7b0 : decide (x4_1<(l0_0.length : Int))=true:=dt_ c7;clear c7
    by_cases c8 : x3_1.length<3518437208883
    rotate_left
    ·rw [if_neg c8] at H
     exact absurd H (by simp)
    rw [if_pos c8] at H
    have LMc8:=A_ c8;clear c8
    obtain ⟨y388,hy388⟩ : ∃ y_ : List (S56),y_=(x3_1++[(⟨3,rd l0_0 x4_1,0,(⟨#[]⟩ : ByteArray)⟩ : S56)]):=⟨_,rfl⟩
    replace H : (humusref08_Page.l0 k1 y388 (wrap64 (x4_1 + 1)) l0_0 l0_1)=some r:=by first|(rw [hy388];with_reducible exact H)|(have H2_:=(Option.bind_some _ _).symm.trans H;rw [hy388];with_reducible exact H2_)|(have H2_:=(Option.bind_some _ _).symm.trans H;with_reducible exact H2_)|with_reducible exact H|(rw [hy388];exact H)|exact H
    have Ny388:=A_ hy388;clear hy388;have H':=A_ H;clear H;have z9_0 : wr.cell? ⟨gb383,0,none⟩=some (.slice A0_0 l0_0.length c0_0):=(bc_ BK383.out 0).trans rfl;have z9_1 : wr.cell? ⟨gb383,1,none⟩=some (.slice A0_1 l0_1.length c0_1):=(bc_ BK383.out 1).trans rfl;have y9_0:=bf_ BK383.out 0;have y9_1:=bf_ BK383.out 1
    have p387 : 0≤(x4_1 : Int):=od_ (by first|(with_reducible assumption)|assumption)
    have q387 : x4_1<(l0_0.length : Int):=od_ (by first|(with_reducible assumption)|assumption)
    obtain ⟨ad387,e387,hx387_0⟩:=Kd.at_int HR0_0.out x4_1 p387 q387
    cases e387
    replace hx387_0:=(HB.out.cell (wb_ w _ hx387_0)).trans hx387_0;replace p387:=eq_true p387;replace q387:=eq_true q387
    go_wp2_with (first|((with_reducible refine gate_builtin (b:=.append) (xs:=#[.tmp 14,.tmp 21]) rfl ?_);at_builtin;refine Kd.R_append k56 (w0:=w) w.heap.size rfl (.tmp 14) (.tmp 21) 51 56 (.agg #[(.int .i64 0),(.int .i64 0),(.float .f64 0),(.string ⟨#[]⟩)]) 40 rfl Try.underlying51 info56 rfl (by decide) (by omega) u3 x3_1 (⟨3,rd l0_0 x4_1,0,(⟨#[]⟩ : ByteArray)⟩ : S56) [.int .i64 3,.int .i64 (rd l0_0 x4_1),.float .f64 0,.string (⟨#[]⟩ : ByteArray)] (fun _=>True) (fun _=>False) rfl rfl ?aP (fun _ hk=>hk.elim) ?aF ?aO ?aB ?aS ?aL ?_;(case aP=>exact k56_mkM _ _ _ (⟨3,rd l0_0 x4_1,0,(⟨#[]⟩ : ByteArray)⟩ : S56));(case aB=>exact (hb1_ HB.out GE383.out));(case aF=>exact (fun _ _=>trivial));(case aO=>exact (by (with_reducible repeat (first|apply ra_|apply rn_|apply re_));exact HO_3.out));(case aS=>exact (bz_ (hb1_ HB.out GE383.out)));(case aL=>have:=LMc8.out;omega);intro v389 w10 ho hb hg hat;rw [← Ny388.out] at ho;have n0_:=A_ (blk_grown (g:=gb383) (o:=.cells #[.slice (some ad387) l0_0.length c0_0,.slice A0_1 l0_1.length c0_1] 27 (0,0)) (by exact kk_ BK383.out) hg (Kd.R_ne HO_3.out BK383.out (by decide)));have n1_:=A_ (hb);have n2_:=A_ (ho);clear BK383;clear HB;clear HO_3;have BK383:=n0_;have HB:=n1_;have HO390:=n2_;clear n0_ n1_ n2_;clear ho hb hg hat))
    go_roundg k1
    case measure=>have:=HK1.out;omega
    case rel=>exact ⟨(y388),(wrap64 (x4_1 + 1)),(by first|rfl|(simp;done)|(simp [*];done)),H',⟨by have:=HK1.out;omega⟩,⟨by (with_reducible repeat (first|apply ra_|apply rn_|apply re_));exact HO390.out⟩,⟨by exact kk_ BK383.out⟩,⟨hb1_ HB.out GE383.out⟩⟩
   rw [if_neg c5] at H
   have c5b0 : decide (x4_1<4)=false:=df_ c5;clear c5
   by_cases c11 : x3_1.length<3518437208883
   rotate_left
   ·rw [if_neg c11] at H
    exact absurd H (by simp)
   rw [if_pos c11] at H
   have LMc11:=A_ c11;clear c11
   obtain ⟨y391,hy391⟩ : ∃ y_ : List (S56),y_=(x3_1++[(⟨1,(l0_1.length : Int),0,(⟨#[]⟩ : ByteArray)⟩ : S56)]):=⟨_,rfl⟩
   replace H : (humusref08_Page.l1 k1 y391 0 l0_0 l0_1)=some r:=by first|(rw [hy391];with_reducible exact H)|(have H2_:=(Option.bind_some _ _).symm.trans H;rw [hy391];with_reducible exact H2_)|(have H2_:=(Option.bind_some _ _).symm.trans H;with_reducible exact H2_)|with_reducible exact H|(rw [hy391];exact H)|exact H
   have Ny391:=A_ hy391;clear hy391;have H':=A_ H;clear H;have z12_0 : wr.cell? ⟨gb383,0,none⟩=some (.slice A0_0 l0_0.length c0_0):=(bc_ BK383.out 0).trans rfl;have z12_1 : wr.cell? ⟨gb383,1,none⟩=some (.slice A0_1 l0_1.length c0_1):=(bc_ BK383.out 1).trans rfl;have y12_0:=bf_ BK383.out 0;have y12_1:=bf_ BK383.out 1
   go_wp2_with (first|((with_reducible refine gate_builtin (b:=.append) (xs:=#[.tmp 23,.tmp 28]) rfl ?_);at_builtin;refine Kd.R_append k56 (w0:=w) w.heap.size rfl (.tmp 23) (.tmp 28) 51 56 (.agg #[(.int .i64 0),(.int .i64 0),(.float .f64 0),(.string ⟨#[]⟩)]) 40 rfl Try.underlying51 info56 rfl (by decide) (by omega) u3 x3_1 (⟨1,(l0_1.length : Int),0,(⟨#[]⟩ : ByteArray)⟩ : S56) [.int .i64 1,.int .i64 (l0_1.length : Int),.float .f64 0,.string (⟨#[]⟩ : ByteArray)] (fun _=>True) (fun _=>False) rfl rfl ?aP (fun _ hk=>hk.elim) ?aF ?aO ?aB ?aS ?aL ?_;(case aP=>exact k56_mkM _ _ _ (⟨1,(l0_1.length : Int),0,(⟨#[]⟩ : ByteArray)⟩ : S56));(case aB=>exact (hb1_ HB.out GE383.out));(case aF=>exact (fun _ _=>trivial));(case aO=>exact (by (with_reducible repeat (first|apply ra_|apply rn_|apply re_));exact HO_3.out));(case aS=>exact (bz_ (hb1_ HB.out GE383.out)));(case aL=>have:=LMc11.out;omega);intro v392 w13 ho hb hg hat;rw [← Ny391.out] at ho;have n0_:=A_ (blk_grown (g:=gb383) (o:=.cells #[.slice A0_0 l0_0.length c0_0,.slice A0_1 l0_1.length c0_1] 27 (0,0)) (by exact kk_ BK383.out) hg (Kd.R_ne HO_3.out BK383.out (by decide)));have n1_:=A_ (hb);have n2_:=A_ (ho);clear BK383;clear HB;clear HO_3;have BK383:=n0_;have HB:=n1_;have HO393:=n2_;clear n0_ n1_ n2_;clear ho hb hg hat))
   go_loopg [3,5] k1 (fun kq v3 v5 w'=>∃ (x3_2 : List (S56)) (x5_2 : Int),v5=.int .i64 x5_2∧Aside0 (humusref08_Page.l1 kq x3_2 x5_2 l0_0 l0_1=some r)∧Aside0 (kq≤k1)∧Aside0 (Kd.R k56 56 w' w.heap.size (fun _=>True) v3 x3_2)∧Aside0 (w'.heap[gb383]?=some (.cells #[(.slice A0_0 l0_0.length c0_0),(.slice A0_1 l0_1.length c0_1)] 27 (0,0)))∧Aside0 (Below w.heap.size w w'))
   case atStart=>exact ⟨(y391),(0),(by first|rfl|(simp;done)|(simp [*];done)),H',⟨Nat.le_refl _⟩,⟨by (with_reducible repeat (first|apply ra_|apply rn_|apply re_));exact HO393.out⟩,⟨by exact kk_ BK383.out⟩,⟨hb1_ HB.out GE383.out⟩⟩
   case round =>
    clear H';(try clear c1);(try clear c2);(try clear p2);(try clear p3);(try clear q3);(try clear hx3);(try clear c4);(try clear c5);(try clear c5b0);(try clear c6);(try clear c6b0);(try clear p6);(try clear c7);(try clear c7b0);(try clear c8);(try clear c11);(try clear hx387_0);(try clear p2);(try clear p387);(try clear q387);(try clear z12_0 z12_1 z9_0 z9_1 y12_0 y12_1 y9_0 y9_1);obtain ⟨x3_2,x5_2,rfl,HA,HK2,HO_3,BK383,HB⟩:=hrel
    cases gk with
    | zero=>exact absurd HA.out (by simp [humusref08_Page.l1])
    | succ k2 =>
     have H:=HA.out;clear HA
     simp only [humusref08_Page.l1] at H
     by_cases c14 : x5_2<(l0_1.length : Int)
     ·rw [if_pos c14] at H
      have c14b0 : decide (x5_2<(l0_1.length : Int))=true:=dt_ c14;clear c14
      by_cases c15 : 0≤x5_2
      rotate_left
      ·rw [if_neg c15] at H
       exact absurd H (by simp)
      rw [if_pos c15] at H
      have c15b0 : decide (0≤x5_2)=true:=dt_ c15;clear c15
      by_cases c16 : x3_2.length<3518437208883
      rotate_left
      ·rw [if_neg c16] at H
       exact absurd H (by simp)
      rw [if_pos c16] at H
      have LMc16:=A_ c16;clear c16
      obtain ⟨y395,hy395⟩ : ∃ y_ : List (S56),y_=(x3_2++[(⟨5,0,0,strOfNums (rd_L2 l0_1 x5_2)⟩ : S56)]):=⟨_,rfl⟩
      replace H : (humusref08_Page.l1 k2 y395 (wrap64 (x5_2 + 1)) l0_0 l0_1)=some r:=by first|(rw [hy395];with_reducible exact H)|(have H2_:=(Option.bind_some _ _).symm.trans H;rw [hy395];with_reducible exact H2_)|(have H2_:=(Option.bind_some _ _).symm.trans H;with_reducible exact H2_)|with_reducible exact H|(rw [hy395];exact H)|exact H
      have Ny395:=A_ hy395;clear hy395;have H':=A_ H;clear H;have z17_0 : wr.cell? ⟨gb383,0,none⟩=some (.slice A0_0 l0_0.length c0_0):=(bc_ BK383.out 0).trans rfl;have z17_1 : wr.cell? ⟨gb383,1,none⟩=some (.slice A0_1 l0_1.length c0_1):=(bc_ BK383.out 1).trans rfl;have y17_0:=bf_ BK383.out 0;have y17_1:=bf_ BK383.out 1
      have p394 : 0≤(x5_2 : Int):=od_ (by first|(with_reducible assumption)|assumption)
      have q394 : x5_2<(l0_1.length : Int):=od_ (by first|(with_reducible assumption)|assumption)
      obtain ⟨ad394,A394_0,c394_0,e394,hx394_0,hl394_0,hi394_0⟩:=at_L2 HR0_1.out x5_2 p394 q394
      cases e394
      replace hx394_0:=(HB.out.cell (wb_ w _ hx394_0)).trans hx394_0;have HR394_0:=A_ hi394_0;have HC394_0:=A_ hl394_0;clear hi394_0 hl394_0;replace p394:=eq_true p394;replace q394:=eq_true q394;have hcv18:=Kd.C_string (P:=Try.prog) (A:=A394_0) (c:=c394_0) Try.underlying22 Try.underlying5 Try.underlying9 (Kd.C_below HR394_0.out HB.out)
      go_wp2_with (first|((with_reducible refine gate_builtin (b:=.append) (xs:=#[.tmp 37,.tmp 45]) rfl ?_);at_builtin;refine Kd.R_append k56 (w0:=w) w.heap.size rfl (.tmp 37) (.tmp 45) 51 56 (.agg #[(.int .i64 0),(.int .i64 0),(.float .f64 0),(.string ⟨#[]⟩)]) 40 rfl Try.underlying51 info56 rfl (by decide) (by omega) u3 x3_2 (⟨5,0,0,strOfNums (rd_L2 l0_1 x5_2)⟩ : S56) [.int .i64 5,.int .i64 0,.float .f64 0,.string (strOfNums (rd_L2 l0_1 x5_2))] (fun _=>True) (fun _=>False) rfl rfl ?aP (fun _ hk=>hk.elim) ?aF ?aO ?aB ?aS ?aL ?_;(case aP=>exact k56_mkM _ _ _ (⟨5,0,0,strOfNums (rd_L2 l0_1 x5_2)⟩ : S56));(case aB=>exact (hb1_ HB.out GE383.out));(case aF=>exact (fun _ _=>trivial));(case aO=>exact (by (with_reducible repeat (first|apply ra_|apply rn_|apply re_));exact HO_3.out));(case aS=>exact (bz_ (hb1_ HB.out GE383.out)));(case aL=>have:=LMc16.out;omega);intro v396 w19 ho hb hg hat;rw [← Ny395.out] at ho;have n0_:=A_ (blk_grown (g:=gb383) (o:=.cells #[.slice A0_0 l0_0.length c0_0,.slice (some ad394) l0_1.length c0_1] 27 (0,0)) (by exact kk_ BK383.out) hg (Kd.R_ne HO_3.out BK383.out (by decide)));have n1_:=A_ (hb);have n2_:=A_ (ho);clear BK383;clear HB;clear HO_3;have BK383:=n0_;have HB:=n1_;have HO397:=n2_;clear n0_ n1_ n2_;clear ho hb hg hat))
      go_roundg k2
      case measure=>have:=HK1.out;have:=HK2.out;omega
      case rel=>exact ⟨(y395),(wrap64 (x5_2 + 1)),(by first|rfl|(simp;done)|(simp [*];done)),H',⟨by have:=HK1.out;have:=HK2.out;omega⟩,⟨by (with_reducible repeat (first|apply ra_|apply rn_|apply re_));exact HO397.out⟩,⟨by exact kk_ BK383.out⟩,⟨hb1_ HB.out GE383.out⟩⟩
     rw [if_neg c14] at H
     have c14b0 : decide (x5_2<(l0_1.length : Int))=false:=df_ c14;clear c14;replace H:=Option.bind_eq_some_iff.mp H;obtain ⟨⟨t398,t399⟩,A200,H⟩:=H;replace H : (humusref08_Page.l2 k2 t398)=some r:=H;have A20:=A_ A200;clear A200;have H':=A_ H;clear H;have z21_0 : wr.cell? ⟨gb383,0,none⟩=some (.slice A0_0 l0_0.length c0_0):=(bc_ BK383.out 0).trans rfl;have z21_1 : wr.cell? ⟨gb383,1,none⟩=some (.slice A0_1 l0_1.length c0_1):=(bc_ BK383.out 1).trans rfl;have y21_0:=bf_ BK383.out 0;have y21_1:=bf_ BK383.out 1;obtain ⟨Ao22,co22,eo22⟩:=Kd.R_slice HO_3.out;subst eo22
     go_wp2_with (first|((with_reducible refine gate_callee (f:=47) rfl ?_);refine goesL_ (some 49) rfl rfl Try.func47 (by kernel_rfl) rfl #[.slice Ao22 x3_2.length co22] rfl (by (try simp only [List.map_toArray,List.map_cons,List.map_nil]);first|done|rfl|(simp only [List.length_drop,List.length_take];rfl)) ?_;(with_reducible refine (humusref03_Put.calls _ _ x3_2 t398 t399 _ ?side1 ?side2 A20.out).mono ?_);(case side1=>repeat (first|exact (Kd.R_reads' HO_3.out).2.2|(with_reducible refine Kd.C_alloc ?_ _)|(with_reducible refine Kd.C_drewN ?_ _)|(with_reducible refine Kd.C_drew ?_)));(case side2=>exact (Kd.R_reads' HO_3.out).2.1);rintro e w23 ⟨v400,rfl,ho0,hb⟩;refine ⟨_,rfl,?_⟩;have n0_:=A_ (Kd.R_below (by (with_reducible repeat (first|apply ra_|apply rn_|apply re_));exact HO_3.out) hb);have n1_:=A_ (Kd.R_lower ho0 (bz_ (hb1_ HB.out GE383.out)));have n2_:=A_ (bx_ BK383.out kf_ hb);have n3_:=A_ (bp_ (hb1_ HB.out GE383.out) hb);clear HO_3;clear BK383;clear HB;have HO_3:=n0_;have HO401:=n1_;have BK383:=n2_;have HB:=n3_;clear n0_ n1_ n2_ n3_;(try clear hb);(try clear hb2);(try clear hk);(try clear hi);(try clear ho0)))
     go_loopg [6] k2 (fun kq v6 w'=>∃ (x6_3 : List Int),Aside0 (humusref08_Page.l2 kq x6_3=some r)∧Aside0 (kq≤k2)∧Aside0 (Kd.R (Kd.int .u8) 5 w' w.heap.size (fun _=>True) v6 x6_3)∧Aside0 (w'.heap[gb383]?=some (.cells #[(.slice A0_0 l0_0.length c0_0),(.slice A0_1 l0_1.length c0_1)] 27 (0,0)))∧Aside0 (Below w.heap.size w w'))
     case atStart=>exact ⟨(t398),H',⟨Nat.le_refl _⟩,⟨by (with_reducible repeat (first|apply ra_|apply rn_|apply re_));exact HO401.out⟩,⟨by exact kk_ BK383.out⟩,⟨hb1_ HB.out GE383.out⟩⟩
     case round =>
      clear H';(try clear c1);(try clear hcv1);(try clear c2);(try clear p2);(try clear c3);(try clear p3);(try clear q3);(try clear hx3);(try clear c4);(try clear c5);(try clear c5b0);(try clear c6);(try clear c6b0);(try clear p6);(try clear c7);(try clear c7b0);(try clear c8);(try clear c11);(try clear c14);(try clear c14b0);(try clear c15);(try clear c15b0);(try clear c16);(try clear hcv18);(try clear hx387_0);(try clear hx394_0);(try clear p2);(try clear p3);(try clear p387);(try clear p394);(try clear p6);(try clear q3);(try clear q387);(try clear q394);(try clear z12_0 z12_1 z17_0 z17_1 z21_0 z21_1 z9_0 z9_1 y12_0 y12_1 y17_0 y17_1 y21_0 y21_1 y9_0 y9_1);obtain ⟨x6_3,HA,HK3,HO_6,BK383,HB⟩:=hrel
      cases gk with
      | zero=>exact absurd HA.out (by intro h_; cases h_)
      | succ k3 =>
       have H:=HA.out;clear HA;rw [humusref08_Page.l2_s] at H
       by_cases c24 : (x6_3.length : Int)<508
       rotate_left
       ·rw [if_neg c24] at H
        have c24b0 : decide ((x6_3.length : Int)<508)=false:=df_ c24
        have c24b1 : decide (x6_3.length<508)=false:=df_ (by omega)
        clear c24;replace H:=Option.bind_eq_some_iff.mp H;obtain ⟨t405,A280,H⟩:=H;replace H : (some t405)=some r:=H;have A28:=A_ A280;clear A280;obtain rfl:=Option.some.inj H;obtain ⟨Ao29,co29,eo29⟩:=Kd.R_slice HO_6.out;subst eo29
        go_wp2_with (first|((with_reducible refine gate_callee (f:=48) rfl ?_);refine goesL_ (some 59) rfl rfl Try.func48 (by kernel_rfl) rfl #[.slice Ao29 x6_3.length co29] rfl (by (try simp only [List.map_toArray,List.map_cons,List.map_nil]);first|done|rfl|(simp only [List.length_drop,List.length_take];rfl)) ?_;(with_reducible refine (humusref02_Seal.calls k3 _ _ x6_3 t405 _ ?side1 ?side2 A28.out).mono ?_);(case side1=>repeat (first|exact (Kd.R_reads' HO_6.out).2.2|(with_reducible refine Kd.C_alloc ?_ _)|(with_reducible refine Kd.C_drewN ?_ _)|(with_reducible refine Kd.C_drew ?_)));(case side2=>exact (Kd.R_reads' HO_6.out).2.1);rintro e w30 ⟨v406,rfl,ho0,hb⟩;refine ⟨_,rfl,?_⟩;have n0_:=A_ (Kd.R_elder' (by (with_reducible repeat (first|apply ra_|apply rn_|apply re_));exact HO_6.out) (Kd.R_base ho0) hb);have n1_:=A_ (Kd.R_lower (Kd.R_new' ho0 (Kd.R_lt (by (with_reducible repeat (first|apply ra_|apply rn_|apply re_));exact HO_6.out))) (bz_ (hb1_ HB.out GE383.out)));have n2_:=A_ (bx_ BK383.out kf_ hb);have n3_:=A_ (bp_ (hb1_ HB.out GE383.out) hb);clear HO_6;clear BK383;clear HB;have HO_6:=n0_;have HO407:=n1_;have BK383:=n2_;have HB:=n3_;clear n0_ n1_ n2_ n3_;(try clear hb);(try clear hb2);(try clear hk);(try clear hi);(try clear ho0)))
        go_ret
        exact ⟨_,by first|rfl|(simp [errW_none,errW_some] <;> rfl)|(simp [*,errW_none,errW_some] <;> rfl),by (with_reducible repeat (first|apply ra_|apply rn_|apply re_));exact Kd.R_mono HO407.out (fun _ hk=>trivial),hb1_ HB.out GE383.out⟩
       rw [if_pos c24] at H
       have c24b0 : decide ((x6_3.length : Int)<508)=true:=dt_ c24
       have c24b1 : decide (x6_3.length<508)=true:=dt_ (by omega)
       clear c24
       by_cases c25 : x6_3.length<140737488355328
       rotate_left
       ·rw [if_neg c25] at H
        exact absurd H (by simp)
       rw [if_pos c25] at H
       have LMc25:=A_ c25;clear c25
       obtain ⟨y402,hy402⟩ : ∃ y_ : List Int,y_=(x6_3++[0]):=⟨_,rfl⟩
       replace H : (humusref08_Page.l2 k3 y402)=some r:=by first|(rw [hy402];with_reducible exact H)|(have H2_:=(Option.bind_some _ _).symm.trans H;rw [hy402];with_reducible exact H2_)|(have H2_:=(Option.bind_some _ _).symm.trans H;with_reducible exact H2_)|with_reducible exact H|(rw [hy402];exact H)|exact H
       have Ny402:=A_ hy402;clear hy402;have H':=A_ H;clear H;obtain ⟨Ao26,co26,eo26⟩:=Kd.R_slice HO_6.out;subst eo26
       go_wp2_with (first|((with_reducible refine gate_builtin (b:=.append) (xs:=#[.tmp 55,.tmp 56]) rfl ?_);at_builtin;refine Kd.R_append (Kd.int .u8) (w0:=w) w.heap.size rfl (.tmp 55) (.tmp 56) 22 5 (.int .u8 0) 1 rfl Try.underlying22 info5 rfl (by decide) (by omega) (.slice Ao26 x6_3.length co26) x6_3 0 [.int .u8 0] (fun _=>True) (fun _=>False) rfl rfl ?aP (fun _ hk=>hk.elim) ?aF ?aO ?aB ?aS ?aL ?_;(case aP=>exact rfl);(case aB=>exact (hb1_ HB.out GE383.out));(case aF=>exact (fun _ _=>trivial));(case aO=>exact (by (with_reducible repeat (first|apply ra_|apply rn_|apply re_));exact HO_6.out));(case aS=>exact (bz_ (hb1_ HB.out GE383.out)));(case aL=>have:=LMc25.out;omega);intro v403 w27 ho hb hg hat;rw [← Ny402.out] at ho;have n0_:=A_ (blk_grown (g:=gb383) (o:=.cells #[.slice A0_0 l0_0.length c0_0,.slice A0_1 l0_1.length c0_1] 27 (0,0)) (by exact kk_ BK383.out) hg (Kd.R_ne HO_6.out BK383.out (by decide)));have n1_:=A_ (hb);have n2_:=A_ (ho);clear BK383;clear HB;clear HO_6;have BK383:=n0_;have HB:=n1_;have HO404:=n2_;clear n0_ n1_ n2_;clear ho hb hg hat))
       go_roundg k3
       case measure=>have:=HK1.out;have:=HK2.out;have:=HK3.out;omega
       case rel=>exact ⟨(y402),H',⟨by have:=HK1.out;have:=HK2.out;have:=HK3.out;omega⟩,⟨by (with_reducible repeat (first|apply ra_|apply rn_|apply re_));exact HO404.out⟩,⟨by exact kk_ BK383.out⟩,⟨hb1_ HB.out GE383.out⟩⟩
mutual
def humusref08_Decode.l0 : Nat→List Int→Bool→Int→Option (List Int × (List (List Int)) × Int)
 | 0,_,_,_=>none
 | k + 1,x0,x4,x5=>if x5<512 then (if x4=true then (if 0≤x5 then (if x5<(x0.length : Int) then (humusref08_Decode.l0 k x0 ((rd x0 x5) == 0) (wrap64 (x5 + 1))) else (none)) else (none)) else (humusref08_Decode.l0 k x0 false (wrap64 (x5 + 1)))) else (if x4=true then (if 4≤35184372088832 then (some ((List.replicate 4 0),([] : List (List Int)),0)) else (none)) else (if 4≤(x0.length : Int) then ((humusref02_Sum.f k (x0.drop 4)).bind fun t414=>((humusref02_Four.f t414).bind fun t415=>(if (strOfNums t415).toList=(strOfNums (x0.take 4)).toList then (humusref08_Decode.j1 k x0 (x0.drop 4) (([1,3,3,3,3,1] : List Int)) 0) else (some (([] : List Int),([] : List (List Int)),5))))) else (none)))
def humusref08_Decode.j1 : Nat→List Int→List Int→List Int→Int→Option (List Int × (List (List Int)) × Int)
 | 0,_,_,_,_=>none
 | k + 1,x0,x6,x7,x8=>humusref08_Decode.l1 k x0 x6 x7 x8
def humusref08_Decode.l1 : Nat→List Int→List Int→List Int→Int→Option (List Int × (List (List Int)) × Int)
 | 0,_,_,_,_=>none
 | k + 1,x0,x6,x7,x8=>if 17<(x6.length : Int) then (if x8<(wrap64 (rd x6 17)) then (if x7.length<17592186044416 then (humusref08_Decode.l1 k x0 x6 (x7++[5]) (wrap64 (x8 + 1))) else (none)) else ((humusref03_Take.f x6 x7).bind fun bt426=>(humusref08_Decode.j3 k x0 bt426.1 (bt426.2.2 != 0)))) else (none)
def humusref08_Decode.j3 : Nat→List Int→List (S56)→Bool→Option (List Int × (List (List Int)) × Int)
 | 0,_,_,_=>none
 | k + 1,x0,x9,x64=>if x64=true then (some (([] : List Int),([] : List (List Int)),4)) else (if 1<(x9.length : Int) then (if 2<(x9.length : Int) then (if 3<(x9.length : Int) then (if 4<(x9.length : Int) then (humusref08_Decode.l2 k x0 x9 6 (([(rd_T56 x9 1).f1,(rd_T56 x9 2).f1,(rd_T56 x9 3).f1,(rd_T56 x9 4).f1] : List Int)) ([] : List (List Int))) else (none)) else (none)) else (none)) else (none))
def humusref08_Decode.l2 : Nat→List Int→List (S56)→Int→List Int→List (List Int)→Option (List Int × (List (List Int)) × Int)
 | 0,_,_,_,_,_=>none
 | k + 1,x0,x9,x13,x439000,x439001=>if x13<(x9.length : Int) then (if 0≤x13 then (if (((rd_T56 x9 x13).f3) : ByteArray).size≤1000000 then (if x439001.length<5864062014805 then (humusref08_Decode.l2 k x0 x9 (wrap64 (x13 + 1)) x439000 (x439001++[(bytesOf ((rd_T56 x9 x13).f3))])) else (none)) else (none)) else (none)) else ((humusref08_May.f k x439000 x439001).bind fun t446=>(if t446=true then ((humusref08_Page.f k x439000 x439001).bind fun t447=>(if (strOfNums t447).toList=(strOfNums x0).toList then (some (x439000,x439001,0)) else (some (([] : List Int),([] : List (List Int)),4)))) else (some (([] : List Int),([] : List (List Int)),4))))
end
theorem humusref08_Decode.l0_s (k : Nat) (x0 : List Int) (x4 : Bool) (x5 : Int) : humusref08_Decode.l0 (k + 1) x0 x4 x5=(if x5<512 then (if x4=true then (if 0≤x5 then (if x5<(x0.length : Int) then (humusref08_Decode.l0 k x0 ((rd x0 x5) == 0) (wrap64 (x5 + 1))) else (none)) else (none)) else (humusref08_Decode.l0 k x0 false (wrap64 (x5 + 1)))) else (if x4=true then (if 4≤35184372088832 then (some ((List.replicate 4 0),([] : List (List Int)),0)) else (none)) else (if 4≤(x0.length : Int) then ((humusref02_Sum.f k (x0.drop 4)).bind fun t414=>((humusref02_Four.f t414).bind fun t415=>(if (strOfNums t415).toList=(strOfNums (x0.take 4)).toList then (humusref08_Decode.j1 k x0 (x0.drop 4) (([1,3,3,3,3,1] : List Int)) 0) else (some (([] : List Int),([] : List (List Int)),5))))) else (none)))):=rfl
def humusref08_Decode.f (k : Nat) (l0 : List Int) : Option (List Int × (List (List Int)) × Int):=if (l0.length : Int)=512 then (humusref08_Decode.l0 k l0 true 0) else (some (([] : List Int),([] : List (List Int)),1))
def humusref08_Decode.T11 : Bool × List (List Nat × List Nat):=(true,[([],[]),([0],[0]),([1,1],[1]),([2],[2]),([],[]),([4],[4]),([5],[5]),([3,6],[3,6])])
def humusref08_Decode.B11 : List Nat:=[0,1,3,7,0,16,48,127]
theorem humusref08_Decode.tab11 : rtab .any (opsOf Try.f10 11)=humusref08_Decode.T11:=by kernel_rfl
theorem humusref08_Decode.bits11 : waitsOk humusref08_Decode.T11.2 humusref08_Decode.B11=true:=by kernel_rfl
def humusref08_Decode.T21 : Bool × List (List Nat × List Nat):=(true,[([],[]),([0],[0]),([1],[1]),([2],[2]),([],[]),([4],[4]),([5],[5]),([6],[6]),([],[]),([8],[8]),([9],[9]),([10],[10]),([],[]),([12],[12]),([13],[13]),([14],[14]),([3,7,11,15],[3,7,11,15]),([16],[16]),([],[]),([18,17,0,1,2,3,4,5,6,7,8,9,10,11,12,13,14,15,16,17,18],[17,18])])
def humusref08_Decode.B21 : List Nat:=[0,1,3,7,0,16,48,112,0,256,768,1792,0,4096,12288,28672,65535,131071,0,524287]
theorem humusref08_Decode.tab21 : rtab .any (opsOf Try.f10 21)=humusref08_Decode.T21:=by kernel_rfl
theorem humusref08_Decode.bits21 : waitsOk humusref08_Decode.T21.2 humusref08_Decode.B21=true:=by kernel_rfl
def humusref08_Decode.T25 : Bool × List (List Nat × List Nat):=(true,[([],[]),([0],[0]),([],[]),([],[]),([2,3],[2,3]),([4],[4]),([5],[5]),([6],[6]),([7],[7]),([1,8],[1,8]),([0,1,2,3,4,5,6,7,8,9],[]),([10,9,9,0,1,2,3,4,5,6,7,8,9],[9,10])])
def humusref08_Decode.B25 : List Nat:=[0,1,0,0,12,28,60,124,252,511,1023,2047]
theorem humusref08_Decode.tab25 : rtab .any (opsOf Try.f10 25)=humusref08_Decode.T25:=by kernel_rfl
theorem humusref08_Decode.bits25 : waitsOk humusref08_Decode.T25.2 humusref08_Decode.B25=true:=by kernel_rfl
def humusref08_Decode.T26 : Bool × List (List Nat × List Nat):=(true,[([],[]),([0],[0]),([1],[1]),([2,1],[2]),([3],[3]),([4,3,3],[3,4]),([5,3],[3,5]),([3],[3]),([7,3],[3,7]),([6,8,3],[3,6,8]),([3,9],[3,9])])
def humusref08_Decode.B26 : List Nat:=[0,1,3,7,15,31,63,15,143,511,1023]
theorem humusref08_Decode.tab26 : rtab .any (opsOf Try.f10 26)=humusref08_Decode.T26:=by kernel_rfl
theorem humusref08_Decode.bits26 : waitsOk humusref08_Decode.T26.2 humusref08_Decode.B26=true:=by kernel_rfl
set_option maxHeartbeats 8000000 in
set_option maxRecDepth 100000 in
theorem humusref08_Decode.calls (k : Nat) (A0 : Option Addr) (c0 : Nat) (l0 : List Int) (r1 : List Int) (r2 : List (List Int)) (r3 : Int) (w : World) (hr0 : Kd.C (Kd.int .u8) w A0 l0.length l0) (hc0 : l0.length≤c0) (h : humusref08_Decode.f k l0=some (r1,r2,r3)) :
  Calls Try.prog 10 #[.slice A0 l0.length c0] w fun e w'=>∃ v0_ v1_ : Value,e=.returned (.tuple #[.agg #[v0_,v1_],.int .i64 r3])∧Kd.R (Kd.int .i64) 3 w' w.heap.size (fun k_=>(w.heap.size≤k_)) v0_ r1∧Kd.N (Kd.slice 5 (Kd.int .u8)) 22 w' w.heap.size (fun k_=>(w.heap.size≤k_)∧some k_≠(v0_ : Value).ownBlock) v1_ r2∧Below w.heap.size w w':=by
 have hu27:=Try.underlying27;have HR0:=A_ hr0;have HC0:=A_ hc0;clear hr0 hc0;have HB:=A_ (Below.refl w.heap.size w)
 have H : (if (l0.length : Int)=512 then (humusref08_Decode.l0 k l0 true 0) else (some (([] : List Int),([] : List (List Int)),1)))=some (r1,r2,r3):=h
 clear h
 by_cases c2 : (l0.length : Int)=512
 rotate_left
 ·rw [if_neg c2] at H
  have c2b0 : ((l0.length : Int) == 512)=false:=beq_eq_false_iff_ne.mpr c2;have c2b1 : ((l0.length : Int) != 512)=true:=bne_iff_ne.mpr c2
  simp only [Option.some.injEq,Prod.mk.injEq] at H
  obtain ⟨rfl,rfl,rfl⟩:=H;go_enter Try.func10,Try.ntmps10
  go_wp2_with (first|((with_reducible refine gate_dst (N:=2) rfl ?_);refine box_event ?hg (N:=2) ?hd (cs:=#[.slice none 0 0,.slice none 0 0]) (t:=27) ?hr ?_;(case hd=>rfl);(case hg=>rfl);(case hr=>first|(go_simp;done)|(go_simp;rfl));intro gb408 hg w92 hbox hb;have n0_:=A_ (bp_ (hb0_ HB.out) hb);have n1_:=A_ (hbox);have n2_:=A_ ((by rw [hg];exact (bz_ (hb0_ HB.out)) : w.heap.size≤gb408));have n3_:=n2_;clear HB;have HB:=n0_;have BK408:=n1_;have GW408:=n2_;have GE408:=n3_;clear n0_ n1_ n2_ n3_;clear hb hbox hg;have z93_0 : w92.cell? ⟨gb408,0,none⟩=some (.slice none 0 0):=(bc_ BK408.out 0).trans rfl;have z93_1 : w92.cell? ⟨gb408,1,none⟩=some (.slice none 0 0):=(bc_ BK408.out 1).trans rfl;have y93_0:=bf_ BK408.out 0;have y93_1:=bf_ BK408.out 1))
  refine bodyPost_ret (results_ct rfl _ _ gb408 27 #[.slice none 0 0,.slice none 0 0] (0,0) _ rfl (by refine kk_ ?_;refine blk_put (cs:=#[.slice none 0 0,.slice none 0 0]) ?_ 1 _ rfl;refine kk_ ?_;refine blk_put (cs:=#[.slice none 0 0,.slice none 0 0]) ?_ 0 _ rfl;exact kk_ BK408.out) Try.underlying27 rfl (by kernel_rfl)) rfl ?_
  exact ⟨_,_,by first|rfl|(simp [errW_none,errW_some] <;> rfl)|(simp [*,errW_none,errW_some] <;> rfl),by first|exact Kd.R_nil _ _ _ _ _|exact Kd.N_nil _ _ _ _ _|exact Kd.V_nil _ _ _ _ _|exact Kd.Q_nil _ _ _ _ _|exact Kd.S_nil _ _ _ _ _,by first|exact Kd.S_nil _ _ _ _ _|exact Kd.N_nil _ _ _ _ _|exact Kd.V_nil _ _ _ _ _|exact Kd.Q_nil _ _ _ _ _|exact Kd.R_nil _ _ _ _ _,hb1_ HB.out GE408.out⟩
 rw [if_pos c2] at H
 have c2b0 : ((l0.length : Int) == 512)=true:=beq_iff_eq.mpr c2;have c2b1 : ((l0.length : Int) != 512)=false:=bne_eq_false_iff_eq.mpr c2;clear c2;have H':=A_ H;clear H;go_enter Try.func10,Try.ntmps10
 go_wp2_with (first|((with_reducible refine gate_dst (N:=2) rfl ?_);refine box_event ?hg (N:=2) ?hd (cs:=#[.slice none 0 0,.slice none 0 0]) (t:=27) ?hr ?_;(case hd=>rfl);(case hg=>rfl);(case hr=>first|(go_simp;done)|(go_simp;rfl));intro gb408 hg w3 hbox hb;have n0_:=A_ (bp_ (hb0_ HB.out) hb);have n1_:=A_ (hbox);have n2_:=A_ ((by rw [hg];exact (bz_ (hb0_ HB.out)) : w.heap.size≤gb408));have n3_:=n2_;clear HB;have HB:=n0_;have BK408:=n1_;have GW408:=n2_;have GE408:=n3_;clear n0_ n1_ n2_ n3_;clear hb hbox hg))
 go_loopg [4,5] k (fun kq v4 v5 w'=>∃ (x4_1 : Bool) (x5_1 : Int),v4=.bool x4_1∧v5=.int .i64 x5_1∧Aside0 (humusref08_Decode.l0 kq l0 x4_1 x5_1=some (r1,r2,r3))∧Aside0 (kq≤k)∧Aside0 (w'.heap[gb408]?=some (.cells #[(.slice none 0 0),(.slice none 0 0)] 27 (0,0)))∧Aside0 (Below w.heap.size w w'))
 case atStart=>exact ⟨(true),(0),(by first|rfl|(simp;done)|(simp [*];done)),(by first|rfl|(simp;done)|(simp [*];done)),H',⟨Nat.le_refl _⟩,⟨by exact kk_ BK408.out⟩,⟨hb1_ HB.out GE408.out⟩⟩
 case round =>
  clear H';(try clear c1);(try clear c2);(try clear c2b0);(try clear c2b1);(try clear p2);obtain ⟨x4_1,x5_1,rfl,rfl,HA,HK1,BK408,HB⟩:=hrel
  cases gk with
  | zero=>exact absurd HA.out (by intro h_; cases h_)
  | succ k1 =>
   have H:=HA.out;clear HA;rw [humusref08_Decode.l0_s] at H
   by_cases c4 : x5_1<512
   ·rw [if_pos c4] at H
    have c4b0 : decide (x5_1<512)=true:=dt_ c4;clear c4
    by_cases c5 : x4_1=true
    rotate_left
    ·replace c5:=Bool.eq_false_iff.mpr c5
     subst c5
     have H1 : (humusref08_Decode.l0 k1 l0 false (wrap64 (x5_1 + 1)))=some (r1,r2,r3):=by rw [if_neg (show ¬ (false=true) by decide)] at H;exact H
     clear H;have H:=H1;clear H1;have H':=A_ H;clear H;go_wp2;go_roundg k1
     case measure=>have:=HK1.out;omega
     case rel=>exact ⟨(false),(wrap64 (x5_1 + 1)),(by first|rfl|(simp;done)|(simp [*];done)),(by first|rfl|(simp;done)|(simp [*];done)),H',⟨by have:=HK1.out;omega⟩,⟨by exact kk_ BK408.out⟩,⟨hb1_ HB.out GE408.out⟩⟩
    subst c5
    have H1 : (if 0≤x5_1 then (if x5_1<(l0.length : Int) then (humusref08_Decode.l0 k1 l0 ((rd l0 x5_1) == 0) (wrap64 (x5_1 + 1))) else (none)) else (none))=some (r1,r2,r3):=by rw [if_pos rfl] at H;exact H
    clear H;have H:=H1;clear H1
    by_cases c6 : 0≤x5_1
    rotate_left
    ·rw [if_neg c6] at H
     exact absurd H (by simp)
    rw [if_pos c6] at H
    have c6b0 : decide (0≤x5_1)=true:=dt_ c6;clear c6
    by_cases c7 : x5_1<(l0.length : Int)
    rotate_left
    ·rw [if_neg c7] at H
     exact absurd H (by simp)
    rw [if_pos c7] at H
    have c7b0 : decide (x5_1<(l0.length : Int))=true:=dt_ c7;clear c7;have H':=A_ H;clear H
    have p409 : 0≤(x5_1 : Int):=od_ (by first|(with_reducible assumption)|assumption)
    have q409 : x5_1<(l0.length : Int):=od_ (by first|(with_reducible assumption)|assumption)
    obtain ⟨ad409,e409,hx409_0⟩:=Kd.at_int HR0.out x5_1 p409 q409
    cases e409
    replace hx409_0:=(HB.out.cell (wb_ w _ hx409_0)).trans hx409_0;replace p409:=eq_true p409;replace q409:=eq_true q409;go_wp2;go_roundg k1
    case measure=>have:=HK1.out;omega
    case rel=>exact ⟨(((rd l0 x5_1) == 0)),(wrap64 (x5_1 + 1)),(by first|rfl|(simp;done)|(simp [*];done)),(by first|rfl|(simp;done)|(simp [*];done)),H',⟨by have:=HK1.out;omega⟩,⟨by exact kk_ BK408.out⟩,⟨hb1_ HB.out GE408.out⟩⟩
   rw [if_neg c4] at H
   have c4b0 : decide (x5_1<512)=false:=df_ c4;clear c4
   by_cases c8 : x4_1=true
   ·subst c8
    have H1 : (if 4≤35184372088832 then (some ((List.replicate 4 0),([] : List (List Int)),0)) else (none))=some (r1,r2,r3):=by rw [if_pos rfl] at H;exact H
    clear H;have H:=H1;clear H1
    by_cases c9 : 4≤35184372088832
    rotate_left
    ·rw [if_neg c9] at H
     exact absurd H (by simp)
    rw [if_pos c9] at H
    have c9b0:=eq_true c9;have c9b1 : decide (4≤35184372088832)=true:=dt_ c9;clear c9
    obtain ⟨y410,hy410⟩ : ∃ y_ : List Int,y_=(List.replicate 4 0):=⟨_,rfl⟩
    replace H : (some (y410,([] : List (List Int)),0))=some (r1,r2,r3):=by first|(rw [hy410];with_reducible exact H)|(have H2_:=(Option.bind_some _ _).symm.trans H;rw [hy410];with_reducible exact H2_)|(have H2_:=(Option.bind_some _ _).symm.trans H;with_reducible exact H2_)|with_reducible exact H|(rw [hy410];exact H)|exact H
    have Ny410:=A_ hy410;clear hy410
    simp only [Option.some.injEq,Prod.mk.injEq] at H
    obtain ⟨rfl,rfl,rfl⟩:=H
    go_wp2_with (first|((with_reducible refine gate_dst (N:=31) rfl ?_);refine Kd.R_make (Kd.int .i64) _ 3 rfl (N:=31) rfl 24 _ _ rfl 4 rfl rfl Try.underlying24 (.int .i64 0) 8 info3 rfl (by decide) (by omega) 0 (ok:=fun _=>True) (okp:=fun _=>True) rfl (fun _ hk=>hk) trivial (by omega) (by omega) (Below.refl _ _) (Nat.le_refl _) ?_;intro v411 w10 ho11 hb hg_ hnew_;clear hg_ hnew_;(first|rw [← Ny410.out] at ho11|(simp only [Int.reduceToNat] at ho11;rw [← Ny410.out] at ho11));have n0_:=A_ (Kd.R_lower (Kd.R_newM (M:=fun k_=>(w.heap.size≤k_)) ho11 (bz_ (hb1_ HB.out GE408.out)) (fun k_ h_=>h_)) (bz_ (hb1_ HB.out GE408.out)));have n1_:=A_ (bx_ BK408.out kf_ hb);have n2_:=A_ (bp_ (hb1_ HB.out GE408.out) hb);clear BK408;clear HB;have HO412:=n0_;have BK408:=n1_;have HB:=n2_;clear n0_ n1_ n2_;clear hb ho11;obtain ⟨Ao12,co12,eo12⟩:=Kd.R_slice HO412.out;subst eo12;have z13_0 : w10.cell? ⟨gb408,0,none⟩=some (.slice none 0 0):=(bc_ BK408.out 0).trans rfl;have z13_1 : w10.cell? ⟨gb408,1,none⟩=some (.slice none 0 0):=(bc_ BK408.out 1).trans rfl;have y13_0:=bf_ BK408.out 0;have y13_1:=bf_ BK408.out 1))
    refine bodyPost_ret (results_ct rfl _ _ gb408 27 #[.slice Ao12 y410.length co12,.slice none 0 0] (0,0) _ rfl (by refine kk_ ?_;refine blk_put (cs:=#[.slice Ao12 y410.length co12,.slice none 0 0]) ?_ 1 _ rfl;refine kk_ ?_;refine blk_put (cs:=#[.slice none 0 0,.slice none 0 0]) ?_ 0 _ rfl;exact kk_ BK408.out) Try.underlying27 rfl (by kernel_rfl)) rfl ?_
    exact ⟨_,_,by first|rfl|(simp [errW_none,errW_some] <;> rfl)|(simp [*,errW_none,errW_some] <;> rfl),by (with_reducible repeat (first|apply ra_|apply rn_|apply re_));exact Kd.R_mono (rf_ (p:=⟨gb408,1,none⟩) (rf_ (p:=⟨gb408,0,none⟩) (Kd.R_types HO412.out BK408.out (by decide)) (fun _ hk=>hk.2) (.slice Ao12 y410.length co12)) (fun _ hk=>hk.2) (.slice none 0 0)) (fun _ hk=>hk.1.1),by first|exact Kd.S_nil _ _ _ _ _|exact Kd.N_nil _ _ _ _ _|exact Kd.V_nil _ _ _ _ _|exact Kd.Q_nil _ _ _ _ _|exact Kd.R_nil _ _ _ _ _,hb1_ HB.out GE408.out⟩
   replace c8:=Bool.eq_false_iff.mpr c8
   subst c8
   have H1 : (if 4≤(l0.length : Int) then ((humusref02_Sum.f k1 (l0.drop 4)).bind fun t414=>((humusref02_Four.f t414).bind fun t415=>(if (strOfNums t415).toList=(strOfNums (l0.take 4)).toList then (humusref08_Decode.j1 k1 l0 (l0.drop 4) (([1,3,3,3,3,1] : List Int)) 0) else (some (([] : List Int),([] : List (List Int)),5))))) else (none))=some (r1,r2,r3):=by rw [if_neg (show ¬ (false=true) by decide)] at H;exact H
   clear H;have H:=H1;clear H1
   by_cases c14 : 4≤(l0.length : Int)
   rotate_left
   ·rw [if_neg c14] at H
    exact absurd H (by simp)
   rw [if_pos c14] at H
   have c14b0:=eq_true c14;have c14b1 : decide (4≤(l0.length : Int))=true:=dt_ c14;clear c14;replace H:=Option.bind_eq_some_iff.mp H;obtain ⟨t414,A150,H⟩:=H
   replace H : ((humusref02_Four.f t414).bind fun t415=>(if (strOfNums t415).toList=(strOfNums (l0.take 4)).toList then (humusref08_Decode.j1 k1 l0 (l0.drop 4) (([1,3,3,3,3,1] : List Int)) 0) else (some (([] : List Int),([] : List (List Int)),5))))=some (r1,r2,r3):=H
   have A15:=A_ A150;clear A150;replace H:=Option.bind_eq_some_iff.mp H;obtain ⟨t415,A160,H⟩:=H
   replace H : (if (strOfNums t415).toList=(strOfNums (l0.take 4)).toList then (humusref08_Decode.j1 k1 l0 (l0.drop 4) (([1,3,3,3,3,1] : List Int)) 0) else (some (([] : List Int),([] : List (List Int)),5)))=some (r1,r2,r3):=H
   have A16:=A_ A160;clear A160
   have c17b0:=eq_true (od_ (by first|(with_reducible assumption)|assumption) : 4≤(l0.length : Int))
   by_cases c18 : (strOfNums t415).toList=(strOfNums (l0.take 4)).toList
   rotate_left
   ·rw [if_neg c18] at H
    have c18b0 : ((strOfNums t415).toList == (strOfNums (l0.take 4)).toList)=false:=beq_eq_false_iff_ne.mpr c18;have c18b1 : ((strOfNums t415).toList != (strOfNums (l0.take 4)).toList)=true:=bne_iff_ne.mpr c18
    simp only [Option.some.injEq,Prod.mk.injEq] at H
    obtain ⟨rfl,rfl,rfl⟩:=H;obtain ⟨i086,hi086,_,hsz86,_⟩:=info_parts info5
    obtain ⟨A86,hcut86,hA86,hC86⟩:=print_drop_of (P:=Try.prog) (Value.int .u8) 0 22 5 .i64 Try.underlying22 hi086 hsz86 A0 c0 l0 4 (by omega) (od_ (by first|(with_reducible assumption)|assumption)) HC0.out
    have HR413:=A_ (Kd.C_of_reads (h1:=fun _=>rfl) (hA86 _ (Kd.reads_of_C HR0.out)))
    have HC413:=A_ hC86;clear hA86 hC86 hi086 hsz86
    try go_wp2
    have n0_:=A_ (ke_ BK408.out);have n1_:=A_ (be_ HB.out);clear BK408;clear HB;have BK408:=n0_;have HB:=n1_;clear n0_ n1_;obtain ⟨i088,hi088,_,hsz88,_⟩:=info_parts info5
    obtain ⟨hcut88,hA88,hC88⟩:=print_take_of (P:=Try.prog) (Value.int .u8) 0 22 5 .i64 Try.underlying22 hi088 hsz88 A0 c0 l0 4 (by omega) (od_ (by first|(with_reducible assumption)|assumption)) HC0.out
    have HR418:=A_ (Kd.C_of_reads (h1:=fun _=>rfl) (hA88 _ (Kd.reads_of_C HR0.out)))
    have HC418:=A_ hC88;clear hA88 hC88 hi088 hsz88
    refine start_ (n:=8) (S:=fun w'=>(convert 22 9 (.slice A0 (min 4 l0.length) c0)).run Try.prog w'=.ok (.string (strOfNums (l0.take 4))) w') (ds:=[]) #[Z,Z,Z,Z,Z,Z,Z,Z] (by kernel_rfl) rfl rfl ((by first|(have h_:=Kd.C_string (P:=Try.prog) (A:=A0) (c:=c0) Try.underlying22 Try.underlying5 Try.underlying9 (Kd.C_below HR418.out HB.out);rw [List.length_take] at h_;exact h_)|(rw [← List.length_take];exact Kd.C_string (P:=Try.prog) (A:=A0) (c:=c0) Try.underlying22 Try.underlying5 Try.underlying9 (Kd.C_drewN (Kd.C_below HR418.out HB.out) _)))) (fun hHeld=>?_);refine with_tabW humusref08_Decode.tab11 humusref08_Decode.bits11 (fun HT_ HW_=>?_)
    generalize wr.drew=w87 at BK408 HB HR418 hHeld ⊢
    refine pu_ (i:=0) (N:=some 35) (v:=?_) (a':=?_) #[Y,Z,Z,Z,Z,Z,Z,Z] rfl rfl HT_.out (by kernel_rfl) (fun _ _ _ h=>h) (by rfl) ?_ ?_ ?_;rotate_left;(intro w';go_simp;with_reducible rfl);rotate_left;(simp only [Act.put,q1_,q2_,q3_,i64_w,i32_w];rfl)
    refine pu_ (i:=4) (N:=some 39) (v:=?_) (a':=?_) #[Y,Z,Z,Z,Y,Z,Z,Z] rfl rfl HT_.out (by kernel_rfl) (fun _ _ _ h=>h) (by rfl) ?_ ?_ ?_;rotate_left;(intro w';go_simp;with_reducible rfl);rotate_left;(simp only [Act.put,q1_,q2_,q3_,i64_w,i32_w];rfl)
    refine pu_ (i:=5) (N:=some 40) (v:=?_) (a':=?_) #[Y,Z,Z,Z,Y,Y,Z,Z] rfl rfl HT_.out (by kernel_rfl) (fun _ _ _ h=>h) (by rfl) ?_ ?_ ?_;rotate_left;(intro w';go_simp;with_reducible rfl);rotate_left;(simp only [Act.put,q1_,q2_,q3_,i64_w,i32_w];rfl)
    refine ta_ (i:=6) (N:=some 41) (v:=?_) (a':=?_) #[Y,Z,Z,Z,Y,Y,Y,Z] rfl rfl HT_.out HW_.out (by kernel_rfl) (fun _ _ _ h=>h) (by rfl) ?_ hHeld ?_ ?_;rotate_left;(intro w' s0;go_simp;with_reducible rfl);rotate_left;(simp only [Act.put,q1_,q2_,q3_,i64_w,i32_w];rfl)
    refine one_ (i:=1) (N:=some 36) #[Y,Y,Z,Z,Y,Y,Y,Z] rfl rfl (one_of HT_.out (by kernel_rfl)) (by decide) (fun K hK=>?_)
    refine goes_ Try.func30 (by kernel_rfl) rfl #[.slice A86 (l0.drop 4).length (c0 - 4)] (by rfl) rfl rfl (by (try simp only [List.map_toArray,List.map_cons,List.map_nil]);first|done|(rw [show (l0.drop 4).length=(l0.length - 4) from List.length_drop] <;> rfl)|rfl|(simp only [List.length_drop,List.length_take];rfl)) ?_
    with_reducible refine (humusref02_Sum.calls k1 _ _ (l0.drop 4) t414 _ ?side1 ?side2 A15.out).mono ?_
    (case side1=>repeat (first|exact (Kd.C_below HR413.out HB.out)|(with_reducible refine Kd.C_alloc ?_ _)|(with_reducible refine Kd.C_drewN ?_ _)|(with_reducible refine Kd.C_drew ?_)))
    (case side2=>exact HC413.out)
    rintro e w' ⟨rfl,⟨nd,rfl⟩⟩;refine ⟨_,rfl,?_⟩
    refine hK.out _ _ ((by first|(have h_:=Kd.C_string (P:=Try.prog) (A:=A0) (c:=c0) Try.underlying22 Try.underlying5 Try.underlying9 (Kd.C_below HR418.out HB.out);rw [List.length_take] at h_;exact h_)|(rw [← List.length_take];exact Kd.C_string (P:=Try.prog) (A:=A0) (c:=c0) Try.underlying22 Try.underlying5 Try.underlying9 (Kd.C_drewN (Kd.C_below HR418.out HB.out) _)))) (fun hHeld=>?_)
    clear hK K
    refine norm_ (a':=?_) ?_ ?_;rotate_left;(show Act.put _ (some 36) _=_;simp only [Act.put,q1_,q2_,q3_,i64_w,i32_w];rfl)
    refine one_ (i:=2) (N:=some 37) #[Y,Y,Y,Z,Y,Y,Y,Z] rfl rfl (one_of HT_.out (by kernel_rfl)) (by decide) (fun K hK=>?_)
    refine goes_ Try.func29 (by kernel_rfl) rfl #[.int .u32 t414] (by rfl) rfl rfl (by (try simp only [List.map_toArray,List.map_cons,List.map_nil]);first|done|rfl|(simp only [List.length_drop,List.length_take];rfl)) ?_
    with_reducible refine (humusref02_Four.calls t414 t415 _ A16.out).mono ?_
    rintro e w89 ⟨v416,rfl,ho0,hb⟩;refine ⟨_,rfl,?_⟩
    have n0_:=A_ (Kd.R_lower (Kd.R_newM (M:=fun k_=>(w.heap.size≤k_)) ho0 (bz_ (hb1_ HB.out GE408.out)) (fun k_ h_=>h_)) (bz_ (hb1_ HB.out GE408.out)))
    have n1_:=A_ (bx_ BK408.out kf_ hb);have n2_:=A_ (bp_ (hb1_ HB.out GE408.out) hb);clear BK408;clear HB;have HO417:=n0_;have BK408:=n1_;have HB:=n2_;clear n0_ n1_ n2_;(try clear hb);(try clear hb2);(try clear hk);(try clear hi);(try clear ho0)
    refine hK.out _ _ ((by first|(have h_:=Kd.C_string (P:=Try.prog) (A:=A0) (c:=c0) Try.underlying22 Try.underlying5 Try.underlying9 (Kd.C_below HR418.out HB.out);rw [List.length_take] at h_;exact h_)|(rw [← List.length_take];exact Kd.C_string (P:=Try.prog) (A:=A0) (c:=c0) Try.underlying22 Try.underlying5 Try.underlying9 (Kd.C_drewN (Kd.C_below HR418.out HB.out) _)))) (fun hHeld=>?_)
    clear hK K
    refine norm_ (a':=?_) ?_ ?_;rotate_left;(show Act.put _ (some 37) _=_;simp only [Act.put,q1_,q2_,q3_,i64_w,i32_w];rfl)
    refine one_ (i:=3) (N:=some 38) #[Y,Y,Y,Y,Y,Y,Y,Z] rfl rfl (one_of HT_.out (by kernel_rfl)) (by decide) (fun K hK=>?_)
    have hcv90:=own_string (P:=Try.prog) Try.underlying22 Try.underlying5 Try.underlying9 (Kd.own_of_R HO417.out)
    refine value_ (w1:=?_) (v:=?_) (by rfl) rfl ?_ ?_
    rotate_left 2
    ·go_simp
     constructor
     ·rfl
     ·rfl
    clear hcv90
    refine hK.out _ _ ((by first|(have h_:=Kd.C_string (P:=Try.prog) (A:=A0) (c:=c0) Try.underlying22 Try.underlying5 Try.underlying9 (Kd.C_below HR418.out HB.out);rw [List.length_take] at h_;exact h_)|(rw [← List.length_take];exact Kd.C_string (P:=Try.prog) (A:=A0) (c:=c0) Try.underlying22 Try.underlying5 Try.underlying9 (Kd.C_drewN (Kd.C_below HR418.out HB.out) _)))) (fun hHeld=>?_)
    clear hK K
    refine norm_ (a':=?_) ?_ ?_;rotate_left;(show Act.put _ (some 38) _=_;simp only [Act.put,q1_,q2_,q3_,i64_w,i32_w];rfl)
    refine pu_ (i:=7) (N:=some 42) (v:=?_) (a':=?_) #[Y,Y,Y,Y,Y,Y,Y,Y] rfl rfl HT_.out (by kernel_rfl) (fun _ _ _ h=>h) (by rfl) ?_ ?_ ?_;rotate_left;(intro w';go_simp;with_reducible rfl);rotate_left;(simp only [Act.put,q1_,q2_,q3_,i64_w,i32_w];rfl)
    refine done_ (done_of HT_.out (by kernel_rfl)) ?_;have z91_0 : w89.cell? ⟨gb408,0,none⟩=some (.slice none 0 0):=(bc_ BK408.out 0).trans rfl;have z91_1 : w89.cell? ⟨gb408,1,none⟩=some (.slice none 0 0):=(bc_ BK408.out 1).trans rfl;have y91_0:=bf_ BK408.out 0;have y91_1:=bf_ BK408.out 1
    try go_wp2
    refine bodyPost_ret (results_ct rfl _ _ gb408 27 #[.slice none 0 0,.slice none 0 0] (0,0) _ rfl (by refine kk_ ?_;refine blk_put (cs:=#[.slice none 0 0,.slice none 0 0]) ?_ 1 _ rfl;refine kk_ ?_;refine blk_put (cs:=#[.slice none 0 0,.slice none 0 0]) ?_ 0 _ rfl;exact kk_ BK408.out) Try.underlying27 rfl (by kernel_rfl)) rfl ?_
    exact ⟨_,_,by first|rfl|(simp [errW_none,errW_some] <;> rfl)|(simp [*,errW_none,errW_some] <;> rfl),by first|exact Kd.R_nil _ _ _ _ _|exact Kd.N_nil _ _ _ _ _|exact Kd.V_nil _ _ _ _ _|exact Kd.Q_nil _ _ _ _ _|exact Kd.S_nil _ _ _ _ _,by first|exact Kd.S_nil _ _ _ _ _|exact Kd.N_nil _ _ _ _ _|exact Kd.V_nil _ _ _ _ _|exact Kd.Q_nil _ _ _ _ _|exact Kd.R_nil _ _ _ _ _,hb1_ HB.out GE408.out⟩
   rw [if_pos c18] at H
   have c18b0 : ((strOfNums t415).toList == (strOfNums (l0.take 4)).toList)=true:=beq_iff_eq.mpr c18;have c18b1 : ((strOfNums t415).toList != (strOfNums (l0.take 4)).toList)=false:=bne_eq_false_iff_eq.mpr c18;clear c18
   obtain ⟨y419,hy419⟩ : ∃ y_ : List Int,y_=(([1,3,3,3,3,1] : List Int)):=⟨_,rfl⟩
   replace H : (humusref08_Decode.j1 k1 l0 (l0.drop 4) y419 0)=some (r1,r2,r3):=by first|(rw [hy419];with_reducible exact H)|(have H2_:=(Option.bind_some _ _).symm.trans H;rw [hy419];with_reducible exact H2_)|(have H2_:=(Option.bind_some _ _).symm.trans H;with_reducible exact H2_)|with_reducible exact H|(rw [hy419];exact H)|exact H
   have Ny419:=A_ hy419;clear hy419;have HC19:=A_ H;clear H;obtain ⟨i020,hi020,_,hsz20,_⟩:=info_parts info5
   obtain ⟨A20,hcut20,hA20,hC20⟩:=print_drop_of (P:=Try.prog) (Value.int .u8) 0 22 5 .i64 Try.underlying22 hi020 hsz20 A0 c0 l0 4 (by omega) (od_ (by first|(with_reducible assumption)|assumption)) HC0.out
   have HR413:=A_ (Kd.C_of_reads (h1:=fun _=>rfl) (hA20 _ (Kd.reads_of_C HR0.out)))
   have HC413:=A_ hC20;clear hA20 hC20 hi020 hsz20
   try go_wp2
   have n0_:=A_ (ke_ BK408.out);have n1_:=A_ (be_ HB.out);clear BK408;clear HB;have BK408:=n0_;have HB:=n1_;clear n0_ n1_;obtain ⟨i022,hi022,_,hsz22,_⟩:=info_parts info5
   obtain ⟨hcut22,hA22,hC22⟩:=print_take_of (P:=Try.prog) (Value.int .u8) 0 22 5 .i64 Try.underlying22 hi022 hsz22 A0 c0 l0 4 (by omega) (od_ (by first|(with_reducible assumption)|assumption)) HC0.out
   have HR418:=A_ (Kd.C_of_reads (h1:=fun _=>rfl) (hA22 _ (Kd.reads_of_C HR0.out)))
   have HC418:=A_ hC22;clear hA22 hC22 hi022 hsz22
   refine start_ (n:=8) (S:=fun w'=>(convert 22 9 (.slice A0 (min 4 l0.length) c0)).run Try.prog w'=.ok (.string (strOfNums (l0.take 4))) w') (ds:=[]) #[Z,Z,Z,Z,Z,Z,Z,Z] (by kernel_rfl) rfl rfl ((by first|(have h_:=Kd.C_string (P:=Try.prog) (A:=A0) (c:=c0) Try.underlying22 Try.underlying5 Try.underlying9 (Kd.C_below HR418.out HB.out);rw [List.length_take] at h_;exact h_)|(rw [← List.length_take];exact Kd.C_string (P:=Try.prog) (A:=A0) (c:=c0) Try.underlying22 Try.underlying5 Try.underlying9 (Kd.C_drewN (Kd.C_below HR418.out HB.out) _)))) (fun hHeld=>?_);refine with_tabW humusref08_Decode.tab11 humusref08_Decode.bits11 (fun HT_ HW_=>?_)
   generalize wr.drew=w21 at BK408 HB HR418 hHeld ⊢
   refine pu_ (i:=0) (N:=some 35) (v:=?_) (a':=?_) #[Y,Z,Z,Z,Z,Z,Z,Z] rfl rfl HT_.out (by kernel_rfl) (fun _ _ _ h=>h) (by rfl) ?_ ?_ ?_;rotate_left;(intro w';go_simp;with_reducible rfl);rotate_left;(simp only [Act.put,q1_,q2_,q3_,i64_w,i32_w];rfl)
   refine pu_ (i:=4) (N:=some 39) (v:=?_) (a':=?_) #[Y,Z,Z,Z,Y,Z,Z,Z] rfl rfl HT_.out (by kernel_rfl) (fun _ _ _ h=>h) (by rfl) ?_ ?_ ?_;rotate_left;(intro w';go_simp;with_reducible rfl);rotate_left;(simp only [Act.put,q1_,q2_,q3_,i64_w,i32_w];rfl)
   refine pu_ (i:=5) (N:=some 40) (v:=?_) (a':=?_) #[Y,Z,Z,Z,Y,Y,Z,Z] rfl rfl HT_.out (by kernel_rfl) (fun _ _ _ h=>h) (by rfl) ?_ ?_ ?_;rotate_left;(intro w';go_simp;with_reducible rfl);rotate_left;(simp only [Act.put,q1_,q2_,q3_,i64_w,i32_w];rfl)
   refine ta_ (i:=6) (N:=some 41) (v:=?_) (a':=?_) #[Y,Z,Z,Z,Y,Y,Y,Z] rfl rfl HT_.out HW_.out (by kernel_rfl) (fun _ _ _ h=>h) (by rfl) ?_ hHeld ?_ ?_;rotate_left;(intro w' s0;go_simp;with_reducible rfl);rotate_left;(simp only [Act.put,q1_,q2_,q3_,i64_w,i32_w];rfl)
   refine one_ (i:=1) (N:=some 36) #[Y,Y,Z,Z,Y,Y,Y,Z] rfl rfl (one_of HT_.out (by kernel_rfl)) (by decide) (fun K hK=>?_)
   refine goes_ Try.func30 (by kernel_rfl) rfl #[.slice A20 (l0.drop 4).length (c0 - 4)] (by rfl) rfl rfl (by (try simp only [List.map_toArray,List.map_cons,List.map_nil]);first|done|(rw [show (l0.drop 4).length=(l0.length - 4) from List.length_drop] <;> rfl)|rfl|(simp only [List.length_drop,List.length_take];rfl)) ?_
   with_reducible refine (humusref02_Sum.calls k1 _ _ (l0.drop 4) t414 _ ?side1 ?side2 A15.out).mono ?_
   (case side1=>repeat (first|exact (Kd.C_below HR413.out HB.out)|(with_reducible refine Kd.C_alloc ?_ _)|(with_reducible refine Kd.C_drewN ?_ _)|(with_reducible refine Kd.C_drew ?_)))
   (case side2=>exact HC413.out)
   rintro e w' ⟨rfl,⟨nd,rfl⟩⟩;refine ⟨_,rfl,?_⟩
   refine hK.out _ _ ((by first|(have h_:=Kd.C_string (P:=Try.prog) (A:=A0) (c:=c0) Try.underlying22 Try.underlying5 Try.underlying9 (Kd.C_below HR418.out HB.out);rw [List.length_take] at h_;exact h_)|(rw [← List.length_take];exact Kd.C_string (P:=Try.prog) (A:=A0) (c:=c0) Try.underlying22 Try.underlying5 Try.underlying9 (Kd.C_drewN (Kd.C_below HR418.out HB.out) _)))) (fun hHeld=>?_)
   clear hK K
   refine norm_ (a':=?_) ?_ ?_;rotate_left;(show Act.put _ (some 36) _=_;simp only [Act.put,q1_,q2_,q3_,i64_w,i32_w];rfl)
   refine one_ (i:=2) (N:=some 37) #[Y,Y,Y,Z,Y,Y,Y,Z] rfl rfl (one_of HT_.out (by kernel_rfl)) (by decide) (fun K hK=>?_)
   refine goes_ Try.func29 (by kernel_rfl) rfl #[.int .u32 t414] (by rfl) rfl rfl (by (try simp only [List.map_toArray,List.map_cons,List.map_nil]);first|done|rfl|(simp only [List.length_drop,List.length_take];rfl)) ?_
   with_reducible refine (humusref02_Four.calls t414 t415 _ A16.out).mono ?_
   rintro e w23 ⟨v416,rfl,ho0,hb⟩;refine ⟨_,rfl,?_⟩
   have n0_:=A_ (Kd.R_lower (Kd.R_newM (M:=fun k_=>(w.heap.size≤k_)) ho0 (bz_ (hb1_ HB.out GE408.out)) (fun k_ h_=>h_)) (bz_ (hb1_ HB.out GE408.out)))
   have n1_:=A_ (bx_ BK408.out kf_ hb);have n2_:=A_ (bp_ (hb1_ HB.out GE408.out) hb);clear BK408;clear HB;have HO417:=n0_;have BK408:=n1_;have HB:=n2_;clear n0_ n1_ n2_;(try clear hb);(try clear hb2);(try clear hk);(try clear hi);(try clear ho0)
   refine hK.out _ _ ((by first|(have h_:=Kd.C_string (P:=Try.prog) (A:=A0) (c:=c0) Try.underlying22 Try.underlying5 Try.underlying9 (Kd.C_below HR418.out HB.out);rw [List.length_take] at h_;exact h_)|(rw [← List.length_take];exact Kd.C_string (P:=Try.prog) (A:=A0) (c:=c0) Try.underlying22 Try.underlying5 Try.underlying9 (Kd.C_drewN (Kd.C_below HR418.out HB.out) _)))) (fun hHeld=>?_)
   clear hK K
   refine norm_ (a':=?_) ?_ ?_;rotate_left;(show Act.put _ (some 37) _=_;simp only [Act.put,q1_,q2_,q3_,i64_w,i32_w];rfl)
   refine one_ (i:=3) (N:=some 38) #[Y,Y,Y,Y,Y,Y,Y,Z] rfl rfl (one_of HT_.out (by kernel_rfl)) (by decide) (fun K hK=>?_)
   have hcv24:=own_string (P:=Try.prog) Try.underlying22 Try.underlying5 Try.underlying9 (Kd.own_of_R HO417.out)
   refine value_ (w1:=?_) (v:=?_) (by rfl) rfl ?_ ?_
   rotate_left 2
   ·go_simp
    constructor
    ·rfl
    ·rfl
   clear hcv24
   refine hK.out _ _ ((by first|(have h_:=Kd.C_string (P:=Try.prog) (A:=A0) (c:=c0) Try.underlying22 Try.underlying5 Try.underlying9 (Kd.C_below HR418.out HB.out);rw [List.length_take] at h_;exact h_)|(rw [← List.length_take];exact Kd.C_string (P:=Try.prog) (A:=A0) (c:=c0) Try.underlying22 Try.underlying5 Try.underlying9 (Kd.C_drewN (Kd.C_below HR418.out HB.out) _)))) (fun hHeld=>?_)
   clear hK K
   refine norm_ (a':=?_) ?_ ?_;rotate_left;(show Act.put _ (some 38) _=_;simp only [Act.put,q1_,q2_,q3_,i64_w,i32_w];rfl)
   refine pu_ (i:=7) (N:=some 42) (v:=?_) (a':=?_) #[Y,Y,Y,Y,Y,Y,Y,Y] rfl rfl HT_.out (by kernel_rfl) (fun _ _ _ h=>h) (by rfl) ?_ ?_ ?_;rotate_left;(intro w';go_simp;with_reducible rfl);rotate_left;(simp only [Act.put,q1_,q2_,q3_,i64_w,i32_w];rfl)
   refine done_ (done_of HT_.out (by kernel_rfl)) ?_
   go_upto_region 14 with (first|((with_reducible refine gate_dst (N:=44) rfl ?_);refine Kd.R_lit (Kd.int .i64) _ 3 ?hg (N:=44) ?hd (xs:=([1,3,3,3,3,1] : List Int)) (inner:=[.int .i64 1,.int .i64 3,.int .i64 3,.int .i64 3,.int .i64 3,.int .i64 1]) (ok:=fun _=>True) (okp:=fun _=>True) ?hr ?hp (fun _ hk=>hk) trivial (Below.refl _ _) (Nat.le_refl _) (by simp) ?_;(case hd=>rfl);(case hg=>rfl);(case hr=>first|(go_simp;done)|(go_simp;rfl));(case hp=>exact (Reps.one (show Kd.M (Kd.int .i64) _ _ _ 1 [.int .i64 1] from rfl) (Reps.one (show Kd.M (Kd.int .i64) _ _ _ 3 [.int .i64 3] from rfl) (Reps.one (show Kd.M (Kd.int .i64) _ _ _ 3 [.int .i64 3] from rfl) (Reps.one (show Kd.M (Kd.int .i64) _ _ _ 3 [.int .i64 3] from rfl) (Reps.one (show Kd.M (Kd.int .i64) _ _ _ 3 [.int .i64 3] from rfl) (Reps.one (show Kd.M (Kd.int .i64) _ _ _ 1 [.int .i64 1] from rfl) (Reps.none _ _))))))));intro v420 w25 ho26 hb hg_ hnew_;clear hg_ hnew_;(first|rw [← Ny419.out] at ho26|(simp only [Int.reduceToNat] at ho26;rw [← Ny419.out] at ho26));have n0_:=A_ (Kd.R_below (by (with_reducible repeat (first|apply ra_|apply rn_|apply re_));exact HO417.out) hb);have n1_:=A_ (Kd.R_lower (Kd.R_newM (M:=fun k_=>(w.heap.size≤k_)) ho26 (bz_ (hb1_ HB.out GE408.out)) (fun k_ h_=>h_)) (bz_ (hb1_ HB.out GE408.out)));have n2_:=A_ (bx_ BK408.out kf_ hb);have n3_:=A_ (bp_ (hb1_ HB.out GE408.out) hb);clear HO417;clear BK408;clear HB;have HO417:=n0_;have HO421:=n1_;have BK408:=n2_;have HB:=n3_;clear n0_ n1_ n2_ n3_;clear hb ho26))
   (try simp only [Act.put,u1_,u2_,u3_])
   go_cut [8] (fun v8 wc=>∃ (kq : Nat) (x8_18 : Int),v8=.int .i64 x8_18∧Aside0 (humusref08_Decode.j1 kq l0 (l0.drop 4) y419 x8_18=some (r1,r2,r3))∧Aside0 (kq≤k1)∧Aside0 (Kd.R (Kd.int .i64) 3 wc w.heap.size (fun k_=>(w.heap.size≤k_)) v420 y419)∧Aside0 (wc.heap[gb408]?=some (.cells #[(.slice none 0 0),(.slice none 0 0)] 27 (0,0)))∧Aside0 (Below w.heap.size w wc))
   case first =>
    have H:=HC19.out;clear HC19;have H':=A_ H;clear H;go_wp2;go_meet
    case rel=>exact ⟨_,(0),(by first|rfl|(simp;done)|(simp [*];done)),H',⟨by have:=HK1.out;first|omega|exact Nat.le_refl _⟩,⟨by (with_reducible repeat (first|apply ra_|apply rn_|apply re_));exact Kd.R_mono HO421.out (fun _ hk=>hk.1)⟩,⟨by exact kk_ BK408.out⟩,⟨hb1_ HB.out GE408.out⟩⟩
   case rest =>
    clear HC19;(try clear c1);(try clear c2);(try clear c2b0);(try clear c2b1);(try clear p2);(try clear hcv2);(try clear c3);(try clear c4);(try clear c4b0);(try clear p4);(try clear q4);(try clear hx4);(try clear c5);(try clear c6);(try clear c6b0);(try clear p6);(try clear c7);(try clear c7b0);(try clear c8);(try clear c9);(try clear c9b0);(try clear c9b1);(try clear c10);(try clear c14);(try clear c14b0);(try clear c14b1);(try clear c17);(try clear c17b0);(try clear c18);(try clear c18b0);(try clear c18b1);(try clear hcv24);(try clear hx409_0);(try clear p2);(try clear p409);(try clear q409);(try clear z13_0 z13_1 y13_0 y13_1);obtain ⟨kq,x8_18,rfl,HA,HJ18,HO_7,BK408,HB⟩:=hcut
    cases kq with
    | zero=>exact absurd HA.out (by simp [humusref08_Decode.j1])
    | succ kj18 =>
     have H:=HA.out;clear HA
     simp only [humusref08_Decode.j1] at H
     have H':=A_ H;clear H;go_wp2
     go_loopg [7,8] kj18 (fun kq v7 v8 w'=>∃ (x7_3 : List Int) (x8_3 : Int),v8=.int .i64 x8_3∧Aside0 (humusref08_Decode.l1 kq l0 (l0.drop 4) x7_3 x8_3=some (r1,r2,r3))∧Aside0 (kq≤kj18)∧Aside0 (Kd.R (Kd.int .i64) 3 w' w.heap.size (fun k_=>(w.heap.size≤k_)) v7 x7_3)∧Aside0 (w'.heap[gb408]?=some (.cells #[(.slice none 0 0),(.slice none 0 0)] 27 (0,0)))∧Aside0 (Below w.heap.size w w'))
     case atStart=>exact ⟨(y419),(x8_18),(by first|rfl|(simp;done)|(simp [*];done)),H',⟨Nat.le_refl _⟩,⟨by (with_reducible repeat (first|apply ra_|apply rn_|apply re_));exact HO_7.out⟩,⟨by exact kk_ BK408.out⟩,⟨hb1_ HB.out GE408.out⟩⟩
     case round =>
      clear H';(try clear c1);(try clear c2);(try clear c2b0);(try clear c2b1);(try clear p2);(try clear hcv2);(try clear c3);(try clear c4);(try clear c4b0);(try clear p4);(try clear q4);(try clear hx4);(try clear c5);(try clear c6);(try clear c6b0);(try clear p6);(try clear c7);(try clear c7b0);(try clear c8);(try clear c9);(try clear c9b0);(try clear c9b1);(try clear c10);(try clear c14);(try clear c14b0);(try clear c14b1);(try clear c17);(try clear c17b0);(try clear c18);(try clear c18b0);(try clear c18b1);(try clear hcv24);(try clear hx409_0);(try clear p2);(try clear p4);(try clear p409);(try clear p6);(try clear q4);(try clear q409);(try clear z13_0 z13_1 y13_0 y13_1);obtain ⟨x7_3,x8_3,rfl,HA,HK3,HO_7,BK408,HB⟩:=hrel
      cases gk with
      | zero=>exact absurd HA.out (by simp [humusref08_Decode.l1])
      | succ k3 =>
       have H:=HA.out;clear HA
       simp only [humusref08_Decode.l1] at H
       by_cases c27 : 17<((l0.drop 4).length : Int)
       rotate_left
       ·rw [if_neg c27] at H
        exact absurd H (by simp)
       rw [if_pos c27] at H
       have c27b0 : decide (17<((l0.drop 4).length : Int))=true:=dt_ c27
       have c27b1 : decide (17<(l0.drop 4).length)=true:=dt_ (by omega)
       clear c27
       by_cases c28 : x8_3<(wrap64 (rd (l0.drop 4) 17))
       ·rw [if_pos c28] at H
        have c28b0 : decide (x8_3<(wrap64 (rd (l0.drop 4) 17)))=true:=dt_ c28;clear c28
        by_cases c29 : x7_3.length<17592186044416
        rotate_left
        ·rw [if_neg c29] at H
         exact absurd H (by simp)
        rw [if_pos c29] at H
        have LMc29:=A_ c29;clear c29
        obtain ⟨y423,hy423⟩ : ∃ y_ : List Int,y_=(x7_3++[5]):=⟨_,rfl⟩
        replace H : (humusref08_Decode.l1 k3 l0 (l0.drop 4) y423 (wrap64 (x8_3 + 1)))=some (r1,r2,r3):=by first|(rw [hy423];with_reducible exact H)|(have H2_:=(Option.bind_some _ _).symm.trans H;rw [hy423];with_reducible exact H2_)|(have H2_:=(Option.bind_some _ _).symm.trans H;with_reducible exact H2_)|with_reducible exact H|(rw [hy423];exact H)|exact H
        have Ny423:=A_ hy423;clear hy423;have H':=A_ H;clear H
        have p422 : 0≤(17 : Int):=(by omega)
        have q422 : 17<((l0.drop 4).length : Int):=od_ (by first|(with_reducible assumption)|assumption)
        obtain ⟨ad422,e422,hx422_0⟩:=Kd.at_int HR413.out 17 p422 q422
        cases e422
        (try simp only [N17_,Nat.reduceMul,Nat.reduceEqDiff,Go.Addr.add,↓reduceIte] at hx422_0)
        have qi422 : (17<(l0.drop 4).length)=True:=eq_true (by omega)
        replace hx422_0:=(HB.out.cell (wb_ w _ hx422_0)).trans hx422_0;replace p422:=eq_true p422;replace q422:=eq_true q422
        have qd422 : (17<((l0.length - 4 : Nat) : Int))=True:=by have h_:=q422;rw [List.length_drop] at h_;exact h_
        go_wp2_with (first|((with_reducible refine gate_builtin (b:=.append) (xs:=#[.tmp 53,.tmp 54]) rfl ?_);at_builtin;refine Kd.R_append (Kd.int .i64) (w0:=w) w.heap.size rfl (.tmp 53) (.tmp 54) 24 3 (.int .i64 0) 8 rfl Try.underlying24 info3 rfl (by decide) (by omega) u7 x7_3 5 [.int .i64 5] (fun k_=>(w.heap.size≤k_)) (fun _=>False) rfl rfl ?aP (fun _ hk=>hk.elim) ?aF ?aO ?aB ?aS ?aL ?_;(case aP=>exact rfl);(case aB=>exact (hb1_ HB.out GE408.out));(case aF=>exact (fun k_ hk=>(Nat.le_trans (bz_ (hb1_ HB.out GE408.out)) hk)));(case aO=>exact (by (with_reducible repeat (first|apply ra_|apply rn_|apply re_));exact HO_7.out));(case aS=>exact (bz_ (hb1_ HB.out GE408.out)));(case aL=>have:=LMc29.out;omega);intro v424 w30 ho hb hg hat;rw [← Ny423.out] at ho;have n0_:=A_ (blk_grown (g:=gb408) (o:=.cells #[.slice none 0 0,.slice none 0 0] 27 (0,0)) (by exact kk_ BK408.out) hg (Kd.R_ne HO_7.out BK408.out (by decide)));have n1_:=A_ (hb);have n2_:=A_ (ho);clear BK408;clear HB;clear HO_7;have BK408:=n0_;have HB:=n1_;have HO425:=n2_;clear n0_ n1_ n2_;clear ho hb hg hat))
        go_roundg k3
        case measure=>have:=HK1.out;have:=HJ18.out;have:=HK3.out;omega
        case rel=>exact ⟨(y423),(wrap64 (x8_3 + 1)),(by first|rfl|(simp;done)|(simp [*];done)),H',⟨by have:=HK1.out;have:=HJ18.out;have:=HK3.out;omega⟩,⟨by (with_reducible repeat (first|apply ra_|apply rn_|apply re_));exact HO425.out⟩,⟨by exact kk_ BK408.out⟩,⟨hb1_ HB.out GE408.out⟩⟩
       rw [if_neg c28] at H
       have c28b0 : decide (x8_3<(wrap64 (rd (l0.drop 4) 17)))=false:=df_ c28;clear c28;replace H:=Option.bind_eq_some_iff.mp H;obtain ⟨⟨t426,t427,t428⟩,A310,H⟩:=H;replace H : (humusref08_Decode.j3 k3 l0 t426 (t428 != 0))=some (r1,r2,r3):=H;have A31:=A_ A310;clear A310;have HC32:=A_ H;clear H
       have p422 : 0≤(17 : Int):=(by omega)
       have q422 : 17<((l0.drop 4).length : Int):=od_ (by first|(with_reducible assumption)|assumption)
       obtain ⟨ad422,e422,hx422_0⟩:=Kd.at_int HR413.out 17 p422 q422
       cases e422
       (try simp only [N17_,Nat.reduceMul,Nat.reduceEqDiff,Go.Addr.add,↓reduceIte] at hx422_0)
       have qi422 : (17<(l0.drop 4).length)=True:=eq_true (by omega)
       replace hx422_0:=(HB.out.cell (wb_ w _ hx422_0)).trans hx422_0;replace p422:=eq_true p422;replace q422:=eq_true q422
       have qd422 : (17<((l0.length - 4 : Nat) : Int))=True:=by have h_:=q422;rw [List.length_drop] at h_;exact h_
       obtain ⟨Ao33,co33,eo33⟩:=Kd.R_slice HO_7.out;subst eo33
       go_upto_region 19 with (first|((with_reducible refine gate_callee (f:=31) rfl ?_);refine goesL_ (some 59) rfl rfl Try.func31 (by kernel_rfl) rfl #[.slice (some ad422) (l0.drop 4).length (c0 - 4),.slice Ao33 x7_3.length co33] rfl (by (try simp only [List.map_toArray,List.map_cons,List.map_nil]);first|done|(rw [show (l0.drop 4).length=(l0.length - 4) from List.length_drop] <;> rfl)|rfl|(simp only [List.length_drop,List.length_take];rfl)) ?_;(with_reducible refine (humusref03_Take.calls _ _ (l0.drop 4) _ _ x7_3 t426 t427 t428 _ ?side1 ?side2 ?side3 ?side4 A31.out).mono ?_);(case side1=>repeat (first|exact (Kd.C_below HR413.out HB.out)|(with_reducible refine Kd.C_alloc ?_ _)|(with_reducible refine Kd.C_drewN ?_ _)|(with_reducible refine Kd.C_drew ?_)));(case side2=>exact HC413.out);(case side3=>repeat (first|exact (Kd.R_reads' HO_7.out).2.2|(with_reducible refine Kd.C_alloc ?_ _)|(with_reducible refine Kd.C_drewN ?_ _)|(with_reducible refine Kd.C_drew ?_)));(case side4=>exact (Kd.R_reads' HO_7.out).2.1);rintro e w34 ⟨v429,rfl,ho0,hb⟩;refine ⟨_,rfl,?_⟩;have n0_:=A_ (Kd.R_below (by (with_reducible repeat (first|apply ra_|apply rn_|apply re_));exact HO_7.out) hb);have n1_:=A_ (Kd.R_lower (Kd.R_newM (M:=fun k_=>(w.heap.size≤k_)) ho0 (bz_ (hb1_ HB.out GE408.out)) (fun k_ h_=>h_)) (bz_ (hb1_ HB.out GE408.out)));have n2_:=A_ (bx_ BK408.out kf_ hb);have n3_:=A_ (bp_ (hb1_ HB.out GE408.out) hb);clear HO_7;clear BK408;clear HB;have HO_7:=n0_;have HO430:=n1_;have BK408:=n2_;have HB:=n3_;clear n0_ n1_ n2_ n3_;(try clear hb);(try clear hb2);(try clear hk);(try clear hi);(try clear ho0)))
       (try simp only [Act.put,u1_,u2_,u3_])
       go_cut [64] (fun v64 wc=>∃ (kq : Nat) (x64_31 : Bool),v64=.bool x64_31∧Aside0 (humusref08_Decode.j3 kq l0 t426 x64_31=some (r1,r2,r3))∧Aside0 (kq≤k3)∧Aside0 (Kd.R k56 56 wc w.heap.size (fun k_=>(w.heap.size≤k_)) v429 t426)∧Aside0 (wc.heap[gb408]?=some (.cells #[(.slice none 0 0),(.slice none 0 0)] 27 (0,0)))∧Aside0 (Below w.heap.size w wc))
       case first =>
        have H:=HC32.out;clear HC32;have H':=A_ H;clear H;go_wp2;go_meet
        case rel=>exact ⟨_,((t428 != 0)),(by first|rfl|(simp;done)|(simp [*];done)),H',⟨by have:=HK1.out;have:=HJ18.out;have:=HK3.out;first|omega|exact Nat.le_refl _⟩,⟨by (with_reducible repeat (first|apply ra_|apply rn_|apply re_));exact Kd.R_mono HO430.out (fun _ hk=>hk.1)⟩,⟨by exact kk_ BK408.out⟩,⟨hb1_ HB.out GE408.out⟩⟩
       case rest =>
        clear HC32;(try clear c1);(try clear c2);(try clear c2b0);(try clear c2b1);(try clear p2);(try clear hcv2);(try clear c3);(try clear c4);(try clear c4b0);(try clear p4);(try clear q4);(try clear hx4);(try clear qi4);(try clear c5);(try clear c6);(try clear c6b0);(try clear p6);(try clear c7);(try clear c7b0);(try clear c8);(try clear c9);(try clear c9b0);(try clear c9b1);(try clear c10);(try clear c14);(try clear c14b0);(try clear c14b1);(try clear c17);(try clear c17b0);(try clear c18);(try clear c18b0);(try clear c18b1);(try clear hcv24);(try clear c27);(try clear c27b0);(try clear c27b1);(try clear c28);(try clear c28b0);(try clear c29);(try clear c30);(try clear c31);(try clear hx409_0);(try clear hx422_0);(try clear p2);(try clear p4);(try clear p409);(try clear p422);(try clear p6);(try clear q4);(try clear q409);(try clear q422);(try clear z13_0 z13_1 y13_0 y13_1);obtain ⟨kq,x64_31,rfl,HA,HJ31,HO_9,BK408,HB⟩:=hcut
        cases kq with
        | zero=>exact absurd HA.out (by simp [humusref08_Decode.j3])
        | succ kj31 =>
         have H:=HA.out;clear HA
         simp only [humusref08_Decode.j3] at H
         by_cases c35 : x64_31=true
         ·subst c35
          have H1 : (some (([] : List Int),([] : List (List Int)),4))=some (r1,r2,r3):=by rw [if_pos rfl] at H;exact H
          clear H;have H:=H1;clear H1
          simp only [Option.some.injEq,Prod.mk.injEq] at H
          obtain ⟨rfl,rfl,rfl⟩:=H;have z36_0 : wc.cell? ⟨gb408,0,none⟩=some (.slice none 0 0):=(bc_ BK408.out 0).trans rfl;have z36_1 : wc.cell? ⟨gb408,1,none⟩=some (.slice none 0 0):=(bc_ BK408.out 1).trans rfl;have y36_0:=bf_ BK408.out 0;have y36_1:=bf_ BK408.out 1;go_wp2
          refine bodyPost_ret (results_ct rfl _ _ gb408 27 #[.slice none 0 0,.slice none 0 0] (0,0) _ rfl (by refine kk_ ?_;refine blk_put (cs:=#[.slice none 0 0,.slice none 0 0]) ?_ 1 _ rfl;refine kk_ ?_;refine blk_put (cs:=#[.slice none 0 0,.slice none 0 0]) ?_ 0 _ rfl;exact kk_ BK408.out) Try.underlying27 rfl (by kernel_rfl)) rfl ?_
          exact ⟨_,_,by first|rfl|(simp [errW_none,errW_some] <;> rfl)|(simp [*,errW_none,errW_some] <;> rfl),by first|exact Kd.R_nil _ _ _ _ _|exact Kd.N_nil _ _ _ _ _|exact Kd.V_nil _ _ _ _ _|exact Kd.Q_nil _ _ _ _ _|exact Kd.S_nil _ _ _ _ _,by first|exact Kd.S_nil _ _ _ _ _|exact Kd.N_nil _ _ _ _ _|exact Kd.V_nil _ _ _ _ _|exact Kd.Q_nil _ _ _ _ _|exact Kd.R_nil _ _ _ _ _,hb1_ HB.out GE408.out⟩
         replace c35:=Bool.eq_false_iff.mpr c35
         subst c35
         have H1 : (if 1<(t426.length : Int) then (if 2<(t426.length : Int) then (if 3<(t426.length : Int) then (if 4<(t426.length : Int) then (humusref08_Decode.l2 kj31 l0 t426 6 (([(rd_T56 t426 1).f1,(rd_T56 t426 2).f1,(rd_T56 t426 3).f1,(rd_T56 t426 4).f1] : List Int)) ([] : List (List Int))) else (none)) else (none)) else (none)) else (none))=some (r1,r2,r3):=by rw [if_neg (show ¬ (false=true) by decide)] at H;exact H
         clear H;have H:=H1;clear H1
         by_cases c37 : 1<(t426.length : Int)
         rotate_left
         ·rw [if_neg c37] at H
          exact absurd H (by simp)
         rw [if_pos c37] at H
         have c37b0 : decide (1<(t426.length : Int))=true:=dt_ c37
         have c37b1 : decide (1<t426.length)=true:=dt_ (by omega)
         clear c37
         by_cases c38 : 2<(t426.length : Int)
         rotate_left
         ·rw [if_neg c38] at H
          exact absurd H (by simp)
         rw [if_pos c38] at H
         have c38b0 : decide (2<(t426.length : Int))=true:=dt_ c38
         have c38b1 : decide (2<t426.length)=true:=dt_ (by omega)
         clear c38
         by_cases c39 : 3<(t426.length : Int)
         rotate_left
         ·rw [if_neg c39] at H
          exact absurd H (by simp)
         rw [if_pos c39] at H
         have c39b0 : decide (3<(t426.length : Int))=true:=dt_ c39
         have c39b1 : decide (3<t426.length)=true:=dt_ (by omega)
         clear c39
         by_cases c40 : 4<(t426.length : Int)
         rotate_left
         ·rw [if_neg c40] at H
          exact absurd H (by simp)
         rw [if_pos c40] at H
         have c40b0 : decide (4<(t426.length : Int))=true:=dt_ c40
         have c40b1 : decide (4<t426.length)=true:=dt_ (by omega)
         clear c40
         obtain ⟨y435,hy435⟩ : ∃ y_ : List Int,y_=(([(rd_T56 t426 1).f1,(rd_T56 t426 2).f1,(rd_T56 t426 3).f1,(rd_T56 t426 4).f1] : List Int)):=⟨_,rfl⟩
         replace H : (humusref08_Decode.l2 kj31 l0 t426 6 y435 ([] : List (List Int)))=some (r1,r2,r3):=by first|(rw [hy435];with_reducible exact H)|(have H2_:=(Option.bind_some _ _).symm.trans H;rw [hy435];with_reducible exact H2_)|(have H2_:=(Option.bind_some _ _).symm.trans H;with_reducible exact H2_)|with_reducible exact H|(rw [hy435];exact H)|exact H
         have Ny435:=A_ hy435;clear hy435;have H':=A_ H;clear H
         try go_wp2
         have n0_:=A_ (re_ HO_9.out);have n1_:=A_ (ke_ BK408.out);have n2_:=A_ (be_ HB.out);clear HO_9;clear BK408;clear HB;have HO_9:=n0_;have BK408:=n1_;have HB:=n2_;clear n0_ n1_ n2_;obtain ⟨Ao42,co42,eo42⟩:=Kd.R_slice HO_9.out
         (first|subst eo42|(injection eo42 with f1_ f2_ f3_;have f4_:=f1_.symm;have f5_:=f3_.symm;clear f1_ f2_ f3_;subst f4_;subst f5_))
         have p431 : 0≤(1 : Int):=(by omega)
         have q431 : 1<(t426.length : Int):=od_ (by first|(with_reducible assumption)|assumption)
         obtain ⟨ad431,e431,hx431_0,hx431_1,hx431_2,hx431_3⟩:=at_T56 (Kd.R_reads' HO_9.out).2.2 1 p431 q431
         cases e431
         (try simp only [N1_,Nat.reduceMul,Nat.reduceEqDiff,Go.Addr.add,↓reduceIte] at hx431_0 hx431_1 hx431_2 hx431_3)
         have qi431 : (1<t426.length)=True:=eq_true (by omega)
         replace p431:=eq_true p431;replace q431:=eq_true q431
         have p432 : 0≤(2 : Int):=(by omega)
         have q432 : 2<(t426.length : Int):=od_ (by first|(with_reducible assumption)|assumption)
         obtain ⟨ad432,e432,hx432_0,hx432_1,hx432_2,hx432_3⟩:=at_T56 (Kd.R_reads' HO_9.out).2.2 2 p432 q432
         obtain rfl : ad431=ad432:=(by injection e432)
         (try simp only [N2_,Nat.reduceMul,Nat.reduceEqDiff,Go.Addr.add,↓reduceIte] at hx432_0 hx432_1 hx432_2 hx432_3)
         have qi432 : (2<t426.length)=True:=eq_true (by omega)
         replace p432:=eq_true p432;replace q432:=eq_true q432
         have p433 : 0≤(3 : Int):=(by omega)
         have q433 : 3<(t426.length : Int):=od_ (by first|(with_reducible assumption)|assumption)
         obtain ⟨ad433,e433,hx433_0,hx433_1,hx433_2,hx433_3⟩:=at_T56 (Kd.R_reads' HO_9.out).2.2 3 p433 q433
         obtain rfl : ad431=ad433:=(by injection e433)
         (try simp only [N3_,Nat.reduceMul,Nat.reduceEqDiff,Go.Addr.add,↓reduceIte] at hx433_0 hx433_1 hx433_2 hx433_3)
         have qi433 : (3<t426.length)=True:=eq_true (by omega)
         replace p433:=eq_true p433;replace q433:=eq_true q433
         have p434 : 0≤(4 : Int):=(by omega)
         have q434 : 4<(t426.length : Int):=od_ (by first|(with_reducible assumption)|assumption)
         obtain ⟨ad434,e434,hx434_0,hx434_1,hx434_2,hx434_3⟩:=at_T56 (Kd.R_reads' HO_9.out).2.2 4 p434 q434
         obtain rfl : ad431=ad434:=(by injection e434)
         (try simp only [N4_,Nat.reduceMul,Nat.reduceEqDiff,Go.Addr.add,↓reduceIte] at hx434_0 hx434_1 hx434_2 hx434_3)
         have qi434 : (4<t426.length)=True:=eq_true (by omega)
         replace p434:=eq_true p434;replace q434:=eq_true q434
         refine start_ (n:=20) (S:=fun w'=>w'.cell? ⟨ad431.block,ad431.off + 4,none⟩=some (.int .i64 ((rd_T56 t426 1).f0))∧w'.cell? ⟨ad431.block,ad431.off + 4 + 1,none⟩=some (.int .i64 ((rd_T56 t426 1).f1))∧w'.cell? ⟨ad431.block,ad431.off + 4 + 2,none⟩=some (.float .f64 ((rd_T56 t426 1).f2))∧w'.cell? ⟨ad431.block,ad431.off + 4 + 3,none⟩=some (.string ((rd_T56 t426 1).f3))∧w'.cell? ⟨ad431.block,ad431.off + 8,none⟩=some (.int .i64 ((rd_T56 t426 2).f0))∧w'.cell? ⟨ad431.block,ad431.off + 8 + 1,none⟩=some (.int .i64 ((rd_T56 t426 2).f1))∧w'.cell? ⟨ad431.block,ad431.off + 8 + 2,none⟩=some (.float .f64 ((rd_T56 t426 2).f2))∧w'.cell? ⟨ad431.block,ad431.off + 8 + 3,none⟩=some (.string ((rd_T56 t426 2).f3))∧w'.cell? ⟨ad431.block,ad431.off + 12,none⟩=some (.int .i64 ((rd_T56 t426 3).f0))∧w'.cell? ⟨ad431.block,ad431.off + 12 + 1,none⟩=some (.int .i64 ((rd_T56 t426 3).f1))∧w'.cell? ⟨ad431.block,ad431.off + 12 + 2,none⟩=some (.float .f64 ((rd_T56 t426 3).f2))∧w'.cell? ⟨ad431.block,ad431.off + 12 + 3,none⟩=some (.string ((rd_T56 t426 3).f3))∧w'.cell? ⟨ad431.block,ad431.off + 16,none⟩=some (.int .i64 ((rd_T56 t426 4).f0))∧w'.cell? ⟨ad431.block,ad431.off + 16 + 1,none⟩=some (.int .i64 ((rd_T56 t426 4).f1))∧w'.cell? ⟨ad431.block,ad431.off + 16 + 2,none⟩=some (.float .f64 ((rd_T56 t426 4).f2))∧w'.cell? ⟨ad431.block,ad431.off + 16 + 3,none⟩=some (.string ((rd_T56 t426 4).f3))) (ds:=[]) #[Z,Z,Z,Z,Z,Z,Z,Z,Z,Z,Z,Z,Z,Z,Z,Z,Z,Z,Z,Z] (by kernel_rfl) rfl rfl ⟨hx431_0,hx431_1,hx431_2,hx431_3,hx432_0,hx432_1,hx432_2,hx432_3,hx433_0,hx433_1,hx433_2,hx433_3,hx434_0,hx434_1,hx434_2,hx434_3⟩ (fun hHeld=>?_);refine with_tabW humusref08_Decode.tab21 humusref08_Decode.bits21 (fun HT_ HW_=>?_)
         generalize wc.drew=w41 at HO_9 BK408 HB hx431_0 hx431_1 hx431_2 hx431_3 hx432_0 hx432_1 hx432_2 hx432_3 hx433_0 hx433_1 hx433_2 hx433_3 hx434_0 hx434_1 hx434_2 hx434_3 hHeld ⊢
         refine pu_ (i:=0) (N:=some 66) (v:=?_) (a':=?_) #[Y,Z,Z,Z,Z,Z,Z,Z,Z,Z,Z,Z,Z,Z,Z,Z,Z,Z,Z,Z] rfl rfl HT_.out (by kernel_rfl) (fun _ _ _ h=>h) (by rfl) ?_ ?_ ?_;rotate_left;(intro w';go_simp;with_reducible rfl);rotate_left;(simp only [Act.put,q1_,q2_,q3_,i64_w,i32_w];rfl)
         refine pu_ (i:=1) (N:=some 67) (v:=?_) (a':=?_) #[Y,Y,Z,Z,Z,Z,Z,Z,Z,Z,Z,Z,Z,Z,Z,Z,Z,Z,Z,Z] rfl rfl HT_.out (by kernel_rfl) (fun _ _ _ h=>h) (by rfl) ?_ ?_ ?_;rotate_left;(intro w';go_simp;with_reducible rfl);rotate_left;(simp only [Act.put,q1_,q2_,q3_,i64_w,i32_w];rfl)
         refine pu_ (i:=2) (N:=some 68) (v:=?_) (a':=?_) #[Y,Y,Y,Z,Z,Z,Z,Z,Z,Z,Z,Z,Z,Z,Z,Z,Z,Z,Z,Z] rfl rfl HT_.out (by kernel_rfl) (fun _ _ _ h=>h) (by rfl) ?_ ?_ ?_;rotate_left;(intro w';go_simp;with_reducible rfl);rotate_left;(simp only [Act.put,q1_,q2_,q3_,i64_w,i32_w];rfl)
         refine pu_ (i:=4) (N:=some 70) (v:=?_) (a':=?_) #[Y,Y,Y,Z,Y,Z,Z,Z,Z,Z,Z,Z,Z,Z,Z,Z,Z,Z,Z,Z] rfl rfl HT_.out (by kernel_rfl) (fun _ _ _ h=>h) (by rfl) ?_ ?_ ?_;rotate_left;(intro w';go_simp;with_reducible rfl);rotate_left;(simp only [Act.put,q1_,q2_,q3_,i64_w,i32_w];rfl)
         refine pu_ (i:=5) (N:=some 71) (v:=?_) (a':=?_) #[Y,Y,Y,Z,Y,Y,Z,Z,Z,Z,Z,Z,Z,Z,Z,Z,Z,Z,Z,Z] rfl rfl HT_.out (by kernel_rfl) (fun _ _ _ h=>h) (by rfl) ?_ ?_ ?_;rotate_left;(intro w';go_simp;with_reducible rfl);rotate_left;(simp only [Act.put,q1_,q2_,q3_,i64_w,i32_w];rfl)
         refine pu_ (i:=6) (N:=some 72) (v:=?_) (a':=?_) #[Y,Y,Y,Z,Y,Y,Y,Z,Z,Z,Z,Z,Z,Z,Z,Z,Z,Z,Z,Z] rfl rfl HT_.out (by kernel_rfl) (fun _ _ _ h=>h) (by rfl) ?_ ?_ ?_;rotate_left;(intro w';go_simp;with_reducible rfl);rotate_left;(simp only [Act.put,q1_,q2_,q3_,i64_w,i32_w];rfl)
         refine pu_ (i:=8) (N:=some 74) (v:=?_) (a':=?_) #[Y,Y,Y,Z,Y,Y,Y,Z,Y,Z,Z,Z,Z,Z,Z,Z,Z,Z,Z,Z] rfl rfl HT_.out (by kernel_rfl) (fun _ _ _ h=>h) (by rfl) ?_ ?_ ?_;rotate_left;(intro w';go_simp;with_reducible rfl);rotate_left;(simp only [Act.put,q1_,q2_,q3_,i64_w,i32_w];rfl)
         refine pu_ (i:=9) (N:=some 75) (v:=?_) (a':=?_) #[Y,Y,Y,Z,Y,Y,Y,Z,Y,Y,Z,Z,Z,Z,Z,Z,Z,Z,Z,Z] rfl rfl HT_.out (by kernel_rfl) (fun _ _ _ h=>h) (by rfl) ?_ ?_ ?_;rotate_left;(intro w';go_simp;with_reducible rfl);rotate_left;(simp only [Act.put,q1_,q2_,q3_,i64_w,i32_w];rfl)
         refine pu_ (i:=10) (N:=some 76) (v:=?_) (a':=?_) #[Y,Y,Y,Z,Y,Y,Y,Z,Y,Y,Y,Z,Z,Z,Z,Z,Z,Z,Z,Z] rfl rfl HT_.out (by kernel_rfl) (fun _ _ _ h=>h) (by rfl) ?_ ?_ ?_;rotate_left;(intro w';go_simp;with_reducible rfl);rotate_left;(simp only [Act.put,q1_,q2_,q3_,i64_w,i32_w];rfl)
         refine pu_ (i:=12) (N:=some 78) (v:=?_) (a':=?_) #[Y,Y,Y,Z,Y,Y,Y,Z,Y,Y,Y,Z,Y,Z,Z,Z,Z,Z,Z,Z] rfl rfl HT_.out (by kernel_rfl) (fun _ _ _ h=>h) (by rfl) ?_ ?_ ?_;rotate_left;(intro w';go_simp;with_reducible rfl);rotate_left;(simp only [Act.put,q1_,q2_,q3_,i64_w,i32_w];rfl)
         refine pu_ (i:=13) (N:=some 79) (v:=?_) (a':=?_) #[Y,Y,Y,Z,Y,Y,Y,Z,Y,Y,Y,Z,Y,Y,Z,Z,Z,Z,Z,Z] rfl rfl HT_.out (by kernel_rfl) (fun _ _ _ h=>h) (by rfl) ?_ ?_ ?_;rotate_left;(intro w';go_simp;with_reducible rfl);rotate_left;(simp only [Act.put,q1_,q2_,q3_,i64_w,i32_w];rfl)
         refine pu_ (i:=14) (N:=some 80) (v:=?_) (a':=?_) #[Y,Y,Y,Z,Y,Y,Y,Z,Y,Y,Y,Z,Y,Y,Y,Z,Z,Z,Z,Z] rfl rfl HT_.out (by kernel_rfl) (fun _ _ _ h=>h) (by rfl) ?_ ?_ ?_;rotate_left;(intro w';go_simp;with_reducible rfl);rotate_left;(simp only [Act.put,q1_,q2_,q3_,i64_w,i32_w];rfl)
         refine ta_ (i:=3) (N:=some 69) (v:=?_) (a':=?_) #[Y,Y,Y,Y,Y,Y,Y,Z,Y,Y,Y,Z,Y,Y,Y,Z,Z,Z,Z,Z] rfl rfl HT_.out HW_.out (by kernel_rfl) (fun _ _ _ h=>h) (by rfl) ?_ hHeld ?_ ?_;rotate_left;(rintro w' ⟨s0,s1,s2,s3,s4,s5,s6,s7,s8,s9,s10,s11,s12,s13,s14,s15⟩;go_simp;with_reducible rfl);rotate_left;(simp only [Act.put,q1_,q2_,q3_,i64_w,i32_w];rfl)
         refine ta_ (i:=7) (N:=some 73) (v:=?_) (a':=?_) #[Y,Y,Y,Y,Y,Y,Y,Y,Y,Y,Y,Z,Y,Y,Y,Z,Z,Z,Z,Z] rfl rfl HT_.out HW_.out (by kernel_rfl) (fun _ _ _ h=>h) (by rfl) ?_ hHeld ?_ ?_;rotate_left;(rintro w' ⟨s0,s1,s2,s3,s4,s5,s6,s7,s8,s9,s10,s11,s12,s13,s14,s15⟩;go_simp;with_reducible rfl);rotate_left;(simp only [Act.put,q1_,q2_,q3_,i64_w,i32_w];rfl)
         refine ta_ (i:=11) (N:=some 77) (v:=?_) (a':=?_) #[Y,Y,Y,Y,Y,Y,Y,Y,Y,Y,Y,Y,Y,Y,Y,Z,Z,Z,Z,Z] rfl rfl HT_.out HW_.out (by kernel_rfl) (fun _ _ _ h=>h) (by rfl) ?_ hHeld ?_ ?_;rotate_left;(rintro w' ⟨s0,s1,s2,s3,s4,s5,s6,s7,s8,s9,s10,s11,s12,s13,s14,s15⟩;go_simp;with_reducible rfl);rotate_left;(simp only [Act.put,q1_,q2_,q3_,i64_w,i32_w];rfl)
         refine ta_ (i:=15) (N:=some 81) (v:=?_) (a':=?_) #[Y,Y,Y,Y,Y,Y,Y,Y,Y,Y,Y,Y,Y,Y,Y,Y,Z,Z,Z,Z] rfl rfl HT_.out HW_.out (by kernel_rfl) (fun _ _ _ h=>h) (by rfl) ?_ hHeld ?_ ?_;rotate_left;(rintro w' ⟨s0,s1,s2,s3,s4,s5,s6,s7,s8,s9,s10,s11,s12,s13,s14,s15⟩;go_simp;with_reducible rfl);rotate_left;(simp only [Act.put,q1_,q2_,q3_,i64_w,i32_w];rfl)
         refine join_ (σ:=Value × Nat) 1 #[Y,Y,Y,Y,Y,Y,Y,Y,Y,Y,Y,Y,Y,Y,Y,Y,Y,Y,Y,Z] (fun s_=>[(82,s_.1),(12,.pointer (some ⟨s_.2,0,none⟩)),(83,.agg #[s_.1,.slice none 0 0])]) (fun s_ w'=>(w'.cell? ⟨ad431.block,ad431.off + 4,none⟩=some (.int .i64 ((rd_T56 t426 1).f0))∧w'.cell? ⟨ad431.block,ad431.off + 4 + 1,none⟩=some (.int .i64 ((rd_T56 t426 1).f1))∧w'.cell? ⟨ad431.block,ad431.off + 4 + 2,none⟩=some (.float .f64 ((rd_T56 t426 1).f2))∧w'.cell? ⟨ad431.block,ad431.off + 4 + 3,none⟩=some (.string ((rd_T56 t426 1).f3))∧w'.cell? ⟨ad431.block,ad431.off + 8,none⟩=some (.int .i64 ((rd_T56 t426 2).f0))∧w'.cell? ⟨ad431.block,ad431.off + 8 + 1,none⟩=some (.int .i64 ((rd_T56 t426 2).f1))∧w'.cell? ⟨ad431.block,ad431.off + 8 + 2,none⟩=some (.float .f64 ((rd_T56 t426 2).f2))∧w'.cell? ⟨ad431.block,ad431.off + 8 + 3,none⟩=some (.string ((rd_T56 t426 2).f3))∧w'.cell? ⟨ad431.block,ad431.off + 12,none⟩=some (.int .i64 ((rd_T56 t426 3).f0))∧w'.cell? ⟨ad431.block,ad431.off + 12 + 1,none⟩=some (.int .i64 ((rd_T56 t426 3).f1))∧w'.cell? ⟨ad431.block,ad431.off + 12 + 2,none⟩=some (.float .f64 ((rd_T56 t426 3).f2))∧w'.cell? ⟨ad431.block,ad431.off + 12 + 3,none⟩=some (.string ((rd_T56 t426 3).f3))∧w'.cell? ⟨ad431.block,ad431.off + 16,none⟩=some (.int .i64 ((rd_T56 t426 4).f0))∧w'.cell? ⟨ad431.block,ad431.off + 16 + 1,none⟩=some (.int .i64 ((rd_T56 t426 4).f1))∧w'.cell? ⟨ad431.block,ad431.off + 16 + 2,none⟩=some (.float .f64 ((rd_T56 t426 4).f2))∧w'.cell? ⟨ad431.block,ad431.off + 16 + 3,none⟩=some (.string ((rd_T56 t426 4).f3)))∧(Kd.R (Kd.int .i64) 3 w' w.heap.size (fun k_=>(w.heap.size≤k_)) s_.1 y435)∧(Kd.R k56 56 w' w.heap.size (fun k_=>(w.heap.size≤k_)) (.slice (some ad431) t426.length co42) t426)∧(w'.heap[gb408]?=some (.cells #[.slice none 0 0,.slice none 0 0] 27 (0,0)))∧(w'.heap[s_.2]?=some (.cells #[.slice none 0 0,.slice none 0 0] 27 (0,0)))∧(w.heap.size≤s_.2)∧(w.heap.size≤s_.2)∧(gb408≠s_.2)∧(s_.2≠gb408)∧(Below w.heap.size w w')) ?_ ?_
         rotate_left
         ·intro hCont
          refine two_ (i:=16) (j:=18) (Ni:=some 82) (Nj:=some 12) #[Y,Y,Y,Y,Y,Y,Y,Y,Y,Y,Y,Y,Y,Y,Y,Y,Y,Z,Z,Z] #[Y,Y,Y,Y,Y,Y,Y,Y,Y,Y,Y,Y,Y,Y,Y,Y,Z,Z,Y,Z] rfl rfl rfl rfl (two_of HT_.out (by kernel_rfl)) (by decide) (by decide) (fun K hK=>?_) (fun K hK=>?_)
          ·skip
           refine Kd.R_lit_step (Kd.int .i64) _ 3 ?hg (N:=82) ?hd (xs:=([(rd_T56 t426 1).f1,(rd_T56 t426 2).f1,(rd_T56 t426 3).f1,(rd_T56 t426 4).f1] : List Int)) (inner:=[.int .i64 ((rd_T56 t426 1).f1),.int .i64 ((rd_T56 t426 2).f1),.int .i64 ((rd_T56 t426 3).f1),.int .i64 ((rd_T56 t426 4).f1)]) (ok:=fun _=>True) (okp:=fun _=>True) ?hr ?hp (fun _ hk=>hk) trivial (Below.refl _ _) (Nat.le_refl _) (by simp) ?_;(case hd=>rfl);(case hg=>rfl);(case hr=>first|(go_simp;done)|(go_simp;rfl));(case hp=>exact (Reps.one (show Kd.M (Kd.int .i64) _ _ _ ((rd_T56 t426 1).f1) [.int .i64 ((rd_T56 t426 1).f1)] from rfl) (Reps.one (show Kd.M (Kd.int .i64) _ _ _ ((rd_T56 t426 2).f1) [.int .i64 ((rd_T56 t426 2).f1)] from rfl) (Reps.one (show Kd.M (Kd.int .i64) _ _ _ ((rd_T56 t426 3).f1) [.int .i64 ((rd_T56 t426 3).f1)] from rfl) (Reps.one (show Kd.M (Kd.int .i64) _ _ _ ((rd_T56 t426 4).f1) [.int .i64 ((rd_T56 t426 4).f1)] from rfl) (Reps.none _ _))))))
           intro v436 w43 ho44 hb hg_ hnew_;have HS0_:=(hb.cell (wb_ _ _ (hHeld.1))).trans (hHeld.1);have HS1_:=(hb.cell (wb_ _ _ (hHeld.2.1))).trans (hHeld.2.1);have HS2_:=(hb.cell (wb_ _ _ (hHeld.2.2.1))).trans (hHeld.2.2.1);have HS3_:=(hb.cell (wb_ _ _ (hHeld.2.2.2.1))).trans (hHeld.2.2.2.1);have HS4_:=(hb.cell (wb_ _ _ (hHeld.2.2.2.2.1))).trans (hHeld.2.2.2.2.1);have HS5_:=(hb.cell (wb_ _ _ (hHeld.2.2.2.2.2.1))).trans (hHeld.2.2.2.2.2.1);have HS6_:=(hb.cell (wb_ _ _ (hHeld.2.2.2.2.2.2.1))).trans (hHeld.2.2.2.2.2.2.1);have HS7_:=(hb.cell (wb_ _ _ (hHeld.2.2.2.2.2.2.2.1))).trans (hHeld.2.2.2.2.2.2.2.1);have HS8_:=(hb.cell (wb_ _ _ (hHeld.2.2.2.2.2.2.2.2.1))).trans (hHeld.2.2.2.2.2.2.2.2.1);have HS9_:=(hb.cell (wb_ _ _ (hHeld.2.2.2.2.2.2.2.2.2.1))).trans (hHeld.2.2.2.2.2.2.2.2.2.1);have HS10_:=(hb.cell (wb_ _ _ (hHeld.2.2.2.2.2.2.2.2.2.2.1))).trans (hHeld.2.2.2.2.2.2.2.2.2.2.1);have HS11_:=(hb.cell (wb_ _ _ (hHeld.2.2.2.2.2.2.2.2.2.2.2.1))).trans (hHeld.2.2.2.2.2.2.2.2.2.2.2.1);have HS12_:=(hb.cell (wb_ _ _ (hHeld.2.2.2.2.2.2.2.2.2.2.2.2.1))).trans (hHeld.2.2.2.2.2.2.2.2.2.2.2.2.1);have HS13_:=(hb.cell (wb_ _ _ (hHeld.2.2.2.2.2.2.2.2.2.2.2.2.2.1))).trans (hHeld.2.2.2.2.2.2.2.2.2.2.2.2.2.1);have HS14_:=(hb.cell (wb_ _ _ (hHeld.2.2.2.2.2.2.2.2.2.2.2.2.2.2.1))).trans (hHeld.2.2.2.2.2.2.2.2.2.2.2.2.2.2.1);have HS15_:=(hb.cell (wb_ _ _ (hHeld.2.2.2.2.2.2.2.2.2.2.2.2.2.2.2))).trans (hHeld.2.2.2.2.2.2.2.2.2.2.2.2.2.2.2);clear hg_ hnew_;(first|rw [← Ny435.out] at ho44|(simp only [Int.reduceToNat] at ho44;rw [← Ny435.out] at ho44))
           have n0_:=A_ (Kd.R_below (by (with_reducible repeat (first|apply ra_|apply rn_|apply re_));exact HO_9.out) hb)
           have n1_:=A_ (Kd.R_lower (Kd.R_newM (M:=fun k_=>(w.heap.size≤k_)) ho44 (bz_ (hb1_ HB.out GE408.out)) (fun k_ h_=>h_)) (bz_ (hb1_ HB.out GE408.out)))
           have n2_:=A_ (bx_ BK408.out kf_ hb);have n3_:=A_ (bp_ (hb1_ HB.out GE408.out) hb);clear HO_9;clear BK408;clear HB;have HO_9:=n0_;have HO437:=n1_;have BK408:=n2_;have HB:=n3_;clear n0_ n1_ n2_ n3_;clear hb ho44;obtain ⟨Ao45,co45,eo45⟩:=Kd.R_slice HO437.out
           (first|subst eo45|(injection eo45 with f1_ f2_ f3_;have f4_:=f1_.symm;have f5_:=f3_.symm;clear f1_ f2_ f3_;subst f4_;subst f5_))
           refine hK.out _ _ ⟨HS0_,HS1_,HS2_,HS3_,HS4_,HS5_,HS6_,HS7_,HS8_,HS9_,HS10_,HS11_,HS12_,HS13_,HS14_,HS15_⟩ (fun hHeld=>?_)
           clear hK K
           refine norm_ (a':=?_) ?_ ?_;rotate_left;(show Act.put _ (some 82) _=_;simp only [Act.put,q1_,q2_,q3_,i64_w,i32_w];rfl)
           refine pu_ (i:=17) (N:=some 83) (v:=?_) (a':=?_) #[Y,Y,Y,Y,Y,Y,Y,Y,Y,Y,Y,Y,Y,Y,Y,Y,Y,Y,Z,Z] rfl rfl HT_.out (by kernel_rfl) (fun _ _ _ h=>h) (by rfl) ?_ ?_ ?_;rotate_left;(intro w';go_simp;with_reducible rfl);rotate_left;(simp only [Act.put,q1_,q2_,q3_,i64_w,i32_w];rfl)
           refine one_ (i:=18) (N:=some 12) #[Y,Y,Y,Y,Y,Y,Y,Y,Y,Y,Y,Y,Y,Y,Y,Y,Y,Y,Y,Z] rfl rfl (one_of HT_.out (by kernel_rfl)) (by decide) (fun K hK=>?_)
           refine box_step ?hg (N:=12) ?hd (cs:=#[.slice none 0 0,.slice none 0 0]) (t:=27) ?hr ?_;(case hd=>rfl);(case hg=>rfl);(case hr=>first|(go_simp;done)|(go_simp;rfl))
           intro gb438 hg w46 hbox hb;have HS0_:=(hb.cell (wb_ _ _ (hHeld.1))).trans (hHeld.1);have HS1_:=(hb.cell (wb_ _ _ (hHeld.2.1))).trans (hHeld.2.1);have HS2_:=(hb.cell (wb_ _ _ (hHeld.2.2.1))).trans (hHeld.2.2.1);have HS3_:=(hb.cell (wb_ _ _ (hHeld.2.2.2.1))).trans (hHeld.2.2.2.1);have HS4_:=(hb.cell (wb_ _ _ (hHeld.2.2.2.2.1))).trans (hHeld.2.2.2.2.1);have HS5_:=(hb.cell (wb_ _ _ (hHeld.2.2.2.2.2.1))).trans (hHeld.2.2.2.2.2.1);have HS6_:=(hb.cell (wb_ _ _ (hHeld.2.2.2.2.2.2.1))).trans (hHeld.2.2.2.2.2.2.1);have HS7_:=(hb.cell (wb_ _ _ (hHeld.2.2.2.2.2.2.2.1))).trans (hHeld.2.2.2.2.2.2.2.1);have HS8_:=(hb.cell (wb_ _ _ (hHeld.2.2.2.2.2.2.2.2.1))).trans (hHeld.2.2.2.2.2.2.2.2.1);have HS9_:=(hb.cell (wb_ _ _ (hHeld.2.2.2.2.2.2.2.2.2.1))).trans (hHeld.2.2.2.2.2.2.2.2.2.1);have HS10_:=(hb.cell (wb_ _ _ (hHeld.2.2.2.2.2.2.2.2.2.2.1))).trans (hHeld.2.2.2.2.2.2.2.2.2.2.1);have HS11_:=(hb.cell (wb_ _ _ (hHeld.2.2.2.2.2.2.2.2.2.2.2.1))).trans (hHeld.2.2.2.2.2.2.2.2.2.2.2.1);have HS12_:=(hb.cell (wb_ _ _ (hHeld.2.2.2.2.2.2.2.2.2.2.2.2.1))).trans (hHeld.2.2.2.2.2.2.2.2.2.2.2.2.1);have HS13_:=(hb.cell (wb_ _ _ (hHeld.2.2.2.2.2.2.2.2.2.2.2.2.2.1))).trans (hHeld.2.2.2.2.2.2.2.2.2.2.2.2.2.1);have HS14_:=(hb.cell (wb_ _ _ (hHeld.2.2.2.2.2.2.2.2.2.2.2.2.2.2.1))).trans (hHeld.2.2.2.2.2.2.2.2.2.2.2.2.2.2.1);have HS15_:=(hb.cell (wb_ _ _ (hHeld.2.2.2.2.2.2.2.2.2.2.2.2.2.2.2))).trans (hHeld.2.2.2.2.2.2.2.2.2.2.2.2.2.2.2)
           have n0_:=A_ (Kd.R_below (by (with_reducible repeat (first|apply ra_|apply rn_|apply re_));exact HO_9.out) hb)
           have n1_:=A_ (Kd.R_below (by (with_reducible repeat (first|apply ra_|apply rn_|apply re_));exact HO437.out) hb)
           have n2_:=A_ (bx_ BK408.out kf_ hb);have n3_:=A_ (bp_ (hb1_ HB.out GE408.out) hb);have n4_:=A_ (hbox)
           have n5_:=A_ ((by rw [hg];exact (bz_ (hb1_ HB.out GE408.out)) : w.heap.size≤gb438))
           have n6_:=n5_
           have n7_:=A_ ((by rw [hg];exact Nat.ne_of_lt (bl_ BK408.out kf_) : gb408≠gb438))
           have n8_:=A_ (Ne.symm n7_.out);clear HO_9;clear HO437;clear BK408;clear HB;have HO_9:=n0_;have HO437:=n1_;have BK408:=n2_;have HB:=n3_;have BK438:=n4_;have GW438:=n5_;have GE438:=n6_;have NB408_438:=n7_;have NB438_408:=n8_;clear n0_ n1_ n2_ n3_ n4_ n5_ n6_ n7_ n8_;clear hb hbox hg
           refine hK.out _ _ ⟨HS0_,HS1_,HS2_,HS3_,HS4_,HS5_,HS6_,HS7_,HS8_,HS9_,HS10_,HS11_,HS12_,HS13_,HS14_,HS15_⟩ (fun hHeld=>?_)
           clear hK K
           refine norm_ (a':=?_) ?_ ?_;rotate_left;(show Act.put _ (some 12) _=_;simp only [Act.put,q1_,q2_,q3_,i64_w,i32_w];rfl)
           exact norm_ (by simp only [putAll,Act.put,u1_,u2_,u3_]) (hCont (.slice Ao45 y435.length co45,gb438) _ ⟨hHeld,(by (with_reducible repeat (first|apply ra_|apply rn_|apply re_));exact Kd.R_mono HO437.out (fun _ hk=>hk.1)),(by (with_reducible repeat (first|apply ra_|apply rn_|apply re_));exact HO_9.out),(by exact kk_ BK408.out),(by exact kk_ BK438.out),GW438.out,GE438.out,NB408_438.out,NB438_408.out,(hb2_ HB.out GE408.out GE438.out)⟩)
          ·skip
           refine box_step ?hg (N:=12) ?hd (cs:=#[.slice none 0 0,.slice none 0 0]) (t:=27) ?hr ?_;(case hd=>rfl);(case hg=>rfl);(case hr=>first|(go_simp;done)|(go_simp;rfl))
           intro gb438 hg w43 hbox hb;have HS0_:=(hb.cell (wb_ _ _ (hHeld.1))).trans (hHeld.1);have HS1_:=(hb.cell (wb_ _ _ (hHeld.2.1))).trans (hHeld.2.1);have HS2_:=(hb.cell (wb_ _ _ (hHeld.2.2.1))).trans (hHeld.2.2.1);have HS3_:=(hb.cell (wb_ _ _ (hHeld.2.2.2.1))).trans (hHeld.2.2.2.1);have HS4_:=(hb.cell (wb_ _ _ (hHeld.2.2.2.2.1))).trans (hHeld.2.2.2.2.1);have HS5_:=(hb.cell (wb_ _ _ (hHeld.2.2.2.2.2.1))).trans (hHeld.2.2.2.2.2.1);have HS6_:=(hb.cell (wb_ _ _ (hHeld.2.2.2.2.2.2.1))).trans (hHeld.2.2.2.2.2.2.1);have HS7_:=(hb.cell (wb_ _ _ (hHeld.2.2.2.2.2.2.2.1))).trans (hHeld.2.2.2.2.2.2.2.1);have HS8_:=(hb.cell (wb_ _ _ (hHeld.2.2.2.2.2.2.2.2.1))).trans (hHeld.2.2.2.2.2.2.2.2.1);have HS9_:=(hb.cell (wb_ _ _ (hHeld.2.2.2.2.2.2.2.2.2.1))).trans (hHeld.2.2.2.2.2.2.2.2.2.1);have HS10_:=(hb.cell (wb_ _ _ (hHeld.2.2.2.2.2.2.2.2.2.2.1))).trans (hHeld.2.2.2.2.2.2.2.2.2.2.1);have HS11_:=(hb.cell (wb_ _ _ (hHeld.2.2.2.2.2.2.2.2.2.2.2.1))).trans (hHeld.2.2.2.2.2.2.2.2.2.2.2.1);have HS12_:=(hb.cell (wb_ _ _ (hHeld.2.2.2.2.2.2.2.2.2.2.2.2.1))).trans (hHeld.2.2.2.2.2.2.2.2.2.2.2.2.1);have HS13_:=(hb.cell (wb_ _ _ (hHeld.2.2.2.2.2.2.2.2.2.2.2.2.2.1))).trans (hHeld.2.2.2.2.2.2.2.2.2.2.2.2.2.1);have HS14_:=(hb.cell (wb_ _ _ (hHeld.2.2.2.2.2.2.2.2.2.2.2.2.2.2.1))).trans (hHeld.2.2.2.2.2.2.2.2.2.2.2.2.2.2.1);have HS15_:=(hb.cell (wb_ _ _ (hHeld.2.2.2.2.2.2.2.2.2.2.2.2.2.2.2))).trans (hHeld.2.2.2.2.2.2.2.2.2.2.2.2.2.2.2)
           have n0_:=A_ (Kd.R_below (by (with_reducible repeat (first|apply ra_|apply rn_|apply re_));exact HO_9.out) hb)
           have n1_:=A_ (bx_ BK408.out kf_ hb);have n2_:=A_ (bp_ (hb1_ HB.out GE408.out) hb);have n3_:=A_ (hbox)
           have n4_:=A_ ((by rw [hg];exact (bz_ (hb1_ HB.out GE408.out)) : w.heap.size≤gb438))
           have n5_:=n4_
           have n6_:=A_ ((by rw [hg];exact Nat.ne_of_lt (bl_ BK408.out kf_) : gb408≠gb438))
           have n7_:=A_ (Ne.symm n6_.out);clear HO_9;clear BK408;clear HB;have HO_9:=n0_;have BK408:=n1_;have HB:=n2_;have BK438:=n3_;have GW438:=n4_;have GE438:=n5_;have NB408_438:=n6_;have NB438_408:=n7_;clear n0_ n1_ n2_ n3_ n4_ n5_ n6_ n7_;clear hb hbox hg
           refine hK.out _ _ ⟨HS0_,HS1_,HS2_,HS3_,HS4_,HS5_,HS6_,HS7_,HS8_,HS9_,HS10_,HS11_,HS12_,HS13_,HS14_,HS15_⟩ (fun hHeld=>?_)
           clear hK K
           refine norm_ (a':=?_) ?_ ?_;rotate_left;(show Act.put _ (some 12) _=_;simp only [Act.put,q1_,q2_,q3_,i64_w,i32_w];rfl)
           refine one_ (i:=16) (N:=some 82) #[Y,Y,Y,Y,Y,Y,Y,Y,Y,Y,Y,Y,Y,Y,Y,Y,Y,Z,Y,Z] rfl rfl (one_of HT_.out (by kernel_rfl)) (by decide) (fun K hK=>?_)
           refine Kd.R_lit_step (Kd.int .i64) _ 3 ?hg (N:=82) ?hd (xs:=([(rd_T56 t426 1).f1,(rd_T56 t426 2).f1,(rd_T56 t426 3).f1,(rd_T56 t426 4).f1] : List Int)) (inner:=[.int .i64 ((rd_T56 t426 1).f1),.int .i64 ((rd_T56 t426 2).f1),.int .i64 ((rd_T56 t426 3).f1),.int .i64 ((rd_T56 t426 4).f1)]) (ok:=fun _=>True) (okp:=fun _=>True) ?hr ?hp (fun _ hk=>hk) trivial (Below.refl _ _) (Nat.le_refl _) (by simp) ?_;(case hd=>rfl);(case hg=>rfl);(case hr=>first|(go_simp;done)|(go_simp;rfl));(case hp=>exact (Reps.one (show Kd.M (Kd.int .i64) _ _ _ ((rd_T56 t426 1).f1) [.int .i64 ((rd_T56 t426 1).f1)] from rfl) (Reps.one (show Kd.M (Kd.int .i64) _ _ _ ((rd_T56 t426 2).f1) [.int .i64 ((rd_T56 t426 2).f1)] from rfl) (Reps.one (show Kd.M (Kd.int .i64) _ _ _ ((rd_T56 t426 3).f1) [.int .i64 ((rd_T56 t426 3).f1)] from rfl) (Reps.one (show Kd.M (Kd.int .i64) _ _ _ ((rd_T56 t426 4).f1) [.int .i64 ((rd_T56 t426 4).f1)] from rfl) (Reps.none _ _))))))
           intro v436 w44 ho45 hb hg_ hnew_;have HS0_:=(hb.cell (wb_ _ _ (hHeld.1))).trans (hHeld.1);have HS1_:=(hb.cell (wb_ _ _ (hHeld.2.1))).trans (hHeld.2.1);have HS2_:=(hb.cell (wb_ _ _ (hHeld.2.2.1))).trans (hHeld.2.2.1);have HS3_:=(hb.cell (wb_ _ _ (hHeld.2.2.2.1))).trans (hHeld.2.2.2.1);have HS4_:=(hb.cell (wb_ _ _ (hHeld.2.2.2.2.1))).trans (hHeld.2.2.2.2.1);have HS5_:=(hb.cell (wb_ _ _ (hHeld.2.2.2.2.2.1))).trans (hHeld.2.2.2.2.2.1);have HS6_:=(hb.cell (wb_ _ _ (hHeld.2.2.2.2.2.2.1))).trans (hHeld.2.2.2.2.2.2.1);have HS7_:=(hb.cell (wb_ _ _ (hHeld.2.2.2.2.2.2.2.1))).trans (hHeld.2.2.2.2.2.2.2.1);have HS8_:=(hb.cell (wb_ _ _ (hHeld.2.2.2.2.2.2.2.2.1))).trans (hHeld.2.2.2.2.2.2.2.2.1);have HS9_:=(hb.cell (wb_ _ _ (hHeld.2.2.2.2.2.2.2.2.2.1))).trans (hHeld.2.2.2.2.2.2.2.2.2.1);have HS10_:=(hb.cell (wb_ _ _ (hHeld.2.2.2.2.2.2.2.2.2.2.1))).trans (hHeld.2.2.2.2.2.2.2.2.2.2.1);have HS11_:=(hb.cell (wb_ _ _ (hHeld.2.2.2.2.2.2.2.2.2.2.2.1))).trans (hHeld.2.2.2.2.2.2.2.2.2.2.2.1);have HS12_:=(hb.cell (wb_ _ _ (hHeld.2.2.2.2.2.2.2.2.2.2.2.2.1))).trans (hHeld.2.2.2.2.2.2.2.2.2.2.2.2.1);have HS13_:=(hb.cell (wb_ _ _ (hHeld.2.2.2.2.2.2.2.2.2.2.2.2.2.1))).trans (hHeld.2.2.2.2.2.2.2.2.2.2.2.2.2.1);have HS14_:=(hb.cell (wb_ _ _ (hHeld.2.2.2.2.2.2.2.2.2.2.2.2.2.2.1))).trans (hHeld.2.2.2.2.2.2.2.2.2.2.2.2.2.2.1);have HS15_:=(hb.cell (wb_ _ _ (hHeld.2.2.2.2.2.2.2.2.2.2.2.2.2.2.2))).trans (hHeld.2.2.2.2.2.2.2.2.2.2.2.2.2.2.2);clear hg_ hnew_;(first|rw [← Ny435.out] at ho45|(simp only [Int.reduceToNat] at ho45;rw [← Ny435.out] at ho45))
           have n0_:=A_ (Kd.R_below (by (with_reducible repeat (first|apply ra_|apply rn_|apply re_));exact HO_9.out) hb)
           have n1_:=A_ (Kd.R_lower (Kd.R_newM (M:=fun k_=>(w.heap.size≤k_)) ho45 (bz_ (hb2_ HB.out GE408.out GE438.out)) (fun k_ h_=>h_)) (bz_ (hb2_ HB.out GE408.out GE438.out)))
           have n2_:=A_ (bx_ BK408.out kf_ hb);have n3_:=A_ (bx_ BK438.out kf_ hb);have n4_:=A_ (bp_ (hb2_ HB.out GE408.out GE438.out) hb);clear HO_9;clear BK408;clear BK438;clear HB;have HO_9:=n0_;have HO437:=n1_;have BK408:=n2_;have BK438:=n3_;have HB:=n4_;clear n0_ n1_ n2_ n3_ n4_;clear hb ho45;obtain ⟨Ao46,co46,eo46⟩:=Kd.R_slice HO437.out
           (first|subst eo46|(injection eo46 with f1_ f2_ f3_;have f4_:=f1_.symm;have f5_:=f3_.symm;clear f1_ f2_ f3_;subst f4_;subst f5_))
           refine hK.out _ _ ⟨HS0_,HS1_,HS2_,HS3_,HS4_,HS5_,HS6_,HS7_,HS8_,HS9_,HS10_,HS11_,HS12_,HS13_,HS14_,HS15_⟩ (fun hHeld=>?_)
           clear hK K
           refine norm_ (a':=?_) ?_ ?_;rotate_left;(show Act.put _ (some 82) _=_;simp only [Act.put,q1_,q2_,q3_,i64_w,i32_w];rfl)
           refine pu_ (i:=17) (N:=some 83) (v:=?_) (a':=?_) #[Y,Y,Y,Y,Y,Y,Y,Y,Y,Y,Y,Y,Y,Y,Y,Y,Y,Y,Y,Z] rfl rfl HT_.out (by kernel_rfl) (fun _ _ _ h=>h) (by rfl) ?_ ?_ ?_;rotate_left;(intro w';go_simp;with_reducible rfl);rotate_left;(simp only [Act.put,q1_,q2_,q3_,i64_w,i32_w];rfl)
           exact norm_ (by simp only [putAll,Act.put,u1_,u2_,u3_]) (hCont (.slice Ao46 y435.length co46,gb438) _ ⟨hHeld,(by (with_reducible repeat (first|apply ra_|apply rn_|apply re_));exact Kd.R_mono HO437.out (fun _ hk=>hk.1)),(by (with_reducible repeat (first|apply ra_|apply rn_|apply re_));exact HO_9.out),(by exact kk_ BK408.out),(by exact kk_ BK438.out),GW438.out,GE438.out,NB408_438.out,NB438_408.out,(hb2_ HB.out GE408.out GE438.out)⟩)
         rintro ⟨v436,gb438⟩ w47 ⟨hS_,h0_,h1_,h2_,h3_,h4_,h5_,h6_,h7_,h8_⟩
         have n0_ : Aside0 (Kd.R (Kd.int .i64) 3 w47 w.heap.size (fun k_=>(w.heap.size≤k_)) v436 y435):=⟨h0_⟩
         have n1_ : Aside0 (Kd.R k56 56 w47 w.heap.size (fun k_=>(w.heap.size≤k_)) (.slice (some ad431) t426.length co42) t426):=⟨h1_⟩
         have n2_ : Aside0 (w47.heap[gb408]?=some (.cells #[.slice none 0 0,.slice none 0 0] 27 (0,0))):=⟨h2_⟩;have n3_ : Aside0 (w47.heap[gb438]?=some (.cells #[.slice none 0 0,.slice none 0 0] 27 (0,0))):=⟨h3_⟩;have n4_ : Aside0 (w.heap.size≤gb438):=⟨h4_⟩;have n5_ : Aside0 (w.heap.size≤gb438):=⟨h5_⟩;have n6_ : Aside0 (gb408≠gb438):=⟨h6_⟩;have n7_ : Aside0 (gb438≠gb408):=⟨h7_⟩;have n8_ : Aside0 (Below w.heap.size w w47):=⟨h8_⟩;clear HO_9;clear BK408;clear HB;clear h0_ h1_ h2_ h3_ h4_ h5_ h6_ h7_ h8_;have HO437:=n0_;have HO_9:=n1_;have BK408:=n2_;have BK438:=n3_;have GW438:=n4_;have GE438:=n5_;have NB408_438:=n6_;have NB438_408:=n7_;have HB:=n8_;clear n0_ n1_ n2_ n3_ n4_ n5_ n6_ n7_ n8_;have hHeld : w47.cell? ⟨ad431.block,ad431.off + 4,none⟩=some (.int .i64 ((rd_T56 t426 1).f0))∧w47.cell? ⟨ad431.block,ad431.off + 4 + 1,none⟩=some (.int .i64 ((rd_T56 t426 1).f1))∧w47.cell? ⟨ad431.block,ad431.off + 4 + 2,none⟩=some (.float .f64 ((rd_T56 t426 1).f2))∧w47.cell? ⟨ad431.block,ad431.off + 4 + 3,none⟩=some (.string ((rd_T56 t426 1).f3))∧w47.cell? ⟨ad431.block,ad431.off + 8,none⟩=some (.int .i64 ((rd_T56 t426 2).f0))∧w47.cell? ⟨ad431.block,ad431.off + 8 + 1,none⟩=some (.int .i64 ((rd_T56 t426 2).f1))∧w47.cell? ⟨ad431.block,ad431.off + 8 + 2,none⟩=some (.float .f64 ((rd_T56 t426 2).f2))∧w47.cell? ⟨ad431.block,ad431.off + 8 + 3,none⟩=some (.string ((rd_T56 t426 2).f3))∧w47.cell? ⟨ad431.block,ad431.off + 12,none⟩=some (.int .i64 ((rd_T56 t426 3).f0))∧w47.cell? ⟨ad431.block,ad431.off + 12 + 1,none⟩=some (.int .i64 ((rd_T56 t426 3).f1))∧w47.cell? ⟨ad431.block,ad431.off + 12 + 2,none⟩=some (.float .f64 ((rd_T56 t426 3).f2))∧w47.cell? ⟨ad431.block,ad431.off + 12 + 3,none⟩=some (.string ((rd_T56 t426 3).f3))∧w47.cell? ⟨ad431.block,ad431.off + 16,none⟩=some (.int .i64 ((rd_T56 t426 4).f0))∧w47.cell? ⟨ad431.block,ad431.off + 16 + 1,none⟩=some (.int .i64 ((rd_T56 t426 4).f1))∧w47.cell? ⟨ad431.block,ad431.off + 16 + 2,none⟩=some (.float .f64 ((rd_T56 t426 4).f2))∧w47.cell? ⟨ad431.block,ad431.off + 16 + 3,none⟩=some (.string ((rd_T56 t426 4).f3)):=hS_
         obtain ⟨Ao48,co48,eo48⟩:=Kd.R_slice HO437.out
         (first|subst eo48|(injection eo48 with f1_ f2_ f3_;have f4_:=f1_.symm;have f5_:=f3_.symm;clear f1_ f2_ f3_;subst f4_;subst f5_))
         refine norm_ (a':=?_) ?_ ?_;rotate_left;(simp only [putAll,Act.put,u1_,u2_,u3_];rfl)
         refine one_ (i:=19) (N:=none) #[Y,Y,Y,Y,Y,Y,Y,Y,Y,Y,Y,Y,Y,Y,Y,Y,Y,Y,Y,Y] rfl rfl (one_of HT_.out (by kernel_rfl)) (by decide) (fun K hK=>?_)
         have hs49 : w47.cell? ⟨gb438,0,none⟩=some (.slice none 0 0):=(bc_ BK438.out 0).trans rfl;have hfs49:=bf_ BK438.out 0;have hns49_0:=NB408_438.out;have hms49_0:=NB438_408.out;have hs50 : w47.cell? ⟨gb438,1,none⟩=some (.slice none 0 0):=(bc_ BK438.out 1).trans rfl;have hfs50:=bf_ BK438.out 1;have hns50_0:=NB408_438.out;have hms50_0:=NB438_408.out
         refine skip_ (w1:=?_) (by rfl) rfl ?_ ?_
         rotate_left
         ·go_simp
          rfl
         refine hK.out _ _ ⟨((cell_far (p:=⟨gb438,_,none⟩) (by have h_:=Kd.own_blk (Kd.R_ne HO_9.out BK438.out (by decide));first|exact h_|(rw [ab_];exact h_)|(show (Addr.add _ _).block≠_;rw [ab_];exact h_)|(dsimp only;exact h_)) _).trans (((cell_far (p:=⟨gb438,_,none⟩) (by have h_:=Kd.own_blk (Kd.R_ne HO_9.out BK438.out (by decide));first|exact h_|(rw [ab_];exact h_)|(show (Addr.add _ _).block≠_;rw [ab_];exact h_)|(dsimp only;exact h_)) _).trans (hHeld.1)))),((cell_far (p:=⟨gb438,_,none⟩) (by have h_:=Kd.own_blk (Kd.R_ne HO_9.out BK438.out (by decide));first|exact h_|(rw [ab_];exact h_)|(show (Addr.add _ _).block≠_;rw [ab_];exact h_)|(dsimp only;exact h_)) _).trans (((cell_far (p:=⟨gb438,_,none⟩) (by have h_:=Kd.own_blk (Kd.R_ne HO_9.out BK438.out (by decide));first|exact h_|(rw [ab_];exact h_)|(show (Addr.add _ _).block≠_;rw [ab_];exact h_)|(dsimp only;exact h_)) _).trans (hHeld.2.1)))),((cell_far (p:=⟨gb438,_,none⟩) (by have h_:=Kd.own_blk (Kd.R_ne HO_9.out BK438.out (by decide));first|exact h_|(rw [ab_];exact h_)|(show (Addr.add _ _).block≠_;rw [ab_];exact h_)|(dsimp only;exact h_)) _).trans (((cell_far (p:=⟨gb438,_,none⟩) (by have h_:=Kd.own_blk (Kd.R_ne HO_9.out BK438.out (by decide));first|exact h_|(rw [ab_];exact h_)|(show (Addr.add _ _).block≠_;rw [ab_];exact h_)|(dsimp only;exact h_)) _).trans (hHeld.2.2.1)))),((cell_far (p:=⟨gb438,_,none⟩) (by have h_:=Kd.own_blk (Kd.R_ne HO_9.out BK438.out (by decide));first|exact h_|(rw [ab_];exact h_)|(show (Addr.add _ _).block≠_;rw [ab_];exact h_)|(dsimp only;exact h_)) _).trans (((cell_far (p:=⟨gb438,_,none⟩) (by have h_:=Kd.own_blk (Kd.R_ne HO_9.out BK438.out (by decide));first|exact h_|(rw [ab_];exact h_)|(show (Addr.add _ _).block≠_;rw [ab_];exact h_)|(dsimp only;exact h_)) _).trans (hHeld.2.2.2.1)))),((cell_far (p:=⟨gb438,_,none⟩) (by have h_:=Kd.own_blk (Kd.R_ne HO_9.out BK438.out (by decide));first|exact h_|(rw [ab_];exact h_)|(show (Addr.add _ _).block≠_;rw [ab_];exact h_)|(dsimp only;exact h_)) _).trans (((cell_far (p:=⟨gb438,_,none⟩) (by have h_:=Kd.own_blk (Kd.R_ne HO_9.out BK438.out (by decide));first|exact h_|(rw [ab_];exact h_)|(show (Addr.add _ _).block≠_;rw [ab_];exact h_)|(dsimp only;exact h_)) _).trans (hHeld.2.2.2.2.1)))),((cell_far (p:=⟨gb438,_,none⟩) (by have h_:=Kd.own_blk (Kd.R_ne HO_9.out BK438.out (by decide));first|exact h_|(rw [ab_];exact h_)|(show (Addr.add _ _).block≠_;rw [ab_];exact h_)|(dsimp only;exact h_)) _).trans (((cell_far (p:=⟨gb438,_,none⟩) (by have h_:=Kd.own_blk (Kd.R_ne HO_9.out BK438.out (by decide));first|exact h_|(rw [ab_];exact h_)|(show (Addr.add _ _).block≠_;rw [ab_];exact h_)|(dsimp only;exact h_)) _).trans (hHeld.2.2.2.2.2.1)))),((cell_far (p:=⟨gb438,_,none⟩) (by have h_:=Kd.own_blk (Kd.R_ne HO_9.out BK438.out (by decide));first|exact h_|(rw [ab_];exact h_)|(show (Addr.add _ _).block≠_;rw [ab_];exact h_)|(dsimp only;exact h_)) _).trans (((cell_far (p:=⟨gb438,_,none⟩) (by have h_:=Kd.own_blk (Kd.R_ne HO_9.out BK438.out (by decide));first|exact h_|(rw [ab_];exact h_)|(show (Addr.add _ _).block≠_;rw [ab_];exact h_)|(dsimp only;exact h_)) _).trans (hHeld.2.2.2.2.2.2.1)))),((cell_far (p:=⟨gb438,_,none⟩) (by have h_:=Kd.own_blk (Kd.R_ne HO_9.out BK438.out (by decide));first|exact h_|(rw [ab_];exact h_)|(show (Addr.add _ _).block≠_;rw [ab_];exact h_)|(dsimp only;exact h_)) _).trans (((cell_far (p:=⟨gb438,_,none⟩) (by have h_:=Kd.own_blk (Kd.R_ne HO_9.out BK438.out (by decide));first|exact h_|(rw [ab_];exact h_)|(show (Addr.add _ _).block≠_;rw [ab_];exact h_)|(dsimp only;exact h_)) _).trans (hHeld.2.2.2.2.2.2.2.1)))),((cell_far (p:=⟨gb438,_,none⟩) (by have h_:=Kd.own_blk (Kd.R_ne HO_9.out BK438.out (by decide));first|exact h_|(rw [ab_];exact h_)|(show (Addr.add _ _).block≠_;rw [ab_];exact h_)|(dsimp only;exact h_)) _).trans (((cell_far (p:=⟨gb438,_,none⟩) (by have h_:=Kd.own_blk (Kd.R_ne HO_9.out BK438.out (by decide));first|exact h_|(rw [ab_];exact h_)|(show (Addr.add _ _).block≠_;rw [ab_];exact h_)|(dsimp only;exact h_)) _).trans (hHeld.2.2.2.2.2.2.2.2.1)))),((cell_far (p:=⟨gb438,_,none⟩) (by have h_:=Kd.own_blk (Kd.R_ne HO_9.out BK438.out (by decide));first|exact h_|(rw [ab_];exact h_)|(show (Addr.add _ _).block≠_;rw [ab_];exact h_)|(dsimp only;exact h_)) _).trans (((cell_far (p:=⟨gb438,_,none⟩) (by have h_:=Kd.own_blk (Kd.R_ne HO_9.out BK438.out (by decide));first|exact h_|(rw [ab_];exact h_)|(show (Addr.add _ _).block≠_;rw [ab_];exact h_)|(dsimp only;exact h_)) _).trans (hHeld.2.2.2.2.2.2.2.2.2.1)))),((cell_far (p:=⟨gb438,_,none⟩) (by have h_:=Kd.own_blk (Kd.R_ne HO_9.out BK438.out (by decide));first|exact h_|(rw [ab_];exact h_)|(show (Addr.add _ _).block≠_;rw [ab_];exact h_)|(dsimp only;exact h_)) _).trans (((cell_far (p:=⟨gb438,_,none⟩) (by have h_:=Kd.own_blk (Kd.R_ne HO_9.out BK438.out (by decide));first|exact h_|(rw [ab_];exact h_)|(show (Addr.add _ _).block≠_;rw [ab_];exact h_)|(dsimp only;exact h_)) _).trans (hHeld.2.2.2.2.2.2.2.2.2.2.1)))),((cell_far (p:=⟨gb438,_,none⟩) (by have h_:=Kd.own_blk (Kd.R_ne HO_9.out BK438.out (by decide));first|exact h_|(rw [ab_];exact h_)|(show (Addr.add _ _).block≠_;rw [ab_];exact h_)|(dsimp only;exact h_)) _).trans (((cell_far (p:=⟨gb438,_,none⟩) (by have h_:=Kd.own_blk (Kd.R_ne HO_9.out BK438.out (by decide));first|exact h_|(rw [ab_];exact h_)|(show (Addr.add _ _).block≠_;rw [ab_];exact h_)|(dsimp only;exact h_)) _).trans (hHeld.2.2.2.2.2.2.2.2.2.2.2.1)))),((cell_far (p:=⟨gb438,_,none⟩) (by have h_:=Kd.own_blk (Kd.R_ne HO_9.out BK438.out (by decide));first|exact h_|(rw [ab_];exact h_)|(show (Addr.add _ _).block≠_;rw [ab_];exact h_)|(dsimp only;exact h_)) _).trans (((cell_far (p:=⟨gb438,_,none⟩) (by have h_:=Kd.own_blk (Kd.R_ne HO_9.out BK438.out (by decide));first|exact h_|(rw [ab_];exact h_)|(show (Addr.add _ _).block≠_;rw [ab_];exact h_)|(dsimp only;exact h_)) _).trans (hHeld.2.2.2.2.2.2.2.2.2.2.2.2.1)))),((cell_far (p:=⟨gb438,_,none⟩) (by have h_:=Kd.own_blk (Kd.R_ne HO_9.out BK438.out (by decide));first|exact h_|(rw [ab_];exact h_)|(show (Addr.add _ _).block≠_;rw [ab_];exact h_)|(dsimp only;exact h_)) _).trans (((cell_far (p:=⟨gb438,_,none⟩) (by have h_:=Kd.own_blk (Kd.R_ne HO_9.out BK438.out (by decide));first|exact h_|(rw [ab_];exact h_)|(show (Addr.add _ _).block≠_;rw [ab_];exact h_)|(dsimp only;exact h_)) _).trans (hHeld.2.2.2.2.2.2.2.2.2.2.2.2.2.1)))),((cell_far (p:=⟨gb438,_,none⟩) (by have h_:=Kd.own_blk (Kd.R_ne HO_9.out BK438.out (by decide));first|exact h_|(rw [ab_];exact h_)|(show (Addr.add _ _).block≠_;rw [ab_];exact h_)|(dsimp only;exact h_)) _).trans (((cell_far (p:=⟨gb438,_,none⟩) (by have h_:=Kd.own_blk (Kd.R_ne HO_9.out BK438.out (by decide));first|exact h_|(rw [ab_];exact h_)|(show (Addr.add _ _).block≠_;rw [ab_];exact h_)|(dsimp only;exact h_)) _).trans (hHeld.2.2.2.2.2.2.2.2.2.2.2.2.2.2.1)))),((cell_far (p:=⟨gb438,_,none⟩) (by have h_:=Kd.own_blk (Kd.R_ne HO_9.out BK438.out (by decide));first|exact h_|(rw [ab_];exact h_)|(show (Addr.add _ _).block≠_;rw [ab_];exact h_)|(dsimp only;exact h_)) _).trans (((cell_far (p:=⟨gb438,_,none⟩) (by have h_:=Kd.own_blk (Kd.R_ne HO_9.out BK438.out (by decide));first|exact h_|(rw [ab_];exact h_)|(show (Addr.add _ _).block≠_;rw [ab_];exact h_)|(dsimp only;exact h_)) _).trans (hHeld.2.2.2.2.2.2.2.2.2.2.2.2.2.2.2))))⟩ (fun hHeld=>?_)
         clear hK K;refine done_ (done_of HT_.out (by kernel_rfl)) ?_
         try go_wp2
         go_loopg [13] kj31 (fun kq v13 w'=>∃ (x13_5 : Int) (x439001_5 : List (List Int)) (u439001 : Value),v13=.int .i64 x13_5∧Aside0 (humusref08_Decode.l2 kq l0 t426 x13_5 y435 x439001_5=some (r1,r2,r3))∧Aside0 (kq≤kj31)∧Aside0 (Kd.R k56 56 w' w.heap.size (fun k_=>(w.heap.size≤k_)) (.slice (some ad431) t426.length co42) t426)∧Aside0 (Kd.R (Kd.int .i64) 3 w' w.heap.size (fun k_=>(w.heap.size≤k_)) (.slice Ao48 y435.length co48) y435)∧Aside0 (Kd.N (Kd.slice 5 (Kd.int .u8)) 22 w' w.heap.size (fun k_=>(w.heap.size≤k_)∧some k_≠((.slice (some ad431) t426.length co42) : Value).ownBlock∧some k_≠((.slice Ao48 y435.length co48) : Value).ownBlock∧k_≠gb408∧k_≠gb438) u439001 x439001_5)∧Aside0 (w'.heap[gb408]?=some (.cells #[(.slice none 0 0),(.slice none 0 0)] 27 (0,0)))∧Aside0 (w'.heap[gb438]?=some (.cells #[(.slice Ao48 y435.length co48),u439001] 27 (0,0)))∧Aside0 (Below w.heap.size w w'))
         case atStart=>exact ⟨(6),(([] : List (List Int))),(.slice none 0 0),(by first|rfl|(simp;done)|(simp [*];done)),H',⟨Nat.le_refl _⟩,⟨by (with_reducible repeat (first|apply ra_|apply rn_|apply re_));exact Kd.R_mono (rf_ (p:=⟨gb438,1,none⟩) (rf_ (p:=⟨gb438,0,none⟩) (Kd.R_types HO_9.out BK438.out (by decide)) (fun _ hk=>hk.2) (.slice Ao48 y435.length co48)) (fun _ hk=>hk.2) (.slice none 0 0)) (fun _ hk=>hk.1)⟩,⟨by (with_reducible repeat (first|apply ra_|apply rn_|apply re_));exact Kd.R_mono (rf_ (p:=⟨gb438,1,none⟩) (rf_ (p:=⟨gb438,0,none⟩) (Kd.R_types HO437.out BK438.out (by decide)) (fun _ hk=>hk.2) (.slice Ao48 y435.length co48)) (fun _ hk=>hk.2) (.slice none 0 0)) (fun _ hk=>hk.1)⟩,⟨by first|exact Kd.S_nil _ _ _ _ _|exact Kd.N_nil _ _ _ _ _|exact Kd.V_nil _ _ _ _ _|exact Kd.Q_nil _ _ _ _ _|exact Kd.R_nil _ _ _ _ _⟩,⟨by refine kk_ ?_;refine blk_far ?_ NB408_438.out _;refine kk_ ?_;refine blk_far ?_ NB408_438.out _;exact kk_ BK408.out⟩,⟨by refine kk_ ?_;refine blk_put (cs:=#[.slice Ao48 y435.length co48,.slice none 0 0]) ?_ 1 _ rfl;refine kk_ ?_;refine blk_put (cs:=#[.slice none 0 0,.slice none 0 0]) ?_ 0 _ rfl;exact kk_ BK438.out⟩,⟨hb2_ HB.out GE408.out GE438.out⟩⟩
         case round =>
          clear H';(try clear c1);(try clear c2);(try clear c2b0);(try clear c2b1);(try clear p2);(try clear hcv2);(try clear c3);(try clear c4);(try clear c4b0);(try clear p4);(try clear q4);(try clear hx4);(try clear qi4);(try clear c5);(try clear c6);(try clear c6b0);(try clear p6);(try clear c7);(try clear c7b0);(try clear c8);(try clear c9);(try clear c9b0);(try clear c9b1);(try clear c10);(try clear c14);(try clear c14b0);(try clear c14b1);(try clear c17);(try clear c17b0);(try clear c18);(try clear c18b0);(try clear c18b1);(try clear hcv24);(try clear c27);(try clear c27b0);(try clear c27b1);(try clear c28);(try clear c28b0);(try clear c29);(try clear c30);(try clear c31);(try clear c35);(try clear c37);(try clear c37b0);(try clear c37b1);(try clear c38);(try clear c38b0);(try clear c38b1);(try clear c39);(try clear c39b0);(try clear c39b1);(try clear c40);(try clear c40b0);(try clear c40b1);(try clear p40);(try clear q40);(try clear hx40);(try clear p42);(try clear q42);(try clear hx42);(try clear p43);(try clear q43);(try clear hx43);(try clear qi43);(try clear hx409_0);(try clear hx422_0);(try clear hx431_0);(try clear hx431_1);(try clear hx431_2);(try clear hx431_3);(try clear hx432_0);(try clear hx432_1);(try clear hx432_2);(try clear hx432_3);(try clear hx433_0);(try clear hx433_1);(try clear hx433_2);(try clear hx433_3);(try clear hx434_0);(try clear hx434_1);(try clear hx434_2);(try clear hx434_3);(try clear p2);(try clear p4);(try clear p409);(try clear p422);(try clear p431);(try clear p432);(try clear p433);(try clear p434);(try clear p6);(try clear q4);(try clear q409);(try clear q422);(try clear q431);(try clear q432);(try clear q433);(try clear q434);(try clear z13_0 z13_1 z36_0 z36_1 y13_0 y13_1 y36_0 y36_1)
          obtain ⟨x13_5,x439001_5,u439001,rfl,HA,HK5,HO_9,HO_439000,HO_439001,BK408,BK438,HB⟩:=hrel
          cases gk with
          | zero=>exact absurd HA.out (by simp [humusref08_Decode.l2])
          | succ k5 =>
           have H:=HA.out;clear HA
           simp only [humusref08_Decode.l2] at H
           by_cases c51 : x13_5<(t426.length : Int)
           ·rw [if_pos c51] at H
            have c51b0 : decide (x13_5<(t426.length : Int))=true:=dt_ c51;clear c51
            by_cases c52 : 0≤x13_5
            rotate_left
            ·rw [if_neg c52] at H
             exact absurd H (by simp)
            rw [if_pos c52] at H
            have c52b0 : decide (0≤x13_5)=true:=dt_ c52;clear c52
            by_cases c53 : (((rd_T56 t426 x13_5).f3) : ByteArray).size≤1000000
            rotate_left
            ·rw [if_neg c53] at H
             exact absurd H (by simp)
            rw [if_pos c53] at H
            have c53b0:=eq_true c53;have c53b1 : decide ((((rd_T56 t426 x13_5).f3) : ByteArray).size≤1000000)=true:=dt_ c53;clear c53
            obtain ⟨y440,hy440⟩ : ∃ y_ : List Int,y_=(bytesOf ((rd_T56 t426 x13_5).f3)):=⟨_,rfl⟩
            replace H : (if x439001_5.length<5864062014805 then (humusref08_Decode.l2 k5 l0 t426 (wrap64 (x13_5 + 1)) y435 (x439001_5++[y440])) else (none))=some (r1,r2,r3):=by first|(rw [hy440];with_reducible exact H)|(have H2_:=(Option.bind_some _ _).symm.trans H;rw [hy440];with_reducible exact H2_)|(have H2_:=(Option.bind_some _ _).symm.trans H;with_reducible exact H2_)|with_reducible exact H|(rw [hy440];exact H)|exact H
            have Ny440:=A_ hy440;clear hy440
            by_cases c54 : x439001_5.length<5864062014805
            rotate_left
            ·rw [if_neg c54] at H
             exact absurd H (by simp)
            rw [if_pos c54] at H
            have LMc54:=A_ c54;clear c54
            obtain ⟨y443,hy443⟩ : ∃ y_ : List (List Int),y_=(x439001_5++[y440]):=⟨_,rfl⟩
            replace H : (humusref08_Decode.l2 k5 l0 t426 (wrap64 (x13_5 + 1)) y435 y443)=some (r1,r2,r3):=by first|(rw [hy443];with_reducible exact H)|(have H2_:=(Option.bind_some _ _).symm.trans H;rw [hy443];with_reducible exact H2_)|(have H2_:=(Option.bind_some _ _).symm.trans H;with_reducible exact H2_)|with_reducible exact H|(rw [hy443];exact H)|exact H
            have Ny443:=A_ hy443;clear hy443;have H':=A_ H;clear H
            try go_wp2
            have n0_:=A_ (re_ HO_9.out);have n1_:=A_ (re_ HO_439000.out);have n2_:=A_ (Kd.N_drew HO_439001.out);have n3_:=A_ (ke_ BK408.out);have n4_:=A_ (ke_ BK438.out);have n5_:=A_ (be_ HB.out);clear HO_9;clear HO_439000;clear HO_439001;clear BK408;clear BK438;clear HB;have HO_9:=n0_;have HO_439000:=n1_;have HO_439001:=n2_;have BK408:=n3_;have BK438:=n4_;have HB:=n5_;clear n0_ n1_ n2_ n3_ n4_ n5_
            have p439 : 0≤(x13_5 : Int):=od_ (by first|(with_reducible assumption)|assumption)
            have q439 : x13_5<(t426.length : Int):=od_ (by first|(with_reducible assumption)|assumption)
            obtain ⟨ad439,e439,hx439_0,hx439_1,hx439_2,hx439_3⟩:=at_T56 (Kd.R_reads' HO_9.out).2.2 x13_5 p439 q439
            obtain rfl : ad431=ad439:=(by injection e439)
            replace p439:=eq_true p439;replace q439:=eq_true q439
            refine start_ (n:=12) (S:=fun w'=>w'.cell? ⟨gb438,0,none⟩=some (.slice Ao48 y435.length co48)∧w'.cell? ⟨gb438,1,none⟩=some (u439001)∧w'.cell? (ad431.add ((x13_5).toNat * 4))=some (.int .i64 ((rd_T56 t426 x13_5).f0))∧w'.cell? ⟨(ad431.add ((x13_5).toNat * 4)).block,(ad431.add ((x13_5).toNat * 4)).off + 1,none⟩=some (.int .i64 ((rd_T56 t426 x13_5).f1))∧w'.cell? ⟨(ad431.add ((x13_5).toNat * 4)).block,(ad431.add ((x13_5).toNat * 4)).off + 2,none⟩=some (.float .f64 ((rd_T56 t426 x13_5).f2))∧w'.cell? ⟨(ad431.add ((x13_5).toNat * 4)).block,(ad431.add ((x13_5).toNat * 4)).off + 3,none⟩=some (.string ((rd_T56 t426 x13_5).f3))) (ds:=[9,11]) #[Z,Z,Z,Z,Z,Z,Z,Z,Z,Z,Z,Z] (by kernel_rfl) rfl rfl ⟨(bc_ BK438.out 0).trans rfl,(bc_ BK438.out 1).trans rfl,hx439_0,hx439_1,hx439_2,hx439_3⟩ (fun hHeld=>?_);refine with_tabW humusref08_Decode.tab25 humusref08_Decode.bits25 (fun HT_ HW_=>?_)
            generalize wr.drew=w55 at HO_9 HO_439000 HO_439001 BK408 BK438 HB hx439_0 hx439_1 hx439_2 hx439_3 hHeld ⊢
            refine pu_ (i:=0) (N:=some 90) (v:=?_) (a':=?_) #[Y,Z,Z,Z,Z,Z,Z,Z,Z,Z,Z,Z] rfl rfl HT_.out (by kernel_rfl) (fun _ _ _ h=>h) (by rfl) ?_ ?_ ?_;rotate_left;(intro w';go_simp;with_reducible rfl);rotate_left;(simp only [Act.put,q1_,q2_,q3_,i64_w,i32_w];rfl)
            refine pu_ (i:=2) (N:=some 92) (v:=?_) (a':=?_) #[Y,Z,Y,Z,Z,Z,Z,Z,Z,Z,Z,Z] rfl rfl HT_.out (by kernel_rfl) (fun _ _ _ h=>h) (by rfl) ?_ ?_ ?_;rotate_left;(intro w';go_simp;with_reducible rfl);rotate_left;(simp only [Act.put,q1_,q2_,q3_,i64_w,i32_w];rfl)
            refine pu_ (i:=3) (N:=some 93) (v:=?_) (a':=?_) #[Y,Z,Y,Y,Z,Z,Z,Z,Z,Z,Z,Z] rfl rfl HT_.out (by kernel_rfl) (fun _ _ _ h=>h) (by rfl) ?_ ?_ ?_;rotate_left;(intro w';go_simp;with_reducible rfl);rotate_left;(simp only [Act.put,q1_,q2_,q3_,i64_w,i32_w];rfl)
            refine pu_ (i:=4) (N:=some 94) (v:=?_) (a':=?_) #[Y,Z,Y,Y,Y,Z,Z,Z,Z,Z,Z,Z] rfl rfl HT_.out (by kernel_rfl) (fun _ _ _ h=>h) (by rfl) ?_ ?_ ?_;rotate_left;(intro w';go_simp;with_reducible rfl);rotate_left;(simp only [Act.put,q1_,q2_,q3_,i64_w,i32_w];rfl)
            refine pu_ (i:=5) (N:=some 95) (v:=?_) (a':=?_) #[Y,Z,Y,Y,Y,Y,Z,Z,Z,Z,Z,Z] rfl rfl HT_.out (by kernel_rfl) (fun _ _ _ h=>h) (by rfl) ?_ ?_ ?_;rotate_left;(intro w';go_simp;with_reducible rfl);rotate_left;(simp only [Act.put,q1_,q2_,q3_,i64_w,i32_w];rfl)
            refine ta_ (i:=1) (N:=some 91) (v:=?_) (a':=?_) #[Y,Y,Y,Y,Y,Y,Z,Z,Z,Z,Z,Z] rfl rfl HT_.out HW_.out (by kernel_rfl) (fun _ _ _ h=>h) (by rfl) ?_ hHeld ?_ ?_;rotate_left;(rintro w' ⟨s0,s1,s2,s3,s4,s5⟩;go_simp;with_reducible rfl);rotate_left;(simp only [Act.put,q1_,q2_,q3_,i64_w,i32_w];rfl)
            refine ta_ (i:=6) (N:=some 96) (v:=?_) (a':=?_) #[Y,Y,Y,Y,Y,Y,Y,Z,Z,Z,Z,Z] rfl rfl HT_.out HW_.out (by kernel_rfl) (fun _ _ _ h=>h) (by rfl) ?_ hHeld ?_ ?_;rotate_left;(rintro w' ⟨s0,s1,s2,s3,s4,s5⟩;go_simp;with_reducible rfl);rotate_left;(simp only [Act.put,q1_,q2_,q3_,i64_w,i32_w];rfl)
            refine one_ (i:=7) (N:=some 97) #[Y,Y,Y,Y,Y,Y,Y,Y,Z,Z,Z,Z] rfl rfl (one_of HT_.out (by kernel_rfl)) (by decide) (fun K hK=>?_)
            refine V_conv_step _ 5 ?hg (N:=97) ?hd ((rd_T56 t426 x13_5).f3) 9 22 Try.underlying9 Try.underlying22 Try.underlying5 ?hr (Below.refl _ _) (Nat.le_refl _) ?hs ?_;(case hd=>rfl);(case hg=>rfl);(case hr=>first|(go_simp;done)|(go_simp;rfl));(case hs=>exact Nat.le_trans (od_ (by first|(with_reducible assumption)|assumption) : (((rd_T56 t426 x13_5).f3) : ByteArray).size≤1000000) (by decide))
            intro v441 w56 ho57 hb hg_ hnew_;have HS2_:=(hb.cell (wb_ _ _ (hHeld.2.2.1))).trans (hHeld.2.2.1);have HS3_:=(hb.cell (wb_ _ _ (hHeld.2.2.2.1))).trans (hHeld.2.2.2.1);have HS4_:=(hb.cell (wb_ _ _ (hHeld.2.2.2.2.1))).trans (hHeld.2.2.2.2.1);have HS5_:=(hb.cell (wb_ _ _ (hHeld.2.2.2.2.2))).trans (hHeld.2.2.2.2.2);clear hg_ hnew_;(first|rw [← Ny440.out] at ho57|(simp only [Int.reduceToNat] at ho57;rw [← Ny440.out] at ho57))
            have n0_:=A_ (Kd.R_below (by (with_reducible repeat (first|apply ra_|apply rn_|apply re_));exact HO_9.out) hb)
            have n1_:=A_ (Kd.R_below (by (with_reducible repeat (first|apply ra_|apply rn_|apply re_));exact HO_439000.out) hb)
            have n2_:=A_ (Kd.N_below (by (with_reducible repeat (first|apply Kd.N_alloc|apply Kd.N_drewN|apply Kd.N_drew));exact HO_439001.out) hb)
            have n3_:=A_ (Kd.V_lower (Kd.V_mono (ok':=fun k_=>(w.heap.size≤k_)∧some k_≠(.slice (some ad431) t426.length co42 : Value).ownBlock∧some k_≠(.slice Ao48 y435.length co48 : Value).ownBlock∧some k_≠(u439001 : Value).ownBlock∧k_≠gb408∧k_≠gb438) ho57 (fun k_ hk_=>⟨(Nat.le_trans (bz_ (hb2_ HB.out GE408.out GE438.out)) hk_),(Kd.fresh' (Kd.R_lt (by (with_reducible repeat (first|apply ra_|apply rn_|apply re_));exact HO_9.out)) k_ hk_),(Kd.fresh' (Kd.R_lt (by (with_reducible repeat (first|apply ra_|apply rn_|apply re_));exact HO_439000.out)) k_ hk_),(Kd.fresh' (Kd.N_lt (by (with_reducible repeat (first|apply Kd.N_alloc|apply Kd.N_drewN|apply Kd.N_drew));exact HO_439001.out)) k_ hk_),(Kd.freshB (g:=gb408) (o:=.cells #[.slice none 0 0,.slice none 0 0] 27 (0,0)) (by exact kk_ BK408.out) k_ hk_),(Kd.freshB (g:=gb438) (o:=.cells #[.slice Ao48 y435.length co48,u439001] 27 (0,0)) (by exact kk_ BK438.out) k_ hk_)⟩)) (bz_ (hb2_ HB.out GE408.out GE438.out)))
            have n4_:=A_ (bx_ BK408.out kf_ hb);have n5_:=A_ (bx_ BK438.out kf_ hb);have n6_:=A_ (bp_ (hb2_ HB.out GE408.out GE438.out) hb);clear HO_9;clear HO_439000;clear HO_439001;clear BK408;clear BK438;clear HB;have HO_9:=n0_;have HO_439000:=n1_;have HO_439001:=n2_;have HO442:=n3_;have BK408:=n4_;have BK438:=n5_;have HB:=n6_;clear n0_ n1_ n2_ n3_ n4_ n5_ n6_;clear hb ho57;obtain ⟨Ao59,co59,eo59⟩:=Kd.V_slice HO442.out
            (first|subst eo59|(injection eo59 with f1_ f2_ f3_;have f4_:=f1_.symm;have f5_:=f3_.symm;clear f1_ f2_ f3_;subst f4_;subst f5_))
            refine hK.out _ _ ⟨(bc_ BK438.out 0).trans rfl,(bc_ BK438.out 1).trans rfl,HS2_,HS3_,HS4_,HS5_⟩ (fun hHeld=>?_)
            clear hK K
            refine norm_ (a':=?_) ?_ ?_;rotate_left;(show Act.put _ (some 97) _=_;simp only [Act.put,q1_,q2_,q3_,i64_w,i32_w];rfl)
            refine one_ (i:=8) (N:=some 98) #[Y,Y,Y,Y,Y,Y,Y,Y,Y,Z,Z,Z] rfl rfl (one_of HT_.out (by kernel_rfl)) (by decide) (fun K hK=>?_)
            refine value_ (w1:=?_) (v:=?_) (by rfl) rfl ?_ ?_
            rotate_left 2
            ·go_simp
             constructor
             ·rfl
             ·rfl
            refine hK.out _ _ ⟨(bc_ (ka_ BK438.out _) 0).trans rfl,(bc_ (ka_ BK438.out _) 1).trans rfl,(World.cell?_alloc_lt _ _ _ (wb_ _ _ (hHeld.2.2.1))).trans (hHeld.2.2.1),(World.cell?_alloc_lt _ _ _ (wb_ _ _ (hHeld.2.2.2.1))).trans (hHeld.2.2.2.1),(World.cell?_alloc_lt _ _ _ (wb_ _ _ (hHeld.2.2.2.2.1))).trans (hHeld.2.2.2.2.1),(World.cell?_alloc_lt _ _ _ (wb_ _ _ (hHeld.2.2.2.2.2))).trans (hHeld.2.2.2.2.2)⟩ (fun hHeld=>?_)
            clear hK K
            refine norm_ (a':=?_) ?_ ?_;rotate_left;(show Act.put _ (some 98) _=_;simp only [Act.put,q1_,q2_,q3_,i64_w,i32_w];rfl)
            refine last_ (i:=9) (N:=some 99) #[Y,Y,Y,Y,Y,Y,Y,Y,Y,Y,Z,Z] rfl rfl (one_of HT_.out (by kernel_rfl)) (by decide) (fun K hK=>?_)
            refine Kd.N_append_step (Kd.slice 5 (Kd.int .u8)) (w0:=w) w.heap.size (by rfl) (.tmp 91) (.tmp 98) 25 22 (.slice none 0 0) 24 rfl Try.underlying25 info22 rfl (by decide) (by omega) u439001 x439001_5 y440 [.slice Ao59 y440.length co59] (fun k_=>(w.heap.size≤k_)∧some k_≠(.slice (some ad431) t426.length co42 : Value).ownBlock∧some k_≠(.slice Ao48 y435.length co48 : Value).ownBlock∧k_≠gb408∧k_≠gb438) (fun k_=>((fun k_=>(w.heap.size≤k_)∧some k_≠(.slice (some ad431) t426.length co42 : Value).ownBlock∧some k_≠(.slice Ao48 y435.length co48 : Value).ownBlock∧k_≠gb408∧k_≠gb438)) k_∧some k_≠(u439001 : Value).ownBlock) rfl rfl ?aP (fun _ hk=>hk) ?aF ?aO ?aB ?aS ?aL ?_
            (case aP=>exact (Kd.FK_slice_mk (Kd.V_reads' (Kd.V_mono (ok':=(fun k_=>((fun k_=>(w.heap.size≤k_)∧some k_≠(.slice (some ad431) t426.length co42 : Value).ownBlock∧some k_≠(.slice Ao48 y435.length co48 : Value).ownBlock∧k_≠gb408∧k_≠gb438)) k_∧some k_≠(u439001 : Value).ownBlock)) (HO442.out) (fun k_ hk=>⟨⟨hk.1,⟨hk.2.1,⟨hk.2.2.1,⟨hk.2.2.2.2.1,hk.2.2.2.2.2⟩⟩⟩⟩,hk.2.2.2.1⟩))).2.1 (Kd.V_F (Kd.V_mono (ok':=(fun k_=>((fun k_=>(w.heap.size≤k_)∧some k_≠(.slice (some ad431) t426.length co42 : Value).ownBlock∧some k_≠(.slice Ao48 y435.length co48 : Value).ownBlock∧k_≠gb408∧k_≠gb438)) k_∧some k_≠(u439001 : Value).ownBlock)) (HO442.out) (fun k_ hk=>⟨⟨hk.1,⟨hk.2.1,⟨hk.2.2.1,⟨hk.2.2.2.2.1,hk.2.2.2.2.2⟩⟩⟩⟩,hk.2.2.2.1⟩)))))
            (case aB=>exact (hb2_ HB.out GE408.out GE438.out))
            (case aF=>exact (fun k_ hk=>⟨(Nat.le_trans (bz_ (hb2_ HB.out GE408.out GE438.out)) hk),Kd.fresh' (Kd.R_lt (by (with_reducible repeat (first|apply ra_|apply rn_|apply re_));exact HO_9.out)) k_ hk,Kd.fresh' (Kd.R_lt (by (with_reducible repeat (first|apply ra_|apply rn_|apply re_));exact HO_439000.out)) k_ hk,Kd.freshB (g:=gb408) (o:=.cells #[.slice none 0 0,.slice none 0 0] 27 (0,0)) (by exact kk_ BK408.out) k_ hk,Kd.freshB (g:=gb438) (o:=.cells #[.slice Ao48 y435.length co48,u439001] 27 (0,0)) (by exact kk_ BK438.out) k_ hk⟩))
            (case aO=>exact (by (with_reducible repeat (first|apply Kd.N_alloc|apply Kd.N_drewN|apply Kd.N_drew));exact HO_439001.out))
            (case aS=>exact (bz_ (hb2_ HB.out GE408.out GE438.out)))
            (case aL=>have:=LMc54.out;omega)
            intro v444 w58 ho hb hg hat;rw [← Ny443.out] at ho
            have n0_:=A_ (Kd.R_over' (by (with_reducible repeat (first|apply ra_|apply rn_|apply re_));exact HO_9.out) (Kd.N_typed (by (with_reducible repeat (first|apply Kd.N_alloc|apply Kd.N_drewN|apply Kd.N_drew));exact HO_439001.out)) (by decide) hg)
            have n1_:=A_ (Kd.R_over' (by (with_reducible repeat (first|apply ra_|apply rn_|apply re_));exact HO_439000.out) (Kd.N_typed (by (with_reducible repeat (first|apply Kd.N_alloc|apply Kd.N_drewN|apply Kd.N_drew));exact HO_439001.out)) (by decide) hg)
            have n2_:=A_ (blk_grown (g:=gb408) (o:=.cells #[.slice none 0 0,.slice none 0 0] 27 (0,0)) (by exact kk_ BK408.out) hg (Kd.N_ne HO_439001.out BK408.out (by decide)))
            have n3_:=A_ (blk_grown (g:=gb438) (o:=.cells #[.slice Ao48 y435.length co48,u439001] 27 (0,0)) (by exact kk_ BK438.out) hg (Kd.N_ne HO_439001.out BK438.out (by decide)))
            have n4_:=A_ (Kd.V_afterv (ok:=(fun k_=>(w.heap.size≤k_)∧some k_≠(.slice (some ad431) t426.length co42 : Value).ownBlock∧some k_≠(.slice Ao48 y435.length co48 : Value).ownBlock∧k_≠gb408∧k_≠gb438)) (by (with_reducible repeat (first|apply Kd.V_alloc|apply Kd.V_drewN|apply Kd.V_drew));exact Kd.V_mono HO442.out (fun _ hk=>⟨⟨hk.1,⟨hk.2.1,⟨hk.2.2.1,⟨hk.2.2.2.2.1,hk.2.2.2.2.2⟩⟩⟩⟩,hk.2.2.2.1⟩)) hg hat)
            have n5_:=A_ (hb);have n6_:=A_ (ho);clear HO_9;clear HO_439000;clear BK408;clear BK438;clear HO442;clear HB;clear HO_439001;have HO_9:=n0_;have HO_439000:=n1_;have BK408:=n2_;have BK438:=n3_;have HO442:=n4_;have HB:=n5_;have HO445:=n6_;clear n0_ n1_ n2_ n3_ n4_ n5_ n6_;clear ho hb hg hat;obtain ⟨Ao60,co60,eo60⟩:=Kd.N_slice HO445.out
            (first|subst eo60|(injection eo60 with f1_ f2_ f3_;have f4_:=f1_.symm;have f5_:=f3_.symm;clear f1_ f2_ f3_;subst f4_;subst f5_))
            refine hK.out _ _ ?_;clear hK K
            refine norm_ (a':=?_) ?_ ?_;rotate_left;(show Act.put _ (some 99) _=_;simp only [Act.put,q1_,q2_,q3_,i64_w,i32_w];rfl)
            refine pu_ (i:=10) (N:=some 100) (v:=?_) (a':=?_) #[Y,Y,Y,Y,Y,Y,Y,Y,Y,Y,Y,Z] rfl rfl HT_.out (by kernel_rfl) (fun _ _ _ h=>h) (by rfl) ?_ ?_ ?_;rotate_left;(intro w';go_simp;with_reducible rfl);rotate_left;(simp only [Act.put,q1_,q2_,q3_,i64_w,i32_w];rfl)
            refine last_ (i:=11) (N:=none) #[Y,Y,Y,Y,Y,Y,Y,Y,Y,Y,Y,Y] rfl rfl (one_of HT_.out (by kernel_rfl)) (by decide) (fun K hK=>?_)
            have hs61 : w58.cell? ⟨gb438,1,none⟩=some (u439001):=(bc_ BK438.out 1).trans rfl;have hfs61:=bf_ BK438.out 1;have hns61_0:=NB408_438.out;have hms61_0:=NB438_408.out
            refine skip_ (w1:=?_) (by rfl) rfl ?_ ?_
            rotate_left
            ·go_simp
             rfl
            refine hK.out _ _ ?_;clear hK K;refine done_ (done_of HT_.out (by kernel_rfl)) ?_
            try go_wp2
            go_roundg k5
            case measure=>have:=HK1.out;have:=HJ18.out;have:=HK3.out;have:=HJ31.out;have:=HK5.out;omega
            case rel=>exact ⟨(wrap64 (x13_5 + 1)),(y443),(.slice Ao60 y443.length co60),(by first|rfl|(simp;done)|(simp [*];done)),H',⟨by have:=HK1.out;have:=HJ18.out;have:=HK3.out;have:=HJ31.out;have:=HK5.out;omega⟩,⟨by (with_reducible repeat (first|apply ra_|apply rn_|apply re_));exact Kd.R_mono (rf_ (p:=⟨gb438,1,none⟩) (Kd.R_types HO_9.out BK438.out (by decide)) (fun _ hk=>hk.2) (.slice Ao60 y443.length co60)) (fun _ hk=>hk.1)⟩,⟨by (with_reducible repeat (first|apply ra_|apply rn_|apply re_));exact Kd.R_mono (rf_ (p:=⟨gb438,1,none⟩) (Kd.R_types HO_439000.out BK438.out (by decide)) (fun _ hk=>hk.2) (.slice Ao60 y443.length co60)) (fun _ hk=>hk.1)⟩,⟨by (with_reducible repeat (first|apply Kd.N_alloc|apply Kd.N_drewN|apply Kd.N_drew));exact Kd.N_mono (Kd.N_far (p:=⟨gb438,1,none⟩) (Kd.N_mono HO445.out (fun k_ hk=>(⟨hk,hk.2.2.2.2⟩ : _∧k_≠gb438))) (fun _ hk=>hk.2) (.slice Ao60 y443.length co60)) (fun _ hk=>⟨hk.1.1,⟨hk.1.2.1,⟨hk.1.2.2.1,⟨hk.1.2.2.2.1,hk.1.2.2.2.2⟩⟩⟩⟩)⟩,⟨by refine kk_ ?_;refine blk_far ?_ NB408_438.out _;exact kk_ BK408.out⟩,⟨by refine kk_ ?_;refine blk_put (cs:=#[.slice Ao48 y435.length co48,u439001]) ?_ 1 _ rfl;exact kk_ BK438.out⟩,⟨hb2_ HB.out GE408.out GE438.out⟩⟩
           rw [if_neg c51] at H
           have c51b0 : decide (x13_5<(t426.length : Int))=false:=df_ c51;clear c51;replace H:=Option.bind_eq_some_iff.mp H;obtain ⟨t446,A620,H⟩:=H
           replace H : (if t446=true then ((humusref08_Page.f k5 y435 x439001_5).bind fun t447=>(if (strOfNums t447).toList=(strOfNums l0).toList then (some (y435,x439001_5,0)) else (some (([] : List Int),([] : List (List Int)),4)))) else (some (([] : List Int),([] : List (List Int)),4)))=some (r1,r2,r3):=H
           have A62:=A_ A620;clear A620
           by_cases c63 : t446=true
           rotate_left
           ·replace c63:=Bool.eq_false_iff.mpr c63
            subst c63
            have H1 : (some (([] : List Int),([] : List (List Int)),4))=some (r1,r2,r3):=by rw [if_neg (show ¬ (false=true) by decide)] at H;exact H
            clear H;have H:=H1;clear H1
            simp only [Option.some.injEq,Prod.mk.injEq] at H
            obtain ⟨rfl,rfl,rfl⟩:=H
            try go_wp2
            have n0_:=A_ (re_ HO_9.out);have n1_:=A_ (re_ HO_439000.out);have n2_:=A_ (Kd.N_drew HO_439001.out);have n3_:=A_ (ke_ BK408.out);have n4_:=A_ (ke_ BK438.out);have n5_:=A_ (be_ HB.out);clear HO_9;clear HO_439000;clear HO_439001;clear BK408;clear BK438;clear HB;have HO_9:=n0_;have HO_439000:=n1_;have HO_439001:=n2_;have BK408:=n3_;have BK438:=n4_;have HB:=n5_;clear n0_ n1_ n2_ n3_ n4_ n5_;obtain ⟨Ao82,co82,eo82⟩:=Kd.N_slice HO_439001.out
            (first|subst eo82|(injection eo82 with f1_ f2_ f3_;have f4_:=f1_.symm;have f5_:=f3_.symm;clear f1_ f2_ f3_;subst f4_;subst f5_))
            refine start_ (n:=11) (S:=fun w'=>w'.cell? ⟨gb438,0,none⟩=some (.slice Ao48 y435.length co48)∧w'.cell? ⟨gb438,1,none⟩=some (.slice Ao82 x439001_5.length co82)) (ds:=[1]) #[Z,Z,Z,Z,Z,Z,Z,Z,Z,Z,Z] (by kernel_rfl) rfl rfl ⟨(bc_ BK438.out 0).trans rfl,(bc_ BK438.out 1).trans rfl⟩ (fun hHeld=>?_);refine with_tabW humusref08_Decode.tab26 humusref08_Decode.bits26 (fun HT_ HW_=>?_)
            generalize wr.drew=w81 at HO_9 HO_439000 HO_439001 BK408 BK438 HB hHeld ⊢
            refine ta_ (i:=0) (N:=some 101) (v:=?_) (a':=?_) #[Y,Z,Z,Z,Z,Z,Z,Z,Z,Z,Z] rfl rfl HT_.out HW_.out (by kernel_rfl) (fun _ _ _ h=>h) (by rfl) ?_ hHeld ?_ ?_;rotate_left;(rintro w' ⟨s0,s1⟩;go_simp;with_reducible rfl);rotate_left;(simp only [Act.put,q1_,q2_,q3_,i64_w,i32_w];rfl)
            refine last_ (i:=1) (N:=some 102) #[Y,Y,Z,Z,Z,Z,Z,Z,Z,Z,Z] rfl rfl (one_of HT_.out (by kernel_rfl)) (by decide) (fun K hK=>?_)
            refine goes_ Try.func13 (by kernel_rfl) rfl #[.agg #[.slice Ao48 y435.length co48,.slice Ao82 x439001_5.length co82]] (by rfl) rfl rfl (by (try simp only [List.map_toArray,List.map_cons,List.map_nil]);first|done|rfl|(simp only [List.length_drop,List.length_take];rfl)) ?_
            with_reducible refine (humusref08_May.calls k5 _ _ y435 _ _ x439001_5 false _ ?side1 ?side2 ?side3 ?side4 A62.out).mono ?_
            (case side1=>repeat (first|exact (Kd.R_reads' HO_439000.out).2.2|(with_reducible refine Kd.C_alloc ?_ _)|(with_reducible refine Kd.C_drewN ?_ _)|(with_reducible refine Kd.C_drew ?_)))
            (case side2=>exact (Kd.R_reads' HO_439000.out).2.1)
            (case side3=>repeat (first|exact (Kd.N_reads' HO_439001.out).2.2|(with_reducible refine Kd.C_alloc ?_ _)|(with_reducible refine Kd.C_drewN ?_ _)|(with_reducible refine Kd.C_drew ?_)))
            (case side4=>exact (Kd.N_reads' HO_439001.out).2.1)
            rintro e w83 ⟨rfl,hb⟩;refine ⟨_,rfl,?_⟩
            have n0_:=A_ (Kd.R_below (by (with_reducible repeat (first|apply ra_|apply rn_|apply re_));exact HO_9.out) hb)
            have n1_:=A_ (Kd.R_below (by (with_reducible repeat (first|apply ra_|apply rn_|apply re_));exact HO_439000.out) hb)
            have n2_:=A_ (Kd.N_below (by (with_reducible repeat (first|apply Kd.N_alloc|apply Kd.N_drewN|apply Kd.N_drew));exact HO_439001.out) hb)
            have n3_:=A_ (bx_ BK408.out kf_ hb);have n4_:=A_ (bx_ BK438.out kf_ hb);have n5_:=A_ (bp_ (hb2_ HB.out GE408.out GE438.out) hb);clear HO_9;clear HO_439000;clear HO_439001;clear BK408;clear BK438;clear HB;have HO_9:=n0_;have HO_439000:=n1_;have HO_439001:=n2_;have BK408:=n3_;have BK438:=n4_;have HB:=n5_;clear n0_ n1_ n2_ n3_ n4_ n5_;(try clear hb);(try clear hb2);(try clear hk);(try clear hi);refine hK.out _ _ ?_;clear hK K
            refine norm_ (a':=?_) ?_ ?_;rotate_left;(show Act.put _ (some 102) _=_;simp only [Act.put,q1_,q2_,q3_,i64_w,i32_w];rfl)
            refine pu_ (i:=2) (N:=some 103) (v:=?_) (a':=?_) #[Y,Y,Y,Z,Z,Z,Z,Z,Z,Z,Z] rfl rfl HT_.out (by kernel_rfl) (fun _ _ _ h=>h) (by rfl) ?_ ?_ ?_;rotate_left;(intro w';go_simp;with_reducible rfl);rotate_left;(simp only [Act.put,q1_,q2_,q3_,i64_w,i32_w];rfl)
            refine pu_ (i:=3) (N:=some 104) (v:=?_) (a':=?_) #[Y,Y,Y,Y,Z,Z,Z,Z,Z,Z,Z] rfl rfl HT_.out (by kernel_rfl) (fun _ _ _ h=>h) (by rfl) ?_ ?_ ?_;rotate_left;(intro w';go_simp;with_reducible rfl);rotate_left;(simp only [Act.put,q1_,q2_,q3_,i64_w,i32_w];rfl)
            refine pv_ (i:=4) (N:=some 105) (a':=?_) #[Y,Y,Y,Y,Y,Z,Z,Z,Z,Z,Z] rfl rfl HT_.out (by kernel_rfl) (fun _ _ _ h=>h) (by rfl) ?_ ?_;rotate_left;(simp only [Act.put,q1_,q2_,q3_,i64_w,i32_w];rfl)
            refine pv_ (i:=5) (N:=some 106) (a':=?_) #[Y,Y,Y,Y,Y,Y,Z,Z,Z,Z,Z] rfl rfl HT_.out (by kernel_rfl) (fun _ _ _ h=>h) (by rfl) ?_ ?_;rotate_left;(simp only [Act.put,q1_,q2_,q3_,i64_w,i32_w];rfl)
            refine pv_ (i:=6) (N:=some 107) (a':=?_) #[Y,Y,Y,Y,Y,Y,Y,Z,Z,Z,Z] rfl rfl HT_.out (by kernel_rfl) (fun _ _ _ h=>h) (by rfl) ?_ ?_;rotate_left;(simp only [Act.put,q1_,q2_,q3_,i64_w,i32_w];rfl)
            refine pv_ (i:=7) (N:=some 108) (a':=?_) #[Y,Y,Y,Y,Y,Y,Y,Y,Z,Z,Z] rfl rfl HT_.out (by kernel_rfl) (fun _ _ _ h=>h) (by rfl) ?_ ?_;rotate_left;(simp only [Act.put,q1_,q2_,q3_,i64_w,i32_w];rfl)
            refine pv_ (i:=8) (N:=some 109) (a':=?_) #[Y,Y,Y,Y,Y,Y,Y,Y,Y,Z,Z] rfl rfl HT_.out (by kernel_rfl) (fun _ _ _ h=>h) (by rfl) ?_ ?_;rotate_left;(simp only [Act.put,q1_,q2_,q3_,i64_w,i32_w];rfl)
            refine pv_ (i:=9) (N:=some 110) (a':=?_) #[Y,Y,Y,Y,Y,Y,Y,Y,Y,Y,Z] rfl rfl HT_.out (by kernel_rfl) (fun _ _ _ h=>h) (by rfl) ?_ ?_;rotate_left;(simp only [Act.put,q1_,q2_,q3_,i64_w,i32_w];rfl)
            refine pu_ (i:=10) (N:=some 111) (v:=?_) (a':=?_) #[Y,Y,Y,Y,Y,Y,Y,Y,Y,Y,Y] rfl rfl HT_.out (by kernel_rfl) (fun _ _ _ h=>h) (by rfl) ?_ ?_ ?_;rotate_left;(intro w';go_simp;with_reducible rfl);rotate_left;(simp only [Act.put,q1_,q2_,q3_,i64_w,i32_w];rfl)
            refine done_ (done_of HT_.out (by kernel_rfl)) ?_;have hnb84:=NB408_438.out;have hnc84:=NB438_408.out;have z85_0 : w83.cell? ⟨gb408,0,none⟩=some (.slice none 0 0):=(bc_ BK408.out 0).trans rfl;have z85_1 : w83.cell? ⟨gb408,1,none⟩=some (.slice none 0 0):=(bc_ BK408.out 1).trans rfl;have y85_0:=bf_ BK408.out 0;have y85_1:=bf_ BK408.out 1
            try go_wp2
            refine bodyPost_ret (results_ct rfl _ _ gb408 27 #[.slice none 0 0,.slice none 0 0] (0,0) _ rfl (by refine kk_ ?_;refine blk_put (cs:=#[.slice none 0 0,.slice none 0 0]) ?_ 1 _ rfl;refine kk_ ?_;refine blk_put (cs:=#[.slice none 0 0,.slice none 0 0]) ?_ 0 _ rfl;exact kk_ BK408.out) Try.underlying27 rfl (by kernel_rfl)) rfl ?_
            exact ⟨_,_,by first|rfl|(simp [errW_none,errW_some] <;> rfl)|(simp [*,errW_none,errW_some] <;> rfl),by first|exact Kd.R_nil _ _ _ _ _|exact Kd.N_nil _ _ _ _ _|exact Kd.V_nil _ _ _ _ _|exact Kd.Q_nil _ _ _ _ _|exact Kd.S_nil _ _ _ _ _,by first|exact Kd.S_nil _ _ _ _ _|exact Kd.N_nil _ _ _ _ _|exact Kd.V_nil _ _ _ _ _|exact Kd.Q_nil _ _ _ _ _|exact Kd.R_nil _ _ _ _ _,hb2_ HB.out GE408.out GE438.out⟩
           subst c63
           have H1 : ((humusref08_Page.f k5 y435 x439001_5).bind fun t447=>(if (strOfNums t447).toList=(strOfNums l0).toList then (some (y435,x439001_5,0)) else (some (([] : List Int),([] : List (List Int)),4))))=some (r1,r2,r3):=by rw [if_pos rfl] at H;exact H
           clear H;have H:=H1;clear H1;replace H:=Option.bind_eq_some_iff.mp H;obtain ⟨t447,A640,H⟩:=H
           replace H : (if (strOfNums t447).toList=(strOfNums l0).toList then (some (y435,x439001_5,0)) else (some (([] : List Int),([] : List (List Int)),4)))=some (r1,r2,r3):=H
           have A64:=A_ A640;clear A640
           by_cases c65 : (strOfNums t447).toList=(strOfNums l0).toList
           rotate_left
           ·rw [if_neg c65] at H
            have c65b0 : ((strOfNums t447).toList == (strOfNums l0).toList)=false:=beq_eq_false_iff_ne.mpr c65;have c65b1 : ((strOfNums t447).toList != (strOfNums l0).toList)=true:=bne_iff_ne.mpr c65
            simp only [Option.some.injEq,Prod.mk.injEq] at H
            obtain ⟨rfl,rfl,rfl⟩:=H
            try go_wp2
            have n0_:=A_ (re_ HO_9.out);have n1_:=A_ (re_ HO_439000.out);have n2_:=A_ (Kd.N_drew HO_439001.out);have n3_:=A_ (ke_ BK408.out);have n4_:=A_ (ke_ BK438.out);have n5_:=A_ (be_ HB.out);clear HO_9;clear HO_439000;clear HO_439001;clear BK408;clear BK438;clear HB;have HO_9:=n0_;have HO_439000:=n1_;have HO_439001:=n2_;have BK408:=n3_;have BK438:=n4_;have HB:=n5_;clear n0_ n1_ n2_ n3_ n4_ n5_;obtain ⟨Ao75,co75,eo75⟩:=Kd.N_slice HO_439001.out
            (first|subst eo75|(injection eo75 with f1_ f2_ f3_;have f4_:=f1_.symm;have f5_:=f3_.symm;clear f1_ f2_ f3_;subst f4_;subst f5_))
            refine start_ (n:=11) (S:=fun w'=>w'.cell? ⟨gb438,0,none⟩=some (.slice Ao48 y435.length co48)∧w'.cell? ⟨gb438,1,none⟩=some (.slice Ao75 x439001_5.length co75)∧(convert 22 9 (.slice A0 l0.length c0)).run Try.prog w'=.ok (.string (strOfNums l0)) w') (ds:=[]) #[Z,Z,Z,Z,Z,Z,Z,Z,Z,Z,Z] (by kernel_rfl) rfl rfl ⟨(bc_ BK438.out 0).trans rfl,(bc_ BK438.out 1).trans rfl,Kd.C_string (P:=Try.prog) (A:=A0) (c:=c0) Try.underlying22 Try.underlying5 Try.underlying9 (Kd.C_below HR0.out HB.out)⟩ (fun hHeld=>?_);refine with_tabW humusref08_Decode.tab26 humusref08_Decode.bits26 (fun HT_ HW_=>?_)
            generalize wr.drew=w74 at HO_9 HO_439000 HO_439001 BK408 BK438 HB hHeld ⊢
            refine ta_ (i:=0) (N:=some 101) (v:=?_) (a':=?_) #[Y,Z,Z,Z,Z,Z,Z,Z,Z,Z,Z] rfl rfl HT_.out HW_.out (by kernel_rfl) (fun _ _ _ h=>h) (by rfl) ?_ hHeld ?_ ?_;rotate_left;(rintro w' ⟨s0,s1,s2⟩;go_simp;with_reducible rfl);rotate_left;(simp only [Act.put,q1_,q2_,q3_,i64_w,i32_w];rfl)
            refine one_ (i:=1) (N:=some 102) #[Y,Y,Z,Z,Z,Z,Z,Z,Z,Z,Z] rfl rfl (one_of HT_.out (by kernel_rfl)) (by decide) (fun K hK=>?_)
            refine goes_ Try.func13 (by kernel_rfl) rfl #[.agg #[.slice Ao48 y435.length co48,.slice Ao75 x439001_5.length co75]] (by rfl) rfl rfl (by (try simp only [List.map_toArray,List.map_cons,List.map_nil]);first|done|rfl|(simp only [List.length_drop,List.length_take];rfl)) ?_
            with_reducible refine (humusref08_May.calls k5 _ _ y435 _ _ x439001_5 true _ ?side1 ?side2 ?side3 ?side4 A62.out).mono ?_
            (case side1=>repeat (first|exact (Kd.R_reads' HO_439000.out).2.2|(with_reducible refine Kd.C_alloc ?_ _)|(with_reducible refine Kd.C_drewN ?_ _)|(with_reducible refine Kd.C_drew ?_)))
            (case side2=>exact (Kd.R_reads' HO_439000.out).2.1)
            (case side3=>repeat (first|exact (Kd.N_reads' HO_439001.out).2.2|(with_reducible refine Kd.C_alloc ?_ _)|(with_reducible refine Kd.C_drewN ?_ _)|(with_reducible refine Kd.C_drew ?_)))
            (case side4=>exact (Kd.N_reads' HO_439001.out).2.1)
            rintro e w76 ⟨rfl,hb⟩;refine ⟨_,rfl,?_⟩
            have n0_:=A_ (Kd.R_below (by (with_reducible repeat (first|apply ra_|apply rn_|apply re_));exact HO_9.out) hb)
            have n1_:=A_ (Kd.R_below (by (with_reducible repeat (first|apply ra_|apply rn_|apply re_));exact HO_439000.out) hb)
            have n2_:=A_ (Kd.N_below (by (with_reducible repeat (first|apply Kd.N_alloc|apply Kd.N_drewN|apply Kd.N_drew));exact HO_439001.out) hb)
            have n3_:=A_ (bx_ BK408.out kf_ hb);have n4_:=A_ (bx_ BK438.out kf_ hb);have n5_:=A_ (bp_ (hb2_ HB.out GE408.out GE438.out) hb);clear HO_9;clear HO_439000;clear HO_439001;clear BK408;clear BK438;clear HB;have HO_9:=n0_;have HO_439000:=n1_;have HO_439001:=n2_;have BK408:=n3_;have BK438:=n4_;have HB:=n5_;clear n0_ n1_ n2_ n3_ n4_ n5_;(try clear hb);(try clear hb2);(try clear hk);(try clear hi)
            refine hK.out _ _ ⟨(bc_ BK438.out 0).trans rfl,(bc_ BK438.out 1).trans rfl,Kd.C_string (P:=Try.prog) (A:=A0) (c:=c0) Try.underlying22 Try.underlying5 Try.underlying9 (Kd.C_below HR0.out HB.out)⟩ (fun hHeld=>?_)
            clear hK K
            refine norm_ (a':=?_) ?_ ?_;rotate_left;(show Act.put _ (some 102) _=_;simp only [Act.put,q1_,q2_,q3_,i64_w,i32_w];rfl)
            refine pu_ (i:=2) (N:=some 103) (v:=?_) (a':=?_) #[Y,Y,Y,Z,Z,Z,Z,Z,Z,Z,Z] rfl rfl HT_.out (by kernel_rfl) (fun _ _ _ h=>h) (by rfl) ?_ ?_ ?_;rotate_left;(intro w';go_simp;with_reducible rfl);rotate_left;(simp only [Act.put,q1_,q2_,q3_,i64_w,i32_w];rfl)
            refine pu_ (i:=3) (N:=some 104) (v:=?_) (a':=?_) #[Y,Y,Y,Y,Z,Z,Z,Z,Z,Z,Z] rfl rfl HT_.out (by kernel_rfl) (fun _ _ _ h=>h) (by rfl) ?_ ?_ ?_;rotate_left;(intro w';go_simp;with_reducible rfl);rotate_left;(simp only [Act.put,q1_,q2_,q3_,i64_w,i32_w];rfl)
            refine pu_ (i:=7) (N:=some 108) (v:=?_) (a':=?_) #[Y,Y,Y,Y,Z,Z,Z,Y,Z,Z,Z] rfl rfl HT_.out (by kernel_rfl) (fun _ _ _ h=>h) (by rfl) ?_ ?_ ?_;rotate_left;(intro w';go_simp;with_reducible rfl);rotate_left;(simp only [Act.put,q1_,q2_,q3_,i64_w,i32_w];rfl)
            refine ta_ (i:=4) (N:=some 105) (v:=?_) (a':=?_) #[Y,Y,Y,Y,Y,Z,Z,Y,Z,Z,Z] rfl rfl HT_.out HW_.out (by kernel_rfl) (fun _ _ _ h=>h) (by rfl) ?_ hHeld ?_ ?_;rotate_left;(rintro w' ⟨s0,s1,s2⟩;go_simp;with_reducible rfl);rotate_left;(simp only [Act.put,q1_,q2_,q3_,i64_w,i32_w];rfl)
            refine ta_ (i:=8) (N:=some 109) (v:=?_) (a':=?_) #[Y,Y,Y,Y,Y,Z,Z,Y,Y,Z,Z] rfl rfl HT_.out HW_.out (by kernel_rfl) (fun _ _ _ h=>h) (by rfl) ?_ hHeld ?_ ?_;rotate_left;(rintro w' ⟨s0,s1,s2⟩;go_simp;with_reducible rfl);rotate_left;(simp only [Act.put,q1_,q2_,q3_,i64_w,i32_w];rfl)
            refine one_ (i:=5) (N:=some 106) #[Y,Y,Y,Y,Y,Y,Z,Y,Y,Z,Z] rfl rfl (one_of HT_.out (by kernel_rfl)) (by decide) (fun K hK=>?_)
            refine goes_ Try.func24 (by kernel_rfl) rfl #[.agg #[.slice Ao48 y435.length co48,.slice Ao75 x439001_5.length co75]] (by rfl) rfl rfl (by (try simp only [List.map_toArray,List.map_cons,List.map_nil]);first|done|rfl|(simp only [List.length_drop,List.length_take];rfl)) ?_
            with_reducible refine (humusref08_Page.calls k5 _ _ y435 _ _ x439001_5 t447 _ ?side1 ?side2 ?side3 ?side4 A64.out).mono ?_
            (case side1=>repeat (first|exact (Kd.R_reads' HO_439000.out).2.2|(with_reducible refine Kd.C_alloc ?_ _)|(with_reducible refine Kd.C_drewN ?_ _)|(with_reducible refine Kd.C_drew ?_)))
            (case side2=>exact (Kd.R_reads' HO_439000.out).2.1)
            (case side3=>repeat (first|exact (Kd.N_reads' HO_439001.out).2.2|(with_reducible refine Kd.C_alloc ?_ _)|(with_reducible refine Kd.C_drewN ?_ _)|(with_reducible refine Kd.C_drew ?_)))
            (case side4=>exact (Kd.N_reads' HO_439001.out).2.1)
            rintro e w77 ⟨v448,rfl,ho0,hb⟩;refine ⟨_,rfl,?_⟩
            have n0_:=A_ (Kd.R_below (by (with_reducible repeat (first|apply ra_|apply rn_|apply re_));exact HO_9.out) hb)
            have n1_:=A_ (Kd.R_below (by (with_reducible repeat (first|apply ra_|apply rn_|apply re_));exact HO_439000.out) hb)
            have n2_:=A_ (Kd.N_elder' (by (with_reducible repeat (first|apply Kd.N_alloc|apply Kd.N_drewN|apply Kd.N_drew));exact HO_439001.out) (Kd.R_base ho0) hb)
            have n3_:=A_ (Kd.R_lower (Kd.R_newM (M:=fun k_=>(w.heap.size≤k_)) ho0 (bz_ (hb2_ HB.out GE408.out GE438.out)) (fun k_ h_=>h_)) (bz_ (hb2_ HB.out GE408.out GE438.out)))
            have n4_:=A_ (bx_ BK408.out kf_ hb);have n5_:=A_ (bx_ BK438.out kf_ hb);have n6_:=A_ (bp_ (hb2_ HB.out GE408.out GE438.out) hb);clear HO_9;clear HO_439000;clear HO_439001;clear BK408;clear BK438;clear HB;have HO_9:=n0_;have HO_439000:=n1_;have HO_439001:=n2_;have HO449:=n3_;have BK408:=n4_;have BK438:=n5_;have HB:=n6_;clear n0_ n1_ n2_ n3_ n4_ n5_ n6_;(try clear hb);(try clear hb2);(try clear hk);(try clear hi);(try clear ho0)
            refine hK.out _ _ ⟨(bc_ BK438.out 0).trans rfl,(bc_ BK438.out 1).trans rfl,Kd.C_string (P:=Try.prog) (A:=A0) (c:=c0) Try.underlying22 Try.underlying5 Try.underlying9 (Kd.C_below HR0.out HB.out)⟩ (fun hHeld=>?_)
            clear hK K
            refine norm_ (a':=?_) ?_ ?_;rotate_left;(show Act.put _ (some 106) _=_;simp only [Act.put,q1_,q2_,q3_,i64_w,i32_w];rfl)
            refine one_ (i:=6) (N:=some 107) #[Y,Y,Y,Y,Y,Y,Y,Y,Y,Z,Z] rfl rfl (one_of HT_.out (by kernel_rfl)) (by decide) (fun K hK=>?_)
            have hcv78:=own_string (P:=Try.prog) Try.underlying22 Try.underlying5 Try.underlying9 (Kd.own_of_R HO449.out)
            refine value_ (w1:=?_) (v:=?_) (by rfl) rfl ?_ ?_
            rotate_left 2
            ·go_simp
             constructor
             ·rfl
             ·rfl
            clear hcv78
            refine hK.out _ _ ⟨(bc_ BK438.out 0).trans rfl,(bc_ BK438.out 1).trans rfl,Kd.C_string (P:=Try.prog) (A:=A0) (c:=c0) Try.underlying22 Try.underlying5 Try.underlying9 (Kd.C_below HR0.out HB.out)⟩ (fun hHeld=>?_)
            clear hK K
            refine norm_ (a':=?_) ?_ ?_;rotate_left;(show Act.put _ (some 107) _=_;simp only [Act.put,q1_,q2_,q3_,i64_w,i32_w];rfl)
            refine pu_ (i:=9) (N:=some 110) (v:=?_) (a':=?_) #[Y,Y,Y,Y,Y,Y,Y,Y,Y,Y,Z] rfl rfl HT_.out (by kernel_rfl) (fun _ _ _ h=>h) (by rfl) ?_ ?_ ?_;rotate_left;(intro w';go_simp;with_reducible rfl);rotate_left;(simp only [Act.put,q1_,q2_,q3_,i64_w,i32_w];rfl)
            refine pu_ (i:=10) (N:=some 111) (v:=?_) (a':=?_) #[Y,Y,Y,Y,Y,Y,Y,Y,Y,Y,Y] rfl rfl HT_.out (by kernel_rfl) (fun _ _ _ h=>h) (by rfl) ?_ ?_ ?_;rotate_left;(intro w';go_simp;with_reducible rfl);rotate_left;(simp only [Act.put,q1_,q2_,q3_,i64_w,i32_w];rfl)
            refine done_ (done_of HT_.out (by kernel_rfl)) ?_;have hnb79:=NB408_438.out;have hnc79:=NB438_408.out;have z80_0 : w77.cell? ⟨gb408,0,none⟩=some (.slice none 0 0):=(bc_ BK408.out 0).trans rfl;have z80_1 : w77.cell? ⟨gb408,1,none⟩=some (.slice none 0 0):=(bc_ BK408.out 1).trans rfl;have y80_0:=bf_ BK408.out 0;have y80_1:=bf_ BK408.out 1
            try go_wp2
            refine bodyPost_ret (results_ct rfl _ _ gb408 27 #[.slice none 0 0,.slice none 0 0] (0,0) _ rfl (by refine kk_ ?_;refine blk_put (cs:=#[.slice none 0 0,.slice none 0 0]) ?_ 1 _ rfl;refine kk_ ?_;refine blk_put (cs:=#[.slice none 0 0,.slice none 0 0]) ?_ 0 _ rfl;exact kk_ BK408.out) Try.underlying27 rfl (by kernel_rfl)) rfl ?_
            exact ⟨_,_,by first|rfl|(simp [errW_none,errW_some] <;> rfl)|(simp [*,errW_none,errW_some] <;> rfl),by first|exact Kd.R_nil _ _ _ _ _|exact Kd.N_nil _ _ _ _ _|exact Kd.V_nil _ _ _ _ _|exact Kd.Q_nil _ _ _ _ _|exact Kd.S_nil _ _ _ _ _,by first|exact Kd.S_nil _ _ _ _ _|exact Kd.N_nil _ _ _ _ _|exact Kd.V_nil _ _ _ _ _|exact Kd.Q_nil _ _ _ _ _|exact Kd.R_nil _ _ _ _ _,hb2_ HB.out GE408.out GE438.out⟩
           rw [if_pos c65] at H
           have c65b0 : ((strOfNums t447).toList == (strOfNums l0).toList)=true:=beq_iff_eq.mpr c65;have c65b1 : ((strOfNums t447).toList != (strOfNums l0).toList)=false:=bne_eq_false_iff_eq.mpr c65;clear c65
           simp only [Option.some.injEq,Prod.mk.injEq] at H
           obtain ⟨rfl,rfl,rfl⟩:=H
           try go_wp2
           have n0_:=A_ (re_ HO_9.out);have n1_:=A_ (re_ HO_439000.out);have n2_:=A_ (Kd.N_drew HO_439001.out);have n3_:=A_ (ke_ BK408.out);have n4_:=A_ (ke_ BK438.out);have n5_:=A_ (be_ HB.out);clear HO_9;clear HO_439000;clear HO_439001;clear BK408;clear BK438;clear HB;have HO_9:=n0_;have HO_439000:=n1_;have HO_439001:=n2_;have BK408:=n3_;have BK438:=n4_;have HB:=n5_;clear n0_ n1_ n2_ n3_ n4_ n5_;obtain ⟨Ao67,co67,eo67⟩:=Kd.N_slice HO_439001.out
           (first|subst eo67|(injection eo67 with f1_ f2_ f3_;have f4_:=f1_.symm;have f5_:=f3_.symm;clear f1_ f2_ f3_;subst f4_;subst f5_))
           refine start_ (n:=11) (S:=fun w'=>w'.cell? ⟨gb438,0,none⟩=some (.slice Ao48 y435.length co48)∧w'.cell? ⟨gb438,1,none⟩=some (.slice Ao67 x439001_5.length co67)∧(convert 22 9 (.slice A0 l0.length c0)).run Try.prog w'=.ok (.string (strOfNums l0)) w') (ds:=[]) #[Z,Z,Z,Z,Z,Z,Z,Z,Z,Z,Z] (by kernel_rfl) rfl rfl ⟨(bc_ BK438.out 0).trans rfl,(bc_ BK438.out 1).trans rfl,Kd.C_string (P:=Try.prog) (A:=A0) (c:=c0) Try.underlying22 Try.underlying5 Try.underlying9 (Kd.C_below HR0.out HB.out)⟩ (fun hHeld=>?_);refine with_tabW humusref08_Decode.tab26 humusref08_Decode.bits26 (fun HT_ HW_=>?_)
           generalize wr.drew=w66 at HO_9 HO_439000 HO_439001 BK408 BK438 HB hHeld ⊢
           refine ta_ (i:=0) (N:=some 101) (v:=?_) (a':=?_) #[Y,Z,Z,Z,Z,Z,Z,Z,Z,Z,Z] rfl rfl HT_.out HW_.out (by kernel_rfl) (fun _ _ _ h=>h) (by rfl) ?_ hHeld ?_ ?_;rotate_left;(rintro w' ⟨s0,s1,s2⟩;go_simp;with_reducible rfl);rotate_left;(simp only [Act.put,q1_,q2_,q3_,i64_w,i32_w];rfl)
           refine one_ (i:=1) (N:=some 102) #[Y,Y,Z,Z,Z,Z,Z,Z,Z,Z,Z] rfl rfl (one_of HT_.out (by kernel_rfl)) (by decide) (fun K hK=>?_)
           refine goes_ Try.func13 (by kernel_rfl) rfl #[.agg #[.slice Ao48 y435.length co48,.slice Ao67 x439001_5.length co67]] (by rfl) rfl rfl (by (try simp only [List.map_toArray,List.map_cons,List.map_nil]);first|done|rfl|(simp only [List.length_drop,List.length_take];rfl)) ?_
           with_reducible refine (humusref08_May.calls k5 _ _ y435 _ _ x439001_5 true _ ?side1 ?side2 ?side3 ?side4 A62.out).mono ?_
           (case side1=>repeat (first|exact (Kd.R_reads' HO_439000.out).2.2|(with_reducible refine Kd.C_alloc ?_ _)|(with_reducible refine Kd.C_drewN ?_ _)|(with_reducible refine Kd.C_drew ?_)))
           (case side2=>exact (Kd.R_reads' HO_439000.out).2.1)
           (case side3=>repeat (first|exact (Kd.N_reads' HO_439001.out).2.2|(with_reducible refine Kd.C_alloc ?_ _)|(with_reducible refine Kd.C_drewN ?_ _)|(with_reducible refine Kd.C_drew ?_)))
           (case side4=>exact (Kd.N_reads' HO_439001.out).2.1)
           rintro e w68 ⟨rfl,hb⟩;refine ⟨_,rfl,?_⟩
           have n0_:=A_ (Kd.R_below (by (with_reducible repeat (first|apply ra_|apply rn_|apply re_));exact HO_9.out) hb)
           have n1_:=A_ (Kd.R_below (by (with_reducible repeat (first|apply ra_|apply rn_|apply re_));exact HO_439000.out) hb)
           have n2_:=A_ (Kd.N_below (by (with_reducible repeat (first|apply Kd.N_alloc|apply Kd.N_drewN|apply Kd.N_drew));exact HO_439001.out) hb)
           have n3_:=A_ (bx_ BK408.out kf_ hb);have n4_:=A_ (bx_ BK438.out kf_ hb);have n5_:=A_ (bp_ (hb2_ HB.out GE408.out GE438.out) hb);clear HO_9;clear HO_439000;clear HO_439001;clear BK408;clear BK438;clear HB;have HO_9:=n0_;have HO_439000:=n1_;have HO_439001:=n2_;have BK408:=n3_;have BK438:=n4_;have HB:=n5_;clear n0_ n1_ n2_ n3_ n4_ n5_;(try clear hb);(try clear hb2);(try clear hk);(try clear hi)
           refine hK.out _ _ ⟨(bc_ BK438.out 0).trans rfl,(bc_ BK438.out 1).trans rfl,Kd.C_string (P:=Try.prog) (A:=A0) (c:=c0) Try.underlying22 Try.underlying5 Try.underlying9 (Kd.C_below HR0.out HB.out)⟩ (fun hHeld=>?_)
           clear hK K
           refine norm_ (a':=?_) ?_ ?_;rotate_left;(show Act.put _ (some 102) _=_;simp only [Act.put,q1_,q2_,q3_,i64_w,i32_w];rfl)
           refine pu_ (i:=2) (N:=some 103) (v:=?_) (a':=?_) #[Y,Y,Y,Z,Z,Z,Z,Z,Z,Z,Z] rfl rfl HT_.out (by kernel_rfl) (fun _ _ _ h=>h) (by rfl) ?_ ?_ ?_;rotate_left;(intro w';go_simp;with_reducible rfl);rotate_left;(simp only [Act.put,q1_,q2_,q3_,i64_w,i32_w];rfl)
           refine pu_ (i:=3) (N:=some 104) (v:=?_) (a':=?_) #[Y,Y,Y,Y,Z,Z,Z,Z,Z,Z,Z] rfl rfl HT_.out (by kernel_rfl) (fun _ _ _ h=>h) (by rfl) ?_ ?_ ?_;rotate_left;(intro w';go_simp;with_reducible rfl);rotate_left;(simp only [Act.put,q1_,q2_,q3_,i64_w,i32_w];rfl)
           refine pu_ (i:=7) (N:=some 108) (v:=?_) (a':=?_) #[Y,Y,Y,Y,Z,Z,Z,Y,Z,Z,Z] rfl rfl HT_.out (by kernel_rfl) (fun _ _ _ h=>h) (by rfl) ?_ ?_ ?_;rotate_left;(intro w';go_simp;with_reducible rfl);rotate_left;(simp only [Act.put,q1_,q2_,q3_,i64_w,i32_w];rfl)
           refine ta_ (i:=4) (N:=some 105) (v:=?_) (a':=?_) #[Y,Y,Y,Y,Y,Z,Z,Y,Z,Z,Z] rfl rfl HT_.out HW_.out (by kernel_rfl) (fun _ _ _ h=>h) (by rfl) ?_ hHeld ?_ ?_;rotate_left;(rintro w' ⟨s0,s1,s2⟩;go_simp;with_reducible rfl);rotate_left;(simp only [Act.put,q1_,q2_,q3_,i64_w,i32_w];rfl)
           refine ta_ (i:=8) (N:=some 109) (v:=?_) (a':=?_) #[Y,Y,Y,Y,Y,Z,Z,Y,Y,Z,Z] rfl rfl HT_.out HW_.out (by kernel_rfl) (fun _ _ _ h=>h) (by rfl) ?_ hHeld ?_ ?_;rotate_left;(rintro w' ⟨s0,s1,s2⟩;go_simp;with_reducible rfl);rotate_left;(simp only [Act.put,q1_,q2_,q3_,i64_w,i32_w];rfl)
           refine one_ (i:=5) (N:=some 106) #[Y,Y,Y,Y,Y,Y,Z,Y,Y,Z,Z] rfl rfl (one_of HT_.out (by kernel_rfl)) (by decide) (fun K hK=>?_)
           refine goes_ Try.func24 (by kernel_rfl) rfl #[.agg #[.slice Ao48 y435.length co48,.slice Ao67 x439001_5.length co67]] (by rfl) rfl rfl (by (try simp only [List.map_toArray,List.map_cons,List.map_nil]);first|done|rfl|(simp only [List.length_drop,List.length_take];rfl)) ?_
           with_reducible refine (humusref08_Page.calls k5 _ _ y435 _ _ x439001_5 t447 _ ?side1 ?side2 ?side3 ?side4 A64.out).mono ?_
           (case side1=>repeat (first|exact (Kd.R_reads' HO_439000.out).2.2|(with_reducible refine Kd.C_alloc ?_ _)|(with_reducible refine Kd.C_drewN ?_ _)|(with_reducible refine Kd.C_drew ?_)))
           (case side2=>exact (Kd.R_reads' HO_439000.out).2.1)
           (case side3=>repeat (first|exact (Kd.N_reads' HO_439001.out).2.2|(with_reducible refine Kd.C_alloc ?_ _)|(with_reducible refine Kd.C_drewN ?_ _)|(with_reducible refine Kd.C_drew ?_)))
           (case side4=>exact (Kd.N_reads' HO_439001.out).2.1)
           rintro e w69 ⟨v448,rfl,ho0,hb⟩;refine ⟨_,rfl,?_⟩
           have n0_:=A_ (Kd.R_below (by (with_reducible repeat (first|apply ra_|apply rn_|apply re_));exact HO_9.out) hb)
           have n1_:=A_ (Kd.R_below (by (with_reducible repeat (first|apply ra_|apply rn_|apply re_));exact HO_439000.out) hb)
           have n2_:=A_ (Kd.N_elder' (by (with_reducible repeat (first|apply Kd.N_alloc|apply Kd.N_drewN|apply Kd.N_drew));exact HO_439001.out) (Kd.R_base ho0) hb)
           have n3_:=A_ (Kd.R_lower (Kd.R_newM (M:=fun k_=>(w.heap.size≤k_)) ho0 (bz_ (hb2_ HB.out GE408.out GE438.out)) (fun k_ h_=>h_)) (bz_ (hb2_ HB.out GE408.out GE438.out)))
           have n4_:=A_ (bx_ BK408.out kf_ hb);have n5_:=A_ (bx_ BK438.out kf_ hb);have n6_:=A_ (bp_ (hb2_ HB.out GE408.out GE438.out) hb);clear HO_9;clear HO_439000;clear HO_439001;clear BK408;clear BK438;clear HB;have HO_9:=n0_;have HO_439000:=n1_;have HO_439001:=n2_;have HO449:=n3_;have BK408:=n4_;have BK438:=n5_;have HB:=n6_;clear n0_ n1_ n2_ n3_ n4_ n5_ n6_;(try clear hb);(try clear hb2);(try clear hk);(try clear hi);(try clear ho0)
           refine hK.out _ _ ⟨(bc_ BK438.out 0).trans rfl,(bc_ BK438.out 1).trans rfl,Kd.C_string (P:=Try.prog) (A:=A0) (c:=c0) Try.underlying22 Try.underlying5 Try.underlying9 (Kd.C_below HR0.out HB.out)⟩ (fun hHeld=>?_)
           clear hK K
           refine norm_ (a':=?_) ?_ ?_;rotate_left;(show Act.put _ (some 106) _=_;simp only [Act.put,q1_,q2_,q3_,i64_w,i32_w];rfl)
           refine one_ (i:=6) (N:=some 107) #[Y,Y,Y,Y,Y,Y,Y,Y,Y,Z,Z] rfl rfl (one_of HT_.out (by kernel_rfl)) (by decide) (fun K hK=>?_)
           have hcv70:=own_string (P:=Try.prog) Try.underlying22 Try.underlying5 Try.underlying9 (Kd.own_of_R HO449.out)
           refine value_ (w1:=?_) (v:=?_) (by rfl) rfl ?_ ?_
           rotate_left 2
           ·go_simp
            constructor
            ·rfl
            ·rfl
           clear hcv70
           refine hK.out _ _ ⟨(bc_ BK438.out 0).trans rfl,(bc_ BK438.out 1).trans rfl,Kd.C_string (P:=Try.prog) (A:=A0) (c:=c0) Try.underlying22 Try.underlying5 Try.underlying9 (Kd.C_below HR0.out HB.out)⟩ (fun hHeld=>?_)
           clear hK K
           refine norm_ (a':=?_) ?_ ?_;rotate_left;(show Act.put _ (some 107) _=_;simp only [Act.put,q1_,q2_,q3_,i64_w,i32_w];rfl)
           refine pu_ (i:=9) (N:=some 110) (v:=?_) (a':=?_) #[Y,Y,Y,Y,Y,Y,Y,Y,Y,Y,Z] rfl rfl HT_.out (by kernel_rfl) (fun _ _ _ h=>h) (by rfl) ?_ ?_ ?_;rotate_left;(intro w';go_simp;with_reducible rfl);rotate_left;(simp only [Act.put,q1_,q2_,q3_,i64_w,i32_w];rfl)
           refine pu_ (i:=10) (N:=some 111) (v:=?_) (a':=?_) #[Y,Y,Y,Y,Y,Y,Y,Y,Y,Y,Y] rfl rfl HT_.out (by kernel_rfl) (fun _ _ _ h=>h) (by rfl) ?_ ?_ ?_;rotate_left;(intro w';go_simp;with_reducible rfl);rotate_left;(simp only [Act.put,q1_,q2_,q3_,i64_w,i32_w];rfl)
           refine done_ (done_of HT_.out (by kernel_rfl)) ?_;have hnb71:=NB438_408.out;have hnc71:=NB408_438.out;have z72_0 : w69.cell? ⟨gb438,0,none⟩=some (.slice Ao48 y435.length co48):=(bc_ BK438.out 0).trans rfl;have z72_1 : w69.cell? ⟨gb438,1,none⟩=some (.slice Ao67 x439001_5.length co67):=(bc_ BK438.out 1).trans rfl;have y72_0:=bf_ BK438.out 0;have y72_1:=bf_ BK438.out 1;have z73_0 : w69.cell? ⟨gb408,0,none⟩=some (.slice none 0 0):=(bc_ BK408.out 0).trans rfl;have z73_1 : w69.cell? ⟨gb408,1,none⟩=some (.slice none 0 0):=(bc_ BK408.out 1).trans rfl;have y73_0:=bf_ BK408.out 0;have y73_1:=bf_ BK408.out 1
           try go_wp2
           refine bodyPost_ret (results_ct rfl _ _ gb408 27 #[.slice Ao48 y435.length co48,.slice Ao67 x439001_5.length co67] (0,0) _ rfl (by refine kk_ ?_;refine blk_put (cs:=#[.slice Ao48 y435.length co48,.slice none 0 0]) ?_ 1 _ rfl;refine kk_ ?_;refine blk_put (cs:=#[.slice none 0 0,.slice none 0 0]) ?_ 0 _ rfl;exact kk_ BK408.out) Try.underlying27 rfl (by kernel_rfl)) rfl ?_
           exact ⟨_,_,by first|rfl|(simp [errW_none,errW_some] <;> rfl)|(simp [*,errW_none,errW_some] <;> rfl),by (with_reducible repeat (first|apply ra_|apply rn_|apply re_));exact Kd.R_mono (rf_ (p:=⟨gb408,1,none⟩) (rf_ (p:=⟨gb408,0,none⟩) (Kd.R_types HO_439000.out BK408.out (by decide)) (fun _ hk=>hk.2) (.slice Ao48 y435.length co48)) (fun _ hk=>hk.2) (.slice Ao67 x439001_5.length co67)) (fun _ hk=>hk.1),by (with_reducible repeat (first|apply Kd.N_alloc|apply Kd.N_drewN|apply Kd.N_drew));exact Kd.N_mono (Kd.N_far (p:=⟨gb408,1,none⟩) (Kd.N_far (p:=⟨gb408,0,none⟩) (Kd.N_mono HO_439001.out (fun k_ hk=>(⟨hk,hk.1.2.2.2.1⟩ : _∧k_≠gb408))) (fun _ hk=>hk.2) (.slice Ao48 y435.length co48)) (fun _ hk=>hk.2) (.slice Ao67 x439001_5.length co67)) (fun _ hk=>⟨hk.1.1.1,hk.1.1.2.2.1⟩),hb2_ HB.out GE408.out GE438.out⟩
end Go.Proofs.Ytjigckhopkclgaa.P
