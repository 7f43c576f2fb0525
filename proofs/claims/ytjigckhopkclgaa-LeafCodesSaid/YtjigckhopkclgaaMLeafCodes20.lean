/- by wip/prune.py -/
import Derived.Test.YtjigckhopkclgaaMLeafCodes3
import Derived.Test.YtjigckhopkclgaaMLeafCodes4
import Derived.Test.YtjigckhopkclgaaMLeafCodes5
import Derived.Test.YtjigckhopkclgaaMLeafCodes8
import Derived.Test.YtjigckhopkclgaaMLeafCodes9
import Derived.Test.YtjigckhopkclgaaMLeafCodes15
import Derived.Test.YtjigckhopkclgaaMLeafCodes16
import Derived.Test.YtjigckhopkclgaaMLeafCodes19
set_option linter.unusedSimpArgs false
set_option linter.unusedVariables false
namespace Go.Proofs.Ytjigckhopkclgaa.P
open Go.RowKit YtjigckhopkclgaaW.PrintWords YtjigckhopkclgaaW.PrintLast YtjigckhopkclgaaW.PrintMore
attribute [local go_sem] max2_int min2_int max_two min_two max_three min_three max_four min_four   -- for this text's walks alone
attribute [local go_sem] run_store_float
def humusref02_Four.f (a0 : Int) : Option (List Int):=some (([((Int.tdiv a0 16777216) % 4294967296) % 256,((Int.tdiv a0 65536) % 4294967296) % 256,((Int.tdiv a0 256) % 4294967296) % 256,(a0) % 256] : List Int))
set_option maxHeartbeats 8000000 in
set_option maxRecDepth 100000 in
theorem humusref02_Four.calls (a0 : Int) (r : List Int) (w : World) (h : humusref02_Four.f a0=some r) :
  Calls Try.prog 29 #[.int .u32 a0] w fun e w'=>∃ v0_ : Value,e=.returned (v0_)∧Kd.R (Kd.int .u8) 5 w' w.heap.size (fun _=>True) v0_ r∧Below w.heap.size w w':=by
 have HB:=A_ (Below.refl w.heap.size w);have H : (some (([((Int.tdiv a0 16777216) % 4294967296) % 256,((Int.tdiv a0 65536) % 4294967296) % 256,((Int.tdiv a0 256) % 4294967296) % 256,(a0) % 256] : List Int)))=some r:=h;clear h
 obtain ⟨y409,hy409⟩ : ∃ y_ : List Int,y_=(([((Int.tdiv a0 16777216) % 4294967296) % 256,((Int.tdiv a0 65536) % 4294967296) % 256,((Int.tdiv a0 256) % 4294967296) % 256,(a0) % 256] : List Int)):=⟨_,rfl⟩
 replace H : (some y409)=some r:=by first|(rw [hy409];with_reducible exact H)|(have H2_:=(Option.bind_some _ _).symm.trans H;rw [hy409];with_reducible exact H2_)|(have H2_:=(Option.bind_some _ _).symm.trans H;with_reducible exact H2_)|with_reducible exact H|(rw [hy409];exact H)|exact H
 have Ny409:=A_ hy409;clear hy409;obtain rfl:=Option.some.inj H;go_enter Try.func29,Try.ntmps29
 go_wp2_with (first|((with_reducible refine gate_dst (N:=14) rfl ?_);refine Kd.R_lit (Kd.int .u8) _ 5 ?hg (N:=14) ?hd (xs:=([((Int.tdiv a0 16777216) % 4294967296) % 256,((Int.tdiv a0 65536) % 4294967296) % 256,((Int.tdiv a0 256) % 4294967296) % 256,(a0) % 256] : List Int)) (inner:=[.int .u8 (((Int.tdiv a0 16777216) % 4294967296) % 256),.int .u8 (((Int.tdiv a0 65536) % 4294967296) % 256),.int .u8 (((Int.tdiv a0 256) % 4294967296) % 256),.int .u8 ((a0) % 256)]) (ok:=fun _=>True) (okp:=fun _=>True) ?hr ?hp (fun _ hk=>hk) trivial (Below.refl _ _) (Nat.le_refl _) (by simp) ?_;(case hd=>rfl);(case hg=>rfl);(case hr=>first|(go_simp;done)|(go_simp;rfl));(case hp=>exact (Reps.one (show Kd.M (Kd.int .u8) _ _ _ (((Int.tdiv a0 16777216) % 4294967296) % 256) [.int .u8 (((Int.tdiv a0 16777216) % 4294967296) % 256)] from rfl) (Reps.one (show Kd.M (Kd.int .u8) _ _ _ (((Int.tdiv a0 65536) % 4294967296) % 256) [.int .u8 (((Int.tdiv a0 65536) % 4294967296) % 256)] from rfl) (Reps.one (show Kd.M (Kd.int .u8) _ _ _ (((Int.tdiv a0 256) % 4294967296) % 256) [.int .u8 (((Int.tdiv a0 256) % 4294967296) % 256)] from rfl) (Reps.one (show Kd.M (Kd.int .u8) _ _ _ ((a0) % 256) [.int .u8 ((a0) % 256)] from rfl) (Reps.none _ _))))));intro v410 w2 ho3 hb hg_ hnew_;clear hg_ hnew_;(first|rw [← Ny409.out] at ho3|(simp only [Int.reduceToNat] at ho3;rw [← Ny409.out] at ho3));have n0_:=A_ (Kd.R_lower ho3 (bz_ (by repeat (first|(with_reducible first|exact HB.out|apply ba_|apply bd_|apply be_)|exact HB.out))));have n1_:=A_ (bp_ (by repeat (first|(with_reducible first|exact HB.out|apply ba_|apply bd_|apply be_)|exact HB.out)) hb);clear HB;have HO411:=n0_;have HB:=n1_;clear n0_ n1_;clear hb ho3))
 go_ret
 exact ⟨_,by first|rfl|(simp [errW_none,errW_some] <;> rfl)|(simp [*,errW_none,errW_some] <;> rfl),by (with_reducible repeat (first|apply ra_|apply rn_|apply re_));exact HO411.out,by repeat (first|(with_reducible first|exact HB.out|apply ba_|apply bd_|apply be_)|exact HB.out)⟩
def humusref02_Sum.l0 : Nat→List Int→Int→Int→Option (Int)
 | 0,_,_,_=>none
 | k + 1,x0,x3,x4=>if x4<(wrap64 (8 * (x0.length : Int))) then (if 0≤(wrap64 (Int.tdiv x4 8)) then (if (wrap64 (Int.tdiv x4 8))<(x0.length : Int) then (if 0≤(IntKind.u64.wrap (wrap64 (7 - (Int.tmod x4 8)))) then (if (IntKind.u64.wrap (Int.tdiv x3 2147483648))=(Int.tmod (shr .u64 (IntKind.u64.wrap (rd x0 (wrap64 (Int.tdiv x4 8)))) (IntKind.u64.wrap (wrap64 (7 - (Int.tmod x4 8))))) 2) then (humusref02_Sum.l0 k x0 (Int.tmod (IntKind.u64.wrap (x3 * 2)) 4294967296) (wrap64 (x4 + 1))) else (humusref02_Sum.l0 k x0 (Go.bits .xor .u64 (Int.tmod (IntKind.u64.wrap (x3 * 2)) 4294967296) 2168537515) (wrap64 (x4 + 1)))) else (none)) else (none)) else (none)) else (some ((x3) % 4294967296))
def humusref02_Sum.f (k : Nat) (l0 : List Int) : Option (Int):=humusref02_Sum.l0 k l0 4294967295 0
set_option maxHeartbeats 8000000 in
set_option maxRecDepth 100000 in
theorem humusref02_Sum.calls (k : Nat) (A0 : Option Addr) (c0 : Nat) (l0 : List Int) (r : Int) (w : World) (hr0 : Kd.C (Kd.int .u8) w A0 l0.length l0) (hc0 : l0.length≤c0) (h : humusref02_Sum.f k l0=some r) :
  Calls Try.prog 30 #[.slice A0 l0.length c0] w fun e w'=>e=.returned (.int .u32 r)∧Drawn0 w w':=by
 have HR0:=A_ hr0;have HC0:=A_ hc0;clear hr0 hc0;have H : (humusref02_Sum.l0 k l0 4294967295 0)=some r:=h;clear h;have H':=A_ H;clear H;go_enter Try.func30,Try.ntmps30;go_wp2
 go_loopg [3,4] k (fun kq v3 v4 w'=>∃ (x3_1 : Int) (x4_1 : Int),v3=.int .u64 x3_1∧v4=.int .i64 x4_1∧Aside0 (humusref02_Sum.l0 kq l0 x3_1 x4_1=some r)∧Aside0 (kq≤k)∧Drawn0 w w')
 case atStart=>exact ⟨(4294967295),(0),(by first|rfl|(simp;done)|(simp [*];done)),(by first|rfl|(simp;done)|(simp [*];done)),H',⟨Nat.le_refl _⟩,by repeat (first|exact Drawn0.refl _|apply Drawn0.step)⟩
 case round =>
  clear H';obtain ⟨x3_1,x4_1,rfl,rfl,HA,HK1,⟨m1,rfl⟩⟩:=hrel
  cases gk with
  | zero=>exact absurd HA.out (by simp [humusref02_Sum.l0])
  | succ k1 =>
   have H:=HA.out;clear HA
   simp only [humusref02_Sum.l0] at H
   by_cases c2 : x4_1<(wrap64 (8 * (l0.length : Int)))
   ·rw [if_pos c2] at H
    have c2b0 : decide (x4_1<(wrap64 (8 * (l0.length : Int))))=true:=dt_ c2;clear c2
    obtain ⟨ji3,hji3⟩ : ∃ j_ : Int,(wrap64 (Int.tdiv x4_1 8))=j_:=⟨_,rfl⟩
    replace H : (if 0≤(ji3) then (if (ji3)<(l0.length : Int) then (if 0≤(IntKind.u64.wrap (wrap64 (7 - (Int.tmod x4_1 8)))) then (if (IntKind.u64.wrap (Int.tdiv x3_1 2147483648))=(Int.tmod (shr .u64 (IntKind.u64.wrap (rd l0 (ji3))) (IntKind.u64.wrap (wrap64 (7 - (Int.tmod x4_1 8))))) 2) then (humusref02_Sum.l0 k1 l0 (Int.tmod (IntKind.u64.wrap (x3_1 * 2)) 4294967296) (wrap64 (x4_1 + 1))) else (humusref02_Sum.l0 k1 l0 (Go.bits .xor .u64 (Int.tmod (IntKind.u64.wrap (x3_1 * 2)) 4294967296) 2168537515) (wrap64 (x4_1 + 1)))) else (none)) else (none)) else (none))=some r:=by first|(rw [hji3] at H;exact H)|(simp only [hji3] at H ⊢;exact H)
    have hji3w : (IntKind.i64.wrap (Int.tdiv x4_1 8))=ji3:=(i64_w _).trans hji3
    by_cases c4 : 0≤(ji3)
    ·rw [if_pos c4] at H
     have c4b0 : decide (0≤(ji3))=true:=dt_ c4;clear c4
     by_cases c5 : (ji3)<(l0.length : Int)
     ·rw [if_pos c5] at H
      have c5b0 : decide ((ji3)<(l0.length : Int))=true:=dt_ c5;clear c5
      obtain ⟨ji6,hji6⟩ : ∃ j_ : Int,(IntKind.u64.wrap (wrap64 (7 - (Int.tmod x4_1 8))))=j_:=⟨_,rfl⟩
      replace H : (if 0≤(ji6) then (if (IntKind.u64.wrap (Int.tdiv x3_1 2147483648))=(Int.tmod (shr .u64 (IntKind.u64.wrap (rd l0 (ji3))) (ji6)) 2) then (humusref02_Sum.l0 k1 l0 (Int.tmod (IntKind.u64.wrap (x3_1 * 2)) 4294967296) (wrap64 (x4_1 + 1))) else (humusref02_Sum.l0 k1 l0 (Go.bits .xor .u64 (Int.tmod (IntKind.u64.wrap (x3_1 * 2)) 4294967296) 2168537515) (wrap64 (x4_1 + 1)))) else (none))=some r:=by first|(rw [hji6] at H;exact H)|(simp only [hji6] at H ⊢;exact H)
      by_cases c7 : 0≤(ji6)
      ·rw [if_pos c7] at H
       have c7b0:=eq_true c7;have c7b1 : decide (0≤(ji6))=true:=dt_ c7;clear c7
       obtain ⟨ji8,hji8⟩ : ∃ j_ : Int,(shr .u64 (IntKind.u64.wrap (rd l0 (ji3))) (ji6))=j_:=⟨_,rfl⟩
       replace H : (if (IntKind.u64.wrap (Int.tdiv x3_1 2147483648))=(Int.tmod (ji8) 2) then (humusref02_Sum.l0 k1 l0 (Int.tmod (IntKind.u64.wrap (x3_1 * 2)) 4294967296) (wrap64 (x4_1 + 1))) else (humusref02_Sum.l0 k1 l0 (Go.bits .xor .u64 (Int.tmod (IntKind.u64.wrap (x3_1 * 2)) 4294967296) 2168537515) (wrap64 (x4_1 + 1))))=some r:=by first|(rw [hji8] at H;exact H)|(simp only [hji8] at H ⊢;exact H)
       have hji8_ : ((IntKind.u64.wrap (rd l0 (ji3))) / 2 ^ min (ji6).toNat 64)=ji8:=hji8;have hji8z : (ji6)≤64→((IntKind.u64.wrap (rd l0 (ji3))) / 2 ^ (ji6).toNat)=ji8:=shr_small hji8
       by_cases c9 : (IntKind.u64.wrap (Int.tdiv x3_1 2147483648))=(Int.tmod (ji8) 2)
       ·rw [if_pos c9] at H
        have c9b0 : ((IntKind.u64.wrap (Int.tdiv x3_1 2147483648)) == (Int.tmod (ji8) 2))=true:=beq_iff_eq.mpr c9;have c9b1 : ((IntKind.u64.wrap (Int.tdiv x3_1 2147483648)) != (Int.tmod (ji8) 2))=false:=bne_eq_false_iff_eq.mpr c9;clear c9;have H':=A_ H;clear H
        have p412 : 0≤((ji3) : Int):=od_ (by first|(with_reducible assumption)|assumption)
        have q412 : (ji3)<(l0.length : Int):=od_ (by first|(with_reducible assumption)|assumption)
        obtain ⟨ad412,e412,hx412_0⟩:=Kd.at_int HR0.out (ji3) p412 q412
        cases e412
        replace p412:=eq_true p412;replace q412:=eq_true q412;go_wp2;go_roundg k1
        case measure=>have:=HK1.out;omega
        case rel=>exact ⟨(Int.tmod (IntKind.u64.wrap (x3_1 * 2)) 4294967296),(wrap64 (x4_1 + 1)),(by first|rfl|(simp;done)|(simp [*];done)),(by first|rfl|(simp;done)|(simp [*];done)),H',⟨by have:=HK1.out;omega⟩,by repeat (first|exact Drawn0.refl _|apply Drawn0.step)⟩
       ·rw [if_neg c9] at H
        have c9b0 : ((IntKind.u64.wrap (Int.tdiv x3_1 2147483648)) == (Int.tmod (ji8) 2))=false:=beq_eq_false_iff_ne.mpr c9;have c9b1 : ((IntKind.u64.wrap (Int.tdiv x3_1 2147483648)) != (Int.tmod (ji8) 2))=true:=bne_iff_ne.mpr c9;have H':=A_ H;clear H
        have p412 : 0≤((ji3) : Int):=od_ (by first|(with_reducible assumption)|assumption)
        have q412 : (ji3)<(l0.length : Int):=od_ (by first|(with_reducible assumption)|assumption)
        obtain ⟨ad412,e412,hx412_0⟩:=Kd.at_int HR0.out (ji3) p412 q412
        cases e412
        replace p412:=eq_true p412;replace q412:=eq_true q412;go_wp2;go_roundg k1
        case measure=>have:=HK1.out;omega
        case rel=>exact ⟨(Go.bits .xor .u64 (Int.tmod (IntKind.u64.wrap (x3_1 * 2)) 4294967296) 2168537515),(wrap64 (x4_1 + 1)),(by first|rfl|(simp;done)|(simp [*];done)),(by first|rfl|(simp;done)|(simp [*];done)),H',⟨by have:=HK1.out;omega⟩,by repeat (first|exact Drawn0.refl _|apply Drawn0.step)⟩
      ·rw [if_neg c7] at H
       exact absurd H (by simp)
     ·rw [if_neg c5] at H
      exact absurd H (by simp)
    ·rw [if_neg c4] at H
     exact absurd H (by simp)
   ·rw [if_neg c2] at H
    have c2b0 : decide (x4_1<(wrap64 (8 * (l0.length : Int))))=false:=df_ c2;clear c2;obtain rfl:=Option.some.inj H;go_wp2;go_ret
    exact ⟨by first|rfl|(simp;done)|(simp [*];done),by repeat (first|exact Drawn0.refl _|apply Drawn0.step)⟩
def humusref02_Seal.f (k : Nat) (l0 : List Int) : Option (List Int):=(humusref02_Sum.f k l0).bind fun t413=>((humusref02_Four.f t413).bind fun t414=>(if t414.length + l0.length<140737488355328 then (some (t414++l0)) else (none)))
set_option maxHeartbeats 8000000 in
set_option maxRecDepth 100000 in
theorem humusref02_Seal.calls (k : Nat) (A0 : Option Addr) (c0 : Nat) (l0 : List Int) (r : List Int) (w : World) (hr0 : Kd.C (Kd.int .u8) w A0 l0.length l0) (hc0 : l0.length≤c0) (h : humusref02_Seal.f k l0=some r) :
  Calls Try.prog 48 #[.slice A0 l0.length c0] w fun e w'=>∃ v0_ : Value,e=.returned (v0_)∧Kd.R (Kd.int .u8) 5 w' w.heap.size (fun _=>True) v0_ r∧Below w.heap.size w w':=by
 have HR0:=A_ hr0;have HC0:=A_ hc0;clear hr0 hc0;have HB:=A_ (Below.refl w.heap.size w)
 have H : ((humusref02_Sum.f k l0).bind fun t413=>((humusref02_Four.f t413).bind fun t414=>(if t414.length + l0.length<140737488355328 then (some (t414++l0)) else (none))))=some r:=h
 clear h;replace H:=Option.bind_eq_some_iff.mp H;obtain ⟨t413,A20,H⟩:=H
 replace H : ((humusref02_Four.f t413).bind fun t414=>(if t414.length + l0.length<140737488355328 then (some (t414++l0)) else (none)))=some r:=H
 have A2:=A_ A20;clear A20;replace H:=Option.bind_eq_some_iff.mp H;obtain ⟨t414,A30,H⟩:=H
 replace H : (if t414.length + l0.length<140737488355328 then (some (t414++l0)) else (none))=some r:=H
 have A3:=A_ A30;clear A30
 by_cases c4 : t414.length + l0.length<140737488355328
 ·rw [if_pos c4] at H
  have LMc4:=A_ c4;clear c4
  obtain ⟨y417,hy417⟩ : ∃ y_ : List Int,y_=(t414++l0):=⟨_,rfl⟩
  replace H : (some y417)=some r:=by first|(rw [hy417];with_reducible exact H)|(have H2_:=(Option.bind_some _ _).symm.trans H;rw [hy417];with_reducible exact H2_)|(have H2_:=(Option.bind_some _ _).symm.trans H;with_reducible exact H2_)|with_reducible exact H|(rw [hy417];exact H)|exact H
  have Ny417:=A_ hy417;clear hy417;obtain rfl:=Option.some.inj H;go_enter Try.func48,Try.ntmps48
  go_wp2_with (first|((with_reducible refine gate_callee (f:=30) rfl ?_);refine goesL_ (some 4) rfl rfl Try.func30 (by kernel_rfl) rfl #[.slice A0 l0.length c0] rfl (by (try simp only [List.map_toArray,List.map_cons,List.map_nil]);first|done|rfl|(simp only [List.length_drop,List.length_take];rfl)) ?_;(with_reducible refine (humusref02_Sum.calls k _ _ l0 t413 _ ?side1 ?side2 A2.out).mono ?_);(case side1=>repeat (first|exact HR0.out|(with_reducible refine Kd.C_alloc ?_ _)|(with_reducible refine Kd.C_drewN ?_ _)|(with_reducible refine Kd.C_drew ?_)));(case side2=>exact HC0.out);rintro e w' ⟨rfl,⟨nd,rfl⟩⟩;refine ⟨_,rfl,?_⟩)|((with_reducible refine gate_callee (f:=29) rfl ?_);refine goesL_ (some 5) rfl rfl Try.func29 (by kernel_rfl) rfl #[.int .u32 t413] rfl (by (try simp only [List.map_toArray,List.map_cons,List.map_nil]);first|done|rfl|(simp only [List.length_drop,List.length_take];rfl)) ?_;(with_reducible refine (humusref02_Four.calls t413 t414 _ A3.out).mono ?_);rintro e w5 ⟨v415,rfl,ho0,hb⟩;refine ⟨_,rfl,?_⟩;have n0_:=A_ (Kd.R_lower ho0 (bz_ (by repeat (first|(with_reducible first|exact HB.out|apply ba_|apply bd_|apply be_)|exact HB.out))));have n1_:=A_ (bp_ (by repeat (first|(with_reducible first|exact HB.out|apply ba_|apply bd_|apply be_)|exact HB.out)) hb);clear HB;have HO416:=n0_;have HB:=n1_;clear n0_ n1_;(try clear hb);(try clear hb2);(try clear hk);(try clear hi);(try clear ho0))|((with_reducible refine gate_builtin (b:=.append) (xs:=#[.tmp 5,.tmp 6]) rfl ?_);at_builtin;refine Kd.R_append_rows (Kd.int .u8) (w0:=w) w.heap.size rfl (.tmp 5) (.tmp 6) 22 5 (.int .u8 0) 1 rfl Try.underlying22 info5 rfl (by decide) (by omega) v415 t414 l0 _ _ _ (fun _=>True) (fun _=>False) rfl rfl ?aO ?aR (fun _ _ h=>h) (fun _ h=>h.elim) ?aF ?aB ?aS ?aL ?_;(case aR=>repeat (first|exact (Kd.C_below HR0.out HB.out)|(with_reducible refine Kd.C_alloc ?_ _)|(with_reducible refine Kd.C_drewN ?_ _)|(with_reducible refine Kd.C_drew ?_)));(case aB=>exact (by repeat (first|(with_reducible first|exact HB.out|apply ba_|apply bd_|apply be_)|exact HB.out)));(case aF=>exact (fun _ _=>trivial));(case aO=>exact (by (with_reducible repeat (first|apply ra_|apply rn_|apply re_));exact HO416.out));(case aS=>exact (bz_ (by repeat (first|(with_reducible first|exact HB.out|apply ba_|apply bd_|apply be_)|exact HB.out))));(case aL=>have:=LMc4.out;omega);intro v418 w6 ho hb hg hat;rw [← Ny417.out] at ho;have n0_:=A_ (hb);have n1_:=A_ (ho);clear HB;clear HO416;have HB:=n0_;have HO419:=n1_;clear n0_ n1_;clear ho hb hg hat))
  go_ret
  exact ⟨_,by first|rfl|(simp [errW_none,errW_some] <;> rfl)|(simp [*,errW_none,errW_some] <;> rfl),by (with_reducible repeat (first|apply ra_|apply rn_|apply re_));exact HO419.out,by repeat (first|(with_reducible first|exact HB.out|apply ba_|apply bd_|apply be_)|exact HB.out)⟩
 ·rw [if_neg c4] at H
  exact absurd H (by simp)
end Go.Proofs.Ytjigckhopkclgaa.P
namespace Go.Proofs.Ytjigckhopkclgaa.P
open Go.RowKit Ytjigckhopkclgaa Ytjigckhopkclgaa.Mem YtjigckhopkclgaaW.PrintWords YtjigckhopkclgaaW.PrintLast YtjigckhopkclgaaW.PrintMore
def reg0 : BitVec 32:=BitVec.allOnes 32
def sumL (l : List Int) : BitVec 32:=Crc.crc reg0 l
def fourL (v : BitVec 32) : List Int:=[(v.toNat : Int) / 16777216 % 256,(v.toNat : Int) / 65536 % 256,(v.toNat : Int) / 256 % 256,(v.toNat : Int) % 256]
def sealL (l : List Int) : List Int:=fourL (sumL l)++l
theorem sealL_length (l : List Int) : (sealL l).length=l.length + 4:=by unfold sealL fourL; simp
theorem sealL_take (l : List Int) : (sealL l).take 4=fourL (sumL l):=rfl
theorem sealL_drop (l : List Int) : (sealL l).drop 4=l:=rfl
theorem fourL_bytes (v : BitVec 32) : Bytes (fourL v):=by
  intro x hx
  unfold fourL at hx
  simp only [List.mem_cons,List.not_mem_nil,or_false] at hx
  rcases hx with rfl|rfl|rfl|rfl <;> omega
theorem sealL_bytes {l : List Int} (h : Bytes l) : Bytes (sealL l):=(fourL_bytes _).append h
theorem wsucc {i : Nat} (h : i≤4611686018427387904) : wrap64 ((i : Int) + 1)=((i + 1 : Nat) : Int):=by unfold wrap64; omega
theorem More_l1 (l : List Int) (n i : Int) (k : Nat) : ∀ (d j : Nat) (r : BitVec 32),j + d=8→tally_More.l1 (k + d + 1) (r.toNat : Int) l n i (j : Int)=tally_More.l0 k ((Crc.sn d r).toNat : Int) l n (wrap64 (i + 1)):=by
  intro d
  induction d with
  | zero =>
    intro j r hj
    rw [tally_More.l1,if_neg (by omega)]; rfl
  | succ d ih =>
    intro j r hj
    rw [show k + (d + 1) + 1=(k + d + 1) + 1 by omega,tally_More.l1,if_pos (by omega),wsucc (by omega)]
    by_cases ht : (r.toNat : Int) / 2147483648=1
    · rw [if_pos ht,Crc.step_hi r ht]; exact ih (j + 1) (Crc.s r) (by omega)
    · rw [if_neg ht,Crc.step_lo r ht]; exact ih (j + 1) (Crc.s r) (by omega)
theorem top8L (r : BitVec 32) (x : Int) (h0 : 0≤x) (h1 : x≤255) : Go.bits .xor .u32 (r.toNat : Int) (((x % 4294967296) * 16777216) % 4294967296)=((r ^^^ BitVec.ofNat 32 (x.toNat * 16777216)).toNat : Int):=by
  have e : ((x % 4294967296) * 16777216) % 4294967296=((BitVec.ofNat 32 (x.toNat * 16777216)).toNat : Int):=by
    rw [BitVec.toNat_ofNat]; omega
  rw [e,Crc.xor32]
theorem More_l0 {l : List Int} (hb : Bytes l) (hl : l.length≤1000000) (k : Nat) : ∀ (d i : Nat) (r : BitVec 32),i + d=l.length→tally_More.l0 (k + 10 * d + 1) (r.toNat : Int) l (l.length : Int) (i : Int)=some ((Crc.crc r (l.drop i)).toNat : Int):=by
  intro d
  induction d with
  | zero =>
    intro i r hi
    rw [tally_More.l0,if_neg (by omega),List.drop_eq_nil_of_le (by omega)]; rfl
  | succ d ih =>
    intro i r hi
    have hlt : i<l.length:=by omega
    have hbb:=hb.at_ i hlt
    rw [show k + 10 * (d + 1) + 1=(k + 10 * d + 1) + 8 + 1 + 1 by omega,tally_More.l0,if_pos (by omega),if_pos (by omega),if_pos (by omega),top8L r _ hbb.1 hbb.2]
    refine (More_l1 l (l.length : Int) (i : Int) (k + 10 * d + 1) 8 0 _ rfl).trans ?_
    rw [wsucc (by omega),ih (i + 1) _ (by omega)]
    congr 2
    have he : rd l (i : Int)=l[i]:=by unfold rd; rw [Int.toNat_natCast,List.getD_eq_getElem?_getD,List.getElem?_eq_getElem hlt]; rfl
    rw [List.drop_eq_getElem_cons hlt,Crc.crc_cons,Crc.run_b8 _ _ (by rw [← he]; exact hbb.1) (by rw [← he]; exact hbb.2),he]
theorem tSum_ev {k : Nat} {l : List Int} (hb : Bytes l) (hl : l.length≤1000000) (hk : 10 * l.length + 1≤k) : tally_Sum.f k l=some ((sumL l).toNat : Int):=by
  obtain ⟨m,rfl⟩ : ∃ m,k=m + 10 * l.length + 1:=⟨k - (10 * l.length + 1),by omega⟩
  unfold tally_Sum.f tally_More.f
  have h:=More_l0 hb hl m l.length 0 reg0 (by omega)
  rw [List.drop_zero] at h
  rw [show (4294967295 : Int)=(reg0.toNat : Int) from rfl,show (0 : Int)=((0 : Nat) : Int) from rfl,h]
  rfl
theorem tSeal_ev {k : Nat} {l : List Int} (hb : Bytes l) (hl : l.length≤1000000) (hk : 10 * l.length + 1≤k) : tally_Seal.f k l=some (sealL l):=by
  unfold tally_Seal.f
  rw [tSum_ev hb hl hk]
  simp only [Option.bind_some]
  rw [if_pos (by simp; omega)]
  rfl
theorem tOpen_ev {k : Nat} {l : List Int} (hb : Bytes l) (h4 : 4≤l.length) (hl : l.length≤1000000) (hk : 10 * l.length + 1≤k) : tally_Open.f k l=some (if fourL (sumL (l.drop 4))=l.take 4 then (l.drop 4,0) else ([],5)):=by
  unfold tally_Open.f
  rw [if_neg (by omega),if_pos (by omega),tSeal_ev (hb.drop 4) (by rw [List.length_drop]; omega) (by rw [List.length_drop]; omega),Option.bind_some,if_pos (by rw [sealL_length]; omega),sealL_take]
  have hq:=str_eq (fourL_bytes (sumL (l.drop 4))) (hb.take 4)
  by_cases he : fourL (sumL (l.drop 4))=l.take 4
  · rw [if_pos he,he,if_pos rfl]; rfl
  · rw [if_neg he,if_neg (by intro h; rw [h,beq_self_eq_true] at hq; exact he (od_ hq.symm))]
theorem ref_step (q : BitVec 32) (b : Bool) : (((q.toNat : Int) / 2147483648)=(if b then 1 else 0)→(q.toNat : Int) * 2 % 4294967296=((Crc.st q b).toNat : Int))∧(¬ ((q.toNat : Int) / 2147483648)=(if b then 1 else 0)→Go.bits .xor .u64 ((q.toNat : Int) * 2 % 4294967296) 2168537515=((Crc.st q b).toNat : Int)) :=
  ⟨fun h=>Crc.ref_same q b (by rw [bne_eq_false_iff_eq]; exact h),fun h=>Crc.ref_other q b (by rw [bne_iff_ne]; exact h)⟩
theorem w64u {n : Int} (h0 : 0≤n) (h : n<18446744073709551616) : IntKind.u64.wrap n=n:=by
  simp only [IntKind.wrap,IntKind.bits,IntKind.signed]; simp; omega
theorem rSum_l0 {l : List Int} (hb : Bytes l) (hl : l.length≤1000000) (k : Nat) : ∀ (d i : Nat),i + d=8 * l.length→humusref02_Sum.l0 (k + d + 1) l ((Crc.run reg0 ((Crc.tb l).take i)).toNat : Int) (i : Int)=some ((sumL l).toNat : Int):=by
  intro d
  induction d with
  | zero =>
    intro i hi
    have hw : wrap64 (8 * (l.length : Int))=((8 * l.length : Nat) : Int):=by unfold wrap64; omega
    rw [humusref02_Sum.l0,hw,if_neg (by omega),List.take_of_length_le (by rw [Crc.tb_length]; omega)]
    have h:=(Crc.run reg0 (Crc.tb l)).isLt
    congr 1
    unfold sumL Crc.crc
    omega
  | succ d ih =>
    intro i hi
    have hlt : i<8 * l.length:=by omega
    have hw : wrap64 (8 * (l.length : Int))=((8 * l.length : Nat) : Int):=by unfold wrap64; omega
    have ht1 : Int.tdiv (i : Int) 8=((i / 8 : Nat) : Int):=by rw [Int.tdiv_eq_ediv_of_nonneg (by omega)]; omega
    have ht2 : Int.tmod (i : Int) 8=((i % 8 : Nat) : Int):=by rw [Int.tmod_eq_emod_of_nonneg (by omega)]; omega
    have hw1 : wrap64 ((i / 8 : Nat) : Int)=((i / 8 : Nat) : Int):=by unfold wrap64; omega
    have hw2 : wrap64 (7 - ((i % 8 : Nat) : Int))=((7 - i % 8 : Nat) : Int):=by unfold wrap64; omega
    have hw3 : IntKind.u64.wrap ((7 - i % 8 : Nat) : Int)=((7 - i % 8 : Nat) : Int):=w64u (by omega) (by omega)
    have hbb:=hb.at_ (i / 8) (by omega)
    have hx : IntKind.u64.wrap (rd l ((i / 8 : Nat) : Int))=rd l ((i / 8 : Nat) : Int):=w64u hbb.1 (by omega)
    have hsh : shr .u64 (rd l ((i / 8 : Nat) : Int)) ((7 - i % 8 : Nat) : Int)=rd l ((i / 8 : Nat) : Int) / 2 ^ (7 - i % 8):=by
      unfold shr
      rw [Int.toNat_natCast,Nat.min_eq_left (by simp only [IntKind.bits]; omega)]
    have hbt:=Crc.bit_of (rd l ((i / 8 : Nat) : Int)) (7 - i % 8) hbb.1
    have hsn : Crc.run reg0 ((Crc.tb l).take (i + 1))=Crc.st (Crc.run reg0 ((Crc.tb l).take i)) ((rd l ((i / 8 : Nat) : Int)).toNat.testBit (7 - i % 8)):=by rw [Crc.tb_take l i hlt,Crc.run_snoc]; rfl
    have ih':=ih (i + 1) (by omega)
    rw [hsn] at ih';have hq:=(Crc.run reg0 ((Crc.tb l).take i)).isLt
    generalize Crc.run reg0 ((Crc.tb l).take i)=q at *
    have hd : Int.tdiv (q.toNat : Int) 2147483648=(q.toNat : Int) / 2147483648:=Int.tdiv_eq_ediv_of_nonneg (by omega)
    have hd1 : IntKind.u64.wrap ((q.toNat : Int) / 2147483648)=(q.toNat : Int) / 2147483648:=w64u (by omega) (by omega)
    have hm1 : IntKind.u64.wrap ((q.toNat : Int) * 2)=(q.toNat : Int) * 2:=w64u (by omega) (by omega)
    have hm2 : Int.tmod ((q.toNat : Int) * 2) 4294967296=(q.toNat : Int) * 2 % 4294967296:=Int.tmod_eq_emod_of_nonneg (by omega)
    have hst:=ref_step q ((rd l ((i / 8 : Nat) : Int)).toNat.testBit (7 - i % 8))
    rw [show k + (d + 1) + 1=(k + d + 1) + 1 by omega,humusref02_Sum.l0,hw,if_pos (by omega),ht1,ht2,hw1,if_pos (by omega),if_pos (by omega),hw2,hw3,if_pos (by omega),hx,hsh,hbt,hd,hd1,hm1,hm2,wsucc (by omega)]
    by_cases hc : (q.toNat : Int) / 2147483648=(if (rd l ((i / 8 : Nat) : Int)).toNat.testBit (7 - i % 8)=true then 1 else 0)
    · rw [if_pos hc,hst.1 hc]; exact ih'
    · rw [if_neg hc,hst.2 hc]; exact ih'
theorem rSum_ev {k : Nat} {l : List Int} (hb : Bytes l) (hl : l.length≤1000000) (hk : 8 * l.length + 1≤k) : humusref02_Sum.f k l=some ((sumL l).toNat : Int):=by
  obtain ⟨m,rfl⟩ : ∃ m,k=m + 8 * l.length + 1:=⟨k - (8 * l.length + 1),by omega⟩
  unfold humusref02_Sum.f
  exact rSum_l0 hb hl m (8 * l.length) 0 (by omega)
theorem rFour_ev (v : BitVec 32) : humusref02_Four.f (v.toNat : Int)=some (fourL v):=by
  have h:=v.isLt
  unfold humusref02_Four.f fourL
  have e : ∀ m : Int,0<m→m<4294967296→Int.tdiv (v.toNat : Int) m % 4294967296=(v.toNat : Int) / m:=by
    intro m h0 h1
    rw [Int.tdiv_eq_ediv_of_nonneg (by omega)]
    refine Int.emod_eq_of_lt (Int.ediv_nonneg (by omega) (by omega)) ?_
    have:=Int.ediv_le_self (a:=(v.toNat : Int)) m (by omega)
    omega
  rw [e _ (by decide) (by decide),e _ (by decide) (by decide),e _ (by decide) (by decide)]
theorem rSeal_ev {k : Nat} {l : List Int} (hb : Bytes l) (hl : l.length≤1000000) (hk : 8 * l.length + 1≤k) : humusref02_Seal.f k l=some (sealL l):=by
  unfold humusref02_Seal.f
  rw [rSum_ev hb hl hk,Option.bind_some,rFour_ev,Option.bind_some,if_pos (by unfold fourL; simp; omega)]
  rfl
end Go.Proofs.Ytjigckhopkclgaa.P
namespace Go.Proofs.Ytjigckhopkclgaa.Pac
open Go.RowKit Ytjigckhopkclgaa Ytjigckhopkclgaa.Mem YtjigckhopkclgaaW.PrintWords YtjigckhopkclgaaW.PrintLast YtjigckhopkclgaaW.PrintMore
theorem nil_str : (⟨#[]⟩ : ByteArray).toList=[]:=by kernel_rfl
theorem item1_spec {b : List Int} {p q : Nat} {k : Int} {a : It} (hb : Bytes b) (h : item1 b p k=some (a,q)) (hk : 1≤k∧k≤5) :
    p≤q∧q≤b.length∧a.k=k∧may a=true∧norm a=a∧a.x<18446744073709551616∧one a=(b.drop p).take (q - p):=by
  have hx:=item1_x hb h;have hq:=item1_le h;have hv0:=val0
  unfold item1 at h
  split at h
  · rename_i hk4
    split at h
    · rename_i h1
      injection h with h; injection h with h2 h3
      subst h2 h3
      refine ⟨by omega,hq,hk4.symm,?_,?_,hx,?_⟩
      · rw [may_4,nil_str]; rfl
      · unfold norm; simp only [h1.2]
      · have:=rt4 hb h1.1
        rw [dt_ h1.2] at this
        rw [od_ this,show p + 8 - p=8 by omega]
    · cases h
  · split at h
    · rename_i hk4 hk5
      split at h
      · rename_i h1
        injection h with h; injection h with h2 h3
        subst h2 h3;have hn:=num_bd ((hb.drop p).take 1)
        have hl1 : ((b.drop p).take 1).length=1:=by rw [List.length_take,List.length_drop]; omega
        rw [hl1] at hn
        have hm : num ((b.drop p).take 1)=(((num ((b.drop p).take 1)).toNat : Nat) : Int):=by omega
        generalize (num ((b.drop p).take 1)).toNat=m at *
        have hsz : (strOfNums ((b.drop (p + 1)).take m)).size=m:=by rw [size_strOf,List.length_take,List.length_drop]; omega
        refine ⟨by omega,hq,hk5.symm,?_,?_,hx,?_⟩
        · rw [may_5,hsz]; simp; omega
        · unfold norm; simp only [hv0]
        · rw [rt5 hb h1.2 hm,show p + 1 + m - p=1 + m by omega]
      · cases h
    · rename_i hk4 hk5
      split at h
      · rename_i h1
        injection h with h; injection h with h2 h3
        subst h2 h3
        have hk3 : k=1∨k=2∨k=3:=by omega
        refine ⟨by omega,hq,rfl,h1.2,?_,hx,?_⟩
        · unfold norm; simp only [hv0]
        · have hw : wid k=(((wid k).toNat : Nat) : Int):=by unfold wid; rcases hk3 with rfl|rfl|rfl <;> rfl
          rw [rt3 hb h1.1 hk3 hw,show p + (wid k).toNat - p=(wid k).toNat by omega]
      · cases h
theorem takes_spec {b : List Int} (hb : Bytes b) : ∀ (ks : List Int) (p r : Nat) (l : List It),p≤b.length→kindsOk ks=true→takes b p ks=some (l,r) →
    p≤r∧r≤b.length∧l.map (·.k)=ks∧(∀ a ∈ l,may a=true)∧l.map norm=l∧(∀ a ∈ l,a.x<18446744073709551616)∧ones l=(b.drop p).take (r - p):=by
  intro ks
  induction ks with
  | nil =>
    intro p r l hp _ h
    simp only [takes] at h
    injection h with h; injection h with h1 h2
    subst h1 h2
    exact ⟨Nat.le_refl _,hp,rfl,(fun a h=>by cases h),rfl,(fun a h=>by cases h),by simp [ones]⟩
  | cons k ks ih =>
    intro p r l hp hks h
    simp only [takes] at h
    split at h
    · cases h
    rename_i a q hi
    split at h
    · cases h
    rename_i m r' ht
    injection h with h; injection h with h1 h2
    subst h1 h2
    unfold kindsOk at hks
    rw [List.all_cons,Bool.and_eq_true] at hks
    have hk1 : 1≤k∧k≤5:=by simpa using hks.1
    obtain ⟨a1,a2,a3,a4,a5,a6,a7⟩:=item1_spec hb hi hk1;obtain ⟨b1,b2,b3,b4,b5,b6,b7⟩:=ih q r' m a2 hks.2 ht
    refine ⟨by omega,b2,by rw [List.map_cons,a3,b3],?_,by rw [List.map_cons,a5,b5],?_,?_⟩
    · intro x hx; rcases List.mem_cons.1 hx with rfl|hx
      · exact a4
      · exact b4 x hx
    · intro x hx; rcases List.mem_cons.1 hx with rfl|hx
      · exact a6
      · exact b6 x hx
    · unfold ones at b7 ⊢
      rw [List.flatMap_cons,a7,b7]
      rw [show r' - p=(q - p) + (r' - q) by omega,← List.take_append_drop (q - p) ((b.drop p).take ((q - p) + (r' - q)))]
      rw [List.take_take,Nat.min_eq_left (by omega),List.drop_take,List.drop_drop,show p + (q - p)=q by omega,show (q - p) + (r' - q) - (q - p)=r' - q by omega]
theorem takes_len {ks : List Int} {b : List Int} {p r : Nat} {l : List It} (hb : Bytes b) (hp : p≤b.length) (hks : kindsOk ks=true) (h : takes b p ks=some (l,r)) : l.length=ks.length:=by
  have:=(takes_spec hb ks p r l hp hks h).2.2.1;rw [← this,List.length_map]
theorem form123 {a : It} (h : may a=true) (hk : a.k=1∨a.k=2∨a.k=3) : a=⟨a.k,a.n,0,⟨#[]⟩⟩∧0≤a.n∧a.n≤lim a.k:=by
  obtain ⟨k,n,x,s⟩:=a
  rcases hk with rfl|rfl|rfl
  · rw [may_1] at h
    simp only [Bool.and_eq_true,decide_eq_true_eq,beq_iff_eq] at h
    obtain ⟨⟨⟨h1,h2⟩,h3⟩,h4⟩:=h
    rw [sz0 h4,show x=0 by omega]
    exact ⟨rfl,h1,by show n≤255; omega⟩
  · rw [may_2] at h
    simp only [Bool.and_eq_true,decide_eq_true_eq,beq_iff_eq] at h
    obtain ⟨⟨⟨h1,h2⟩,h3⟩,h4⟩:=h
    rw [sz0 h4,show x=0 by omega]
    exact ⟨rfl,h1,by show n≤65535; omega⟩
  · rw [may_3] at h
    simp only [Bool.and_eq_true,decide_eq_true_eq,beq_iff_eq] at h
    obtain ⟨⟨⟨h1,h2⟩,h3⟩,h4⟩:=h
    rw [sz0 h4,show x=0 by omega]
    exact ⟨rfl,h1,by show n≤2147483647; omega⟩
theorem form5 {a : It} (h : may a=true) (hk : a.k=5) : a=⟨5,0,0,a.s⟩∧a.s.size<256:=by
  obtain ⟨k,n,x,s⟩:=a
  simp only at hk
  subst hk;rw [may_5] at h
  simp only [Bool.and_eq_true,decide_eq_true_eq,beq_iff_eq] at h
  obtain ⟨⟨h1,h2⟩,h3⟩:=h
  rw [h1,show x=0 by omega]
  exact ⟨rfl,by show s.size<256; omega⟩
theorem ones_append (l m : List It) : ones (l++m)=ones l++ones m:=by unfold ones; rw [List.flatMap_append]
end Go.Proofs.Ytjigckhopkclgaa.Pac
namespace Go.Proofs.Ytjigckhopkclgaa.P
open Go.RowKit YtjigckhopkclgaaW.PrintWords YtjigckhopkclgaaW.PrintLast YtjigckhopkclgaaW.PrintMore
attribute [local go_sem] max2_int min2_int max_two min_two max_three min_three max_four min_four   -- for this text's walks alone
attribute [local go_sem] run_store_float
mutual
def leaf_Encode.l0 : Nat→List (S56)→List Int→Int→Int→List Int→List (List Int)→Option (List Int × Int)
 | 0,_,_,_,_,_,_=>none
 | k + 1,x5,x20,x21,x22,x381000,x381001=>if x22<x21 then (if 0≤x22 then (if x22<(x20.length : Int) then (if x5.length<3518437208883 then (leaf_Encode.l0 k (x5++[(⟨3,rd x20 x22,0,(⟨#[]⟩ : ByteArray)⟩ : S56)]) x20 x21 (wrap64 (x22 + 1)) x381000 x381001) else (none)) else (none)) else (none)) else (if x5.length<3518437208883 then (leaf_Encode.l1 k (x5++[(⟨1,(x381001.length : Int),0,(⟨#[]⟩ : ByteArray)⟩ : S56)]) x381001 (x381001.length : Int) 0) else (none))
def leaf_Encode.l1 : Nat→List (S56)→List (List Int)→Int→Int→Option (List Int × Int)
 | 0,_,_,_,_=>none
 | k + 1,x5,x40,x41,x42=>if x42<x41 then (if 0≤x42 then (if x42<(x40.length : Int) then (if x5.length<3518437208883 then (leaf_Encode.l1 k (x5++[(⟨5,0,0,strOfNums (rd_L2 x40 x42)⟩ : S56)]) x40 x41 (wrap64 (x42 + 1))) else (none)) else (none)) else (none)) else ((pack_Put.f x5).bind fun bt396=>(if 0≤(wrap64 (508 - (bt396.1.length : Int))) then (if bt396.1.length + (wrap64 (508 - (bt396.1.length : Int)) : Int).toNat<140737488355328 then ((tally_Seal.f k (bt396.1++List.replicate (wrap64 (508 - (bt396.1.length : Int)) : Int).toNat 0)).bind fun t403=>(some (t403,0))) else (none)) else (none)))
end
def leaf_Encode.f (k : Nat) (l0_0 : List Int) (l0_1 : List (List Int)) : Option (List Int × Int):=(leaf_Check.f k l0_0 l0_1).bind fun t381=>(if t381=0 then (leaf_Encode.l0 k (([(⟨1,76,0,(⟨#[]⟩ : ByteArray)⟩ : S56)] : List (S56))) l0_0 (l0_0.length : Int) 0 l0_0 l0_1) else (some (([] : List Int),t381)))
set_option maxHeartbeats 8000000 in
set_option maxRecDepth 100000 in
theorem leaf_Encode.calls (k : Nat) (A0_0 : Option Addr) (c0_0 : Nat) (l0_0 : List Int) (A0_1 : Option Addr) (c0_1 : Nat) (l0_1 : List (List Int)) (r1 : List Int) (r2 : Int) (w : World) (hr0_0 : Kd.C (Kd.int .i64) w A0_0 l0_0.length l0_0) (hc0_0 : l0_0.length≤c0_0) (hr0_1 : Kd.C (Kd.slice 5 (Kd.int .u8)) w A0_1 l0_1.length l0_1) (hc0_1 : l0_1.length≤c0_1) (h : leaf_Encode.f k l0_0 l0_1=some (r1,r2)) :
  Calls Try.prog 20 #[.agg #[.slice A0_0 l0_0.length c0_0,.slice A0_1 l0_1.length c0_1]] w fun e w'=>∃ v0_ : Value,e=.returned (.tuple #[v0_,.int .i64 r2])∧Kd.R (Kd.int .u8) 5 w' w.heap.size (fun _=>True) v0_ r1∧Below w.heap.size w w':=by
 have hu27:=Try.underlying27;have hu56:=Try.underlying56;have HR0_0:=A_ hr0_0;have HC0_0:=A_ hc0_0;clear hr0_0 hc0_0;have HR0_1:=A_ hr0_1;have HC0_1:=A_ hc0_1;clear hr0_1 hc0_1;have HB:=A_ (Below.refl w.heap.size w)
 have H : ((leaf_Check.f k l0_0 l0_1).bind fun t381=>(if t381=0 then (leaf_Encode.l0 k (([(⟨1,76,0,(⟨#[]⟩ : ByteArray)⟩ : S56)] : List (S56))) l0_0 (l0_0.length : Int) 0 l0_0 l0_1) else (some (([] : List Int),t381))))=some (r1,r2):=h
 clear h;replace H:=Option.bind_eq_some_iff.mp H;obtain ⟨t381,A20,H⟩:=H
 replace H : (if t381=0 then (leaf_Encode.l0 k (([(⟨1,76,0,(⟨#[]⟩ : ByteArray)⟩ : S56)] : List (S56))) l0_0 (l0_0.length : Int) 0 l0_0 l0_1) else (some (([] : List Int),t381)))=some (r1,r2):=H
 have A2:=A_ A20;clear A20
 by_cases c3 : t381=0
 ·rw [if_pos c3] at H
  have c3b0 : (t381 == 0)=true:=beq_iff_eq.mpr c3;have c3b1 : (t381 != 0)=false:=bne_eq_false_iff_eq.mpr c3;clear c3
  obtain ⟨y382,hy382⟩ : ∃ y_ : List (S56),y_=(([(⟨1,76,0,(⟨#[]⟩ : ByteArray)⟩ : S56)] : List (S56))):=⟨_,rfl⟩
  replace H : (leaf_Encode.l0 k y382 l0_0 (l0_0.length : Int) 0 l0_0 l0_1)=some (r1,r2):=by first|(rw [hy382];with_reducible exact H)|(have H2_:=(Option.bind_some _ _).symm.trans H;rw [hy382];with_reducible exact H2_)|(have H2_:=(Option.bind_some _ _).symm.trans H;with_reducible exact H2_)|with_reducible exact H|(rw [hy382];exact H)|exact H
  have Ny382:=A_ hy382;clear hy382;have H':=A_ H;clear H;go_enter Try.func20,Try.ntmps20
  go_wp2_with (first|((with_reducible refine gate_dst (N:=1) rfl ?_);refine box_event ?hg (N:=1) ?hd (cs:=#[.slice A0_0 l0_0.length c0_0,.slice A0_1 l0_1.length c0_1]) (t:=27) ?hr ?_;(case hd=>rfl);(case hg=>rfl);(case hr=>first|(go_simp;done)|(go_simp;rfl));intro gb380 hg w4 hbox hb;have n0_:=A_ (bp_ (by repeat (first|(with_reducible first|exact HB.out|apply ba_|apply bd_|apply be_)|exact HB.out)) hb);have n1_:=A_ (hbox);have n2_:=A_ ((by rw [hg];exact (bz_ (by repeat (first|(with_reducible first|exact HB.out|apply ba_|apply bd_|apply be_)|exact HB.out))) : w.heap.size≤gb380));have n3_:=n2_;clear HB;have HB:=n0_;have BK380:=n1_;have GW380:=n2_;have GE380:=n3_;clear n0_ n1_ n2_ n3_;clear hb hbox hg;have z5_0 : w4.cell? ⟨gb380,0,none⟩=some (.slice A0_0 l0_0.length c0_0):=(bc_ BK380.out 0).trans rfl;have z5_1 : w4.cell? ⟨gb380,1,none⟩=some (.slice A0_1 l0_1.length c0_1):=(bc_ BK380.out 1).trans rfl;have y5_0:=bf_ BK380.out 0;have y5_1:=bf_ BK380.out 1)|((with_reducible refine gate_callee (f:=21) rfl ?_);refine goesL_ (some 13) rfl rfl Try.func21 (by kernel_rfl) rfl #[.agg #[.slice A0_0 l0_0.length c0_0,.slice A0_1 l0_1.length c0_1]] rfl (by (try simp only [List.map_toArray,List.map_cons,List.map_nil]);first|done|rfl|(simp only [List.length_drop,List.length_take];rfl)) ?_;(with_reducible refine (leaf_Check.calls k _ _ l0_0 _ _ l0_1 t381 _ ?side1 ?side2 ?side3 ?side4 A2.out).mono ?_);(case side1=>repeat (first|exact (Kd.C_below HR0_0.out HB.out)|(with_reducible refine Kd.C_alloc ?_ _)|(with_reducible refine Kd.C_drewN ?_ _)|(with_reducible refine Kd.C_drew ?_)));(case side2=>exact HC0_0.out);(case side3=>repeat (first|exact (Kd.C_below HR0_1.out HB.out)|(with_reducible refine Kd.C_alloc ?_ _)|(with_reducible refine Kd.C_drewN ?_ _)|(with_reducible refine Kd.C_drew ?_)));(case side4=>exact HC0_1.out);rintro e w6 ⟨rfl,hb⟩;refine ⟨_,rfl,?_⟩;have n0_:=A_ (bx_ BK380.out (by intro h_;(with_reducible repeat (first|refine kd_ ?_ _|refine ke_ ?_|refine ka_ ?_ _));exact h_) hb);have n1_:=A_ (bp_ (by repeat (first|(with_reducible first|exact HB.out|apply ba_|apply bd_|apply be_|refine bs_ ?_ GE380.out)|exact HB.out)) hb);clear BK380;clear HB;have BK380:=n0_;have HB:=n1_;clear n0_ n1_;(try clear hb);(try clear hb2);(try clear hk);(try clear hi))|((with_reducible refine gate_dst (N:=18) rfl ?_);refine Kd.R_lit k56 _ 56 ?hg (N:=18) ?hd (xs:=([(⟨1,76,0,(⟨#[]⟩ : ByteArray)⟩ : S56)] : List (S56))) (inner:=[.int .i64 1,.int .i64 76,.float .f64 0,.string (⟨#[]⟩ : ByteArray)]) (ok:=fun _=>True) (okp:=fun _=>True) ?hr ?hp (fun _ hk=>hk) trivial (Below.refl _ _) (Nat.le_refl _) (by simp) ?_;(case hd=>rfl);(case hg=>rfl);(case hr=>first|(go_simp;done)|(go_simp;rfl));(case hp=>exact (Reps.c4 (show Kd.M k56 _ _ _ (⟨1,76,0,(⟨#[]⟩ : ByteArray)⟩ : S56) [.int .i64 1,.int .i64 76,.float .f64 0,.string (⟨#[]⟩ : ByteArray)] from (k56_mkM _ _ _ (⟨1,76,0,(⟨#[]⟩ : ByteArray)⟩ : S56) )) (Reps.none _ _)));intro v383 w7 ho8 hb hg_ hnew_;clear hg_ hnew_;(first|rw [← Ny382.out] at ho8|(simp only [Int.reduceToNat] at ho8;rw [← Ny382.out] at ho8));have n0_:=A_ (Kd.R_lower ho8 (bz_ (by repeat (first|(with_reducible first|exact HB.out|apply ba_|apply bd_|apply be_|refine bs_ ?_ GE380.out)|exact HB.out))));have n1_:=A_ (bx_ BK380.out (by intro h_;(with_reducible repeat (first|refine kd_ ?_ _|refine ke_ ?_|refine ka_ ?_ _));exact h_) hb);have n2_:=A_ (bp_ (by repeat (first|(with_reducible first|exact HB.out|apply ba_|apply bd_|apply be_|refine bs_ ?_ GE380.out)|exact HB.out)) hb);clear BK380;clear HB;have HO384:=n0_;have BK380:=n1_;have HB:=n2_;clear n0_ n1_ n2_;clear hb ho8;have z9_0 : w7.cell? ⟨gb380,0,none⟩=some (.slice A0_0 l0_0.length c0_0):=(bc_ BK380.out 0).trans rfl;have z9_1 : w7.cell? ⟨gb380,1,none⟩=some (.slice A0_1 l0_1.length c0_1):=(bc_ BK380.out 1).trans rfl;have y9_0:=bf_ BK380.out 0;have y9_1:=bf_ BK380.out 1))
  go_loopg [5,22] k (fun kq v5 v22 w'=>∃ (x5_1 : List (S56)) (x22_1 : Int),v22=.int .i64 x22_1∧Aside0 (leaf_Encode.l0 kq x5_1 l0_0 (l0_0.length : Int) x22_1 l0_0 l0_1=some (r1,r2))∧Aside0 (kq≤k)∧Aside0 (Kd.R k56 56 w' w.heap.size (fun _=>True) v5 x5_1)∧Aside0 (w'.heap[gb380]?=some (.cells #[(.slice A0_0 l0_0.length c0_0),(.slice A0_1 l0_1.length c0_1)] 27 (0,0)))∧Aside0 (Below w.heap.size w w'))
  case atStart=>exact ⟨(y382),(0),(by first|rfl|(simp;done)|(simp [*];done)),H',⟨Nat.le_refl _⟩,⟨by (with_reducible repeat (first|apply ra_|apply rn_|apply re_));exact HO384.out⟩,⟨by (with_reducible repeat (first|refine kd_ ?_ _|refine ke_ ?_|refine ka_ ?_ _));exact BK380.out⟩,⟨by repeat (first|(with_reducible first|exact HB.out|apply ba_|apply bd_|apply be_|refine bs_ ?_ GE380.out)|exact HB.out)⟩⟩
  case round =>
   clear H';(try clear c2);(try clear p2);(try clear c3);(try clear c3b0);(try clear c3b1);(try clear c4);(try clear z5_0 z5_1 z9_0 z9_1 y5_0 y5_1 y9_0 y9_1);obtain ⟨x5_1,x22_1,rfl,HA,HK1,HO_5,BK380,HB⟩:=hrel
   cases gk with
   | zero=>exact absurd HA.out (by simp [leaf_Encode.l0])
   | succ k1 =>
    have H:=HA.out;clear HA
    simp only [leaf_Encode.l0] at H
    by_cases c10 : x22_1<(l0_0.length : Int)
    ·rw [if_pos c10] at H
     have c10b0 : decide (x22_1<(l0_0.length : Int))=true:=dt_ c10;clear c10
     by_cases c11 : 0≤x22_1
     ·rw [if_pos c11] at H
      have c11b0 : decide (0≤x22_1)=true:=dt_ c11;clear c11
      by_cases c12 : x22_1<(l0_0.length : Int)
      ·rw [if_pos c12] at H
       have c12b0 : decide (x22_1<(l0_0.length : Int))=true:=dt_ c12;clear c12
       by_cases c13 : x5_1.length<3518437208883
       ·rw [if_pos c13] at H
        have LMc13:=A_ c13;clear c13
        obtain ⟨y386,hy386⟩ : ∃ y_ : List (S56),y_=(x5_1++[(⟨3,rd l0_0 x22_1,0,(⟨#[]⟩ : ByteArray)⟩ : S56)]):=⟨_,rfl⟩
        replace H : (leaf_Encode.l0 k1 y386 l0_0 (l0_0.length : Int) (wrap64 (x22_1 + 1)) l0_0 l0_1)=some (r1,r2):=by first|(rw [hy386];with_reducible exact H)|(have H2_:=(Option.bind_some _ _).symm.trans H;rw [hy386];with_reducible exact H2_)|(have H2_:=(Option.bind_some _ _).symm.trans H;with_reducible exact H2_)|with_reducible exact H|(rw [hy386];exact H)|exact H
        have Ny386:=A_ hy386;clear hy386;have H':=A_ H;clear H
        have p385 : 0≤(x22_1 : Int):=od_ (by first|(with_reducible assumption)|assumption)
        have q385 : x22_1<(l0_0.length : Int):=od_ (by first|(with_reducible assumption)|assumption)
        obtain ⟨ad385,e385,hx385_0⟩:=Kd.at_int HR0_0.out x22_1 p385 q385
        cases e385
        replace hx385_0:=(HB.out.cell (wb_ w _ hx385_0)).trans hx385_0;replace p385:=eq_true p385;replace q385:=eq_true q385
        go_wp2_with (first|((with_reducible refine gate_builtin (b:=.append) (xs:=#[.tmp 26,.tmp 29]) rfl ?_);at_builtin;refine Kd.R_append k56 (w0:=w) w.heap.size rfl (.tmp 26) (.tmp 29) 51 56 (.agg #[(.int .i64 0),(.int .i64 0),(.float .f64 0),(.string ⟨#[]⟩)]) 40 rfl Try.underlying51 info56 rfl (by decide) (by omega) u5 x5_1 (⟨3,rd l0_0 x22_1,0,(⟨#[]⟩ : ByteArray)⟩ : S56) [.int .i64 3,.int .i64 (rd l0_0 x22_1),.float .f64 0,.string (⟨#[]⟩ : ByteArray)] (fun _=>True) (fun _=>False) rfl rfl ?aP (fun _ hk=>hk.elim) ?aF ?aO ?aB ?aS ?aL ?_;(case aP=>exact k56_mkM _ _ _ (⟨3,rd l0_0 x22_1,0,(⟨#[]⟩ : ByteArray)⟩ : S56));(case aB=>exact (by repeat (first|(with_reducible first|exact HB.out|apply ba_|apply bd_|apply be_|refine bs_ ?_ GE380.out)|exact HB.out)));(case aF=>exact (fun _ _=>trivial));(case aO=>exact (by (with_reducible repeat (first|apply ra_|apply rn_|apply re_));exact HO_5.out));(case aS=>exact (bz_ (by repeat (first|(with_reducible first|exact HB.out|apply ba_|apply bd_|apply be_|refine bs_ ?_ GE380.out)|exact HB.out))));(case aL=>have:=LMc13.out;omega);intro v387 w14 ho hb hg hat;rw [← Ny386.out] at ho;have n0_:=A_ (blk_grown (g:=gb380) (o:=.cells #[.slice (some ad385) l0_0.length c0_0,.slice A0_1 l0_1.length c0_1] 27 (0,0)) (by (with_reducible repeat (first|refine kd_ ?_ _|refine ke_ ?_|refine ka_ ?_ _));exact BK380.out) hg (Kd.R_ne HO_5.out BK380.out (by decide)));have n1_:=A_ (hb);have n2_:=A_ (ho);clear BK380;clear HB;clear HO_5;have BK380:=n0_;have HB:=n1_;have HO388:=n2_;clear n0_ n1_ n2_;clear ho hb hg hat))
        go_roundg k1
        case measure=>have:=HK1.out;omega
        case rel=>exact ⟨(y386),(wrap64 (x22_1 + 1)),(by first|rfl|(simp;done)|(simp [*];done)),H',⟨by have:=HK1.out;omega⟩,⟨by (with_reducible repeat (first|apply ra_|apply rn_|apply re_));exact HO388.out⟩,⟨by (with_reducible repeat (first|refine kd_ ?_ _|refine ke_ ?_|refine ka_ ?_ _));exact BK380.out⟩,⟨by repeat (first|(with_reducible first|exact HB.out|apply ba_|apply bd_|apply be_|refine bs_ ?_ GE380.out)|exact HB.out)⟩⟩
       ·rw [if_neg c13] at H
        exact absurd H (by simp)
      ·rw [if_neg c12] at H
       exact absurd H (by simp)
     ·rw [if_neg c11] at H
      exact absurd H (by simp)
    ·rw [if_neg c10] at H
     have c10b0 : decide (x22_1<(l0_0.length : Int))=false:=df_ c10;clear c10
     by_cases c15 : x5_1.length<3518437208883
     ·rw [if_pos c15] at H
      have LMc15:=A_ c15;clear c15
      obtain ⟨y389,hy389⟩ : ∃ y_ : List (S56),y_=(x5_1++[(⟨1,(l0_1.length : Int),0,(⟨#[]⟩ : ByteArray)⟩ : S56)]):=⟨_,rfl⟩
      replace H : (leaf_Encode.l1 k1 y389 l0_1 (l0_1.length : Int) 0)=some (r1,r2):=by first|(rw [hy389];with_reducible exact H)|(have H2_:=(Option.bind_some _ _).symm.trans H;rw [hy389];with_reducible exact H2_)|(have H2_:=(Option.bind_some _ _).symm.trans H;with_reducible exact H2_)|with_reducible exact H|(rw [hy389];exact H)|exact H
      have Ny389:=A_ hy389;clear hy389;have H':=A_ H;clear H;have z16_0 : wr.cell? ⟨gb380,0,none⟩=some (.slice A0_0 l0_0.length c0_0):=(bc_ BK380.out 0).trans rfl;have z16_1 : wr.cell? ⟨gb380,1,none⟩=some (.slice A0_1 l0_1.length c0_1):=(bc_ BK380.out 1).trans rfl;have y16_0:=bf_ BK380.out 0;have y16_1:=bf_ BK380.out 1
      go_wp2_with (first|((with_reducible refine gate_builtin (b:=.append) (xs:=#[.tmp 32,.tmp 37]) rfl ?_);at_builtin;refine Kd.R_append k56 (w0:=w) w.heap.size rfl (.tmp 32) (.tmp 37) 51 56 (.agg #[(.int .i64 0),(.int .i64 0),(.float .f64 0),(.string ⟨#[]⟩)]) 40 rfl Try.underlying51 info56 rfl (by decide) (by omega) u5 x5_1 (⟨1,(l0_1.length : Int),0,(⟨#[]⟩ : ByteArray)⟩ : S56) [.int .i64 1,.int .i64 (l0_1.length : Int),.float .f64 0,.string (⟨#[]⟩ : ByteArray)] (fun _=>True) (fun _=>False) rfl rfl ?aP (fun _ hk=>hk.elim) ?aF ?aO ?aB ?aS ?aL ?_;(case aP=>exact k56_mkM _ _ _ (⟨1,(l0_1.length : Int),0,(⟨#[]⟩ : ByteArray)⟩ : S56));(case aB=>exact (by repeat (first|(with_reducible first|exact HB.out|apply ba_|apply bd_|apply be_|refine bs_ ?_ GE380.out)|exact HB.out)));(case aF=>exact (fun _ _=>trivial));(case aO=>exact (by (with_reducible repeat (first|apply ra_|apply rn_|apply re_));exact HO_5.out));(case aS=>exact (bz_ (by repeat (first|(with_reducible first|exact HB.out|apply ba_|apply bd_|apply be_|refine bs_ ?_ GE380.out)|exact HB.out))));(case aL=>have:=LMc15.out;omega);intro v390 w17 ho hb hg hat;rw [← Ny389.out] at ho;have n0_:=A_ (blk_grown (g:=gb380) (o:=.cells #[.slice A0_0 l0_0.length c0_0,.slice A0_1 l0_1.length c0_1] 27 (0,0)) (by (with_reducible repeat (first|refine kd_ ?_ _|refine ke_ ?_|refine ka_ ?_ _));exact BK380.out) hg (Kd.R_ne HO_5.out BK380.out (by decide)));have n1_:=A_ (hb);have n2_:=A_ (ho);clear BK380;clear HB;clear HO_5;have BK380:=n0_;have HB:=n1_;have HO391:=n2_;clear n0_ n1_ n2_;clear ho hb hg hat;have z18_0 : w17.cell? ⟨gb380,0,none⟩=some (.slice A0_0 l0_0.length c0_0):=(bc_ BK380.out 0).trans rfl;have z18_1 : w17.cell? ⟨gb380,1,none⟩=some (.slice A0_1 l0_1.length c0_1):=(bc_ BK380.out 1).trans rfl;have y18_0:=bf_ BK380.out 0;have y18_1:=bf_ BK380.out 1))
      go_loopg [5,42] k1 (fun kq v5 v42 w'=>∃ (x5_2 : List (S56)) (x42_2 : Int),v42=.int .i64 x42_2∧Aside0 (leaf_Encode.l1 kq x5_2 l0_1 (l0_1.length : Int) x42_2=some (r1,r2))∧Aside0 (kq≤k1)∧Aside0 (Kd.R k56 56 w' w.heap.size (fun _=>True) v5 x5_2)∧Aside0 (w'.heap[gb380]?=some (.cells #[(.slice A0_0 l0_0.length c0_0),(.slice A0_1 l0_1.length c0_1)] 27 (0,0)))∧Aside0 (Below w.heap.size w w'))
      case atStart=>exact ⟨(y389),(0),(by first|rfl|(simp;done)|(simp [*];done)),H',⟨Nat.le_refl _⟩,⟨by (with_reducible repeat (first|apply ra_|apply rn_|apply re_));exact HO391.out⟩,⟨by (with_reducible repeat (first|refine kd_ ?_ _|refine ke_ ?_|refine ka_ ?_ _));exact BK380.out⟩,⟨by repeat (first|(with_reducible first|exact HB.out|apply ba_|apply bd_|apply be_|refine bs_ ?_ GE380.out)|exact HB.out)⟩⟩
      case round =>
       clear H';(try clear c1);(try clear c2);(try clear p2);(try clear c3);(try clear c3b0);(try clear c3b1);(try clear p3);(try clear q3);(try clear hx3);(try clear c4);(try clear p6);(try clear c10);(try clear c10b0);(try clear c11);(try clear c11b0);(try clear c12);(try clear c12b0);(try clear c13);(try clear c15);(try clear hx385_0);(try clear p2);(try clear p385);(try clear q385);(try clear z16_0 z16_1 z18_0 z18_1 z5_0 z5_1 z9_0 z9_1 y16_0 y16_1 y18_0 y18_1 y5_0 y5_1 y9_0 y9_1);obtain ⟨x5_2,x42_2,rfl,HA,HK2,HO_5,BK380,HB⟩:=hrel
       cases gk with
       | zero=>exact absurd HA.out (by simp [leaf_Encode.l1])
       | succ k2 =>
        have H:=HA.out;clear HA
        simp only [leaf_Encode.l1] at H
        by_cases c19 : x42_2<(l0_1.length : Int)
        ·rw [if_pos c19] at H
         have c19b0 : decide (x42_2<(l0_1.length : Int))=true:=dt_ c19;clear c19
         by_cases c20 : 0≤x42_2
         ·rw [if_pos c20] at H
          have c20b0 : decide (0≤x42_2)=true:=dt_ c20;clear c20
          by_cases c21 : x42_2<(l0_1.length : Int)
          ·rw [if_pos c21] at H
           have c21b0 : decide (x42_2<(l0_1.length : Int))=true:=dt_ c21;clear c21
           by_cases c22 : x5_2.length<3518437208883
           ·rw [if_pos c22] at H
            have LMc22:=A_ c22;clear c22
            obtain ⟨y393,hy393⟩ : ∃ y_ : List (S56),y_=(x5_2++[(⟨5,0,0,strOfNums (rd_L2 l0_1 x42_2)⟩ : S56)]):=⟨_,rfl⟩
            replace H : (leaf_Encode.l1 k2 y393 l0_1 (l0_1.length : Int) (wrap64 (x42_2 + 1)))=some (r1,r2):=by first|(rw [hy393];with_reducible exact H)|(have H2_:=(Option.bind_some _ _).symm.trans H;rw [hy393];with_reducible exact H2_)|(have H2_:=(Option.bind_some _ _).symm.trans H;with_reducible exact H2_)|with_reducible exact H|(rw [hy393];exact H)|exact H
            have Ny393:=A_ hy393;clear hy393;have H':=A_ H;clear H
            have p392 : 0≤(x42_2 : Int):=od_ (by first|(with_reducible assumption)|assumption)
            have q392 : x42_2<(l0_1.length : Int):=od_ (by first|(with_reducible assumption)|assumption)
            obtain ⟨ad392,A392_0,c392_0,e392,hx392_0,hl392_0,hi392_0⟩:=at_L2 HR0_1.out x42_2 p392 q392
            cases e392
            replace hx392_0:=(HB.out.cell (wb_ w _ hx392_0)).trans hx392_0;have HR392_0:=A_ hi392_0;have HC392_0:=A_ hl392_0;clear hi392_0 hl392_0;replace p392:=eq_true p392;replace q392:=eq_true q392;have hcv23:=Kd.C_string (P:=Try.prog) (A:=A392_0) (c:=c392_0) Try.underlying22 Try.underlying5 Try.underlying9 (Kd.C_below HR392_0.out HB.out)
            go_wp2_with (first|((with_reducible refine gate_builtin (b:=.append) (xs:=#[.tmp 46,.tmp 50]) rfl ?_);at_builtin;refine Kd.R_append k56 (w0:=w) w.heap.size rfl (.tmp 46) (.tmp 50) 51 56 (.agg #[(.int .i64 0),(.int .i64 0),(.float .f64 0),(.string ⟨#[]⟩)]) 40 rfl Try.underlying51 info56 rfl (by decide) (by omega) u5 x5_2 (⟨5,0,0,strOfNums (rd_L2 l0_1 x42_2)⟩ : S56) [.int .i64 5,.int .i64 0,.float .f64 0,.string (strOfNums (rd_L2 l0_1 x42_2))] (fun _=>True) (fun _=>False) rfl rfl ?aP (fun _ hk=>hk.elim) ?aF ?aO ?aB ?aS ?aL ?_;(case aP=>exact k56_mkM _ _ _ (⟨5,0,0,strOfNums (rd_L2 l0_1 x42_2)⟩ : S56));(case aB=>exact (by repeat (first|(with_reducible first|exact HB.out|apply ba_|apply bd_|apply be_|refine bs_ ?_ GE380.out)|exact HB.out)));(case aF=>exact (fun _ _=>trivial));(case aO=>exact (by (with_reducible repeat (first|apply ra_|apply rn_|apply re_));exact HO_5.out));(case aS=>exact (bz_ (by repeat (first|(with_reducible first|exact HB.out|apply ba_|apply bd_|apply be_|refine bs_ ?_ GE380.out)|exact HB.out))));(case aL=>have:=LMc22.out;omega);intro v394 w24 ho hb hg hat;rw [← Ny393.out] at ho;have n0_:=A_ (blk_grown (g:=gb380) (o:=.cells #[.slice A0_0 l0_0.length c0_0,.slice (some ad392) l0_1.length c0_1] 27 (0,0)) (by (with_reducible repeat (first|refine kd_ ?_ _|refine ke_ ?_|refine ka_ ?_ _));exact BK380.out) hg (Kd.R_ne HO_5.out BK380.out (by decide)));have n1_:=A_ (hb);have n2_:=A_ (ho);clear BK380;clear HB;clear HO_5;have BK380:=n0_;have HB:=n1_;have HO395:=n2_;clear n0_ n1_ n2_;clear ho hb hg hat))
            go_roundg k2
            case measure=>have:=HK1.out;have:=HK2.out;omega
            case rel=>exact ⟨(y393),(wrap64 (x42_2 + 1)),(by first|rfl|(simp;done)|(simp [*];done)),H',⟨by have:=HK1.out;have:=HK2.out;omega⟩,⟨by (with_reducible repeat (first|apply ra_|apply rn_|apply re_));exact HO395.out⟩,⟨by (with_reducible repeat (first|refine kd_ ?_ _|refine ke_ ?_|refine ka_ ?_ _));exact BK380.out⟩,⟨by repeat (first|(with_reducible first|exact HB.out|apply ba_|apply bd_|apply be_|refine bs_ ?_ GE380.out)|exact HB.out)⟩⟩
           ·rw [if_neg c22] at H
            exact absurd H (by simp)
          ·rw [if_neg c21] at H
           exact absurd H (by simp)
         ·rw [if_neg c20] at H
          exact absurd H (by simp)
        ·rw [if_neg c19] at H
         have c19b0 : decide (x42_2<(l0_1.length : Int))=false:=df_ c19;clear c19;replace H:=Option.bind_eq_some_iff.mp H;obtain ⟨⟨t396,t397⟩,A250,H⟩:=H
         replace H : (if 0≤(wrap64 (508 - (t396.length : Int))) then (if t396.length + (wrap64 (508 - (t396.length : Int)) : Int).toNat<140737488355328 then ((tally_Seal.f k2 (t396++List.replicate (wrap64 (508 - (t396.length : Int)) : Int).toNat 0)).bind fun t403=>(some (t403,0))) else (none)) else (none))=some (r1,r2):=H
         have A25:=A_ A250;clear A250
         obtain ⟨ji26,hji26⟩ : ∃ j_ : Int,(wrap64 (508 - (t396.length : Int)))=j_:=⟨_,rfl⟩
         replace H : (if 0≤(ji26) then (if t396.length + (ji26 : Int).toNat<140737488355328 then ((tally_Seal.f k2 (t396++List.replicate (ji26 : Int).toNat 0)).bind fun t403=>(some (t403,0))) else (none)) else (none))=some (r1,r2):=by first|(rw [hji26] at H;exact H)|(simp only [hji26] at H ⊢;exact H)
         (try rw [hji26] at A25);have hji26w : (IntKind.i64.wrap (508 - (t396.length : Int)))=ji26:=(i64_w _).trans hji26
         by_cases c27 : 0≤(ji26)
         ·rw [if_pos c27] at H
          have c27b0:=eq_true c27;have c27b1 : decide (0≤(ji26))=true:=dt_ c27;clear c27
          by_cases c28 : t396.length + (ji26 : Int).toNat<140737488355328
          ·rw [if_pos c28] at H
           have LMc28:=A_ c28;clear c28
           obtain ⟨y400,hy400⟩ : ∃ y_ : List Int,y_=(t396++List.replicate (ji26 : Int).toNat 0):=⟨_,rfl⟩
           replace H : ((tally_Seal.f k2 y400).bind fun t403=>(some (t403,0)))=some (r1,r2):=by first|(rw [hy400];with_reducible exact H)|(have H2_:=(Option.bind_some _ _).symm.trans H;rw [hy400];with_reducible exact H2_)|(have H2_:=(Option.bind_some _ _).symm.trans H;with_reducible exact H2_)|with_reducible exact H|(rw [hy400];exact H)|exact H
           have Ny400:=A_ hy400;clear hy400;replace H:=Option.bind_eq_some_iff.mp H;obtain ⟨t403,A290,H⟩:=H;replace H : (some (t403,0))=some (r1,r2):=H;have A29:=A_ A290;clear A290
           simp only [Option.some.injEq,Prod.mk.injEq] at H
           obtain ⟨rfl,rfl⟩:=H;obtain ⟨Ao30,co30,eo30⟩:=Kd.R_slice HO_5.out;subst eo30
           go_wp2_with (first|((with_reducible refine gate_callee (f:=42) rfl ?_);refine goesL_ (some 55) rfl rfl Try.func42 (by kernel_rfl) rfl #[.slice Ao30 x5_2.length co30] rfl (by (try simp only [List.map_toArray,List.map_cons,List.map_nil]);first|done|rfl|(simp only [List.length_drop,List.length_take];rfl)) ?_;(with_reducible refine (pack_Put.calls _ _ x5_2 t396 t397 _ ?side1 ?side2 A25.out).mono ?_);(case side1=>repeat (first|exact (Kd.R_reads' HO_5.out).2.2|(with_reducible refine Kd.C_alloc ?_ _)|(with_reducible refine Kd.C_drewN ?_ _)|(with_reducible refine Kd.C_drew ?_)));(case side2=>exact (Kd.R_reads' HO_5.out).2.1);rintro e w31 ⟨v398,rfl,ho0,hb⟩;refine ⟨_,rfl,?_⟩;have n0_:=A_ (Kd.R_below (by (with_reducible repeat (first|apply ra_|apply rn_|apply re_));exact HO_5.out) hb);have n1_:=A_ (Kd.R_lower ho0 (bz_ (by repeat (first|(with_reducible first|exact HB.out|apply ba_|apply bd_|apply be_|refine bs_ ?_ GE380.out)|exact HB.out))));have n2_:=A_ (bx_ BK380.out (by intro h_;(with_reducible repeat (first|refine kd_ ?_ _|refine ke_ ?_|refine ka_ ?_ _));exact h_) hb);have n3_:=A_ (bp_ (by repeat (first|(with_reducible first|exact HB.out|apply ba_|apply bd_|apply be_|refine bs_ ?_ GE380.out)|exact HB.out)) hb);clear HO_5;clear BK380;clear HB;have HO_5:=n0_;have HO399:=n1_;have BK380:=n2_;have HB:=n3_;clear n0_ n1_ n2_ n3_;(try clear hb);(try clear hb2);(try clear hk);(try clear hi);(try clear ho0);obtain ⟨Ao32,co32,eo32⟩:=Kd.R_slice HO399.out;subst eo32)|(at_builtin;refine Kd.R_append_zeros (Kd.int .u8) (w0:=w) w.heap.size rfl (.tmp 58) (.tmp 61) 22 3 5 (.int .u8 0) 1 rfl Try.underlying22 Try.underlying3 info5 rfl (by decide) (by omega) (.slice Ao32 t396.length co32) t396 0 (ji26 : Int) (fun _=>True) rfl rfl rfl ?aF ?aO (od_ (by first|(with_reducible assumption)|assumption)) ?aB ?aS ?aL ?_;(case aB=>exact (by repeat (first|(with_reducible first|exact HB.out|apply ba_|apply bd_|apply be_|refine bs_ ?_ GE380.out)|exact HB.out)));(case aF=>exact (fun _ _=>trivial));(case aO=>exact (by (with_reducible repeat (first|apply ra_|apply rn_|apply re_));exact HO399.out));(case aS=>exact (bz_ (by repeat (first|(with_reducible first|exact HB.out|apply ba_|apply bd_|apply be_|refine bs_ ?_ GE380.out)|exact HB.out))));(case aL=>have:=LMc28.out;omega);intro v401 w33 ho hb hg hat;rw [← Ny400.out] at ho;have n0_:=A_ (Kd.R_over' (by (with_reducible repeat (first|apply ra_|apply rn_|apply re_));exact HO_5.out) (Kd.R_typed (by (with_reducible repeat (first|apply ra_|apply rn_|apply re_));exact HO399.out)) (by decide) hg);have n1_:=A_ (blk_grown (g:=gb380) (o:=.cells #[.slice A0_0 l0_0.length c0_0,.slice A0_1 l0_1.length c0_1] 27 (0,0)) (by (with_reducible repeat (first|refine kd_ ?_ _|refine ke_ ?_|refine ka_ ?_ _));exact BK380.out) hg (Kd.R_ne HO399.out BK380.out (by decide)));have n2_:=A_ (hb);have n3_:=A_ (ho);clear HO_5;clear BK380;clear HB;clear HO399;have HO_5:=n0_;have BK380:=n1_;have HB:=n2_;have HO402:=n3_;clear n0_ n1_ n2_ n3_;clear ho hb hg hat;obtain ⟨Ao34,co34,eo34⟩:=Kd.R_slice HO402.out;subst eo34)|((with_reducible refine gate_callee (f:=43) rfl ?_);refine goesL_ (some 63) rfl rfl Try.func43 (by kernel_rfl) rfl #[.slice Ao34 y400.length co34] rfl (by (try simp only [List.map_toArray,List.map_cons,List.map_nil]);first|done|rfl|(simp only [List.length_drop,List.length_take];rfl)) ?_;(with_reducible refine (tally_Seal.calls k2 _ _ y400 t403 _ ?side1 ?side2 A29.out).mono ?_);(case side1=>repeat (first|exact (Kd.R_reads' HO402.out).2.2|(with_reducible refine Kd.C_alloc ?_ _)|(with_reducible refine Kd.C_drewN ?_ _)|(with_reducible refine Kd.C_drew ?_)));(case side2=>exact (Kd.R_reads' HO402.out).2.1);rintro e w35 ⟨v404,rfl,ho0,hb⟩;refine ⟨_,rfl,?_⟩;have n0_:=A_ (Kd.R_below (by (with_reducible repeat (first|apply ra_|apply rn_|apply re_));exact HO_5.out) hb);have n1_:=A_ (Kd.R_elder' (by (with_reducible repeat (first|apply ra_|apply rn_|apply re_));exact HO402.out) (Kd.R_base ho0) hb);have n2_:=A_ (Kd.R_lower (Kd.R_new' ho0 (Kd.R_lt (by (with_reducible repeat (first|apply ra_|apply rn_|apply re_));exact HO402.out))) (bz_ (by repeat (first|(with_reducible first|exact HB.out|apply ba_|apply bd_|apply be_|refine bs_ ?_ GE380.out)|exact HB.out))));have n3_:=A_ (bx_ BK380.out (by intro h_;(with_reducible repeat (first|refine kd_ ?_ _|refine ke_ ?_|refine ka_ ?_ _));exact h_) hb);have n4_:=A_ (bp_ (by repeat (first|(with_reducible first|exact HB.out|apply ba_|apply bd_|apply be_|refine bs_ ?_ GE380.out)|exact HB.out)) hb);clear HO_5;clear HO402;clear BK380;clear HB;have HO_5:=n0_;have HO402:=n1_;have HO405:=n2_;have BK380:=n3_;have HB:=n4_;clear n0_ n1_ n2_ n3_ n4_;(try clear hb);(try clear hb2);(try clear hk);(try clear hi);(try clear ho0)))
           go_ret2
           exact ⟨_,by first|rfl|(simp [errW_none,errW_some] <;> rfl)|(simp only [← hji26];first|rfl|(simp [errW_none,errW_some] <;> rfl))|(simp [*,errW_none,errW_some] <;> rfl),by (with_reducible repeat (first|apply ra_|apply rn_|apply re_));exact Kd.R_mono HO405.out (fun _ hk=>trivial),by repeat (first|(with_reducible first|exact HB.out|apply ba_|apply bd_|apply be_|refine bs_ ?_ GE380.out)|exact HB.out)⟩
          ·rw [if_neg c28] at H
           exact absurd H (by simp)
         ·rw [if_neg c27] at H
          exact absurd H (by simp)
     ·rw [if_neg c15] at H
      exact absurd H (by simp)
 ·rw [if_neg c3] at H
  have c3b0 : (t381 == 0)=false:=beq_eq_false_iff_ne.mpr c3;have c3b1 : (t381 != 0)=true:=bne_iff_ne.mpr c3
  simp only [Option.some.injEq,Prod.mk.injEq] at H
  obtain ⟨rfl,rfl⟩:=H;go_enter Try.func20,Try.ntmps20
  go_wp2_with (first|((with_reducible refine gate_dst (N:=1) rfl ?_);refine box_event ?hg (N:=1) ?hd (cs:=#[.slice A0_0 l0_0.length c0_0,.slice A0_1 l0_1.length c0_1]) (t:=27) ?hr ?_;(case hd=>rfl);(case hg=>rfl);(case hr=>first|(go_simp;done)|(go_simp;rfl));intro gb380 hg w36 hbox hb;have n0_:=A_ (bp_ (by repeat (first|(with_reducible first|exact HB.out|apply ba_|apply bd_|apply be_)|exact HB.out)) hb);have n1_:=A_ (hbox);have n2_:=A_ ((by rw [hg];exact (bz_ (by repeat (first|(with_reducible first|exact HB.out|apply ba_|apply bd_|apply be_)|exact HB.out))) : w.heap.size≤gb380));have n3_:=n2_;clear HB;have HB:=n0_;have BK380:=n1_;have GW380:=n2_;have GE380:=n3_;clear n0_ n1_ n2_ n3_;clear hb hbox hg;have z37_0 : w36.cell? ⟨gb380,0,none⟩=some (.slice A0_0 l0_0.length c0_0):=(bc_ BK380.out 0).trans rfl;have z37_1 : w36.cell? ⟨gb380,1,none⟩=some (.slice A0_1 l0_1.length c0_1):=(bc_ BK380.out 1).trans rfl;have y37_0:=bf_ BK380.out 0;have y37_1:=bf_ BK380.out 1)|((with_reducible refine gate_callee (f:=21) rfl ?_);refine goesL_ (some 13) rfl rfl Try.func21 (by kernel_rfl) rfl #[.agg #[.slice A0_0 l0_0.length c0_0,.slice A0_1 l0_1.length c0_1]] rfl (by (try simp only [List.map_toArray,List.map_cons,List.map_nil]);first|done|rfl|(simp only [List.length_drop,List.length_take];rfl)) ?_;(with_reducible refine (leaf_Check.calls k _ _ l0_0 _ _ l0_1 t381 _ ?side1 ?side2 ?side3 ?side4 A2.out).mono ?_);(case side1=>repeat (first|exact (Kd.C_below HR0_0.out HB.out)|(with_reducible refine Kd.C_alloc ?_ _)|(with_reducible refine Kd.C_drewN ?_ _)|(with_reducible refine Kd.C_drew ?_)));(case side2=>exact HC0_0.out);(case side3=>repeat (first|exact (Kd.C_below HR0_1.out HB.out)|(with_reducible refine Kd.C_alloc ?_ _)|(with_reducible refine Kd.C_drewN ?_ _)|(with_reducible refine Kd.C_drew ?_)));(case side4=>exact HC0_1.out);rintro e w38 ⟨rfl,hb⟩;refine ⟨_,rfl,?_⟩;have n0_:=A_ (bx_ BK380.out (by intro h_;(with_reducible repeat (first|refine kd_ ?_ _|refine ke_ ?_|refine ka_ ?_ _));exact h_) hb);have n1_:=A_ (bp_ (by repeat (first|(with_reducible first|exact HB.out|apply ba_|apply bd_|apply be_|refine bs_ ?_ GE380.out)|exact HB.out)) hb);clear BK380;clear HB;have BK380:=n0_;have HB:=n1_;clear n0_ n1_;(try clear hb);(try clear hb2);(try clear hk);(try clear hi)))
  go_ret2
  exact ⟨_,by first|rfl|(simp [errW_none,errW_some] <;> rfl)|(simp [*,errW_none,errW_some] <;> rfl),by first|exact Kd.R_nil _ _ _ _ _|exact Kd.N_nil _ _ _ _ _|exact Kd.V_nil _ _ _ _ _|exact Kd.Q_nil _ _ _ _ _|exact Kd.S_nil _ _ _ _ _,by repeat (first|(with_reducible first|exact HB.out|apply ba_|apply bd_|apply be_|refine bs_ ?_ GE380.out)|exact HB.out)⟩
def leaf_Room.f (k : Nat) (l0_0 : List Int) (l0_1 : List (List Int)) : Option (Int):=(leaf_Check.f k l0_0 l0_1).bind fun t407=>(if t407=0 then ((leaf_need.f k l0_0 l0_1).bind fun t408=>(some (wrap64 (508 - t408)))) else (some (-1)))
set_option maxHeartbeats 8000000 in
set_option maxRecDepth 100000 in
theorem leaf_Room.calls (k : Nat) (A0_0 : Option Addr) (c0_0 : Nat) (l0_0 : List Int) (A0_1 : Option Addr) (c0_1 : Nat) (l0_1 : List (List Int)) (r : Int) (w : World) (hr0_0 : Kd.C (Kd.int .i64) w A0_0 l0_0.length l0_0) (hc0_0 : l0_0.length≤c0_0) (hr0_1 : Kd.C (Kd.slice 5 (Kd.int .u8)) w A0_1 l0_1.length l0_1) (hc0_1 : l0_1.length≤c0_1) (h : leaf_Room.f k l0_0 l0_1=some r) :
  Calls Try.prog 22 #[.agg #[.slice A0_0 l0_0.length c0_0,.slice A0_1 l0_1.length c0_1]] w fun e w'=>e=.returned (.int .i64 r)∧Below w.heap.size w w':=by
 have hu27:=Try.underlying27;have HR0_0:=A_ hr0_0;have HC0_0:=A_ hc0_0;clear hr0_0 hc0_0;have HR0_1:=A_ hr0_1;have HC0_1:=A_ hc0_1;clear hr0_1 hc0_1;have HB:=A_ (Below.refl w.heap.size w)
 have H : ((leaf_Check.f k l0_0 l0_1).bind fun t407=>(if t407=0 then ((leaf_need.f k l0_0 l0_1).bind fun t408=>(some (wrap64 (508 - t408)))) else (some (-1))))=some r:=h
 clear h;replace H:=Option.bind_eq_some_iff.mp H;obtain ⟨t407,A20,H⟩:=H
 replace H : (if t407=0 then ((leaf_need.f k l0_0 l0_1).bind fun t408=>(some (wrap64 (508 - t408)))) else (some (-1)))=some r:=H
 have A2:=A_ A20;clear A20
 by_cases c3 : t407=0
 ·rw [if_pos c3] at H
  have c3b0 : (t407 == 0)=true:=beq_iff_eq.mpr c3;have c3b1 : (t407 != 0)=false:=bne_eq_false_iff_eq.mpr c3;clear c3;replace H:=Option.bind_eq_some_iff.mp H;obtain ⟨t408,A40,H⟩:=H;replace H : (some (wrap64 (508 - t408)))=some r:=H;have A4:=A_ A40;clear A40;obtain rfl:=Option.some.inj H;go_enter Try.func22,Try.ntmps22
  go_wp2_with (first|((with_reducible refine gate_dst (N:=1) rfl ?_);refine box_event ?hg (N:=1) ?hd (cs:=#[.slice A0_0 l0_0.length c0_0,.slice A0_1 l0_1.length c0_1]) (t:=27) ?hr ?_;(case hd=>rfl);(case hg=>rfl);(case hr=>first|(go_simp;done)|(go_simp;rfl));intro gb406 hg w5 hbox hb;have n0_:=A_ (bp_ (by repeat (first|(with_reducible first|exact HB.out|apply ba_|apply bd_|apply be_)|exact HB.out)) hb);have n1_:=A_ (hbox);have n2_:=A_ ((by rw [hg];exact (bz_ (by repeat (first|(with_reducible first|exact HB.out|apply ba_|apply bd_|apply be_)|exact HB.out))) : w.heap.size≤gb406));have n3_:=n2_;clear HB;have HB:=n0_;have BK406:=n1_;have GW406:=n2_;have GE406:=n3_;clear n0_ n1_ n2_ n3_;clear hb hbox hg;have z6_0 : w5.cell? ⟨gb406,0,none⟩=some (.slice A0_0 l0_0.length c0_0):=(bc_ BK406.out 0).trans rfl;have z6_1 : w5.cell? ⟨gb406,1,none⟩=some (.slice A0_1 l0_1.length c0_1):=(bc_ BK406.out 1).trans rfl;have y6_0:=bf_ BK406.out 0;have y6_1:=bf_ BK406.out 1)|((with_reducible refine gate_callee (f:=21) rfl ?_);refine goesL_ (some 4) rfl rfl Try.func21 (by kernel_rfl) rfl #[.agg #[.slice A0_0 l0_0.length c0_0,.slice A0_1 l0_1.length c0_1]] rfl (by (try simp only [List.map_toArray,List.map_cons,List.map_nil]);first|done|rfl|(simp only [List.length_drop,List.length_take];rfl)) ?_;(with_reducible refine (leaf_Check.calls k _ _ l0_0 _ _ l0_1 t407 _ ?side1 ?side2 ?side3 ?side4 A2.out).mono ?_);(case side1=>repeat (first|exact (Kd.C_below HR0_0.out HB.out)|(with_reducible refine Kd.C_alloc ?_ _)|(with_reducible refine Kd.C_drewN ?_ _)|(with_reducible refine Kd.C_drew ?_)));(case side2=>exact HC0_0.out);(case side3=>repeat (first|exact (Kd.C_below HR0_1.out HB.out)|(with_reducible refine Kd.C_alloc ?_ _)|(with_reducible refine Kd.C_drewN ?_ _)|(with_reducible refine Kd.C_drew ?_)));(case side4=>exact HC0_1.out);rintro e w7 ⟨rfl,hb⟩;refine ⟨_,rfl,?_⟩;have n0_:=A_ (bx_ BK406.out (by intro h_;(with_reducible repeat (first|refine kd_ ?_ _|refine ke_ ?_|refine ka_ ?_ _));exact h_) hb);have n1_:=A_ (bp_ (by repeat (first|(with_reducible first|exact HB.out|apply ba_|apply bd_|apply be_|refine bs_ ?_ GE406.out)|exact HB.out)) hb);clear BK406;clear HB;have BK406:=n0_;have HB:=n1_;clear n0_ n1_;(try clear hb);(try clear hb2);(try clear hk);(try clear hi);have z8_0 : w7.cell? ⟨gb406,0,none⟩=some (.slice A0_0 l0_0.length c0_0):=(bc_ BK406.out 0).trans rfl;have z8_1 : w7.cell? ⟨gb406,1,none⟩=some (.slice A0_1 l0_1.length c0_1):=(bc_ BK406.out 1).trans rfl;have y8_0:=bf_ BK406.out 0;have y8_1:=bf_ BK406.out 1)|((with_reducible refine gate_callee (f:=46) rfl ?_);refine goesL_ (some 7) rfl rfl Try.func46 (by kernel_rfl) rfl #[.agg #[.slice A0_0 l0_0.length c0_0,.slice A0_1 l0_1.length c0_1]] rfl (by (try simp only [List.map_toArray,List.map_cons,List.map_nil]);first|done|rfl|(simp only [List.length_drop,List.length_take];rfl)) ?_;(with_reducible refine (leaf_need.calls k _ _ l0_0 _ _ l0_1 t408 _ ?side1 ?side2 ?side3 ?side4 A4.out).mono ?_);(case side1=>repeat (first|exact (Kd.C_below HR0_0.out HB.out)|(with_reducible refine Kd.C_alloc ?_ _)|(with_reducible refine Kd.C_drewN ?_ _)|(with_reducible refine Kd.C_drew ?_)));(case side2=>exact HC0_0.out);(case side3=>repeat (first|exact (Kd.C_below HR0_1.out HB.out)|(with_reducible refine Kd.C_alloc ?_ _)|(with_reducible refine Kd.C_drewN ?_ _)|(with_reducible refine Kd.C_drew ?_)));(case side4=>exact HC0_1.out);rintro e w9 ⟨rfl,hb⟩;refine ⟨_,rfl,?_⟩;have n0_:=A_ (bx_ BK406.out (by intro h_;(with_reducible repeat (first|refine kd_ ?_ _|refine ke_ ?_|refine ka_ ?_ _));exact h_) hb);have n1_:=A_ (bp_ (by repeat (first|(with_reducible first|exact HB.out|apply ba_|apply bd_|apply be_|refine bs_ ?_ GE406.out)|exact HB.out)) hb);clear BK406;clear HB;have BK406:=n0_;have HB:=n1_;clear n0_ n1_;(try clear hb);(try clear hb2);(try clear hk);(try clear hi)))
  go_ret
  exact ⟨by first|rfl|(simp [errW_none,errW_some] <;> rfl)|(simp [*,errW_none,errW_some] <;> rfl),by repeat (first|(with_reducible first|exact HB.out|apply ba_|apply bd_|apply be_|refine bs_ ?_ GE406.out)|exact HB.out)⟩
 ·rw [if_neg c3] at H
  have c3b0 : (t407 == 0)=false:=beq_eq_false_iff_ne.mpr c3;have c3b1 : (t407 != 0)=true:=bne_iff_ne.mpr c3;obtain rfl:=Option.some.inj H;go_enter Try.func22,Try.ntmps22
  go_wp2_with (first|((with_reducible refine gate_dst (N:=1) rfl ?_);refine box_event ?hg (N:=1) ?hd (cs:=#[.slice A0_0 l0_0.length c0_0,.slice A0_1 l0_1.length c0_1]) (t:=27) ?hr ?_;(case hd=>rfl);(case hg=>rfl);(case hr=>first|(go_simp;done)|(go_simp;rfl));intro gb406 hg w10 hbox hb;have n0_:=A_ (bp_ (by repeat (first|(with_reducible first|exact HB.out|apply ba_|apply bd_|apply be_)|exact HB.out)) hb);have n1_:=A_ (hbox);have n2_:=A_ ((by rw [hg];exact (bz_ (by repeat (first|(with_reducible first|exact HB.out|apply ba_|apply bd_|apply be_)|exact HB.out))) : w.heap.size≤gb406));have n3_:=n2_;clear HB;have HB:=n0_;have BK406:=n1_;have GW406:=n2_;have GE406:=n3_;clear n0_ n1_ n2_ n3_;clear hb hbox hg;have z11_0 : w10.cell? ⟨gb406,0,none⟩=some (.slice A0_0 l0_0.length c0_0):=(bc_ BK406.out 0).trans rfl;have z11_1 : w10.cell? ⟨gb406,1,none⟩=some (.slice A0_1 l0_1.length c0_1):=(bc_ BK406.out 1).trans rfl;have y11_0:=bf_ BK406.out 0;have y11_1:=bf_ BK406.out 1)|((with_reducible refine gate_callee (f:=21) rfl ?_);refine goesL_ (some 4) rfl rfl Try.func21 (by kernel_rfl) rfl #[.agg #[.slice A0_0 l0_0.length c0_0,.slice A0_1 l0_1.length c0_1]] rfl (by (try simp only [List.map_toArray,List.map_cons,List.map_nil]);first|done|rfl|(simp only [List.length_drop,List.length_take];rfl)) ?_;(with_reducible refine (leaf_Check.calls k _ _ l0_0 _ _ l0_1 t407 _ ?side1 ?side2 ?side3 ?side4 A2.out).mono ?_);(case side1=>repeat (first|exact (Kd.C_below HR0_0.out HB.out)|(with_reducible refine Kd.C_alloc ?_ _)|(with_reducible refine Kd.C_drewN ?_ _)|(with_reducible refine Kd.C_drew ?_)));(case side2=>exact HC0_0.out);(case side3=>repeat (first|exact (Kd.C_below HR0_1.out HB.out)|(with_reducible refine Kd.C_alloc ?_ _)|(with_reducible refine Kd.C_drewN ?_ _)|(with_reducible refine Kd.C_drew ?_)));(case side4=>exact HC0_1.out);rintro e w12 ⟨rfl,hb⟩;refine ⟨_,rfl,?_⟩;have n0_:=A_ (bx_ BK406.out (by intro h_;(with_reducible repeat (first|refine kd_ ?_ _|refine ke_ ?_|refine ka_ ?_ _));exact h_) hb);have n1_:=A_ (bp_ (by repeat (first|(with_reducible first|exact HB.out|apply ba_|apply bd_|apply be_|refine bs_ ?_ GE406.out)|exact HB.out)) hb);clear BK406;clear HB;have BK406:=n0_;have HB:=n1_;clear n0_ n1_;(try clear hb);(try clear hb2);(try clear hk);(try clear hi)))
  go_ret
  exact ⟨by first|rfl|(simp [errW_none,errW_some] <;> rfl)|(simp [*,errW_none,errW_some] <;> rfl),by repeat (first|(with_reducible first|exact HB.out|apply ba_|apply bd_|apply be_|refine bs_ ?_ GE406.out)|exact HB.out)⟩
mutual
def humusref08_Page.l0 : Nat→List (S56)→Int→List Int→List (List Int)→Option (List Int)
 | 0,_,_,_,_=>none
 | k + 1,x3,x4,x421000,x421001=>if x4<4 then (if 0≤x4 then (if x4<(x421000.length : Int) then (if x3.length<3518437208883 then (humusref08_Page.l0 k (x3++[(⟨3,rd x421000 x4,0,(⟨#[]⟩ : ByteArray)⟩ : S56)]) (wrap64 (x4 + 1)) x421000 x421001) else (none)) else (none)) else (none)) else (if x3.length<3518437208883 then (humusref08_Page.l1 k (x3++[(⟨1,(x421001.length : Int),0,(⟨#[]⟩ : ByteArray)⟩ : S56)]) 0 x421000 x421001) else (none))
def humusref08_Page.l1 : Nat→List (S56)→Int→List Int→List (List Int)→Option (List Int)
 | 0,_,_,_,_=>none
 | k + 1,x3,x5,x421000,x421001=>if x5<(x421001.length : Int) then (if 0≤x5 then (if x3.length<3518437208883 then (humusref08_Page.l1 k (x3++[(⟨5,0,0,strOfNums (rd_L2 x421001 x5)⟩ : S56)]) (wrap64 (x5 + 1)) x421000 x421001) else (none)) else (none)) else ((humusref03_Put.f x3).bind fun bt435=>(humusref08_Page.l2 k bt435.1))
def humusref08_Page.l2 : Nat→List Int→Option (List Int)
 | 0,_=>none
 | k + 1,x6=>if (x6.length : Int)<508 then (if x6.length<140737488355328 then (humusref08_Page.l2 k (x6++[0])) else (none)) else ((humusref02_Seal.f k x6).bind fun t442=>(some t442))
end
theorem humusref08_Page.l2_s (k : Nat) (x6 : List Int) : humusref08_Page.l2 (k + 1) x6=(if (x6.length : Int)<508 then (if x6.length<140737488355328 then (humusref08_Page.l2 k (x6++[0])) else (none)) else ((humusref02_Seal.f k x6).bind fun t442=>(some t442))):=rfl
def humusref08_Page.f (k : Nat) (l0_0 : List Int) (l0_1 : List (List Int)) : Option (List Int):=humusref08_Page.l0 k (([(⟨1,76,0,(⟨#[]⟩ : ByteArray)⟩ : S56)] : List (S56))) 0 l0_0 l0_1
set_option maxHeartbeats 8000000 in
set_option maxRecDepth 100000 in
theorem humusref08_Page.calls (k : Nat) (A0_0 : Option Addr) (c0_0 : Nat) (l0_0 : List Int) (A0_1 : Option Addr) (c0_1 : Nat) (l0_1 : List (List Int)) (r : List Int) (w : World) (hr0_0 : Kd.C (Kd.int .i64) w A0_0 l0_0.length l0_0) (hc0_0 : l0_0.length≤c0_0) (hr0_1 : Kd.C (Kd.slice 5 (Kd.int .u8)) w A0_1 l0_1.length l0_1) (hc0_1 : l0_1.length≤c0_1) (h : humusref08_Page.f k l0_0 l0_1=some r) :
  Calls Try.prog 24 #[.agg #[.slice A0_0 l0_0.length c0_0,.slice A0_1 l0_1.length c0_1]] w fun e w'=>∃ v0_ : Value,e=.returned (v0_)∧Kd.R (Kd.int .u8) 5 w' w.heap.size (fun _=>True) v0_ r∧Below w.heap.size w w':=by
 have hu27:=Try.underlying27;have hu56:=Try.underlying56;have HR0_0:=A_ hr0_0;have HC0_0:=A_ hc0_0;clear hr0_0 hc0_0;have HR0_1:=A_ hr0_1;have HC0_1:=A_ hc0_1;clear hr0_1 hc0_1;have HB:=A_ (Below.refl w.heap.size w);have H : (humusref08_Page.l0 k (([(⟨1,76,0,(⟨#[]⟩ : ByteArray)⟩ : S56)] : List (S56))) 0 l0_0 l0_1)=some r:=h;clear h
 obtain ⟨y421,hy421⟩ : ∃ y_ : List (S56),y_=(([(⟨1,76,0,(⟨#[]⟩ : ByteArray)⟩ : S56)] : List (S56))):=⟨_,rfl⟩
 replace H : (humusref08_Page.l0 k y421 0 l0_0 l0_1)=some r:=by first|(rw [hy421];with_reducible exact H)|(have H2_:=(Option.bind_some _ _).symm.trans H;rw [hy421];with_reducible exact H2_)|(have H2_:=(Option.bind_some _ _).symm.trans H;with_reducible exact H2_)|with_reducible exact H|(rw [hy421];exact H)|exact H
 have Ny421:=A_ hy421;clear hy421;have H':=A_ H;clear H;go_enter Try.func24,Try.ntmps24
 go_wp2_with (first|((with_reducible refine gate_dst (N:=1) rfl ?_);refine box_event ?hg (N:=1) ?hd (cs:=#[.slice A0_0 l0_0.length c0_0,.slice A0_1 l0_1.length c0_1]) (t:=27) ?hr ?_;(case hd=>rfl);(case hg=>rfl);(case hr=>first|(go_simp;done)|(go_simp;rfl));intro gb420 hg w2 hbox hb;have n0_:=A_ (bp_ (by repeat (first|(with_reducible first|exact HB.out|apply ba_|apply bd_|apply be_)|exact HB.out)) hb);have n1_:=A_ (hbox);have n2_:=A_ ((by rw [hg];exact (bz_ (by repeat (first|(with_reducible first|exact HB.out|apply ba_|apply bd_|apply be_)|exact HB.out))) : w.heap.size≤gb420));have n3_:=n2_;clear HB;have HB:=n0_;have BK420:=n1_;have GW420:=n2_;have GE420:=n3_;clear n0_ n1_ n2_ n3_;clear hb hbox hg)|((with_reducible refine gate_dst (N:=9) rfl ?_);refine Kd.R_lit k56 _ 56 ?hg (N:=9) ?hd (xs:=([(⟨1,76,0,(⟨#[]⟩ : ByteArray)⟩ : S56)] : List (S56))) (inner:=[.int .i64 1,.int .i64 76,.float .f64 0,.string (⟨#[]⟩ : ByteArray)]) (ok:=fun _=>True) (okp:=fun _=>True) ?hr ?hp (fun _ hk=>hk) trivial (Below.refl _ _) (Nat.le_refl _) (by simp) ?_;(case hd=>rfl);(case hg=>rfl);(case hr=>first|(go_simp;done)|(go_simp;rfl));(case hp=>exact (Reps.c4 (show Kd.M k56 _ _ _ (⟨1,76,0,(⟨#[]⟩ : ByteArray)⟩ : S56) [.int .i64 1,.int .i64 76,.float .f64 0,.string (⟨#[]⟩ : ByteArray)] from (k56_mkM _ _ _ (⟨1,76,0,(⟨#[]⟩ : ByteArray)⟩ : S56) )) (Reps.none _ _)));intro v422 w3 ho4 hb hg_ hnew_;clear hg_ hnew_;(first|rw [← Ny421.out] at ho4|(simp only [Int.reduceToNat] at ho4;rw [← Ny421.out] at ho4));have n0_:=A_ (Kd.R_lower ho4 (bz_ (by repeat (first|(with_reducible first|exact HB.out|apply ba_|apply bd_|apply be_|refine bs_ ?_ GE420.out)|exact HB.out))));have n1_:=A_ (bx_ BK420.out (by intro h_;(with_reducible repeat (first|refine kd_ ?_ _|refine ke_ ?_|refine ka_ ?_ _));exact h_) hb);have n2_:=A_ (bp_ (by repeat (first|(with_reducible first|exact HB.out|apply ba_|apply bd_|apply be_|refine bs_ ?_ GE420.out)|exact HB.out)) hb);clear BK420;clear HB;have HO423:=n0_;have BK420:=n1_;have HB:=n2_;clear n0_ n1_ n2_;clear hb ho4))
 go_loopg [3,4] k (fun kq v3 v4 w'=>∃ (x3_1 : List (S56)) (x4_1 : Int),v4=.int .i64 x4_1∧Aside0 (humusref08_Page.l0 kq x3_1 x4_1 l0_0 l0_1=some r)∧Aside0 (kq≤k)∧Aside0 (Kd.R k56 56 w' w.heap.size (fun _=>True) v3 x3_1)∧Aside0 (w'.heap[gb420]?=some (.cells #[(.slice A0_0 l0_0.length c0_0),(.slice A0_1 l0_1.length c0_1)] 27 (0,0)))∧Aside0 (Below w.heap.size w w'))
 case atStart=>exact ⟨(y421),(0),(by first|rfl|(simp;done)|(simp [*];done)),H',⟨Nat.le_refl _⟩,⟨by (with_reducible repeat (first|apply ra_|apply rn_|apply re_));exact HO423.out⟩,⟨by (with_reducible repeat (first|refine kd_ ?_ _|refine ke_ ?_|refine ka_ ?_ _));exact BK420.out⟩,⟨by repeat (first|(with_reducible first|exact HB.out|apply ba_|apply bd_|apply be_|refine bs_ ?_ GE420.out)|exact HB.out)⟩⟩
 case round =>
  clear H';(try clear c2);(try clear p2);(try clear c4);obtain ⟨x3_1,x4_1,rfl,HA,HK1,HO_3,BK420,HB⟩:=hrel
  cases gk with
  | zero=>exact absurd HA.out (by simp [humusref08_Page.l0])
  | succ k1 =>
   have H:=HA.out;clear HA
   simp only [humusref08_Page.l0] at H
   by_cases c5 : x4_1<4
   ·rw [if_pos c5] at H
    have c5b0 : decide (x4_1<4)=true:=dt_ c5;clear c5
    by_cases c6 : 0≤x4_1
    ·rw [if_pos c6] at H
     have c6b0 : decide (0≤x4_1)=true:=dt_ c6;clear c6
     by_cases c7 : x4_1<(l0_0.length : Int)
     ·rw [if_pos c7] at H
      have c7b0 : decide (x4_1<(l0_0.length : Int))=true:=dt_ c7;clear c7
      by_cases c8 : x3_1.length<3518437208883
      ·rw [if_pos c8] at H
       have LMc8:=A_ c8;clear c8
       obtain ⟨y425,hy425⟩ : ∃ y_ : List (S56),y_=(x3_1++[(⟨3,rd l0_0 x4_1,0,(⟨#[]⟩ : ByteArray)⟩ : S56)]):=⟨_,rfl⟩
       replace H : (humusref08_Page.l0 k1 y425 (wrap64 (x4_1 + 1)) l0_0 l0_1)=some r:=by first|(rw [hy425];with_reducible exact H)|(have H2_:=(Option.bind_some _ _).symm.trans H;rw [hy425];with_reducible exact H2_)|(have H2_:=(Option.bind_some _ _).symm.trans H;with_reducible exact H2_)|with_reducible exact H|(rw [hy425];exact H)|exact H
       have Ny425:=A_ hy425;clear hy425;have H':=A_ H;clear H;have z9_0 : wr.cell? ⟨gb420,0,none⟩=some (.slice A0_0 l0_0.length c0_0):=(bc_ BK420.out 0).trans rfl;have z9_1 : wr.cell? ⟨gb420,1,none⟩=some (.slice A0_1 l0_1.length c0_1):=(bc_ BK420.out 1).trans rfl;have y9_0:=bf_ BK420.out 0;have y9_1:=bf_ BK420.out 1
       have p424 : 0≤(x4_1 : Int):=od_ (by first|(with_reducible assumption)|assumption)
       have q424 : x4_1<(l0_0.length : Int):=od_ (by first|(with_reducible assumption)|assumption)
       obtain ⟨ad424,e424,hx424_0⟩:=Kd.at_int HR0_0.out x4_1 p424 q424
       cases e424
       replace hx424_0:=(HB.out.cell (wb_ w _ hx424_0)).trans hx424_0;replace p424:=eq_true p424;replace q424:=eq_true q424
       go_wp2_with (first|((with_reducible refine gate_builtin (b:=.append) (xs:=#[.tmp 14,.tmp 21]) rfl ?_);at_builtin;refine Kd.R_append k56 (w0:=w) w.heap.size rfl (.tmp 14) (.tmp 21) 51 56 (.agg #[(.int .i64 0),(.int .i64 0),(.float .f64 0),(.string ⟨#[]⟩)]) 40 rfl Try.underlying51 info56 rfl (by decide) (by omega) u3 x3_1 (⟨3,rd l0_0 x4_1,0,(⟨#[]⟩ : ByteArray)⟩ : S56) [.int .i64 3,.int .i64 (rd l0_0 x4_1),.float .f64 0,.string (⟨#[]⟩ : ByteArray)] (fun _=>True) (fun _=>False) rfl rfl ?aP (fun _ hk=>hk.elim) ?aF ?aO ?aB ?aS ?aL ?_;(case aP=>exact k56_mkM _ _ _ (⟨3,rd l0_0 x4_1,0,(⟨#[]⟩ : ByteArray)⟩ : S56));(case aB=>exact (by repeat (first|(with_reducible first|exact HB.out|apply ba_|apply bd_|apply be_|refine bs_ ?_ GE420.out)|exact HB.out)));(case aF=>exact (fun _ _=>trivial));(case aO=>exact (by (with_reducible repeat (first|apply ra_|apply rn_|apply re_));exact HO_3.out));(case aS=>exact (bz_ (by repeat (first|(with_reducible first|exact HB.out|apply ba_|apply bd_|apply be_|refine bs_ ?_ GE420.out)|exact HB.out))));(case aL=>have:=LMc8.out;omega);intro v426 w10 ho hb hg hat;rw [← Ny425.out] at ho;have n0_:=A_ (blk_grown (g:=gb420) (o:=.cells #[.slice (some ad424) l0_0.length c0_0,.slice A0_1 l0_1.length c0_1] 27 (0,0)) (by (with_reducible repeat (first|refine kd_ ?_ _|refine ke_ ?_|refine ka_ ?_ _));exact BK420.out) hg (Kd.R_ne HO_3.out BK420.out (by decide)));have n1_:=A_ (hb);have n2_:=A_ (ho);clear BK420;clear HB;clear HO_3;have BK420:=n0_;have HB:=n1_;have HO427:=n2_;clear n0_ n1_ n2_;clear ho hb hg hat))
       go_roundg k1
       case measure=>have:=HK1.out;omega
       case rel=>exact ⟨(y425),(wrap64 (x4_1 + 1)),(by first|rfl|(simp;done)|(simp [*];done)),H',⟨by have:=HK1.out;omega⟩,⟨by (with_reducible repeat (first|apply ra_|apply rn_|apply re_));exact HO427.out⟩,⟨by (with_reducible repeat (first|refine kd_ ?_ _|refine ke_ ?_|refine ka_ ?_ _));exact BK420.out⟩,⟨by repeat (first|(with_reducible first|exact HB.out|apply ba_|apply bd_|apply be_|refine bs_ ?_ GE420.out)|exact HB.out)⟩⟩
      ·rw [if_neg c8] at H
       exact absurd H (by simp)
     ·rw [if_neg c7] at H
      exact absurd H (by simp)
    ·rw [if_neg c6] at H
     exact absurd H (by simp)
   ·rw [if_neg c5] at H
    have c5b0 : decide (x4_1<4)=false:=df_ c5;clear c5
    by_cases c11 : x3_1.length<3518437208883
    ·rw [if_pos c11] at H
     have LMc11:=A_ c11;clear c11
     obtain ⟨y428,hy428⟩ : ∃ y_ : List (S56),y_=(x3_1++[(⟨1,(l0_1.length : Int),0,(⟨#[]⟩ : ByteArray)⟩ : S56)]):=⟨_,rfl⟩
     replace H : (humusref08_Page.l1 k1 y428 0 l0_0 l0_1)=some r:=by first|(rw [hy428];with_reducible exact H)|(have H2_:=(Option.bind_some _ _).symm.trans H;rw [hy428];with_reducible exact H2_)|(have H2_:=(Option.bind_some _ _).symm.trans H;with_reducible exact H2_)|with_reducible exact H|(rw [hy428];exact H)|exact H
     have Ny428:=A_ hy428;clear hy428;have H':=A_ H;clear H;have z12_0 : wr.cell? ⟨gb420,0,none⟩=some (.slice A0_0 l0_0.length c0_0):=(bc_ BK420.out 0).trans rfl;have z12_1 : wr.cell? ⟨gb420,1,none⟩=some (.slice A0_1 l0_1.length c0_1):=(bc_ BK420.out 1).trans rfl;have y12_0:=bf_ BK420.out 0;have y12_1:=bf_ BK420.out 1
     go_wp2_with (first|((with_reducible refine gate_builtin (b:=.append) (xs:=#[.tmp 23,.tmp 28]) rfl ?_);at_builtin;refine Kd.R_append k56 (w0:=w) w.heap.size rfl (.tmp 23) (.tmp 28) 51 56 (.agg #[(.int .i64 0),(.int .i64 0),(.float .f64 0),(.string ⟨#[]⟩)]) 40 rfl Try.underlying51 info56 rfl (by decide) (by omega) u3 x3_1 (⟨1,(l0_1.length : Int),0,(⟨#[]⟩ : ByteArray)⟩ : S56) [.int .i64 1,.int .i64 (l0_1.length : Int),.float .f64 0,.string (⟨#[]⟩ : ByteArray)] (fun _=>True) (fun _=>False) rfl rfl ?aP (fun _ hk=>hk.elim) ?aF ?aO ?aB ?aS ?aL ?_;(case aP=>exact k56_mkM _ _ _ (⟨1,(l0_1.length : Int),0,(⟨#[]⟩ : ByteArray)⟩ : S56));(case aB=>exact (by repeat (first|(with_reducible first|exact HB.out|apply ba_|apply bd_|apply be_|refine bs_ ?_ GE420.out)|exact HB.out)));(case aF=>exact (fun _ _=>trivial));(case aO=>exact (by (with_reducible repeat (first|apply ra_|apply rn_|apply re_));exact HO_3.out));(case aS=>exact (bz_ (by repeat (first|(with_reducible first|exact HB.out|apply ba_|apply bd_|apply be_|refine bs_ ?_ GE420.out)|exact HB.out))));(case aL=>have:=LMc11.out;omega);intro v429 w13 ho hb hg hat;rw [← Ny428.out] at ho;have n0_:=A_ (blk_grown (g:=gb420) (o:=.cells #[.slice A0_0 l0_0.length c0_0,.slice A0_1 l0_1.length c0_1] 27 (0,0)) (by (with_reducible repeat (first|refine kd_ ?_ _|refine ke_ ?_|refine ka_ ?_ _));exact BK420.out) hg (Kd.R_ne HO_3.out BK420.out (by decide)));have n1_:=A_ (hb);have n2_:=A_ (ho);clear BK420;clear HB;clear HO_3;have BK420:=n0_;have HB:=n1_;have HO430:=n2_;clear n0_ n1_ n2_;clear ho hb hg hat))
     go_loopg [3,5] k1 (fun kq v3 v5 w'=>∃ (x3_2 : List (S56)) (x5_2 : Int),v5=.int .i64 x5_2∧Aside0 (humusref08_Page.l1 kq x3_2 x5_2 l0_0 l0_1=some r)∧Aside0 (kq≤k1)∧Aside0 (Kd.R k56 56 w' w.heap.size (fun _=>True) v3 x3_2)∧Aside0 (w'.heap[gb420]?=some (.cells #[(.slice A0_0 l0_0.length c0_0),(.slice A0_1 l0_1.length c0_1)] 27 (0,0)))∧Aside0 (Below w.heap.size w w'))
     case atStart=>exact ⟨(y428),(0),(by first|rfl|(simp;done)|(simp [*];done)),H',⟨Nat.le_refl _⟩,⟨by (with_reducible repeat (first|apply ra_|apply rn_|apply re_));exact HO430.out⟩,⟨by (with_reducible repeat (first|refine kd_ ?_ _|refine ke_ ?_|refine ka_ ?_ _));exact BK420.out⟩,⟨by repeat (first|(with_reducible first|exact HB.out|apply ba_|apply bd_|apply be_|refine bs_ ?_ GE420.out)|exact HB.out)⟩⟩
     case round =>
      clear H';(try clear c1);(try clear c2);(try clear p2);(try clear c4);(try clear p4);(try clear q4);(try clear hx4);(try clear c5);(try clear c5b0);(try clear c6);(try clear c6b0);(try clear p6);(try clear c7);(try clear c7b0);(try clear c8);(try clear c11);(try clear hx424_0);(try clear p2);(try clear p424);(try clear q424);(try clear z12_0 z12_1 z9_0 z9_1 y12_0 y12_1 y9_0 y9_1);obtain ⟨x3_2,x5_2,rfl,HA,HK2,HO_3,BK420,HB⟩:=hrel
      cases gk with
      | zero=>exact absurd HA.out (by simp [humusref08_Page.l1])
      | succ k2 =>
       have H:=HA.out;clear HA
       simp only [humusref08_Page.l1] at H
       by_cases c14 : x5_2<(l0_1.length : Int)
       ·rw [if_pos c14] at H
        have c14b0 : decide (x5_2<(l0_1.length : Int))=true:=dt_ c14;clear c14
        by_cases c15 : 0≤x5_2
        ·rw [if_pos c15] at H
         have c15b0 : decide (0≤x5_2)=true:=dt_ c15;clear c15
         by_cases c16 : x3_2.length<3518437208883
         ·rw [if_pos c16] at H
          have LMc16:=A_ c16;clear c16
          obtain ⟨y432,hy432⟩ : ∃ y_ : List (S56),y_=(x3_2++[(⟨5,0,0,strOfNums (rd_L2 l0_1 x5_2)⟩ : S56)]):=⟨_,rfl⟩
          replace H : (humusref08_Page.l1 k2 y432 (wrap64 (x5_2 + 1)) l0_0 l0_1)=some r:=by first|(rw [hy432];with_reducible exact H)|(have H2_:=(Option.bind_some _ _).symm.trans H;rw [hy432];with_reducible exact H2_)|(have H2_:=(Option.bind_some _ _).symm.trans H;with_reducible exact H2_)|with_reducible exact H|(rw [hy432];exact H)|exact H
          have Ny432:=A_ hy432;clear hy432;have H':=A_ H;clear H;have z17_0 : wr.cell? ⟨gb420,0,none⟩=some (.slice A0_0 l0_0.length c0_0):=(bc_ BK420.out 0).trans rfl;have z17_1 : wr.cell? ⟨gb420,1,none⟩=some (.slice A0_1 l0_1.length c0_1):=(bc_ BK420.out 1).trans rfl;have y17_0:=bf_ BK420.out 0;have y17_1:=bf_ BK420.out 1
          have p431 : 0≤(x5_2 : Int):=od_ (by first|(with_reducible assumption)|assumption)
          have q431 : x5_2<(l0_1.length : Int):=od_ (by first|(with_reducible assumption)|assumption)
          obtain ⟨ad431,A431_0,c431_0,e431,hx431_0,hl431_0,hi431_0⟩:=at_L2 HR0_1.out x5_2 p431 q431
          cases e431
          replace hx431_0:=(HB.out.cell (wb_ w _ hx431_0)).trans hx431_0;have HR431_0:=A_ hi431_0;have HC431_0:=A_ hl431_0;clear hi431_0 hl431_0;replace p431:=eq_true p431;replace q431:=eq_true q431;have hcv18:=Kd.C_string (P:=Try.prog) (A:=A431_0) (c:=c431_0) Try.underlying22 Try.underlying5 Try.underlying9 (Kd.C_below HR431_0.out HB.out)
          go_wp2_with (first|((with_reducible refine gate_builtin (b:=.append) (xs:=#[.tmp 37,.tmp 45]) rfl ?_);at_builtin;refine Kd.R_append k56 (w0:=w) w.heap.size rfl (.tmp 37) (.tmp 45) 51 56 (.agg #[(.int .i64 0),(.int .i64 0),(.float .f64 0),(.string ⟨#[]⟩)]) 40 rfl Try.underlying51 info56 rfl (by decide) (by omega) u3 x3_2 (⟨5,0,0,strOfNums (rd_L2 l0_1 x5_2)⟩ : S56) [.int .i64 5,.int .i64 0,.float .f64 0,.string (strOfNums (rd_L2 l0_1 x5_2))] (fun _=>True) (fun _=>False) rfl rfl ?aP (fun _ hk=>hk.elim) ?aF ?aO ?aB ?aS ?aL ?_;(case aP=>exact k56_mkM _ _ _ (⟨5,0,0,strOfNums (rd_L2 l0_1 x5_2)⟩ : S56));(case aB=>exact (by repeat (first|(with_reducible first|exact HB.out|apply ba_|apply bd_|apply be_|refine bs_ ?_ GE420.out)|exact HB.out)));(case aF=>exact (fun _ _=>trivial));(case aO=>exact (by (with_reducible repeat (first|apply ra_|apply rn_|apply re_));exact HO_3.out));(case aS=>exact (bz_ (by repeat (first|(with_reducible first|exact HB.out|apply ba_|apply bd_|apply be_|refine bs_ ?_ GE420.out)|exact HB.out))));(case aL=>have:=LMc16.out;omega);intro v433 w19 ho hb hg hat;rw [← Ny432.out] at ho;have n0_:=A_ (blk_grown (g:=gb420) (o:=.cells #[.slice A0_0 l0_0.length c0_0,.slice (some ad431) l0_1.length c0_1] 27 (0,0)) (by (with_reducible repeat (first|refine kd_ ?_ _|refine ke_ ?_|refine ka_ ?_ _));exact BK420.out) hg (Kd.R_ne HO_3.out BK420.out (by decide)));have n1_:=A_ (hb);have n2_:=A_ (ho);clear BK420;clear HB;clear HO_3;have BK420:=n0_;have HB:=n1_;have HO434:=n2_;clear n0_ n1_ n2_;clear ho hb hg hat))
          go_roundg k2
          case measure=>have:=HK1.out;have:=HK2.out;omega
          case rel=>exact ⟨(y432),(wrap64 (x5_2 + 1)),(by first|rfl|(simp;done)|(simp [*];done)),H',⟨by have:=HK1.out;have:=HK2.out;omega⟩,⟨by (with_reducible repeat (first|apply ra_|apply rn_|apply re_));exact HO434.out⟩,⟨by (with_reducible repeat (first|refine kd_ ?_ _|refine ke_ ?_|refine ka_ ?_ _));exact BK420.out⟩,⟨by repeat (first|(with_reducible first|exact HB.out|apply ba_|apply bd_|apply be_|refine bs_ ?_ GE420.out)|exact HB.out)⟩⟩
         ·rw [if_neg c16] at H
          exact absurd H (by simp)
        ·rw [if_neg c15] at H
         exact absurd H (by simp)
       ·rw [if_neg c14] at H
        have c14b0 : decide (x5_2<(l0_1.length : Int))=false:=df_ c14;clear c14;replace H:=Option.bind_eq_some_iff.mp H;obtain ⟨⟨t435,t436⟩,A200,H⟩:=H;replace H : (humusref08_Page.l2 k2 t435)=some r:=H;have A20:=A_ A200;clear A200;have H':=A_ H;clear H;have z21_0 : wr.cell? ⟨gb420,0,none⟩=some (.slice A0_0 l0_0.length c0_0):=(bc_ BK420.out 0).trans rfl;have z21_1 : wr.cell? ⟨gb420,1,none⟩=some (.slice A0_1 l0_1.length c0_1):=(bc_ BK420.out 1).trans rfl;have y21_0:=bf_ BK420.out 0;have y21_1:=bf_ BK420.out 1;obtain ⟨Ao22,co22,eo22⟩:=Kd.R_slice HO_3.out;subst eo22
        go_wp2_with (first|((with_reducible refine gate_callee (f:=47) rfl ?_);refine goesL_ (some 49) rfl rfl Try.func47 (by kernel_rfl) rfl #[.slice Ao22 x3_2.length co22] rfl (by (try simp only [List.map_toArray,List.map_cons,List.map_nil]);first|done|rfl|(simp only [List.length_drop,List.length_take];rfl)) ?_;(with_reducible refine (humusref03_Put.calls _ _ x3_2 t435 t436 _ ?side1 ?side2 A20.out).mono ?_);(case side1=>repeat (first|exact (Kd.R_reads' HO_3.out).2.2|(with_reducible refine Kd.C_alloc ?_ _)|(with_reducible refine Kd.C_drewN ?_ _)|(with_reducible refine Kd.C_drew ?_)));(case side2=>exact (Kd.R_reads' HO_3.out).2.1);rintro e w23 ⟨v437,rfl,ho0,hb⟩;refine ⟨_,rfl,?_⟩;have n0_:=A_ (Kd.R_below (by (with_reducible repeat (first|apply ra_|apply rn_|apply re_));exact HO_3.out) hb);have n1_:=A_ (Kd.R_lower ho0 (bz_ (by repeat (first|(with_reducible first|exact HB.out|apply ba_|apply bd_|apply be_|refine bs_ ?_ GE420.out)|exact HB.out))));have n2_:=A_ (bx_ BK420.out (by intro h_;(with_reducible repeat (first|refine kd_ ?_ _|refine ke_ ?_|refine ka_ ?_ _));exact h_) hb);have n3_:=A_ (bp_ (by repeat (first|(with_reducible first|exact HB.out|apply ba_|apply bd_|apply be_|refine bs_ ?_ GE420.out)|exact HB.out)) hb);clear HO_3;clear BK420;clear HB;have HO_3:=n0_;have HO438:=n1_;have BK420:=n2_;have HB:=n3_;clear n0_ n1_ n2_ n3_;(try clear hb);(try clear hb2);(try clear hk);(try clear hi);(try clear ho0)))
        go_loopg [6] k2 (fun kq v6 w'=>∃ (x6_3 : List Int),Aside0 (humusref08_Page.l2 kq x6_3=some r)∧Aside0 (kq≤k2)∧Aside0 (Kd.R (Kd.int .u8) 5 w' w.heap.size (fun _=>True) v6 x6_3)∧Aside0 (w'.heap[gb420]?=some (.cells #[(.slice A0_0 l0_0.length c0_0),(.slice A0_1 l0_1.length c0_1)] 27 (0,0)))∧Aside0 (Below w.heap.size w w'))
        case atStart=>exact ⟨(t435),H',⟨Nat.le_refl _⟩,⟨by (with_reducible repeat (first|apply ra_|apply rn_|apply re_));exact HO438.out⟩,⟨by (with_reducible repeat (first|refine kd_ ?_ _|refine ke_ ?_|refine ka_ ?_ _));exact BK420.out⟩,⟨by repeat (first|(with_reducible first|exact HB.out|apply ba_|apply bd_|apply be_|refine bs_ ?_ GE420.out)|exact HB.out)⟩⟩
        case round =>
         clear H';(try clear c1);(try clear hcv1);(try clear c2);(try clear p2);(try clear c4);(try clear p4);(try clear q4);(try clear hx4);(try clear c5);(try clear c5b0);(try clear c6);(try clear c6b0);(try clear p6);(try clear c7);(try clear c7b0);(try clear c8);(try clear c11);(try clear c14);(try clear c14b0);(try clear c15);(try clear c15b0);(try clear c16);(try clear hcv18);(try clear hx424_0);(try clear hx431_0);(try clear p2);(try clear p4);(try clear p424);(try clear p431);(try clear p6);(try clear q4);(try clear q424);(try clear q431);(try clear z12_0 z12_1 z17_0 z17_1 z21_0 z21_1 z9_0 z9_1 y12_0 y12_1 y17_0 y17_1 y21_0 y21_1 y9_0 y9_1);obtain ⟨x6_3,HA,HK3,HO_6,BK420,HB⟩:=hrel
         cases gk with
         | zero=>exact absurd HA.out (by intro h_; cases h_)
         | succ k3 =>
          have H:=HA.out;clear HA;rw [humusref08_Page.l2_s] at H
          by_cases c24 : (x6_3.length : Int)<508
          ·rw [if_pos c24] at H
           have c24b0 : decide ((x6_3.length : Int)<508)=true:=dt_ c24
           have c24b1 : decide (x6_3.length<508)=true:=dt_ (by omega)
           clear c24
           by_cases c25 : x6_3.length<140737488355328
           ·rw [if_pos c25] at H
            have LMc25:=A_ c25;clear c25
            obtain ⟨y439,hy439⟩ : ∃ y_ : List Int,y_=(x6_3++[0]):=⟨_,rfl⟩
            replace H : (humusref08_Page.l2 k3 y439)=some r:=by first|(rw [hy439];with_reducible exact H)|(have H2_:=(Option.bind_some _ _).symm.trans H;rw [hy439];with_reducible exact H2_)|(have H2_:=(Option.bind_some _ _).symm.trans H;with_reducible exact H2_)|with_reducible exact H|(rw [hy439];exact H)|exact H
            have Ny439:=A_ hy439;clear hy439;have H':=A_ H;clear H;obtain ⟨Ao26,co26,eo26⟩:=Kd.R_slice HO_6.out;subst eo26
            go_wp2_with (first|((with_reducible refine gate_builtin (b:=.append) (xs:=#[.tmp 55,.tmp 56]) rfl ?_);at_builtin;refine Kd.R_append (Kd.int .u8) (w0:=w) w.heap.size rfl (.tmp 55) (.tmp 56) 22 5 (.int .u8 0) 1 rfl Try.underlying22 info5 rfl (by decide) (by omega) (.slice Ao26 x6_3.length co26) x6_3 0 [.int .u8 0] (fun _=>True) (fun _=>False) rfl rfl ?aP (fun _ hk=>hk.elim) ?aF ?aO ?aB ?aS ?aL ?_;(case aP=>exact rfl);(case aB=>exact (by repeat (first|(with_reducible first|exact HB.out|apply ba_|apply bd_|apply be_|refine bs_ ?_ GE420.out)|exact HB.out)));(case aF=>exact (fun _ _=>trivial));(case aO=>exact (by (with_reducible repeat (first|apply ra_|apply rn_|apply re_));exact HO_6.out));(case aS=>exact (bz_ (by repeat (first|(with_reducible first|exact HB.out|apply ba_|apply bd_|apply be_|refine bs_ ?_ GE420.out)|exact HB.out))));(case aL=>have:=LMc25.out;omega);intro v440 w27 ho hb hg hat;rw [← Ny439.out] at ho;have n0_:=A_ (blk_grown (g:=gb420) (o:=.cells #[.slice A0_0 l0_0.length c0_0,.slice A0_1 l0_1.length c0_1] 27 (0,0)) (by (with_reducible repeat (first|refine kd_ ?_ _|refine ke_ ?_|refine ka_ ?_ _));exact BK420.out) hg (Kd.R_ne HO_6.out BK420.out (by decide)));have n1_:=A_ (hb);have n2_:=A_ (ho);clear BK420;clear HB;clear HO_6;have BK420:=n0_;have HB:=n1_;have HO441:=n2_;clear n0_ n1_ n2_;clear ho hb hg hat))
            go_roundg k3
            case measure=>have:=HK1.out;have:=HK2.out;have:=HK3.out;omega
            case rel=>exact ⟨(y439),H',⟨by have:=HK1.out;have:=HK2.out;have:=HK3.out;omega⟩,⟨by (with_reducible repeat (first|apply ra_|apply rn_|apply re_));exact HO441.out⟩,⟨by (with_reducible repeat (first|refine kd_ ?_ _|refine ke_ ?_|refine ka_ ?_ _));exact BK420.out⟩,⟨by repeat (first|(with_reducible first|exact HB.out|apply ba_|apply bd_|apply be_|refine bs_ ?_ GE420.out)|exact HB.out)⟩⟩
           ·rw [if_neg c25] at H
            exact absurd H (by simp)
          ·rw [if_neg c24] at H
           have c24b0 : decide ((x6_3.length : Int)<508)=false:=df_ c24
           have c24b1 : decide (x6_3.length<508)=false:=df_ (by omega)
           clear c24;replace H:=Option.bind_eq_some_iff.mp H;obtain ⟨t442,A280,H⟩:=H;replace H : (some t442)=some r:=H;have A28:=A_ A280;clear A280;obtain rfl:=Option.some.inj H;obtain ⟨Ao29,co29,eo29⟩:=Kd.R_slice HO_6.out;subst eo29
           go_wp2_with (first|((with_reducible refine gate_callee (f:=48) rfl ?_);refine goesL_ (some 59) rfl rfl Try.func48 (by kernel_rfl) rfl #[.slice Ao29 x6_3.length co29] rfl (by (try simp only [List.map_toArray,List.map_cons,List.map_nil]);first|done|rfl|(simp only [List.length_drop,List.length_take];rfl)) ?_;(with_reducible refine (humusref02_Seal.calls k3 _ _ x6_3 t442 _ ?side1 ?side2 A28.out).mono ?_);(case side1=>repeat (first|exact (Kd.R_reads' HO_6.out).2.2|(with_reducible refine Kd.C_alloc ?_ _)|(with_reducible refine Kd.C_drewN ?_ _)|(with_reducible refine Kd.C_drew ?_)));(case side2=>exact (Kd.R_reads' HO_6.out).2.1);rintro e w30 ⟨v443,rfl,ho0,hb⟩;refine ⟨_,rfl,?_⟩;have n0_:=A_ (Kd.R_elder' (by (with_reducible repeat (first|apply ra_|apply rn_|apply re_));exact HO_6.out) (Kd.R_base ho0) hb);have n1_:=A_ (Kd.R_lower (Kd.R_new' ho0 (Kd.R_lt (by (with_reducible repeat (first|apply ra_|apply rn_|apply re_));exact HO_6.out))) (bz_ (by repeat (first|(with_reducible first|exact HB.out|apply ba_|apply bd_|apply be_|refine bs_ ?_ GE420.out)|exact HB.out))));have n2_:=A_ (bx_ BK420.out (by intro h_;(with_reducible repeat (first|refine kd_ ?_ _|refine ke_ ?_|refine ka_ ?_ _));exact h_) hb);have n3_:=A_ (bp_ (by repeat (first|(with_reducible first|exact HB.out|apply ba_|apply bd_|apply be_|refine bs_ ?_ GE420.out)|exact HB.out)) hb);clear HO_6;clear BK420;clear HB;have HO_6:=n0_;have HO444:=n1_;have BK420:=n2_;have HB:=n3_;clear n0_ n1_ n2_ n3_;(try clear hb);(try clear hb2);(try clear hk);(try clear hi);(try clear ho0)))
           go_ret
           exact ⟨_,by first|rfl|(simp [errW_none,errW_some] <;> rfl)|(simp [*,errW_none,errW_some] <;> rfl),by (with_reducible repeat (first|apply ra_|apply rn_|apply re_));exact Kd.R_mono HO444.out (fun _ hk=>trivial),by repeat (first|(with_reducible first|exact HB.out|apply ba_|apply bd_|apply be_|refine bs_ ?_ GE420.out)|exact HB.out)⟩
    ·rw [if_neg c11] at H
     exact absurd H (by simp)
end Go.Proofs.Ytjigckhopkclgaa.P
namespace Go.Proofs.Ytjigckhopkclgaa.P
open Go.RowKit Ytjigckhopkclgaa Ytjigckhopkclgaa.Mem Ytjigckhopkclgaa.Pac YtjigckhopkclgaaW.PrintWords YtjigckhopkclgaaW.PrintLast YtjigckhopkclgaaW.PrintMore
def foursS (I : List Int) : List SIt:=I.map (fun w=>⟨3,w,0,⟨#[]⟩⟩)
def slotS (S : List (List Int)) : List SIt:=S.map (fun s=>⟨5,0,0,strOfNums s⟩)
def headS (I : List Int) (n : Nat) : List SIt:=[(⟨1,76,0,⟨#[]⟩⟩ : SIt)]++foursS I++[(⟨1,(n : Int),0,⟨#[]⟩⟩ : SIt)]
def leafS (I : List Int) (S : List (List Int)) : List SIt:=headS I S.length++slotS S
theorem put_rows {l : List SIt} (hl : l.length≤1000) (hm : ∀ a ∈ l.map itOf,may a=true) (hx : ∀ a ∈ l.map itOf,a.x=0) : pack_Put.f l=some (ones (l.map itOf),0)∧humusref03_Put.f l=some (ones (l.map itOf),true):=by
  have ha : (l.map itOf).all may=true:=by rw [List.all_eq_true]; exact hm
  have hbd : bdX l=true:=by
    unfold bdX
    rw [List.all_eq_true];intro x h;have:=hx (itOf x) (List.mem_map.2 ⟨x,h,rfl⟩);refine dt_ ?_
    rw [show x.f2=0 from this]; decide
  unfold pack_Put.f humusref03_Put.f
  have hb : l.length≤1000∧bdX l=true:=⟨hl,hbd⟩;rw [if_pos hb,if_pos hb,ha,if_pos rfl];exact ⟨rfl,rfl⟩
theorem foursS_drop {I : List Int} {i : Nat} (hi : i<I.length) : foursS (I.drop i)=⟨3,rd I (i : Int),0,⟨#[]⟩⟩ :: foursS (I.drop (i + 1)):=by
  have h:=rdB_at hi;rw [List.getElem?_eq_getElem hi] at h
  injection h with h
  rw [← h,List.drop_eq_getElem_cons hi]; rfl
theorem slotS_drop {S : List (List Int)} {i : Nat} (hi : i<S.length) : slotS (S.drop i)=⟨5,0,0,strOfNums (rd_L2 S (i : Int))⟩ :: slotS (S.drop (i + 1)):=by
  rw [drop_rd hi]; rfl
theorem leafS_may {I : List Int} {S : List (List Int)} (hI : ∀ w ∈ I,0≤w∧w≤2147483647) (hS : S.length≤64) (h5 : ∀ s ∈ S,s.length≤255) : ∀ a ∈ (leafS I S).map itOf,may a=true∧a.x=0:=by
  intro a ha
  unfold leafS headS foursS slotS at ha
  simp only [List.map_append,List.map_map,List.mem_append,List.map_cons,List.map_nil,List.mem_singleton,List.mem_map] at ha
  rcases ha with ((rfl | ⟨w,hw,rfl⟩)|rfl) | ⟨s,hs,rfl⟩
  · exact ⟨by show may ⟨1,76,0,⟨#[]⟩⟩=true; rw [may_1,nil_str]; rfl,rfl⟩
  · have:=hI w hw
    exact ⟨by show may ⟨3,w,0,⟨#[]⟩⟩=true; rw [may_3,nil_str]; simp; omega,rfl⟩
  · exact ⟨by show may ⟨1,(S.length : Int),0,⟨#[]⟩⟩=true; rw [may_1,nil_str]; simp; omega,rfl⟩
  · have:=h5 s hs
    exact ⟨by show may ⟨5,0,0,strOfNums s⟩=true; rw [may_5,size_strOf]; simp; omega,rfl⟩
theorem one_13 {k n : Int} {x : Nat} {s : ByteArray} (hk : k=1∨k=2∨k=3) : (one ⟨k,n,x,s⟩).length=(wid k).toNat:=by
  unfold one
  rw [if_pos (by exact hk),bigs_length]
theorem one_5 {n : Int} {x : Nat} {s : ByteArray} : one ⟨5,n,x,s⟩=(s.size : Int) :: bytesOf s:=by
  unfold one
  rw [if_neg (show ¬ ((5 : Int)=1∨(5 : Int)=2∨(5 : Int)=3) by decide),if_neg (show ¬ ((5 : Int)=4) by decide)]
theorem ones_nil : ones []=[]:=rfl
theorem ones_cons (a : It) (l : List It) : ones (a :: l)=one a++ones l:=by unfold ones; rw [List.flatMap_cons]
theorem headS_len {I : List Int} {n : Nat} (h4 : I.length=4) : (ones ((headS I n).map itOf)).length=18:=by
  obtain ⟨a,b,c,d,rfl⟩:=four h4
  unfold headS foursS
  simp only [List.map_append,List.map_cons,List.map_nil,List.cons_append,List.nil_append,itOf,ones_cons,ones_nil,List.length_append,List.length_nil]
  rw [one_13 (.inl rfl),one_13 (.inr (.inr rfl)),one_13 (.inr (.inr rfl)),one_13 (.inr (.inr rfl)),one_13 (.inr (.inr rfl)),one_13 (.inl rfl)];rfl
theorem slotS_len : ∀ S : List (List Int),((ones ((slotS S).map itOf)).length : Int)=slotsL S
  | []=>rfl
  | s :: S=>by
    have ih:=slotS_len S;have e : (slotS (s :: S)).map itOf=⟨5,0,0,strOfNums s⟩ :: (slotS S).map itOf:=rfl;rw [e,ones_cons,one_5,List.length_append,List.length_cons,bytesOf_length,size_strOf]
    simp only [slotsL]
    omega
def pageL (I : List Int) (S : List (List Int)) : List Int:=ones ((leafS I S).map itOf)++List.replicate (508 - (ones ((leafS I S).map itOf)).length) 0
theorem leafS_len {I : List Int} {S : List (List Int)} (h4 : I.length=4) : ((ones ((leafS I S).map itOf)).length : Int)=needL S:=by
  have h1:=headS_len (n:=S.length) h4;have h2:=slotS_len S
  unfold leafS needL
  rw [List.map_append,ones_append,List.length_append];omega
theorem MayL_parts {I : List Int} {S : List (List Int)} (h : MayL I S) : I.length=4∧(∀ w ∈ I,0≤w∧w≤2147483647)∧S.length≤64∧(∀ s ∈ S,s.length≤255)∧needL S≤508:=by
  obtain ⟨⟨a,b,c,d,rfl,ho⟩,hS⟩:=h;refine ⟨rfl,?_,hS.1,hS.2.2.1,hS.2.2.2⟩;intro w hw
  simp only [List.mem_cons,List.not_mem_nil,or_false] at hw
  rcases hw with rfl|rfl|rfl|rfl
  · exact ho.1
  · exact ho.2.1
  · exact ho.2.2.1
  · exact ho.2.2.2.1
theorem leafS_bytes {I : List Int} {S : List (List Int)} (h : MayL I S) : Bytes (ones ((leafS I S).map itOf))∧(ones ((leafS I S).map itOf)).length≤508:=by
  obtain ⟨h4,hI,h64,h5,hn⟩:=MayL_parts h
  exact ⟨ones_bytes (fun a ha=>(leafS_may hI h64 h5 a ha).1),by have:=leafS_len (S:=S) h4; omega⟩
theorem rep0_bytes (n : Nat) : Bytes (List.replicate n 0):=by
  intro x hx;rw [List.mem_replicate] at hx;omega
theorem pageL_bytes {I : List Int} {S : List (List Int)} (h : MayL I S) : Bytes (pageL I S)∧(pageL I S).length=508:=by
  have:=leafS_bytes h;refine ⟨this.1.append (rep0_bytes _),?_⟩
  unfold pageL
  rw [List.length_append,List.length_replicate];omega
theorem put_leaf {I : List Int} {S : List (List Int)} (h : MayL I S) : pack_Put.f (leafS I S)=some (ones ((leafS I S).map itOf),0)∧humusref03_Put.f (leafS I S)=some (ones ((leafS I S).map itOf),true):=by
  obtain ⟨h4,hI,h64,h5,hn⟩:=MayL_parts h;have hm:=leafS_may hI h64 h5
  refine put_rows ?_ (fun a ha=>(hm a ha).1) (fun a ha=>(hm a ha).2)
  unfold leafS headS foursS slotS
  simp only [List.length_append,List.length_map,List.length_cons,List.length_nil]
  omega
theorem enc_end {k : Nat} {l : List Int} (hb : Bytes l) (hl : l.length≤508) (hk : 6000≤k) (S : List (List Int)) (xs : List SIt) (h : pack_Put.f xs=some (l,0)) : leaf_Encode.l1 (k + 1) xs S (S.length : Int) (S.length : Int)=some (sealL (l++List.replicate (508 - l.length) 0),0):=by
  have hw : wrap64 (508 - (l.length : Int))=((508 - l.length : Nat) : Int):=by unfold wrap64; omega
  rw [leaf_Encode.l1,if_neg (by omega),h,Option.bind_some]
  simp only
  rw [hw,if_pos (by omega),Int.toNat_natCast,if_pos (by omega),tSeal_ev (hb.append (rep0_bytes _)) (by rw [List.length_append,List.length_replicate]; omega) (by rw [List.length_append,List.length_replicate]; omega)]
  rfl
theorem enc_l1 {k : Nat} {l : List Int} {S : List (List Int)} (hS : S.length≤1000) (hb : Bytes l) (hl : l.length≤508) (hk : 6000≤k) : ∀ (d i : Nat) (xs : List SIt),i + d=S.length→xs.length + d≤2000→pack_Put.f (xs++slotS (S.drop i))=some (l,0)→leaf_Encode.l1 (k + d + 1) xs S (S.length : Int) (i : Int)=some (sealL (l++List.replicate (508 - l.length) 0),0):=by
  intro d
  induction d with
  | zero =>
    intro i xs hi hx h
    obtain rfl : i=S.length:=by omega
    rw [List.drop_length,show slotS []=[] from rfl,List.append_nil] at h
    exact enc_end hb hl hk S xs h
  | succ d ih =>
    intro i xs hi hx h
    rw [slotS_drop (by omega),List.append_cons] at h
    rw [show k + (d + 1) + 1=(k + d + 1) + 1 by omega,leaf_Encode.l1,if_pos (by omega),if_pos (by omega),if_pos (by omega),if_pos (by omega),wsucc (by omega)]
    exact ih (i + 1) _ (by omega) (by rw [List.length_append,List.length_singleton]; omega) h
theorem enc_l0 {k : Nat} {I : List Int} {S : List (List Int)} (hI : I.length≤1000) : ∀ (d i : Nat) (xs : List SIt),i + d=I.length→xs.length + d≤2000→leaf_Encode.l0 (k + d + 1) xs I (I.length : Int) (i : Int) I S=leaf_Encode.l1 k (xs++foursS (I.drop i)++[(⟨1,(S.length : Int),0,⟨#[]⟩⟩ : SIt)]) S (S.length : Int) 0:=by
  intro d
  induction d with
  | zero =>
    intro i xs hi hx
    rw [leaf_Encode.l0,if_neg (by omega),if_pos (by omega),List.drop_eq_nil_of_le (by omega),show foursS []=[] from rfl,List.append_nil]
  | succ d ih =>
    intro i xs hi hx
    rw [show k + (d + 1) + 1=(k + d + 1) + 1 by omega,leaf_Encode.l0,if_pos (by omega),if_pos (by omega),if_pos (by omega),if_pos (by omega),wsucc (by omega),ih (i + 1) _ (by omega) (by rw [List.length_append,List.length_singleton]; omega),foursS_drop (I:=I) (i:=i) (by omega)]
    simp only [List.append_assoc,List.cons_append,List.nil_append]
theorem Encode_ev {k : Nat} {I : List Int} {S : List (List Int)} (hs : Small S) (hk : 8000≤k) : (MayL I S→leaf_Encode.f k I S=some (sealL (pageL I S),0))∧(¬ MayL I S→leaf_Encode.f k I S=some ([],1)):=by
  unfold leaf_Encode.f
  constructor
  · intro hM
    obtain ⟨h4,hI,h64,h5,hn⟩:=MayL_parts hM;have hL:=leafS_bytes hM
    rw [(Check_ev hs (by omega)).1 hM,Option.bind_some,if_pos rfl]
    obtain ⟨m,rfl⟩ : ∃ m,k=(m + S.length + 1) + I.length + 1:=⟨k - (I.length + S.length + 2),by omega⟩
    refine (enc_l0 (by omega) I.length 0 [(⟨1,76,0,⟨#[]⟩⟩ : SIt)] (by omega) (by simp; omega)).trans ?_
    refine enc_l1 (by omega) hL.1 hL.2 (by omega) S.length 0 _ (by omega) ?_ ?_
    · unfold foursS
      simp only [List.length_append,List.length_map,List.length_cons,List.length_nil,List.length_drop]
      omega
    · have:=(put_leaf hM).1
      rw [List.drop_zero,List.drop_zero];exact this
  · intro hM
    rw [(Check_ev hs (by omega)).2 hM,Option.bind_some,if_neg (by decide)]
theorem pag_l2 {k : Nat} (hk : 5000≤k) : ∀ (d : Nat) (l : List Int),Bytes l→l.length + d=508→humusref08_Page.l2 (k + d + 1) l=some (sealL (l++List.replicate d 0)):=by
  intro d
  induction d with
  | zero =>
    intro l hb hl
    rw [show k + 0 + 1=k + 1 from rfl,humusref08_Page.l2_s,if_neg (by omega),rSeal_ev hb (by omega) (by omega),show List.replicate 0 (0 : Int)=[] from rfl,List.append_nil]; rfl
  | succ d ih =>
    intro l hb hl
    rw [show k + (d + 1) + 1=(k + d + 1) + 1 by omega,humusref08_Page.l2_s,if_pos (by omega),if_pos (by omega),ih (l++[0]) (hb.append (rep0_bytes 1)) (by rw [List.length_append,List.length_singleton]; omega),List.append_assoc,List.replicate_succ]; rfl
theorem pag_l1 {k : Nat} {l : List Int} {S : List (List Int)} {b : Bool} (hS : S.length≤1000) (hb : Bytes l) (hl : l.length≤508) (hk : 6000≤k) (I : List Int) : ∀ (d i : Nat) (xs : List SIt),i + d=S.length→xs.length + d≤2000→humusref03_Put.f (xs++slotS (S.drop i))=some (l,b)→humusref08_Page.l1 (k + d + 1) xs (i : Int) I S=some (sealL (l++List.replicate (508 - l.length) 0)):=by
  intro d
  induction d with
  | zero =>
    intro i xs hi hx h
    obtain rfl : i=S.length:=by omega
    rw [List.drop_length,show slotS []=[] from rfl,List.append_nil] at h
    rw [humusref08_Page.l1,if_neg (by omega),h,Option.bind_some]
    obtain ⟨m,hm⟩ : ∃ m,k=m + (508 - l.length) + 1:=⟨k - (508 - l.length) - 1,by omega⟩
    rw [hm]
    exact pag_l2 (by omega) _ l hb (by omega)
  | succ d ih =>
    intro i xs hi hx h
    rw [slotS_drop (by omega),List.append_cons] at h
    rw [show k + (d + 1) + 1=(k + d + 1) + 1 by omega,humusref08_Page.l1,if_pos (by omega),if_pos (by omega),if_pos (by omega),wsucc (by omega)]
    exact ih (i + 1) _ (by omega) (by rw [List.length_append,List.length_singleton]; omega) h
theorem pag_l0 {k : Nat} {I : List Int} {S : List (List Int)} (hI : I.length=4) : ∀ (d i : Nat) (xs : List SIt),i + d=4→xs.length + d≤2000→humusref08_Page.l0 (k + d + 1) xs (i : Int) I S=humusref08_Page.l1 k (xs++foursS (I.drop i)++[(⟨1,(S.length : Int),0,⟨#[]⟩⟩ : SIt)]) 0 I S:=by
  intro d
  induction d with
  | zero =>
    intro i xs hi hx
    rw [humusref08_Page.l0,if_neg (by omega),if_pos (by omega),List.drop_eq_nil_of_le (by omega),show foursS []=[] from rfl,List.append_nil]
  | succ d ih =>
    intro i xs hi hx
    rw [show k + (d + 1) + 1=(k + d + 1) + 1 by omega,humusref08_Page.l0,if_pos (by omega),if_pos (by omega),if_pos (by omega),if_pos (by omega),wsucc (by omega),ih (i + 1) _ (by omega) (by rw [List.length_append,List.length_singleton]; omega),foursS_drop (I:=I) (i:=i) (by omega)]
    simp only [List.append_assoc,List.cons_append,List.nil_append]
theorem Page_ev {k : Nat} {I : List Int} {S : List (List Int)} (hM : MayL I S) (hk : 8000≤k) : humusref08_Page.f k I S=some (sealL (pageL I S)):=by
  obtain ⟨h4,hI,h64,h5,hn⟩:=MayL_parts hM;have hL:=leafS_bytes hM
  unfold humusref08_Page.f
  obtain ⟨m,rfl⟩ : ∃ m,k=(m + S.length + 1) + 4 + 1:=⟨k - (4 + S.length + 2),by omega⟩
  refine (pag_l0 h4 4 0 [(⟨1,76,0,⟨#[]⟩⟩ : SIt)] (by omega) (by simp)).trans ?_
  refine pag_l1 (b:=true) (by omega) hL.1 hL.2 (by omega) I S.length 0 _ (by omega) ?_ ?_
  · unfold foursS
    simp only [List.length_append,List.length_map,List.length_cons,List.length_nil,List.length_drop]
    omega
  · have:=(put_leaf hM).2
    rw [List.drop_zero,List.drop_zero];exact this
end Go.Proofs.Ytjigckhopkclgaa.P
namespace Go.Proofs.Ytjigckhopkclgaa.P
open Go.RowKit Ytjigckhopkclgaa Ytjigckhopkclgaa.Mem Ytjigckhopkclgaa.Pac YtjigckhopkclgaaW.PrintWords YtjigckhopkclgaaW.PrintLast YtjigckhopkclgaaW.PrintMore
abbrev LfT:=List Int × List (List Int) × Int
def dErr : LfT:=([],[],4)
abbrev hKs : List Int:=[1,3,3,3,3,1]
theorem reps1 (m : Nat) (x : Int) : reps m [x]=List.replicate m x:=by
  unfold reps
  induction m with
  | zero=>rfl
  | succ m ih=>rw [List.replicate_succ,List.flatten_cons,ih,List.replicate_succ]; rfl
theorem Repeat_ev {x c : Int} (h0 : 0≤c) (h1 : c≤1000) : slices_Repeat_int_int.f [x] c=some (List.replicate c.toNat x):=by
  unfold slices_Repeat_int_int.f
  rw [if_pos ⟨h0,h1,by simp⟩,reps1]
theorem Take_none {b ks : List Int} (hb : Bytes b) (hl : b.length≤1000000) (hks : ks.length≤1000000) (hok : kindsOk ks=true) (h : takes b 0 ks=none) : takeF b ks=some ([],0,4):=by
  unfold takeF takeR
  rw [if_pos ⟨byB_bytes.2 hb,hl,hks⟩,if_pos hok,h]; rfl
theorem Take_some {b ks : List Int} {l : List It} {r : Nat} (hb : Bytes b) (hl : b.length≤1000000) (hks : ks.length≤1000000) (hok : kindsOk ks=true) (h : takes b 0 ks=some (l,r)) : takeF b ks=some (l.map ofIt,(r : Int),0):=by
  unfold takeF takeR
  rw [if_pos ⟨byB_bytes.2 hb,hl,hks⟩,if_pos hok,h]
theorem nought_ev {l : List Int} (hl : l.length≤1000000) : leaf_nought.f l=some (!(l.any fun e=>e != 0)):=by
  unfold leaf_nought.f containsFunc_leaf_nought_1.f
  rw [if_pos hl]; rfl
def decC (k : Nat) (Y : List Int) (T : List (List Int)) : Option LfT:=(leaf_Check.f k Y T).bind fun t=>if t=0 then some (Y,T,0) else some dErr
theorem rdT_at {M : List SIt} {i : Nat} (h : i<M.length) : M.drop i=rd_T56 M (i : Int) :: M.drop (i + 1):=by
  rw [List.drop_eq_getElem_cons h]
  congr 1
  unfold rd_T56
  rw [Int.toNat_natCast,List.getD_eq_getElem?_getD,List.getElem?_eq_getElem h]; rfl
theorem rdT_mem {M : List SIt} {i : Nat} (h : i<M.length) : rd_T56 M (i : Int) ∈ M:=by
  unfold rd_T56
  rw [Int.toNat_natCast,List.getD_eq_getElem?_getD,List.getElem?_eq_getElem h];exact List.getElem_mem h
theorem dec_l1 {M : List SIt} (hM : ∀ a ∈ M,a.f3.size<256) (hl : M.length≤300) (k : Nat) (Y : List Int) : ∀ (d i : Nat) (T : List (List Int)),i + d=M.length→T.length + d≤600→leaf_Decode.l1 (k + 2 * d + 2) M (M.length : Int) (i : Int) Y T=decC k Y (T++(M.drop i).map (fun a=>bytesOf a.f3)):=by
  intro d
  induction d with
  | zero =>
    intro i T hi hT
    rw [show k + 2 * 0 + 2=k + 1 + 1 by omega,leaf_Decode.l1,df_ (by omega),leaf_Decode.j5,if_neg (by decide),List.drop_eq_nil_of_le (by omega),List.map_nil,List.append_nil]
    rfl
  | succ d ih =>
    intro i T hi hT
    have hlt : i<M.length:=by omega
    have:=hM _ (rdT_mem hlt)
    rw [show k + 2 * (d + 1) + 2=(k + 2 * d + 2) + 1 + 1 by omega,leaf_Decode.l1,dt_ (by omega),leaf_Decode.j5,if_pos rfl,if_pos (by omega),if_pos (by omega),if_pos (by omega),if_pos (by omega),wsucc (by omega),ih (i + 1) _ (by omega) (by rw [List.length_append,List.length_singleton]; omega),rdT_at hlt,List.map_cons,List.append_assoc]
    rfl
theorem dec_set (k : Nat) (x : List Int) (n : Int) (i0 i1 i2 i3 i4 i5 : SIt) : leaf_Decode.l0 (k + 5) x [i0,i1,i2,i3,i4,i5] n [0,0,0,0] 4 0=leaf_Decode.l0 (k + 1) x [i0,i1,i2,i3,i4,i5] n [i1.f1,i2.f1,i3.f1,i4.f1] 4 4:=by
  have w1 : wrap64 1=1:=by unfold wrap64; omega
  have w2 : wrap64 2=2:=by unfold wrap64; omega
  have w3 : wrap64 3=3:=by unfold wrap64; omega
  have w4 : wrap64 4=4:=by unfold wrap64; omega
  rw [leaf_Decode.l0,if_pos (by decide)]
  simp only [Int.add_zero,Int.zero_add,w1]
  rw [if_pos (by decide),if_pos (by simp),if_pos (by decide),if_pos (by decide),leaf_Decode.l0,if_pos (by decide)]
  simp only [Int.reduceAdd,w2]
  rw [if_pos (by decide),if_pos (by simp),if_pos (by decide),if_pos (by simp),leaf_Decode.l0,if_pos (by decide)]
  simp only [Int.reduceAdd,w3]
  rw [if_pos (by decide),if_pos (by simp),if_pos (by decide),if_pos (by simp),leaf_Decode.l0,if_pos (by decide)]
  simp only [Int.reduceAdd,w4]
  rw [if_pos (by decide),if_pos (by simp),if_pos (by decide),if_pos (by simp)]
  rfl
def decY (k : Nat) (x : List Int) (n : Nat) (I : List Int) (c : Int) : Option LfT :=
  match takes (x.drop n) 0 (List.replicate c.toNat 5) with
  | none=>some dErr
  | some (m,q)=>if ((x.drop (n + q)).any fun e=>e != 0)=true then some dErr else decC (k - 2 * m.length) I (m.map (fun a=>bytesOf a.s))
theorem rep5_ok (m : Nat) : kindsOk (List.replicate m 5)=true:=by
  unfold kindsOk
  rw [List.all_eq_true];intro x hx;rw [List.mem_replicate] at hx;rw [hx.2]; rfl
theorem dec_j3 (k : Nat) (M : List SIt) (Y : List Int) : leaf_Decode.j3 (k + 1) M true Y=some dErr:=by
  rw [leaf_Decode.j3,if_pos rfl]; rfl
theorem dec_mid {k : Nat} {x : List Int} {n : Nat} (hb : Bytes x) (hl : x.length≤100000) (hn : n≤x.length) (i0 i1 i2 i3 i4 i5 : It) (h0 : 0≤i5.n) (h1 : i5.n≤255) (hk : 1000≤k) :
    leaf_Decode.l0 (k + 5) x [ofIt i0,ofIt i1,ofIt i2,ofIt i3,ofIt i4,ofIt i5] (n : Int) [0,0,0,0] 4 0=decY (k - 3) x n [i1.n,i2.n,i3.n,i4.n] i5.n:=by
  rw [dec_set,leaf_Decode.l0,if_neg (by decide),if_pos (by omega),if_pos (by omega),if_pos (by simp)]
  have e5 : (rd_T56 [ofIt i0,ofIt i1,ofIt i2,ofIt i3,ofIt i4,ofIt i5] 5).f1=i5.n:=rfl
  rw [e5,Repeat_ev h0 (by omega),Option.bind_some]
  have hbd:=hb.drop n;have hld : (x.drop n).length=x.length - n:=List.length_drop
  unfold decY pack_Take.f
  rw [show ((n : Int)).toNat=n from Int.toNat_natCast n]
  have hrl : (List.replicate i5.n.toNat (5 : Int)).length≤1000000:=by rw [List.length_replicate]; omega
  obtain ⟨k,rfl⟩ : ∃ m,k=m + 1:=⟨k - 1,by omega⟩
  cases ht : takes (x.drop n) 0 (List.replicate i5.n.toNat 5) with
  | none =>
    rw [Take_none hbd (by omega) hrl (rep5_ok _) ht,Option.bind_some,if_neg (by decide)]
    exact dec_j3 _ _ _
  | some p =>
    obtain ⟨m,q⟩:=p;obtain ⟨t1,t2,t3,t4,t5,t6,t7⟩:=takes_spec hbd _ _ _ _ (Nat.zero_le _) (rep5_ok _) ht;have hml:=takes_len hbd (Nat.zero_le _) (rep5_ok _) ht;rw [List.length_replicate] at hml
    rw [Take_some hbd (by omega) hrl (rep5_ok _) ht,Option.bind_some]
    simp only
    have hw : wrap64 ((n : Int) + (q : Int))=((n + q : Nat) : Int):=by unfold wrap64; omega
    have g1 : (0 : Int)≤((n + q : Nat) : Int):=Int.natCast_nonneg _
    have g2 : ((n + q : Nat) : Int)≤(x.length : Int):=by clear t3 t7 ht hrl hml hw t4 t5 t6; omega
    have g3 : (x.drop (n + q)).length≤1000000:=Nat.le_trans (by rw [List.length_drop]; exact Nat.sub_le _ _) (Nat.le_trans hl (by decide))
    rw [if_pos trivial,hw,if_pos g1,if_pos g2,Int.toNat_natCast,nought_ev g3,Option.bind_some,Bool.not_not]
    cases hany : (x.drop (n + q)).any fun e=>e != 0 with
    | true=>rw [if_pos rfl]; exact dec_j3 _ _ _
    | false =>
      rw [if_neg (by decide),leaf_Decode.j3,if_neg (by decide)]
      have h5 : ∀ a ∈ m.map ofIt,a.f3.size<256:=by
        intro a ha;obtain ⟨y,hy,rfl⟩:=List.mem_map.1 ha
        have hk5 : y.k=5:=by
          have : y.k ∈ m.map (·.k):=List.mem_map.2 ⟨y,hy,rfl⟩;rw [t3,List.mem_replicate] at this;exact this.2
        exact (form5 (t4 y hy) hk5).2
      have hL:=@dec_l1 (m.map ofIt) h5 (by rw [List.length_map]; omega) (k + 1 - 3 - 2 * m.length) [i1.n,i2.n,i3.n,i4.n] m.length 0 [] (by rw [List.length_map]; omega) (by simp; omega)
      rw [show k + 1 - 3 - 2 * m.length + 2 * m.length + 2=k by omega,List.drop_zero,List.nil_append,List.map_map] at hL
      exact hL
theorem dec_j0 {k : Nat} {x : List Int} (hb : Bytes x) (hl : x.length≤100000) (hk : 1000≤k) :
    leaf_Decode.j0 (k + 7) x 0 false [0,0,0,0]=(match takes x 0 hKs with
      | some ([i0,i1,i2,i3,i4,i5],n)=>if i0.n=76 then decY (k - 3) x n [i1.n,i2.n,i3.n,i4.n] i5.n else some dErr
      | _=>some dErr):=by
  have hR : slices_Repeat_int_int.f [3] 4=some [3,3,3,3]:=Repeat_ev (by decide) (by decide)
  rw [leaf_Decode.j0,if_neg (by decide),Option.bind_some,hR,Option.bind_some,if_pos (by decide),Option.bind_some,if_pos (by decide)]
  unfold pack_Take.f
  rw [show ([1]++[3,3,3,3]++[1] : List Int)=hKs from rfl]
  have j1T : ∀ M n,leaf_Decode.j1 (k + 6) x M n true [0,0,0,0]=some dErr:=fun M n=>by rw [leaf_Decode.j1,if_pos rfl]; rfl
  cases ht : takes x 0 hKs with
  | none =>
    rw [Take_none hb (by omega) (by decide) (by decide) ht,Option.bind_some,if_neg (by decide)]
    exact j1T _ _
  | some p =>
    obtain ⟨l,n⟩:=p
    obtain ⟨t1,t2,t3,t4,t5,t6,t7⟩:=takes_spec hb _ _ _ _ (Nat.zero_le _) (by decide) ht
    have h6 : l.length=6:=takes_len hb (Nat.zero_le _) (by decide) ht
    obtain ⟨i0,i1,i2,i3,i4,i5,rfl⟩ : ∃ a b c d e f,l=[a,b,c,d,e,f]:=by
      match l,h6 with
      | [a,b,c,d,e,f],_=>exact ⟨a,b,c,d,e,f,rfl⟩
    rw [Take_some hb (by omega) (by decide) (by decide) ht,Option.bind_some]
    simp only
    simp only [List.map_cons,List.map_nil,List.cons.injEq,and_true] at t3
    obtain ⟨k0,k1,k2,k3,k4,k5⟩:=t3
    have f5:=(form123 (t4 i5 (by simp)) (.inl k5)).2
    rw [k5] at f5
    rw [if_pos trivial,if_pos (by simp)]
    simp only [List.map_cons,List.map_nil]
    have e0 : (rd_T56 [ofIt i0,ofIt i1,ofIt i2,ofIt i3,ofIt i4,ofIt i5] 0).f1=i0.n:=rfl;rw [e0]
    by_cases hm : i0.n=76
    · rw [if_pos hm,bne_eq_false_iff_eq.2 hm,leaf_Decode.j1,if_neg (by decide)]
      exact dec_mid hb hl t2 i0 i1 i2 i3 i4 i5 f5.1 f5.2 hk
    · rw [if_neg hm,bne_iff_ne.2 hm]
      exact j1T _ _
def ByS (S : List (List Int)) : Prop:=∀ s ∈ S,Bytes s
theorem norm0 {l : List It} (h : ∀ a ∈ l,a.x=0) : l.map norm=l:=by
  refine (List.map_congr_left (g:=id) (fun a ha=>?_)).trans (List.map_id l)
  obtain ⟨k,n,x,s⟩:=a;have : x=0:=h _ ha;subst this
  unfold norm
  simp only [val0]; rfl
theorem dec_page {k : Nat} {I : List Int} {S : List (List Int)} (hM : MayL I S) (hB : ByS S) (hk : 3000≤k) : leaf_Decode.j0 k (pageL I S) 0 false [0,0,0,0]=some (I,S,0):=by
  obtain ⟨k,rfl⟩ : ∃ m,k=m + 7:=⟨k - 7,by omega⟩
  obtain ⟨h4,hI,h64,h5,hn⟩:=MayL_parts hM
  have hs : Small S:=⟨by omega,fun s h=>by have:=h5 s h; omega⟩
  have hP:=pageL_bytes hM;have hm:=leafS_may hI h64 h5
  have hmH : ∀ a ∈ (headS I S.length).map itOf,may a=true∧a.x=0:=fun a ha=>hm a (by unfold leafS; rw [List.map_append]; exact List.mem_append.2 (.inl ha))
  have hmS : ∀ a ∈ (slotS S).map itOf,may a=true∧a.x=0:=fun a ha=>hm a (by unfold leafS; rw [List.map_append]; exact List.mem_append.2 (.inr ha))
  have hx : ∀ {l : List It},(∀ a ∈ l,may a=true∧a.x=0)→∀ a ∈ l,a.x<18446744073709551616:=fun h a ha=>by rw [(h a ha).2]; decide
  rw [dec_j0 hP.1 (by omega) (by omega)]
  have e : pageL I S=ones ((headS I S.length).map itOf)++(ones ((slotS S).map itOf)++List.replicate (508 - (ones ((leafS I S).map itOf)).length) 0):=by
    unfold pageL
    rw [show (leafS I S).map itOf=(headS I S.length).map itOf++(slotS S).map itOf from by unfold leafS; rw [List.map_append],ones_append,List.append_assoc]
  have hl18:=headS_len (n:=S.length) h4
  have T1:=takes_ones _ (fun a ha=>(hmH a ha).1) (hx hmH) [] (ones ((slotS S).map itOf)++List.replicate (508 - (ones ((leafS I S).map itOf)).length) 0)
  rw [List.nil_append,← e,List.length_nil,Nat.zero_add,norm0 (fun a ha=>(hmH a ha).2),hl18] at T1
  have T2:=takes_ones _ (fun a ha=>(hmS a ha).1) (hx hmS) [] (List.replicate (508 - (ones ((leafS I S).map itOf)).length) 0)
  have hd : (pageL I S).drop 18=ones ((slotS S).map itOf)++List.replicate (508 - (ones ((leafS I S).map itOf)).length) 0:=by rw [e,List.drop_left' hl18]
  rw [List.nil_append,← hd,List.length_nil,Nat.zero_add,norm0 (fun a ha=>(hmS a ha).2)] at T2
  have hk5 : ((slotS S).map itOf).map (·.k)=List.replicate S.length 5:=by
    unfold slotS
    rw [List.map_map,List.map_map];exact List.map_const' ..
  rw [hk5] at T2
  have hd2 : (pageL I S).drop (18 + (ones ((slotS S).map itOf)).length)=List.replicate (508 - (ones ((leafS I S).map itOf)).length) 0:=by
    rw [← List.drop_drop,hd,List.drop_left' rfl]
  obtain ⟨a,b,c,d,rfl⟩:=four h4;have hkH : ((headS [a,b,c,d] S.length).map itOf).map (·.k)=hKs:=rfl;rw [hkH] at T1;rw [T1];have eH : (headS [a,b,c,d] S.length).map itOf=[(⟨1,76,0,⟨#[]⟩⟩ : It),⟨3,a,0,⟨#[]⟩⟩,⟨3,b,0,⟨#[]⟩⟩,⟨3,c,0,⟨#[]⟩⟩,⟨3,d,0,⟨#[]⟩⟩,⟨1,(S.length : Int),0,⟨#[]⟩⟩]:=rfl;rw [eH]
  simp only
  rw [if_pos trivial]
  unfold decY
  rw [Int.toNat_natCast,T2]
  simp only
  have hz : ((pageL [a,b,c,d] S).drop (18 + (ones ((slotS S).map itOf)).length)).any (fun e=>e != 0)=false:=by
    rw [hd2,List.any_eq_false];intro x hx;rw [List.mem_replicate] at hx;rw [hx.2]; decide
  rw [hz,if_neg (by decide)]
  have hT : ((slotS S).map itOf).map (fun a=>bytesOf a.s)=S:=by
    unfold slotS
    rw [List.map_map,List.map_map]
    refine (List.map_congr_left (g:=id) (fun s hs=>?_)).trans (List.map_id S)
    exact bytesOf_str (hB s hs)
  have hlen : ((slotS S).map itOf).length=S.length:=by unfold slotS; rw [List.length_map,List.length_map]
  rw [hlen,hT]
  unfold decC
  rw [(Check_ev hs (by omega)).1 hM,Option.bind_some,if_pos rfl]
theorem any_page {I : List Int} {S : List (List Int)} (h4 : I.length=4) : ((sealL (pageL I S)).any fun e=>e != 0)=true:=by
  obtain ⟨a,b,c,d,rfl⟩:=four h4;rw [List.any_eq_true];refine ⟨76,?_,rfl⟩
  unfold sealL pageL leafS headS
  simp only [List.map_append,List.map_cons,List.map_nil,List.cons_append,List.nil_append,ones_cons,ones_append]
  refine List.mem_append.2 (.inr (List.mem_append.2 (.inl (List.mem_append.2 (.inl ?_)))))
  show (76 : Int) ∈ one ⟨1,76,0,⟨#[]⟩⟩
  decide
theorem Decode_page {k : Nat} {I : List Int} {S : List (List Int)} (hM : MayL I S) (hB : ByS S) (hk : 8000≤k) : leaf_Decode.f k (sealL (pageL I S))=some (I,S,0):=by
  have hP:=pageL_bytes hM;have hS:=sealL_bytes hP.1
  have hl : (sealL (pageL I S)).length=512:=by rw [sealL_length,hP.2]
  unfold leaf_Decode.f
  rw [if_pos (by decide),Option.bind_some,if_pos (by omega),nought_ev (by omega),any_page (MayL_parts hM).1,Option.bind_some,Bool.not_true,if_neg (by decide),tOpen_ev hS (by omega) (by omega) (by omega),sealL_drop,sealL_take,if_pos rfl,Option.bind_some]
  exact dec_page hM hB (by omega)
end Go.Proofs.Ytjigckhopkclgaa.P
