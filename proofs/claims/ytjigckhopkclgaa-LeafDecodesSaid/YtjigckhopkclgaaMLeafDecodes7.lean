/- by wip/prune.py -/
import Derived.Test.YtjigckhopkclgaaMLeafDecodes3
import Derived.Test.YtjigckhopkclgaaMLeafDecodes4
set_option linter.unusedSimpArgs false
set_option linter.unusedVariables false
namespace Go.Proofs.Ytjigckhopkclgaa.P
open Go.RowKit YtjigckhopkclgaaW.PrintWords YtjigckhopkclgaaW.PrintLast YtjigckhopkclgaaW.PrintMore
attribute [local go_sem] max2_int min2_int max_two min_two max_three min_three max_four min_four   -- for this text's walks alone
attribute [local go_sem] run_store_float
mutual
def tally_More.l0 : Nat→Int→List Int→Int→Int→Option (Int)
 | 0,_,_,_,_=>none
 | k + 1,x0,x8,x9,x10=>if x10<x9 then (if 0≤x10 then (if x10<(x8.length : Int) then (tally_More.l1 k (Go.bits .xor .u32 x0 ((((rd x8 x10) % 4294967296) * 16777216) % 4294967296)) x8 x9 x10 0) else (none)) else (none)) else (some x0)
def tally_More.l1 : Nat→Int→List Int→Int→Int→Int→Option (Int)
 | 0,_,_,_,_,_=>none
 | k + 1,x0,x8,x9,x10,x19=>if x19<8 then (if (x0 / 2147483648)=1 then (tally_More.l1 k (Go.bits .xor .u32 ((x0 * 2) % 4294967296) 2168537515) x8 x9 x10 (wrap64 (x19 + 1))) else (tally_More.l1 k ((x0 * 2) % 4294967296) x8 x9 x10 (wrap64 (x19 + 1)))) else (tally_More.l0 k x0 x8 x9 (wrap64 (x10 + 1)))
end
def tally_More.f (k : Nat) (a0 : Int) (l1 : List Int) : Option (Int):=tally_More.l0 k a0 l1 (l1.length : Int) 0
theorem tally_More.mono_l : ∀ k,(∀ y0 y1 y2 y3,LeO (tally_More.l0 k y0 y1 y2 y3) (tally_More.l0 (k + 1) y0 y1 y2 y3))∧(∀ y0 y1 y2 y3 y4,LeO (tally_More.l1 k y0 y1 y2 y3 y4) (tally_More.l1 (k + 1) y0 y1 y2 y3 y4))
 | 0=>⟨fun _ _ _ _ r h=>by simp [tally_More.l0] at h,fun _ _ _ _ _ r h=>by simp [tally_More.l1] at h⟩
 | k + 1=>by
  obtain ⟨ih0,ih1⟩:=tally_More.mono_l k;refine ⟨?_,?_⟩
  ·intro y0 y1 y2 y3
   unfold tally_More.l0
   repeat' first
   | (with_reducible exact ih0 _ _ _ _)
   | (with_reducible exact ih1 _ _ _ _ _)
   | (with_reducible exact LeO.refl _)
   | (with_reducible exact LeO.none _)
   | (with_reducible refine LeO.ite ?_ ?_)
   | (with_reducible refine LeO.bind ?_ (fun _=>?_))
   | exact ih0 _ _ _ _
   | exact ih1 _ _ _ _ _
   | exact LeO.none _
   | refine LeO.ite ?_ ?_
   | refine LeO.bind ?_ (fun _=>?_)
  ·intro y0 y1 y2 y3 y4
   unfold tally_More.l1
   repeat' first
   | (with_reducible exact ih0 _ _ _ _)
   | (with_reducible exact ih1 _ _ _ _ _)
   | (with_reducible exact LeO.refl _)
   | (with_reducible exact LeO.none _)
   | (with_reducible refine LeO.ite ?_ ?_)
   | (with_reducible refine LeO.bind ?_ (fun _=>?_))
   | exact ih0 _ _ _ _
   | exact ih1 _ _ _ _ _
   | exact LeO.none _
   | refine LeO.ite ?_ ?_
   | refine LeO.bind ?_ (fun _=>?_)
theorem tally_More.mono : ∀ a0 a1 k,LeO (tally_More.f k a0 a1) (tally_More.f (k + 1) a0 a1):=by
 intro a0 a1 k;obtain ⟨ih0,ih1⟩:=tally_More.mono_l k
 unfold tally_More.f
 repeat' first
   | (with_reducible exact ih0 _ _ _ _)
   | (with_reducible exact ih1 _ _ _ _ _)
   | (with_reducible exact LeO.refl _)
   | (with_reducible exact LeO.none _)
   | (with_reducible refine LeO.ite ?_ ?_)
   | (with_reducible refine LeO.bind ?_ (fun _=>?_))
   | exact ih0 _ _ _ _
   | exact ih1 _ _ _ _ _
   | exact LeO.none _
   | refine LeO.ite ?_ ?_
   | refine LeO.bind ?_ (fun _=>?_)
set_option maxHeartbeats 8000000 in
set_option maxRecDepth 100000 in
theorem tally_More.calls (k : Nat) (a0 : Int) (A1 : Option Addr) (c1 : Nat) (l1 : List Int) (r : Int) (w : World) (hr1 : Kd.C (Kd.int .u8) w A1 l1.length l1) (hc1 : l1.length≤c1) (h : tally_More.f k a0 l1=some r) :
  Calls Try.prog 76 #[.int .u32 a0,.slice A1 l1.length c1] w fun e w'=>e=.returned (.int .u32 r)∧Drawn0 w w':=by
 have HR1:=A_ hr1;have HC1:=A_ hc1;clear hr1 hc1;have H : (tally_More.l0 k a0 l1 (l1.length : Int) 0)=some r:=h;clear h;have H':=A_ H;clear H;go_enter Try.func76,Try.ntmps76;go_wp2
 go_loopg [0,10] k (fun kq v0 v10 w'=>∃ (x0_1 : Int) (x10_1 : Int),v0=.int .u32 x0_1∧v10=.int .i64 x10_1∧Aside0 (tally_More.l0 kq x0_1 l1 (l1.length : Int) x10_1=some r)∧Aside0 (kq≤k)∧Drawn0 w w')
 case atStart=>exact ⟨(a0),(0),(by first|rfl|(simp;done)|(simp [*];done)),(by first|rfl|(simp;done)|(simp [*];done)),H',⟨Nat.le_refl _⟩,by repeat (first|exact Drawn0.refl _|apply Drawn0.step)⟩
 case round =>
  clear H';(try clear c1);(try clear p2);obtain ⟨x0_1,x10_1,rfl,rfl,HA,HK1,⟨m1,rfl⟩⟩:=hrel
  cases gk with
  | zero=>exact absurd HA.out (by simp [tally_More.l0])
  | succ k1 =>
   have H:=HA.out;clear HA
   simp only [tally_More.l0] at H
   by_cases c3 : x10_1<(l1.length : Int)
   rotate_left
   ·rw [if_neg c3] at H
    have c3b0 : decide (x10_1<(l1.length : Int))=false:=df_ c3;clear c3;obtain rfl:=Option.some.inj H;go_wp2;go_ret
    exact ⟨by first|rfl|(simp;done)|(simp [*];done),by repeat (first|exact Drawn0.refl _|apply Drawn0.step)⟩
   rw [if_pos c3] at H
   have c3b0 : decide (x10_1<(l1.length : Int))=true:=dt_ c3;clear c3
   by_cases c4 : 0≤x10_1
   rotate_left
   ·rw [if_neg c4] at H
    exact absurd H (by simp)
   rw [if_pos c4] at H
   have c4b0 : decide (0≤x10_1)=true:=dt_ c4;clear c4
   by_cases c5 : x10_1<(l1.length : Int)
   rotate_left
   ·rw [if_neg c5] at H
    exact absurd H (by simp)
   rw [if_pos c5] at H
   have c5b0 : decide (x10_1<(l1.length : Int))=true:=dt_ c5;clear c5;have H':=A_ H;clear H
   have p113 : 0≤(x10_1 : Int):=od_ (by first|(with_reducible assumption)|assumption)
   have q113 : x10_1<(l1.length : Int):=od_ (by first|(with_reducible assumption)|assumption)
   obtain ⟨ad113,e113,hx113_0⟩:=Kd.at_int HR1.out x10_1 p113 q113
   cases e113
   replace p113:=eq_true p113;replace q113:=eq_true q113;go_wp2
   go_loopg [0,19] k1 (fun kq v0 v19 w'=>∃ (x0_2 : Int) (x19_2 : Int),v0=.int .u32 x0_2∧v19=.int .i64 x19_2∧Aside0 (tally_More.l1 kq x0_2 l1 (l1.length : Int) x10_1 x19_2=some r)∧Aside0 (kq≤k1)∧Drawn0 w w')
   case atStart=>exact ⟨(Go.bits .xor .u32 x0_1 ((((rd l1 x10_1) % 4294967296) * 16777216) % 4294967296)),(0),(by first|rfl|(simp;done)|(simp [*];done)),(by first|rfl|(simp;done)|(simp [*];done)),H',⟨Nat.le_refl _⟩,by repeat (first|exact Drawn0.refl _|apply Drawn0.step)⟩
   case round =>
    clear H';(try clear c1);(try clear p1);(try clear q1);(try clear hx1);(try clear p2);(try clear c3);(try clear c3b0);(try clear c4);(try clear c4b0);(try clear c5);(try clear c5b0);(try clear hx113_0);(try clear p113);(try clear p2);(try clear q113);obtain ⟨x0_2,x19_2,rfl,rfl,HA,HK2,⟨m2,rfl⟩⟩:=hrel
    cases gk with
    | zero=>exact absurd HA.out (by simp [tally_More.l1])
    | succ k2 =>
     have H:=HA.out;clear HA
     simp only [tally_More.l1] at H
     by_cases c6 : x19_2<8
     rotate_left
     ·rw [if_neg c6] at H
      have c6b0 : decide (x19_2<8)=false:=df_ c6;clear c6;have H':=A_ H;clear H;go_wp2;go_roundg k2
      case measure=>have:=HK1.out;have:=HK2.out;omega
      case rel=>exact ⟨(x0_2),(wrap64 (x10_1 + 1)),(by first|rfl|(simp;done)|(simp [*];done)),(by first|rfl|(simp;done)|(simp [*];done)),H',⟨by have:=HK1.out;have:=HK2.out;omega⟩,by repeat (first|exact Drawn0.refl _|apply Drawn0.step)⟩
     rw [if_pos c6] at H
     have c6b0 : decide (x19_2<8)=true:=dt_ c6;clear c6
     by_cases c7 : (x0_2 / 2147483648)=1
     rotate_left
     ·rw [if_neg c7] at H
      have c7b0 : ((x0_2 / 2147483648) == 1)=false:=beq_eq_false_iff_ne.mpr c7;have c7b1 : ((x0_2 / 2147483648) != 1)=true:=bne_iff_ne.mpr c7;have H':=A_ H;clear H;go_wp2;go_roundg k2
      case measure=>have:=HK1.out;have:=HK2.out;omega
      case rel=>exact ⟨((x0_2 * 2) % 4294967296),(wrap64 (x19_2 + 1)),(by first|rfl|(simp;done)|(simp [*];done)),(by first|rfl|(simp;done)|(simp [*];done)),H',⟨by have:=HK1.out;have:=HK2.out;omega⟩,by repeat (first|exact Drawn0.refl _|apply Drawn0.step)⟩
     rw [if_pos c7] at H
     have c7b0 : ((x0_2 / 2147483648) == 1)=true:=beq_iff_eq.mpr c7;have c7b1 : ((x0_2 / 2147483648) != 1)=false:=bne_eq_false_iff_eq.mpr c7;clear c7;have H':=A_ H;clear H;go_wp2;go_roundg k2
     case measure=>have:=HK1.out;have:=HK2.out;omega
     case rel=>exact ⟨(Go.bits .xor .u32 ((x0_2 * 2) % 4294967296) 2168537515),(wrap64 (x19_2 + 1)),(by first|rfl|(simp;done)|(simp [*];done)),(by first|rfl|(simp;done)|(simp [*];done)),H',⟨by have:=HK1.out;have:=HK2.out;omega⟩,by repeat (first|exact Drawn0.refl _|apply Drawn0.step)⟩
def tally_Sum.f (k : Nat) (l0 : List Int) : Option (Int):=(tally_More.f k 4294967295 l0).bind fun t114=>(some t114)
theorem tally_Sum.mono : ∀ a0 k,LeO (tally_Sum.f k a0) (tally_Sum.f (k + 1) a0):=by
 intro a0 k
 unfold tally_Sum.f
 repeat' first
   | (with_reducible exact tally_More.mono _ _ _)
   | (with_reducible exact LeO.refl _)
   | (with_reducible exact LeO.none _)
   | (with_reducible refine LeO.ite ?_ ?_)
   | (with_reducible refine LeO.bind ?_ (fun _=>?_))
   | exact tally_More.mono _ _ _
   | exact LeO.none _
   | refine LeO.ite ?_ ?_
   | refine LeO.bind ?_ (fun _=>?_)
set_option maxHeartbeats 8000000 in
set_option maxRecDepth 100000 in
theorem tally_Sum.calls (k : Nat) (A0 : Option Addr) (c0 : Nat) (l0 : List Int) (r : Int) (w : World) (hr0 : Kd.C (Kd.int .u8) w A0 l0.length l0) (hc0 : l0.length≤c0) (h : tally_Sum.f k l0=some r) :
  Calls Try.prog 65 #[.slice A0 l0.length c0] w fun e w'=>e=.returned (.int .u32 r)∧Drawn0 w w':=by
 have HR0:=A_ hr0;have HC0:=A_ hc0;clear hr0 hc0
 have H : ((tally_More.f k 4294967295 l0).bind fun t114=>(some t114))=some r:=h
 clear h;replace H:=Option.bind_eq_some_iff.mp H;obtain ⟨t114,A20,H⟩:=H;replace H : (some t114)=some r:=H;have A2:=A_ A20;clear A20;obtain rfl:=Option.some.inj H;go_enter Try.func65,Try.ntmps65
 go_wp2_with (first|((with_reducible refine gate_callee (f:=76) rfl ?_);refine goesL_ (some 4) rfl rfl Try.func76 (by kernel_rfl) rfl #[.int .u32 4294967295,.slice A0 l0.length c0] rfl (by (try simp only [List.map_toArray,List.map_cons,List.map_nil]);first|done|rfl|(simp only [List.length_drop,List.length_take];rfl)) ?_;(with_reducible refine (tally_More.calls k 4294967295 _ _ l0 t114 _ ?side1 ?side2 A2.out).mono ?_);(case side1=>repeat (first|exact HR0.out|(with_reducible refine Kd.C_alloc ?_ _)|(with_reducible refine Kd.C_drewN ?_ _)|(with_reducible refine Kd.C_drew ?_)));(case side2=>exact HC0.out);rintro e w' ⟨rfl,⟨nd,rfl⟩⟩;refine ⟨_,rfl,?_⟩))
 go_ret
 exact ⟨by first|rfl|(simp;done)|(simp [*];done),by repeat (first|exact Drawn0.refl _|apply Drawn0.step)⟩
def tally_Seal.f (k : Nat) (l0 : List Int) : Option (List Int):=(tally_Sum.f k l0).bind fun t115=>((some (([(t115 / 16777216) % 256,(t115 / 65536) % 256,(t115 / 256) % 256,(t115) % 256] : List Int) : List Int)).bind fun y116=>(if y116.length + l0.length<140737488355328 then (some (y116++l0)) else (none)))
theorem tally_Seal.mono : ∀ a0 k,LeO (tally_Seal.f k a0) (tally_Seal.f (k + 1) a0):=by
 intro a0 k
 unfold tally_Seal.f
 repeat' first
   | (with_reducible exact tally_Sum.mono _ _)
   | (with_reducible exact LeO.refl _)
   | (with_reducible exact LeO.none _)
   | (with_reducible refine LeO.ite ?_ ?_)
   | (with_reducible refine LeO.bind ?_ (fun _=>?_))
   | exact tally_Sum.mono _ _
   | exact LeO.none _
   | refine LeO.ite ?_ ?_
   | refine LeO.bind ?_ (fun _=>?_)
set_option maxHeartbeats 8000000 in
set_option maxRecDepth 100000 in
theorem tally_Seal.calls (k : Nat) (A0 : Option Addr) (c0 : Nat) (l0 : List Int) (r : List Int) (w : World) (hr0 : Kd.C (Kd.int .u8) w A0 l0.length l0) (hc0 : l0.length≤c0) (h : tally_Seal.f k l0=some r) :
  Calls Try.prog 43 #[.slice A0 l0.length c0] w fun e w'=>∃ v0_ : Value,e=.returned (v0_)∧Kd.R (Kd.int .u8) 5 w' w.heap.size (fun _=>True) v0_ r∧Below w.heap.size w w':=by
 have HR0:=A_ hr0;have HC0:=A_ hc0;clear hr0 hc0;have HB:=A_ (Below.refl w.heap.size w)
 have H : ((tally_Sum.f k l0).bind fun t115=>((some (([(t115 / 16777216) % 256,(t115 / 65536) % 256,(t115 / 256) % 256,(t115) % 256] : List Int) : List Int)).bind fun y116=>(if y116.length + l0.length<140737488355328 then (some (y116++l0)) else (none))))=some r:=h
 clear h;replace H:=Option.bind_eq_some_iff.mp H;obtain ⟨t115,A20,H⟩:=H
 replace H : ((some (([(t115 / 16777216) % 256,(t115 / 65536) % 256,(t115 / 256) % 256,(t115) % 256] : List Int) : List Int)).bind fun y116=>(if y116.length + l0.length<140737488355328 then (some (y116++l0)) else (none)))=some r:=H
 have A2:=A_ A20;clear A20
 obtain ⟨y116,hy116⟩ : ∃ y_ : List Int,y_=(([(t115 / 16777216) % 256,(t115 / 65536) % 256,(t115 / 256) % 256,(t115) % 256] : List Int)):=⟨_,rfl⟩
 replace H : (if y116.length + l0.length<140737488355328 then (some (y116++l0)) else (none))=some r:=by first|(rw [hy116];with_reducible exact H)|(have H2_:=(Option.bind_some _ _).symm.trans H;rw [hy116];with_reducible exact H2_)|(have H2_:=(Option.bind_some _ _).symm.trans H;with_reducible exact H2_)|with_reducible exact H|(rw [hy116];exact H)|exact H
 have Ny116:=A_ hy116;clear hy116
 by_cases c3 : y116.length + l0.length<140737488355328
 rotate_left
 ·rw [if_neg c3] at H
  exact absurd H (by simp)
 rw [if_pos c3] at H
 have LMc3:=A_ c3;clear c3
 obtain ⟨y119,hy119⟩ : ∃ y_ : List Int,y_=(y116++l0):=⟨_,rfl⟩
 replace H : (some y119)=some r:=by first|(rw [hy119];with_reducible exact H)|(have H2_:=(Option.bind_some _ _).symm.trans H;rw [hy119];with_reducible exact H2_)|(have H2_:=(Option.bind_some _ _).symm.trans H;with_reducible exact H2_)|with_reducible exact H|(rw [hy119];exact H)|exact H
 have Ny119:=A_ hy119;clear hy119;obtain rfl:=Option.some.inj H;go_enter Try.func43,Try.ntmps43
 go_wp2_with (first|((with_reducible refine gate_callee (f:=65) rfl ?_);refine goesL_ (some 5) rfl rfl Try.func65 (by kernel_rfl) rfl #[.slice A0 l0.length c0] rfl (by (try simp only [List.map_toArray,List.map_cons,List.map_nil]);first|done|rfl|(simp only [List.length_drop,List.length_take];rfl)) ?_;(with_reducible refine (tally_Sum.calls k _ _ l0 t115 _ ?side1 ?side2 A2.out).mono ?_);(case side1=>repeat (first|exact HR0.out|(with_reducible refine Kd.C_alloc ?_ _)|(with_reducible refine Kd.C_drewN ?_ _)|(with_reducible refine Kd.C_drew ?_)));(case side2=>exact HC0.out);rintro e w' ⟨rfl,⟨nd,rfl⟩⟩;refine ⟨_,rfl,?_⟩)|((with_reducible refine gate_dst (N:=17) rfl ?_);refine Kd.R_lit (Kd.int .u8) _ 5 ?hg (N:=17) ?hd (xs:=([(t115 / 16777216) % 256,(t115 / 65536) % 256,(t115 / 256) % 256,(t115) % 256] : List Int)) (inner:=[.int .u8 ((t115 / 16777216) % 256),.int .u8 ((t115 / 65536) % 256),.int .u8 ((t115 / 256) % 256),.int .u8 ((t115) % 256)]) (ok:=fun _=>True) (okp:=fun _=>True) ?hr ?hp (fun _ hk=>hk) trivial (Below.refl _ _) (Nat.le_refl _) (by simp) ?_;(case hd=>rfl);(case hg=>rfl);(case hr=>first|(go_simp;done)|(go_simp;rfl));(case hp=>exact (Reps.one (show Kd.M (Kd.int .u8) _ _ _ ((t115 / 16777216) % 256) [.int .u8 ((t115 / 16777216) % 256)] from rfl) (Reps.one (show Kd.M (Kd.int .u8) _ _ _ ((t115 / 65536) % 256) [.int .u8 ((t115 / 65536) % 256)] from rfl) (Reps.one (show Kd.M (Kd.int .u8) _ _ _ ((t115 / 256) % 256) [.int .u8 ((t115 / 256) % 256)] from rfl) (Reps.one (show Kd.M (Kd.int .u8) _ _ _ ((t115) % 256) [.int .u8 ((t115) % 256)] from rfl) (Reps.none _ _))))));intro v117 w4 ho5 hb hg_ hnew_;clear hg_ hnew_;(first|rw [← Ny116.out] at ho5|(simp only [Int.reduceToNat] at ho5;rw [← Ny116.out] at ho5));have n0_:=A_ (Kd.R_lower ho5 (bz_ (hb0_ HB.out)));have n1_:=A_ (bp_ (hb0_ HB.out) hb);clear HB;have HO118:=n0_;have HB:=n1_;clear n0_ n1_;clear hb ho5)|((with_reducible refine gate_builtin (b:=.append) (xs:=#[.tmp 17,.tmp 18]) rfl ?_);at_builtin;refine Kd.R_append_rows (Kd.int .u8) (w0:=w) w.heap.size rfl (.tmp 17) (.tmp 18) 22 5 (.int .u8 0) 1 rfl Try.underlying22 info5 rfl (by decide) (by omega) v117 y116 l0 _ _ _ (fun _=>True) (fun _=>False) rfl rfl ?aO ?aR (fun _ _ h=>h) (fun _ h=>h.elim) ?aF ?aB ?aS ?aL ?_;(case aR=>repeat (first|exact (Kd.C_below HR0.out HB.out)|(with_reducible refine Kd.C_alloc ?_ _)|(with_reducible refine Kd.C_drewN ?_ _)|(with_reducible refine Kd.C_drew ?_)));(case aB=>exact (hb0_ HB.out));(case aF=>exact (fun _ _=>trivial));(case aO=>exact (by (with_reducible repeat (first|apply ra_|apply rn_|apply re_));exact HO118.out));(case aS=>exact (bz_ (hb0_ HB.out)));(case aL=>have:=LMc3.out;omega);intro v120 w6 ho hb hg hat;rw [← Ny119.out] at ho;have n0_:=A_ (hb);have n1_:=A_ (ho);clear HB;clear HO118;have HB:=n0_;have HO121:=n1_;clear n0_ n1_;clear ho hb hg hat))
 go_ret
 exact ⟨_,by first|rfl|(simp [errW_none,errW_some] <;> rfl)|(simp [*,errW_none,errW_some] <;> rfl),by (with_reducible repeat (first|apply ra_|apply rn_|apply re_));exact HO121.out,hb0_ HB.out⟩
def tally_Open.f (k : Nat) (l0 : List Int) : Option (List Int × Int):=if (l0.length : Int)<4 then (some (([] : List Int),4)) else (if 4≤(l0.length : Int) then ((tally_Seal.f k (l0.drop 4)).bind fun t123=>(if 4≤(t123.length : Int) then (if (strOfNums (t123.take 4)).toList=(strOfNums (l0.take 4)).toList then (some ((t123.drop (4 : Int).toNat),0)) else (some (([] : List Int),5))) else (none))) else (none))
theorem tally_Open.mono : ∀ a0 k,LeO (tally_Open.f k a0) (tally_Open.f (k + 1) a0):=by
 intro a0 k
 unfold tally_Open.f
 repeat' first
   | (with_reducible exact tally_Seal.mono _ _)
   | (with_reducible exact LeO.refl _)
   | (with_reducible exact LeO.none _)
   | (with_reducible refine LeO.ite ?_ ?_)
   | (with_reducible refine LeO.bind ?_ (fun _=>?_))
   | exact tally_Seal.mono _ _
   | exact LeO.none _
   | refine LeO.ite ?_ ?_
   | refine LeO.bind ?_ (fun _=>?_)
set_option maxHeartbeats 8000000 in
set_option maxRecDepth 100000 in
theorem tally_Open.calls (k : Nat) (A0 : Option Addr) (c0 : Nat) (l0 : List Int) (r1 : List Int) (r2 : Int) (w : World) (hr0 : Kd.C (Kd.int .u8) w A0 l0.length l0) (hc0 : l0.length≤c0) (h : tally_Open.f k l0=some (r1,r2)) :
  Calls Try.prog 26 #[.slice A0 l0.length c0] w fun e w'=>∃ v0_ : Value,e=.returned (.tuple #[v0_,.int .i64 r2])∧Kd.Q (Kd.int .u8) 5 w' w.heap.size (fun _=>True) v0_ r1∧Below w.heap.size w w':=by
 have HR0:=A_ hr0;have HC0:=A_ hc0;clear hr0 hc0;have HB:=A_ (Below.refl w.heap.size w)
 have H : (if (l0.length : Int)<4 then (some (([] : List Int),4)) else (if 4≤(l0.length : Int) then ((tally_Seal.f k (l0.drop 4)).bind fun t123=>(if 4≤(t123.length : Int) then (if (strOfNums (t123.take 4)).toList=(strOfNums (l0.take 4)).toList then (some ((t123.drop (4 : Int).toNat),0)) else (some (([] : List Int),5))) else (none))) else (none)))=some (r1,r2):=h
 clear h
 by_cases c2 : (l0.length : Int)<4
 ·rw [if_pos c2] at H
  have c2b0 : decide ((l0.length : Int)<4)=true:=dt_ c2
  have c2b1 : decide (l0.length<4)=true:=dt_ (by omega)
  clear c2
  simp only [Option.some.injEq,Prod.mk.injEq] at H
  obtain ⟨rfl,rfl⟩:=H;go_enter Try.func26,Try.ntmps26;go_wp2;go_ret2
  exact ⟨_,by first|rfl|(simp [errW_none,errW_some] <;> rfl)|(simp [*,errW_none,errW_some] <;> rfl),Kd.Q_of_R (by first|exact Kd.R_nil _ _ _ _ _|exact Kd.N_nil _ _ _ _ _|exact Kd.V_nil _ _ _ _ _|exact Kd.Q_nil _ _ _ _ _|exact Kd.S_nil _ _ _ _ _),hb0_ HB.out⟩
 rw [if_neg c2] at H
 have c2b0 : decide ((l0.length : Int)<4)=false:=df_ c2
 have c2b1 : decide (l0.length<4)=false:=df_ (by omega)
 clear c2
 by_cases c3 : 4≤(l0.length : Int)
 rotate_left
 ·rw [if_neg c3] at H
  exact absurd H (by simp)
 rw [if_pos c3] at H
 have c3b0:=eq_true c3;have c3b1 : decide (4≤(l0.length : Int))=true:=dt_ c3;clear c3;replace H:=Option.bind_eq_some_iff.mp H;obtain ⟨t123,A40,H⟩:=H
 replace H : (if 4≤(t123.length : Int) then (if (strOfNums (t123.take 4)).toList=(strOfNums (l0.take 4)).toList then (some ((t123.drop (4 : Int).toNat),0)) else (some (([] : List Int),5))) else (none))=some (r1,r2):=H
 have A4:=A_ A40;clear A40
 by_cases c5 : 4≤(t123.length : Int)
 rotate_left
 ·rw [if_neg c5] at H
  exact absurd H (by simp)
 rw [if_pos c5] at H
 have c5b0:=eq_true c5;have c5b1 : decide (4≤(t123.length : Int))=true:=dt_ c5;clear c5
 obtain ⟨y126,hy126⟩ : ∃ y_ : List Int,y_=(t123.take 4):=⟨_,rfl⟩
 replace H : (if (strOfNums y126).toList=(strOfNums (l0.take 4)).toList then (some ((t123.drop (4 : Int).toNat),0)) else (some (([] : List Int),5)))=some (r1,r2):=by first|(rw [hy126];with_reducible exact H)|(have H2_:=(Option.bind_some _ _).symm.trans H;rw [hy126];with_reducible exact H2_)|(have H2_:=(Option.bind_some _ _).symm.trans H;with_reducible exact H2_)|with_reducible exact H|(rw [hy126];exact H)|exact H
 have Ny126:=A_ hy126;clear hy126
 have c6b0:=eq_true (od_ (by first|(with_reducible assumption)|assumption) : 4≤(l0.length : Int))
 by_cases c7 : (strOfNums y126).toList=(strOfNums (l0.take 4)).toList
 rotate_left
 ·rw [if_neg c7] at H
  have c7b0 : ((strOfNums y126).toList == (strOfNums (l0.take 4)).toList)=false:=beq_eq_false_iff_ne.mpr c7;have c7b1 : ((strOfNums y126).toList != (strOfNums (l0.take 4)).toList)=true:=bne_iff_ne.mpr c7
  simp only [Option.some.injEq,Prod.mk.injEq] at H
  obtain ⟨rfl,rfl⟩:=H;obtain ⟨i016,hi016,_,hsz16,_⟩:=info_parts info5
  obtain ⟨A16,hcut16,hA16,hC16⟩:=print_drop_of (P:=Try.prog) (Value.int .u8) 0 22 5 .i64 Try.underlying22 hi016 hsz16 A0 c0 l0 4 (by omega) (od_ (by first|(with_reducible assumption)|assumption)) HC0.out
  have HR122:=A_ (Kd.C_of_reads (h1:=fun _=>rfl) (hA16 _ (Kd.reads_of_C HR0.out)))
  have HC122:=A_ hC16;clear hA16 hC16 hi016 hsz16;go_enter Try.func26,Try.ntmps26
  try go_wp2_with (first|((with_reducible refine gate_callee (f:=43) rfl ?_);refine goesL_ (some 10) rfl rfl Try.func43 (by kernel_rfl) rfl #[.slice A16 (l0.drop 4).length (c0 - 4)] rfl (by (try simp only [List.map_toArray,List.map_cons,List.map_nil]);first|done|(rw [show (l0.drop 4).length=(l0.length - 4) from List.length_drop] <;> rfl)|rfl|(simp only [List.length_drop,List.length_take];rfl)) ?_;(with_reducible refine (tally_Seal.calls k _ _ (l0.drop 4) t123 _ ?side1 ?side2 A4.out).mono ?_);(case side1=>repeat (first|exact HR122.out|(with_reducible refine Kd.C_alloc ?_ _)|(with_reducible refine Kd.C_drewN ?_ _)|(with_reducible refine Kd.C_drew ?_)));(case side2=>exact HC122.out);rintro e w17 ⟨v124,rfl,ho0,hb⟩;refine ⟨_,rfl,?_⟩;have n0_:=A_ (Kd.R_lower ho0 (bz_ (hb0_ HB.out)));have n1_:=A_ (bp_ (hb0_ HB.out) hb);clear HB;have HO125:=n0_;have HB:=n1_;clear n0_ n1_;(try clear hb);(try clear hb2);(try clear hk);(try clear hi);(try clear ho0)))
  have n0_:=A_ (re_ HO125.out);have n1_:=A_ (be_ HB.out);clear HO125;clear HB;have HO125:=n0_;have HB:=n1_;clear n0_ n1_;obtain ⟨Ao20,co20,eo20⟩:=Kd.R_slice HO125.out
  (first|subst eo20|(injection eo20 with f1_ f2_ f3_;have f4_:=f1_.symm;have f5_:=f3_.symm;clear f1_ f2_ f3_;subst f4_;subst f5_))
  have q19 : (4 : Int)≤((t123.length : Int) : Int):=od_ (by first|(with_reducible assumption)|assumption)
  obtain ⟨i019,hi019,_,hsz19,_⟩:=info_parts info5;have hroom19 : t123.length≤co20:=(Kd.R_reads' HO125.out).2.1;have hC19 : Kd.C (Kd.int .u8) _ Ao20 t123.length t123:=(Kd.R_reads' HO125.out).2.2
  have hcut19:=cut_to (P:=Try.prog) 22 5 .i64 Try.underlying22 hi019 Ao20 t123.length co20 4 (by omega) q19 hroom19
  have hr19:=Kd.C_take (m:=4) hC19 (by omega)
  have hy19 : y126.length=(4 : Int).toNat:=(by rw [Ny126.out,List.length_take];omega)
  rw [← Ny126.out] at hr19;rw [← hy19] at hcut19;have HR129:=A_ hr19
  have HC129:=A_ (show y126.length≤co20 from by omega)
  clear hr19 hC19 hroom19 hi019 hsz19;have KY19:=A_ hy19;clear hy19
  have KL19:=A_ (show 4≤t123.length from by omega)
  replace q19:=eq_true q19;obtain ⟨i021,hi021,_,hsz21,_⟩:=info_parts info5
  obtain ⟨hcut21,hA21,hC21⟩:=print_take_of (P:=Try.prog) (Value.int .u8) 0 22 5 .i64 Try.underlying22 hi021 hsz21 A0 c0 l0 4 (by omega) (od_ (by first|(with_reducible assumption)|assumption)) HC0.out
  have HR130:=A_ (Kd.C_of_reads (h1:=fun _=>rfl) (hA21 _ (Kd.reads_of_C HR0.out)))
  have HC130:=A_ hC21;clear hA21 hC21 hi021 hsz21
  refine start_ (n:=7) (S:=fun w'=>(convert 22 9 (.slice Ao20 y126.length co20)).run Try.prog w'=.ok (.string (strOfNums y126)) w'∧(convert 22 9 (.slice A0 (min 4 l0.length) c0)).run Try.prog w'=.ok (.string (strOfNums (l0.take 4))) w') (ds:=[]) #[Z,Z,Z,Z,Z,Z,Z] (by kernel_rfl) rfl rfl ⟨Kd.C_string (P:=Try.prog) (A:=Ao20) (c:=co20) Try.underlying22 Try.underlying5 Try.underlying9 (by repeat (first|(with_reducible exact HR129.out)|(with_reducible refine Kd.C_alloc ?_ _)|(with_reducible refine Kd.C_drewN ?_ _)|(with_reducible refine Kd.C_drew ?_)|exact HR129.out)),(by first|(have h_:=Kd.C_string (P:=Try.prog) (A:=A0) (c:=c0) Try.underlying22 Try.underlying5 Try.underlying9 (Kd.C_below HR130.out HB.out);rw [List.length_take] at h_;exact h_)|(rw [← List.length_take];exact Kd.C_string (P:=Try.prog) (A:=A0) (c:=c0) Try.underlying22 Try.underlying5 Try.underlying9 (Kd.C_drewN (Kd.C_below HR130.out HB.out) _)))⟩ (fun hHeld=>?_)
  generalize w17.drew=w18 at HO125 HB HR129 HR130 hHeld ⊢
  refine pure_ (i:=0) (N:=some 11) (v:=?_) (a':=?_) #[Y,Z,Z,Z,Z,Z,Z] rfl rfl (by kernel_rfl) (fun _ _ _ h=>h) (Or.inl ⟨by rfl,?_⟩) ?_ ?_;rotate_left;(intro w';go_simp;with_reducible rfl);rotate_left;(simp only [Act.put,q1_,q2_,q3_,i64_w,i32_w];rfl)
  refine pure_ (i:=1) (N:=some 12) (v:=?_) (a':=?_) #[Y,Y,Z,Z,Z,Z,Z] rfl rfl (by kernel_rfl) (fun _ _ _ h=>h) (Or.inl ⟨by rfl,?_⟩) ?_ ?_;rotate_left;(intro w';go_simp;with_reducible rfl);rotate_left;(simp only [Act.put,q1_,q2_,q3_,i64_w,i32_w];rfl)
  refine pure_ (i:=3) (N:=some 14) (v:=?_) (a':=?_) #[Y,Y,Z,Y,Z,Z,Z] rfl rfl (by kernel_rfl) (fun _ _ _ h=>h) (Or.inl ⟨by rfl,?_⟩) ?_ ?_;rotate_left;(intro w';go_simp;with_reducible rfl);rotate_left;(simp only [Act.put,q1_,q2_,q3_,i64_w,i32_w];rfl)
  refine pure_ (i:=4) (N:=some 15) (v:=?_) (a':=?_) #[Y,Y,Z,Y,Y,Z,Z] rfl rfl (by kernel_rfl) (fun _ _ _ h=>h) (Or.inl ⟨by rfl,?_⟩) ?_ ?_;rotate_left;(intro w';go_simp;with_reducible rfl);rotate_left;(simp only [Act.put,q1_,q2_,q3_,i64_w,i32_w];rfl)
  refine take_ (i:=2) (N:=some 13) (v:=?_) (a':=?_) #[Y,Y,Y,Y,Y,Z,Z] rfl rfl (by kernel_rfl) (fun _ _ _ h=>h) (Or.inl ⟨by rfl,?_⟩) hHeld ?_ ?_;rotate_left;(rintro w' ⟨s0,s1⟩;go_simp;with_reducible rfl);rotate_left;(simp only [Act.put,q1_,q2_,q3_,i64_w,i32_w];rfl)
  refine take_ (i:=5) (N:=some 16) (v:=?_) (a':=?_) #[Y,Y,Y,Y,Y,Y,Z] rfl rfl (by kernel_rfl) (fun _ _ _ h=>h) (Or.inl ⟨by rfl,?_⟩) hHeld ?_ ?_;rotate_left;(rintro w' ⟨s0,s1⟩;go_simp;with_reducible rfl);rotate_left;(simp only [Act.put,q1_,q2_,q3_,i64_w,i32_w];rfl)
  refine pure_ (i:=6) (N:=some 17) (v:=?_) (a':=?_) #[Y,Y,Y,Y,Y,Y,Y] rfl rfl (by kernel_rfl) (fun _ _ _ h=>h) (Or.inl ⟨by rfl,?_⟩) ?_ ?_;rotate_left;(intro w';go_simp;with_reducible rfl);rotate_left;(simp only [Act.put,q1_,q2_,q3_,i64_w,i32_w];rfl)
  refine done_ (by kernel_rfl) ?_
  try go_wp2
  go_ret2
  exact ⟨_,by first|rfl|(simp [errW_none,errW_some] <;> rfl)|(simp [*,errW_none,errW_some] <;> rfl),Kd.Q_of_R (by first|exact Kd.R_nil _ _ _ _ _|exact Kd.N_nil _ _ _ _ _|exact Kd.V_nil _ _ _ _ _|exact Kd.Q_nil _ _ _ _ _|exact Kd.S_nil _ _ _ _ _),hb0_ HB.out⟩
 rw [if_pos c7] at H
 have c7b0 : ((strOfNums y126).toList == (strOfNums (l0.take 4)).toList)=true:=beq_iff_eq.mpr c7;have c7b1 : ((strOfNums y126).toList != (strOfNums (l0.take 4)).toList)=false:=bne_eq_false_iff_eq.mpr c7;clear c7
 have c8b0:=eq_true (od_ (by first|(with_reducible assumption)|assumption) : 4≤(t123.length : Int))
 obtain ⟨y131,hy131⟩ : ∃ y_ : List Int,y_=(t123.drop (4 : Int).toNat):=⟨_,rfl⟩
 replace H : (some (y131,0))=some (r1,r2):=by first|(rw [hy131];with_reducible exact H)|(have H2_:=(Option.bind_some _ _).symm.trans H;rw [hy131];with_reducible exact H2_)|(have H2_:=(Option.bind_some _ _).symm.trans H;with_reducible exact H2_)|with_reducible exact H|(rw [hy131];exact H)|exact H
 have Ny131:=A_ hy131;clear hy131
 simp only [Option.some.injEq,Prod.mk.injEq] at H
 obtain ⟨rfl,rfl⟩:=H;obtain ⟨i09,hi09,_,hsz9,_⟩:=info_parts info5
 obtain ⟨A9,hcut9,hA9,hC9⟩:=print_drop_of (P:=Try.prog) (Value.int .u8) 0 22 5 .i64 Try.underlying22 hi09 hsz9 A0 c0 l0 4 (by omega) (od_ (by first|(with_reducible assumption)|assumption)) HC0.out
 have HR122:=A_ (Kd.C_of_reads (h1:=fun _=>rfl) (hA9 _ (Kd.reads_of_C HR0.out)))
 have HC122:=A_ hC9;clear hA9 hC9 hi09 hsz9;go_enter Try.func26,Try.ntmps26
 try go_wp2_with (first|((with_reducible refine gate_callee (f:=43) rfl ?_);refine goesL_ (some 10) rfl rfl Try.func43 (by kernel_rfl) rfl #[.slice A9 (l0.drop 4).length (c0 - 4)] rfl (by (try simp only [List.map_toArray,List.map_cons,List.map_nil]);first|done|(rw [show (l0.drop 4).length=(l0.length - 4) from List.length_drop] <;> rfl)|rfl|(simp only [List.length_drop,List.length_take];rfl)) ?_;(with_reducible refine (tally_Seal.calls k _ _ (l0.drop 4) t123 _ ?side1 ?side2 A4.out).mono ?_);(case side1=>repeat (first|exact HR122.out|(with_reducible refine Kd.C_alloc ?_ _)|(with_reducible refine Kd.C_drewN ?_ _)|(with_reducible refine Kd.C_drew ?_)));(case side2=>exact HC122.out);rintro e w10 ⟨v124,rfl,ho0,hb⟩;refine ⟨_,rfl,?_⟩;have n0_:=A_ (Kd.R_lower ho0 (bz_ (hb0_ HB.out)));have n1_:=A_ (bp_ (hb0_ HB.out) hb);clear HB;have HO125:=n0_;have HB:=n1_;clear n0_ n1_;(try clear hb);(try clear hb2);(try clear hk);(try clear hi);(try clear ho0)))
 have n0_:=A_ (re_ HO125.out);have n1_:=A_ (be_ HB.out);clear HO125;clear HB;have HO125:=n0_;have HB:=n1_;clear n0_ n1_;obtain ⟨Ao13,co13,eo13⟩:=Kd.R_slice HO125.out
 (first|subst eo13|(injection eo13 with f1_ f2_ f3_;have f4_:=f1_.symm;have f5_:=f3_.symm;clear f1_ f2_ f3_;subst f4_;subst f5_))
 have q12 : (4 : Int)≤((t123.length : Int) : Int):=od_ (by first|(with_reducible assumption)|assumption)
 obtain ⟨i012,hi012,_,hsz12,_⟩:=info_parts info5;have hroom12 : t123.length≤co13:=(Kd.R_reads' HO125.out).2.1;have hC12 : Kd.C (Kd.int .u8) _ Ao13 t123.length t123:=(Kd.R_reads' HO125.out).2.2
 have hcut12:=cut_to (P:=Try.prog) 22 5 .i64 Try.underlying22 hi012 Ao13 t123.length co13 4 (by omega) q12 hroom12
 have hr12:=Kd.C_take (m:=4) hC12 (by omega)
 have hy12 : y126.length=(4 : Int).toNat:=(by rw [Ny126.out,List.length_take];omega)
 rw [← Ny126.out] at hr12;rw [← hy12] at hcut12;have HR129:=A_ hr12
 have HC129:=A_ (show y126.length≤co13 from by omega)
 clear hr12 hC12 hroom12 hi012 hsz12;have KY12:=A_ hy12;clear hy12
 have KL12:=A_ (show 4≤t123.length from by omega)
 replace q12:=eq_true q12;obtain ⟨i014,hi014,_,hsz14,_⟩:=info_parts info5
 obtain ⟨hcut14,hA14,hC14⟩:=print_take_of (P:=Try.prog) (Value.int .u8) 0 22 5 .i64 Try.underlying22 hi014 hsz14 A0 c0 l0 4 (by omega) (od_ (by first|(with_reducible assumption)|assumption)) HC0.out
 have HR130:=A_ (Kd.C_of_reads (h1:=fun _=>rfl) (hA14 _ (Kd.reads_of_C HR0.out)))
 have HC130:=A_ hC14;clear hA14 hC14 hi014 hsz14
 refine start_ (n:=7) (S:=fun w'=>(convert 22 9 (.slice Ao13 y126.length co13)).run Try.prog w'=.ok (.string (strOfNums y126)) w'∧(convert 22 9 (.slice A0 (min 4 l0.length) c0)).run Try.prog w'=.ok (.string (strOfNums (l0.take 4))) w') (ds:=[]) #[Z,Z,Z,Z,Z,Z,Z] (by kernel_rfl) rfl rfl ⟨Kd.C_string (P:=Try.prog) (A:=Ao13) (c:=co13) Try.underlying22 Try.underlying5 Try.underlying9 (by repeat (first|(with_reducible exact HR129.out)|(with_reducible refine Kd.C_alloc ?_ _)|(with_reducible refine Kd.C_drewN ?_ _)|(with_reducible refine Kd.C_drew ?_)|exact HR129.out)),(by first|(have h_:=Kd.C_string (P:=Try.prog) (A:=A0) (c:=c0) Try.underlying22 Try.underlying5 Try.underlying9 (Kd.C_below HR130.out HB.out);rw [List.length_take] at h_;exact h_)|(rw [← List.length_take];exact Kd.C_string (P:=Try.prog) (A:=A0) (c:=c0) Try.underlying22 Try.underlying5 Try.underlying9 (Kd.C_drewN (Kd.C_below HR130.out HB.out) _)))⟩ (fun hHeld=>?_)
 generalize w10.drew=w11 at HO125 HB HR129 HR130 hHeld ⊢
 refine pure_ (i:=0) (N:=some 11) (v:=?_) (a':=?_) #[Y,Z,Z,Z,Z,Z,Z] rfl rfl (by kernel_rfl) (fun _ _ _ h=>h) (Or.inl ⟨by rfl,?_⟩) ?_ ?_;rotate_left;(intro w';go_simp;with_reducible rfl);rotate_left;(simp only [Act.put,q1_,q2_,q3_,i64_w,i32_w];rfl)
 refine pure_ (i:=1) (N:=some 12) (v:=?_) (a':=?_) #[Y,Y,Z,Z,Z,Z,Z] rfl rfl (by kernel_rfl) (fun _ _ _ h=>h) (Or.inl ⟨by rfl,?_⟩) ?_ ?_;rotate_left;(intro w';go_simp;with_reducible rfl);rotate_left;(simp only [Act.put,q1_,q2_,q3_,i64_w,i32_w];rfl)
 refine pure_ (i:=3) (N:=some 14) (v:=?_) (a':=?_) #[Y,Y,Z,Y,Z,Z,Z] rfl rfl (by kernel_rfl) (fun _ _ _ h=>h) (Or.inl ⟨by rfl,?_⟩) ?_ ?_;rotate_left;(intro w';go_simp;with_reducible rfl);rotate_left;(simp only [Act.put,q1_,q2_,q3_,i64_w,i32_w];rfl)
 refine pure_ (i:=4) (N:=some 15) (v:=?_) (a':=?_) #[Y,Y,Z,Y,Y,Z,Z] rfl rfl (by kernel_rfl) (fun _ _ _ h=>h) (Or.inl ⟨by rfl,?_⟩) ?_ ?_;rotate_left;(intro w';go_simp;with_reducible rfl);rotate_left;(simp only [Act.put,q1_,q2_,q3_,i64_w,i32_w];rfl)
 refine take_ (i:=2) (N:=some 13) (v:=?_) (a':=?_) #[Y,Y,Y,Y,Y,Z,Z] rfl rfl (by kernel_rfl) (fun _ _ _ h=>h) (Or.inl ⟨by rfl,?_⟩) hHeld ?_ ?_;rotate_left;(rintro w' ⟨s0,s1⟩;go_simp;with_reducible rfl);rotate_left;(simp only [Act.put,q1_,q2_,q3_,i64_w,i32_w];rfl)
 refine take_ (i:=5) (N:=some 16) (v:=?_) (a':=?_) #[Y,Y,Y,Y,Y,Y,Z] rfl rfl (by kernel_rfl) (fun _ _ _ h=>h) (Or.inl ⟨by rfl,?_⟩) hHeld ?_ ?_;rotate_left;(rintro w' ⟨s0,s1⟩;go_simp;with_reducible rfl);rotate_left;(simp only [Act.put,q1_,q2_,q3_,i64_w,i32_w];rfl)
 refine pure_ (i:=6) (N:=some 17) (v:=?_) (a':=?_) #[Y,Y,Y,Y,Y,Y,Y] rfl rfl (by kernel_rfl) (fun _ _ _ h=>h) (Or.inl ⟨by rfl,?_⟩) ?_ ?_;rotate_left;(intro w';go_simp;with_reducible rfl);rotate_left;(simp only [Act.put,q1_,q2_,q3_,i64_w,i32_w];rfl)
 refine done_ (by kernel_rfl) ?_
 have q15 : (4 : Int)≤((t123.length : Int) : Int):=od_ (by first|(with_reducible assumption)|assumption)
 obtain ⟨i015,hi015,_,hsz15,_⟩:=info_parts info5
 have hcut15:=cut_from (P:=Try.prog) 22 5 .i64 Try.underlying22 hi015 1 hsz15 Ao13 t123.length co13 4 (by omega) q15
 have hr15:=Kd.Q_drop (k:=(4 : Int).toNat) (Kd.Q_of_R HO125.out) (by omega)
 obtain ⟨A15,hA15⟩ : ∃ A1,A1=(if co13=(4 : Int).toNat then Ao13 else (Ao13 : Option Addr).map (·.add ((4 : Int).toNat * 1))):=⟨_,rfl⟩
 obtain ⟨c15,hc15⟩ : ∃ c1,c1=co13 - (4 : Int).toNat:=⟨_,rfl⟩
 have hy15 : y131.length=t123.length - (4 : Int).toNat:=(by rw [Ny131.out,List.length_drop])
 rw [← Ny131.out] at hr15;rw [← hy15,← hA15,← hc15] at hcut15
 replace hr15 : Kd.Q (Kd.int .u8) 5 w11 w.heap.size (fun _=>True) (.slice A15 y131.length c15) y131:=(by rw [hA15,hc15,hy15];exact hr15)
 have HE15 : Aside0 ((Value.slice A15 y131.length c15).ownBlock=(.slice Ao13 t123.length co13 : Value).ownBlock):=⟨by rw [hA15];split <;> (cases (Ao13 : Option Addr) <;> rfl)⟩
 clear hy15 hi015 hsz15 HO125 hA15 hc15;have HO133:=A_ hr15;clear hr15;replace q15:=eq_true q15
 try go_wp2
 go_ret2
 exact ⟨_,by first|rfl|(simp [errW_none,errW_some] <;> rfl)|(simp [*,errW_none,errW_some] <;> rfl),by (with_reducible repeat (first|apply Kd.Q_alloc|apply Kd.Q_drewN|apply Kd.Q_drew));exact HO133.out,hb0_ HB.out⟩
end Go.Proofs.Ytjigckhopkclgaa.P
