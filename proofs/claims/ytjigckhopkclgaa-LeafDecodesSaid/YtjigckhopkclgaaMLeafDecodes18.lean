/- by wip/prune.py -/
import Derived.Test.YtjigckhopkclgaaMLeafDecodes3
import Derived.Test.YtjigckhopkclgaaMLeafDecodes4
import Derived.Test.YtjigckhopkclgaaMLeafDecodes6
import Derived.Test.YtjigckhopkclgaaMLeafDecodes14
import Derived.Test.YtjigckhopkclgaaMLeafDecodes15
import Derived.Test.YtjigckhopkclgaaMLeafDecodes16
import Derived.Test.YtjigckhopkclgaaMLeafDecodes17
set_option linter.unusedSimpArgs false
set_option linter.unusedVariables false
namespace Go.Proofs.Ytjigckhopkclgaa.P
open Go.RowKit YtjigckhopkclgaaW.PrintWords YtjigckhopkclgaaW.PrintLast YtjigckhopkclgaaW.PrintMore
attribute [local go_sem] max2_int min2_int max_two min_two max_three min_three max_four min_four   -- for this text's walks alone
attribute [local go_sem] run_store_float
mutual
def humusref08_Same.j0 : Nat→Bool→List Int→List (List Int)→List Int→List (List Int)→Option (Bool)
 | 0,_,_,_,_,_=>none
 | k + 1,x22,x451000,x451001,x452000,x452001=>if x22=true then (some false) else (humusref08_Same.l0 k 0 x451000 x451001 x452000 x452001)
def humusref08_Same.l0 : Nat→Int→List Int→List (List Int)→List Int→List (List Int)→Option (Bool)
 | 0,_,_,_,_,_=>none
 | k + 1,x5,x451000,x451001,x452000,x452001=>if x5<(x451000.length : Int) then (if 0≤x5 then (if x5<(x452000.length : Int) then (if (rd x451000 x5)=(rd x452000 x5) then (humusref08_Same.l0 k (wrap64 (x5 + 1)) x451000 x451001 x452000 x452001) else (some false)) else (none)) else (none)) else (humusref08_Same.l1 k 0 x451000 x451001 x452000 x452001)
def humusref08_Same.l1 : Nat→Int→List Int→List (List Int)→List Int→List (List Int)→Option (Bool)
 | 0,_,_,_,_,_=>none
 | k + 1,x6,x451000,x451001,x452000,x452001=>if x6<(x451001.length : Int) then (if 0≤x6 then (if x6<(x452001.length : Int) then (if (strOfNums (rd_L2 x451001 x6)).toList=(strOfNums (rd_L2 x452001 x6)).toList then (humusref08_Same.l1 k (wrap64 (x6 + 1)) x451000 x451001 x452000 x452001) else (some false)) else (none)) else (none)) else (some true)
end
def humusref08_Same.f (k : Nat) (l0_0 : List Int) (l0_1 : List (List Int)) (l1_0 : List Int) (l1_1 : List (List Int)) : Option (Bool):=if (l0_0.length : Int)=(l1_0.length : Int) then (humusref08_Same.j0 k ((l0_1.length : Int) != (l1_1.length : Int)) l0_0 l0_1 l1_0 l1_1) else (humusref08_Same.j0 k true l0_0 l0_1 l1_0 l1_1)
def humusref08_Same.T6 : Bool × List (List Nat × List Nat):=(true,[([],[]),([0],[0]),([],[]),([1,2],[1,2]),([3],[3]),([],[]),([5],[5]),([],[]),([6,7],[6,7]),([8],[8]),([4,9],[4,9])])
def humusref08_Same.B6 : List Nat:=[0,1,0,7,15,0,32,0,224,480,1023]
theorem humusref08_Same.tab6 : rtab .any (opsOf Try.f11 6)=humusref08_Same.T6:=by kernel_rfl
theorem humusref08_Same.bits6 : waitsOk humusref08_Same.T6.2 humusref08_Same.B6=true:=by kernel_rfl
def humusref08_Same.T11 : Bool × List (List Nat × List Nat):=(true,[([],[]),([0],[0]),([],[]),([1,2],[1,2]),([3],[3]),([4],[4]),([],[]),([6],[6]),([],[]),([7,8],[7,8]),([9],[9]),([10],[10]),([5,11],[5,11])])
def humusref08_Same.B11 : List Nat:=[0,1,0,7,15,31,0,64,0,448,960,1984,4095]
theorem humusref08_Same.tab11 : rtab .any (opsOf Try.f11 11)=humusref08_Same.T11:=by kernel_rfl
theorem humusref08_Same.bits11 : waitsOk humusref08_Same.T11.2 humusref08_Same.B11=true:=by kernel_rfl
set_option maxHeartbeats 8000000 in
set_option maxRecDepth 100000 in
theorem humusref08_Same.calls (k : Nat) (A0_0 : Option Addr) (c0_0 : Nat) (l0_0 : List Int) (A0_1 : Option Addr) (c0_1 : Nat) (l0_1 : List (List Int)) (A1_0 : Option Addr) (c1_0 : Nat) (l1_0 : List Int) (A1_1 : Option Addr) (c1_1 : Nat) (l1_1 : List (List Int)) (r : Bool) (w : World) (hr0_0 : Kd.C (Kd.int .i64) w A0_0 l0_0.length l0_0) (hc0_0 : l0_0.length≤c0_0) (hr0_1 : Kd.C (Kd.slice 5 (Kd.int .u8)) w A0_1 l0_1.length l0_1) (hc0_1 : l0_1.length≤c0_1) (hr1_0 : Kd.C (Kd.int .i64) w A1_0 l1_0.length l1_0) (hc1_0 : l1_0.length≤c1_0) (hr1_1 : Kd.C (Kd.slice 5 (Kd.int .u8)) w A1_1 l1_1.length l1_1) (hc1_1 : l1_1.length≤c1_1) (h : humusref08_Same.f k l0_0 l0_1 l1_0 l1_1=some r) :
  Calls Try.prog 11 #[.agg #[.slice A0_0 l0_0.length c0_0,.slice A0_1 l0_1.length c0_1],.agg #[.slice A1_0 l1_0.length c1_0,.slice A1_1 l1_1.length c1_1]] w fun e w'=>e=.returned (.bool r)∧Below w.heap.size w w':=by
 have hu27:=Try.underlying27;have HR0_0:=A_ hr0_0;have HC0_0:=A_ hc0_0;clear hr0_0 hc0_0;have HR0_1:=A_ hr0_1;have HC0_1:=A_ hc0_1;clear hr0_1 hc0_1;have HR1_0:=A_ hr1_0;have HC1_0:=A_ hc1_0;clear hr1_0 hc1_0;have HR1_1:=A_ hr1_1;have HC1_1:=A_ hc1_1;clear hr1_1 hc1_1;have HB:=A_ (Below.refl w.heap.size w)
 have H : (if (l0_0.length : Int)=(l1_0.length : Int) then (humusref08_Same.j0 k ((l0_1.length : Int) != (l1_1.length : Int)) l0_0 l0_1 l1_0 l1_1) else (humusref08_Same.j0 k true l0_0 l0_1 l1_0 l1_1))=some r:=h
 clear h;have HC3:=A_ H;clear H;go_enter Try.func11,Try.ntmps11
 go_upto_region 1 with (first|((with_reducible refine gate_dst (N:=2) rfl ?_);(try (refine gate_guard (by rfl) ?_;dsimp only));refine box_event ?hg (N:=2) ?hd (cs:=#[.slice A0_0 l0_0.length c0_0,.slice A0_1 l0_1.length c0_1]) (t:=27) ?hr ?_;(case hd=>rfl);(case hg=>rfl);(case hr=>first|(go_simp;done)|(go_simp;rfl));intro gb450 hg w4 hbox hb;have n0_:=A_ (bp_ (hb0_ HB.out) hb);have n1_:=A_ (hbox);have n2_:=A_ ((by rw [hg];exact (bz_ (hb0_ HB.out)) : w.heap.size≤gb450));have n3_:=n2_;clear HB;have HB:=n0_;have BK450:=n1_;have GW450:=n2_;have GE450:=n3_;clear n0_ n1_ n2_ n3_;clear hb hbox hg)|((with_reducible refine gate_dst (N:=3) rfl ?_);(try (refine gate_guard (by rfl) ?_;dsimp only));refine box_event ?hg (N:=3) ?hd (cs:=#[.slice A1_0 l1_0.length c1_0,.slice A1_1 l1_1.length c1_1]) (t:=27) ?hr ?_;(case hd=>rfl);(case hg=>rfl);(case hr=>first|(go_simp;done)|(go_simp;rfl));intro gb451 hg w5 hbox hb;have n0_:=A_ (bx_ BK450.out kf_ hb);have n1_:=A_ (bp_ (hb1_ HB.out GE450.out) hb);have n2_:=A_ (hbox);have n3_:=A_ ((by rw [hg];exact (bz_ (hb1_ HB.out GE450.out)) : w.heap.size≤gb451));have n4_:=n3_;have n5_:=A_ ((by rw [hg];exact Nat.ne_of_lt (bl_ BK450.out kf_) : gb450≠gb451));have n6_:=A_ (Ne.symm n5_.out);clear BK450;clear HB;have BK450:=n0_;have HB:=n1_;have BK451:=n2_;have GW451:=n3_;have GE451:=n4_;have NB450_451:=n5_;have NB451_450:=n6_;clear n0_ n1_ n2_ n3_ n4_ n5_ n6_;clear hb hbox hg))
 (try simp only [Act.put,u1_,u2_,u3_])
 go_cut [22] (fun v22 wc=>∃ (kq : Nat) (x22_2 : Bool),v22=.bool x22_2∧Aside0 (humusref08_Same.j0 kq x22_2 l0_0 l0_1 l1_0 l1_1=some r)∧Aside0 (kq≤k)∧Aside0 (wc.heap[gb450]?=some (.cells #[(.slice A0_0 l0_0.length c0_0),(.slice A0_1 l0_1.length c0_1)] 27 (0,0)))∧Aside0 (wc.heap[gb451]?=some (.cells #[(.slice A1_0 l1_0.length c1_0),(.slice A1_1 l1_1.length c1_1)] 27 (0,0)))∧Aside0 (Below w.heap.size w wc))
 case first =>
  have H:=HC3.out;clear HC3
  by_cases c6 : (l0_0.length : Int)=(l1_0.length : Int)
  rotate_left
  ·rw [if_neg c6] at H
   have c6b0 : ((l0_0.length : Int) == (l1_0.length : Int))=false:=beq_eq_false_iff_ne.mpr c6;have c6b1 : ((l0_0.length : Int) != (l1_0.length : Int))=true:=bne_iff_ne.mpr c6
   have c6b2 : (l0_0.length == l1_0.length)=false:=by first|simpa using c6|(simp at c6 ⊢;omega)
   (first|rw [c6b0]|(simp only [i64_w,i32_w];rw [c6b0])|skip);have H':=A_ H;clear H;have hnb10:=NB450_451.out;have hnc10:=NB451_450.out;have z11_0 : w5.cell? ⟨gb450,0,none⟩=some (.slice A0_0 l0_0.length c0_0):=(bc_ BK450.out 0).trans rfl;have z11_1 : w5.cell? ⟨gb450,1,none⟩=some (.slice A0_1 l0_1.length c0_1):=(bc_ BK450.out 1).trans rfl;have y11_0:=bf_ BK450.out 0;have y11_1:=bf_ BK450.out 1;have z12_0 : w5.cell? ⟨gb451,0,none⟩=some (.slice A1_0 l1_0.length c1_0):=(bc_ BK451.out 0).trans rfl;have z12_1 : w5.cell? ⟨gb451,1,none⟩=some (.slice A1_1 l1_1.length c1_1):=(bc_ BK451.out 1).trans rfl;have y12_0:=bf_ BK451.out 0;have y12_1:=bf_ BK451.out 1;go_wp2;go_meet
   case rel=>exact ⟨_,true,rfl,H',⟨by first|omega|exact Nat.le_refl _⟩,⟨by exact kk_ BK450.out⟩,⟨by exact kk_ BK451.out⟩,⟨hb2_ HB.out GE450.out GE451.out⟩⟩
  rw [if_pos c6] at H
  have c6b0 : ((l0_0.length : Int) == (l1_0.length : Int))=true:=beq_iff_eq.mpr c6;have c6b1 : ((l0_0.length : Int) != (l1_0.length : Int))=false:=bne_eq_false_iff_eq.mpr c6
  have c6b2 : (l0_0.length == l1_0.length)=true:=by first|simpa using c6|(simp at c6 ⊢;omega)
  clear c6;(first|rw [c6b0]|(simp only [i64_w,i32_w];rw [c6b0])|skip);have H':=A_ H;clear H;have hnb7:=NB450_451.out;have hnc7:=NB451_450.out;have z8_0 : w5.cell? ⟨gb450,0,none⟩=some (.slice A0_0 l0_0.length c0_0):=(bc_ BK450.out 0).trans rfl;have z8_1 : w5.cell? ⟨gb450,1,none⟩=some (.slice A0_1 l0_1.length c0_1):=(bc_ BK450.out 1).trans rfl;have y8_0:=bf_ BK450.out 0;have y8_1:=bf_ BK450.out 1;have z9_0 : w5.cell? ⟨gb451,0,none⟩=some (.slice A1_0 l1_0.length c1_0):=(bc_ BK451.out 0).trans rfl;have z9_1 : w5.cell? ⟨gb451,1,none⟩=some (.slice A1_1 l1_1.length c1_1):=(bc_ BK451.out 1).trans rfl;have y9_0:=bf_ BK451.out 0;have y9_1:=bf_ BK451.out 1;go_wp2;go_meet
  case rel=>exact ⟨_,(((l0_1.length : Int) != (l1_1.length : Int))),(by first|rfl|(simp;done)|(simp [*];done)),H',⟨by first|omega|exact Nat.le_refl _⟩,⟨by exact kk_ BK450.out⟩,⟨by exact kk_ BK451.out⟩,⟨hb2_ HB.out GE450.out GE451.out⟩⟩
 case rest =>
  clear HC3;(try clear c1);(try clear p2);(try clear c6);(try clear c6b0);(try clear c6b1);(try clear c6b2);(try clear c7);(try clear c10);(try clear c11);(try clear z11_0 z11_1 z12_0 z12_1 z8_0 z8_1 z9_0 z9_1 y11_0 y11_1 y12_0 y12_1 y8_0 y8_1 y9_0 y9_1);obtain ⟨kq,x22_2,rfl,HA,HJ2,BK450,BK451,HB⟩:=hcut
  cases kq with
  | zero=>exact absurd HA.out (by simp [humusref08_Same.j0])
  | succ kj2 =>
   have H:=HA.out;clear HA
   simp only [humusref08_Same.j0] at H
   by_cases c13 : x22_2=true
   ·subst c13
    have H1 : (some false)=some r:=by rw [if_pos rfl] at H;exact H
    clear H;have H:=H1;clear H1;obtain rfl:=Option.some.inj H;go_wp2;go_ret
    exact ⟨by first|rfl|(simp [errW_none,errW_some] <;> rfl)|(simp [*,errW_none,errW_some] <;> rfl),hb2_ HB.out GE450.out GE451.out⟩
   replace c13:=Bool.eq_false_iff.mpr c13
   subst c13
   have H1 : (humusref08_Same.l0 kj2 0 l0_0 l0_1 l1_0 l1_1)=some r:=by rw [if_neg (show ¬ (false=true) by decide)] at H;exact H
   clear H;have H:=H1;clear H1;have H':=A_ H;clear H;go_wp2
   go_loopg [5] kj2 (fun kq v5 w'=>∃ (x5_2 : Int),v5=.int .i64 x5_2∧Aside0 (humusref08_Same.l0 kq x5_2 l0_0 l0_1 l1_0 l1_1=some r)∧Aside0 (kq≤kj2)∧Aside0 (w'.heap[gb450]?=some (.cells #[(.slice A0_0 l0_0.length c0_0),(.slice A0_1 l0_1.length c0_1)] 27 (0,0)))∧Aside0 (w'.heap[gb451]?=some (.cells #[(.slice A1_0 l1_0.length c1_0),(.slice A1_1 l1_1.length c1_1)] 27 (0,0)))∧Aside0 (Below w.heap.size w w'))
   case atStart=>exact ⟨(0),(by first|rfl|(simp;done)|(simp [*];done)),H',⟨Nat.le_refl _⟩,⟨by exact kk_ BK450.out⟩,⟨by exact kk_ BK451.out⟩,⟨hb2_ HB.out GE450.out GE451.out⟩⟩
   case round =>
    clear H';(try clear c1);(try clear p2);(try clear c6);(try clear c6b0);(try clear c6b1);(try clear c6b2);(try clear c7);(try clear c10);(try clear c11);(try clear c13);(try clear p2);(try clear z11_0 z11_1 z12_0 z12_1 z8_0 z8_1 z9_0 z9_1 y11_0 y11_1 y12_0 y12_1 y8_0 y8_1 y9_0 y9_1);obtain ⟨x5_2,rfl,HA,HK2,BK450,BK451,HB⟩:=hrel
    cases gk with
    | zero=>exact absurd HA.out (by simp [humusref08_Same.l0])
    | succ k2 =>
     have H:=HA.out;clear HA
     simp only [humusref08_Same.l0] at H
     by_cases c14 : x5_2<(l0_0.length : Int)
     ·rw [if_pos c14] at H
      have c14b0 : decide (x5_2<(l0_0.length : Int))=true:=dt_ c14;clear c14
      by_cases c15 : 0≤x5_2
      rotate_left
      ·rw [if_neg c15] at H
       exact absurd H (by simp)
      rw [if_pos c15] at H
      have c15b0 : decide (0≤x5_2)=true:=dt_ c15;clear c15
      by_cases c16 : x5_2<(l1_0.length : Int)
      rotate_left
      ·rw [if_neg c16] at H
       exact absurd H (by simp)
      rw [if_pos c16] at H
      have c16b0 : decide (x5_2<(l1_0.length : Int))=true:=dt_ c16;clear c16
      by_cases c17 : (rd l0_0 x5_2)=(rd l1_0 x5_2)
      rotate_left
      ·rw [if_neg c17] at H
       have c17b0 : ((rd l0_0 x5_2) == (rd l1_0 x5_2))=false:=beq_eq_false_iff_ne.mpr c17;have c17b1 : ((rd l0_0 x5_2) != (rd l1_0 x5_2))=true:=bne_iff_ne.mpr c17;obtain rfl:=Option.some.inj H;have hnb21:=NB450_451.out;have hnc21:=NB451_450.out;have z22_0 : wr.cell? ⟨gb450,0,none⟩=some (.slice A0_0 l0_0.length c0_0):=(bc_ BK450.out 0).trans rfl;have z22_1 : wr.cell? ⟨gb450,1,none⟩=some (.slice A0_1 l0_1.length c0_1):=(bc_ BK450.out 1).trans rfl;have y22_0:=bf_ BK450.out 0;have y22_1:=bf_ BK450.out 1
       try go_wp2
       have n0_:=A_ (ke_ BK450.out);have n1_:=A_ (ke_ BK451.out);have n2_:=A_ (be_ HB.out);clear BK450;clear BK451;clear HB;have BK450:=n0_;have BK451:=n1_;have HB:=n2_;clear n0_ n1_ n2_
       have p452 : 0≤(x5_2 : Int):=od_ (by first|(with_reducible assumption)|assumption)
       have q452 : x5_2<(l0_0.length : Int):=od_ (by first|(with_reducible assumption)|assumption)
       obtain ⟨ad452,e452,hx452_0⟩:=Kd.at_int HR0_0.out x5_2 p452 q452;have hw452_0:=hx452_0
       cases e452
       replace hx452_0:=(HB.out.cell (wb_ w _ hx452_0)).trans hx452_0;replace p452:=eq_true p452;replace q452:=eq_true q452
       have p453 : 0≤(x5_2 : Int):=od_ (by first|(with_reducible assumption)|assumption)
       have q453 : x5_2<(l1_0.length : Int):=od_ (by first|(with_reducible assumption)|assumption)
       obtain ⟨ad453,e453,hx453_0⟩:=Kd.at_int HR1_0.out x5_2 p453 q453;have hw453_0:=hx453_0
       cases e453
       replace hx453_0:=(HB.out.cell (wb_ w _ hx453_0)).trans hx453_0;replace p453:=eq_true p453;replace q453:=eq_true q453
       refine start_ (n:=11) (S:=fun w'=>w'.cell? ⟨gb450,0,none⟩=some (.slice (some ad452) l0_0.length c0_0)∧w'.cell? ⟨gb450,1,none⟩=some (.slice A0_1 l0_1.length c0_1)∧w'.cell? ⟨gb451,0,none⟩=some (.slice (some ad453) l1_0.length c1_0)∧w'.cell? ⟨gb451,1,none⟩=some (.slice A1_1 l1_1.length c1_1)∧w'.cell? (ad452.add (x5_2).toNat)=some (.int .i64 (rd l0_0 x5_2))∧w'.cell? (ad453.add (x5_2).toNat)=some (.int .i64 (rd l1_0 x5_2))) (ds:=[]) #[Z,Z,Z,Z,Z,Z,Z,Z,Z,Z,Z] (by kernel_rfl) rfl rfl ⟨(bc_ BK450.out 0).trans rfl,(bc_ BK450.out 1).trans rfl,(bc_ BK451.out 0).trans rfl,(bc_ BK451.out 1).trans rfl,((HB.out.cell (wb_ w _ hw452_0)).trans hw452_0),((HB.out.cell (wb_ w _ hw453_0)).trans hw453_0)⟩ (fun hHeld=>?_);refine with_tabW humusref08_Same.tab6 humusref08_Same.bits6 (fun HT_ HW_=>?_)
       generalize wr.drew=w23 at BK450 BK451 HB hx452_0 hx453_0 hHeld ⊢
       refine pu_ (i:=0) (N:=some 30) (v:=?_) (a':=?_) #[Y,Z,Z,Z,Z,Z,Z,Z,Z,Z,Z] rfl rfl HT_.out (by kernel_rfl) (fun _ _ _ h=>h) (by rfl) ?_ ?_ ?_;rotate_left;(intro w';go_simp;with_reducible rfl);rotate_left;(simp only [Act.put,q1_,q2_,q3_,i64_w,i32_w];rfl)
       refine pu_ (i:=2) (N:=some 32) (v:=?_) (a':=?_) #[Y,Z,Y,Z,Z,Z,Z,Z,Z,Z,Z] rfl rfl HT_.out (by kernel_rfl) (fun _ _ _ h=>h) (by rfl) ?_ ?_ ?_;rotate_left;(intro w';go_simp;with_reducible rfl);rotate_left;(simp only [Act.put,q1_,q2_,q3_,i64_w,i32_w];rfl)
       refine pu_ (i:=5) (N:=some 35) (v:=?_) (a':=?_) #[Y,Z,Y,Z,Z,Y,Z,Z,Z,Z,Z] rfl rfl HT_.out (by kernel_rfl) (fun _ _ _ h=>h) (by rfl) ?_ ?_ ?_;rotate_left;(intro w';go_simp;with_reducible rfl);rotate_left;(simp only [Act.put,q1_,q2_,q3_,i64_w,i32_w];rfl)
       refine pu_ (i:=7) (N:=some 37) (v:=?_) (a':=?_) #[Y,Z,Y,Z,Z,Y,Z,Y,Z,Z,Z] rfl rfl HT_.out (by kernel_rfl) (fun _ _ _ h=>h) (by rfl) ?_ ?_ ?_;rotate_left;(intro w';go_simp;with_reducible rfl);rotate_left;(simp only [Act.put,q1_,q2_,q3_,i64_w,i32_w];rfl)
       refine ta_ (i:=1) (N:=some 31) (v:=?_) (a':=?_) #[Y,Y,Y,Z,Z,Y,Z,Y,Z,Z,Z] rfl rfl HT_.out HW_.out (by kernel_rfl) (fun _ _ _ h=>h) (by rfl) ?_ hHeld ?_ ?_;rotate_left;(rintro w' ⟨s0,s1,s2,s3,s4,s5⟩;go_simp;with_reducible rfl);rotate_left;(simp only [Act.put,q1_,q2_,q3_,i64_w,i32_w];rfl)
       refine pu_ (i:=3) (N:=some 33) (v:=?_) (a':=?_) #[Y,Y,Y,Y,Z,Y,Z,Y,Z,Z,Z] rfl rfl HT_.out (by kernel_rfl) (fun _ _ _ h=>h) (by rfl) ?_ ?_ ?_;rotate_left;(intro w';go_simp;with_reducible rfl);rotate_left;(simp only [Act.put,q1_,q2_,q3_,i64_w,i32_w];rfl)
       refine ta_ (i:=4) (N:=some 34) (v:=?_) (a':=?_) #[Y,Y,Y,Y,Y,Y,Z,Y,Z,Z,Z] rfl rfl HT_.out HW_.out (by kernel_rfl) (fun _ _ _ h=>h) (by rfl) ?_ hHeld ?_ ?_;rotate_left;(rintro w' ⟨s0,s1,s2,s3,s4,s5⟩;go_simp;with_reducible rfl);rotate_left;(simp only [Act.put,q1_,q2_,q3_,i64_w,i32_w];rfl)
       refine ta_ (i:=6) (N:=some 36) (v:=?_) (a':=?_) #[Y,Y,Y,Y,Y,Y,Y,Y,Z,Z,Z] rfl rfl HT_.out HW_.out (by kernel_rfl) (fun _ _ _ h=>h) (by rfl) ?_ hHeld ?_ ?_;rotate_left;(rintro w' ⟨s0,s1,s2,s3,s4,s5⟩;go_simp;with_reducible rfl);rotate_left;(simp only [Act.put,q1_,q2_,q3_,i64_w,i32_w];rfl)
       refine pu_ (i:=8) (N:=some 38) (v:=?_) (a':=?_) #[Y,Y,Y,Y,Y,Y,Y,Y,Y,Z,Z] rfl rfl HT_.out (by kernel_rfl) (fun _ _ _ h=>h) (by rfl) ?_ ?_ ?_;rotate_left;(intro w';go_simp;with_reducible rfl);rotate_left;(simp only [Act.put,q1_,q2_,q3_,i64_w,i32_w];rfl)
       refine ta_ (i:=9) (N:=some 39) (v:=?_) (a':=?_) #[Y,Y,Y,Y,Y,Y,Y,Y,Y,Y,Z] rfl rfl HT_.out HW_.out (by kernel_rfl) (fun _ _ _ h=>h) (by rfl) ?_ hHeld ?_ ?_;rotate_left;(rintro w' ⟨s0,s1,s2,s3,s4,s5⟩;go_simp;with_reducible rfl);rotate_left;(simp only [Act.put,q1_,q2_,q3_,i64_w,i32_w];rfl)
       refine pu_ (i:=10) (N:=some 40) (v:=?_) (a':=?_) #[Y,Y,Y,Y,Y,Y,Y,Y,Y,Y,Y] rfl rfl HT_.out (by kernel_rfl) (fun _ _ _ h=>h) (by rfl) ?_ ?_ ?_;rotate_left;(intro w';go_simp;with_reducible rfl);rotate_left;(simp only [Act.put,q1_,q2_,q3_,i64_w,i32_w];rfl)
       refine done_ (done_of HT_.out (by kernel_rfl)) ?_
       try go_wp2
       go_ret
       exact ⟨by first|rfl|(simp [errW_none,errW_some] <;> rfl)|(simp [*,errW_none,errW_some] <;> rfl),hb2_ HB.out GE450.out GE451.out⟩
      rw [if_pos c17] at H
      have c17b0 : ((rd l0_0 x5_2) == (rd l1_0 x5_2))=true:=beq_iff_eq.mpr c17;have c17b1 : ((rd l0_0 x5_2) != (rd l1_0 x5_2))=false:=bne_eq_false_iff_eq.mpr c17;clear c17;have H':=A_ H;clear H;have hnb18:=NB450_451.out;have hnc18:=NB451_450.out;have z19_0 : wr.cell? ⟨gb450,0,none⟩=some (.slice A0_0 l0_0.length c0_0):=(bc_ BK450.out 0).trans rfl;have z19_1 : wr.cell? ⟨gb450,1,none⟩=some (.slice A0_1 l0_1.length c0_1):=(bc_ BK450.out 1).trans rfl;have y19_0:=bf_ BK450.out 0;have y19_1:=bf_ BK450.out 1
      try go_wp2
      have n0_:=A_ (ke_ BK450.out);have n1_:=A_ (ke_ BK451.out);have n2_:=A_ (be_ HB.out);clear BK450;clear BK451;clear HB;have BK450:=n0_;have BK451:=n1_;have HB:=n2_;clear n0_ n1_ n2_
      have p452 : 0≤(x5_2 : Int):=od_ (by first|(with_reducible assumption)|assumption)
      have q452 : x5_2<(l0_0.length : Int):=od_ (by first|(with_reducible assumption)|assumption)
      obtain ⟨ad452,e452,hx452_0⟩:=Kd.at_int HR0_0.out x5_2 p452 q452;have hw452_0:=hx452_0
      cases e452
      replace hx452_0:=(HB.out.cell (wb_ w _ hx452_0)).trans hx452_0;replace p452:=eq_true p452;replace q452:=eq_true q452
      have p453 : 0≤(x5_2 : Int):=od_ (by first|(with_reducible assumption)|assumption)
      have q453 : x5_2<(l1_0.length : Int):=od_ (by first|(with_reducible assumption)|assumption)
      obtain ⟨ad453,e453,hx453_0⟩:=Kd.at_int HR1_0.out x5_2 p453 q453;have hw453_0:=hx453_0
      cases e453
      replace hx453_0:=(HB.out.cell (wb_ w _ hx453_0)).trans hx453_0;replace p453:=eq_true p453;replace q453:=eq_true q453
      refine start_ (n:=11) (S:=fun w'=>w'.cell? ⟨gb450,0,none⟩=some (.slice (some ad452) l0_0.length c0_0)∧w'.cell? ⟨gb450,1,none⟩=some (.slice A0_1 l0_1.length c0_1)∧w'.cell? ⟨gb451,0,none⟩=some (.slice (some ad453) l1_0.length c1_0)∧w'.cell? ⟨gb451,1,none⟩=some (.slice A1_1 l1_1.length c1_1)∧w'.cell? (ad452.add (x5_2).toNat)=some (.int .i64 (rd l0_0 x5_2))∧w'.cell? (ad453.add (x5_2).toNat)=some (.int .i64 (rd l1_0 x5_2))) (ds:=[]) #[Z,Z,Z,Z,Z,Z,Z,Z,Z,Z,Z] (by kernel_rfl) rfl rfl ⟨(bc_ BK450.out 0).trans rfl,(bc_ BK450.out 1).trans rfl,(bc_ BK451.out 0).trans rfl,(bc_ BK451.out 1).trans rfl,((HB.out.cell (wb_ w _ hw452_0)).trans hw452_0),((HB.out.cell (wb_ w _ hw453_0)).trans hw453_0)⟩ (fun hHeld=>?_);refine with_tabW humusref08_Same.tab6 humusref08_Same.bits6 (fun HT_ HW_=>?_)
      generalize wr.drew=w20 at BK450 BK451 HB hx452_0 hx453_0 hHeld ⊢
      refine pu_ (i:=0) (N:=some 30) (v:=?_) (a':=?_) #[Y,Z,Z,Z,Z,Z,Z,Z,Z,Z,Z] rfl rfl HT_.out (by kernel_rfl) (fun _ _ _ h=>h) (by rfl) ?_ ?_ ?_;rotate_left;(intro w';go_simp;with_reducible rfl);rotate_left;(simp only [Act.put,q1_,q2_,q3_,i64_w,i32_w];rfl)
      refine pu_ (i:=2) (N:=some 32) (v:=?_) (a':=?_) #[Y,Z,Y,Z,Z,Z,Z,Z,Z,Z,Z] rfl rfl HT_.out (by kernel_rfl) (fun _ _ _ h=>h) (by rfl) ?_ ?_ ?_;rotate_left;(intro w';go_simp;with_reducible rfl);rotate_left;(simp only [Act.put,q1_,q2_,q3_,i64_w,i32_w];rfl)
      refine pu_ (i:=5) (N:=some 35) (v:=?_) (a':=?_) #[Y,Z,Y,Z,Z,Y,Z,Z,Z,Z,Z] rfl rfl HT_.out (by kernel_rfl) (fun _ _ _ h=>h) (by rfl) ?_ ?_ ?_;rotate_left;(intro w';go_simp;with_reducible rfl);rotate_left;(simp only [Act.put,q1_,q2_,q3_,i64_w,i32_w];rfl)
      refine pu_ (i:=7) (N:=some 37) (v:=?_) (a':=?_) #[Y,Z,Y,Z,Z,Y,Z,Y,Z,Z,Z] rfl rfl HT_.out (by kernel_rfl) (fun _ _ _ h=>h) (by rfl) ?_ ?_ ?_;rotate_left;(intro w';go_simp;with_reducible rfl);rotate_left;(simp only [Act.put,q1_,q2_,q3_,i64_w,i32_w];rfl)
      refine ta_ (i:=1) (N:=some 31) (v:=?_) (a':=?_) #[Y,Y,Y,Z,Z,Y,Z,Y,Z,Z,Z] rfl rfl HT_.out HW_.out (by kernel_rfl) (fun _ _ _ h=>h) (by rfl) ?_ hHeld ?_ ?_;rotate_left;(rintro w' ⟨s0,s1,s2,s3,s4,s5⟩;go_simp;with_reducible rfl);rotate_left;(simp only [Act.put,q1_,q2_,q3_,i64_w,i32_w];rfl)
      refine pu_ (i:=3) (N:=some 33) (v:=?_) (a':=?_) #[Y,Y,Y,Y,Z,Y,Z,Y,Z,Z,Z] rfl rfl HT_.out (by kernel_rfl) (fun _ _ _ h=>h) (by rfl) ?_ ?_ ?_;rotate_left;(intro w';go_simp;with_reducible rfl);rotate_left;(simp only [Act.put,q1_,q2_,q3_,i64_w,i32_w];rfl)
      refine ta_ (i:=4) (N:=some 34) (v:=?_) (a':=?_) #[Y,Y,Y,Y,Y,Y,Z,Y,Z,Z,Z] rfl rfl HT_.out HW_.out (by kernel_rfl) (fun _ _ _ h=>h) (by rfl) ?_ hHeld ?_ ?_;rotate_left;(rintro w' ⟨s0,s1,s2,s3,s4,s5⟩;go_simp;with_reducible rfl);rotate_left;(simp only [Act.put,q1_,q2_,q3_,i64_w,i32_w];rfl)
      refine ta_ (i:=6) (N:=some 36) (v:=?_) (a':=?_) #[Y,Y,Y,Y,Y,Y,Y,Y,Z,Z,Z] rfl rfl HT_.out HW_.out (by kernel_rfl) (fun _ _ _ h=>h) (by rfl) ?_ hHeld ?_ ?_;rotate_left;(rintro w' ⟨s0,s1,s2,s3,s4,s5⟩;go_simp;with_reducible rfl);rotate_left;(simp only [Act.put,q1_,q2_,q3_,i64_w,i32_w];rfl)
      refine pu_ (i:=8) (N:=some 38) (v:=?_) (a':=?_) #[Y,Y,Y,Y,Y,Y,Y,Y,Y,Z,Z] rfl rfl HT_.out (by kernel_rfl) (fun _ _ _ h=>h) (by rfl) ?_ ?_ ?_;rotate_left;(intro w';go_simp;with_reducible rfl);rotate_left;(simp only [Act.put,q1_,q2_,q3_,i64_w,i32_w];rfl)
      refine ta_ (i:=9) (N:=some 39) (v:=?_) (a':=?_) #[Y,Y,Y,Y,Y,Y,Y,Y,Y,Y,Z] rfl rfl HT_.out HW_.out (by kernel_rfl) (fun _ _ _ h=>h) (by rfl) ?_ hHeld ?_ ?_;rotate_left;(rintro w' ⟨s0,s1,s2,s3,s4,s5⟩;go_simp;with_reducible rfl);rotate_left;(simp only [Act.put,q1_,q2_,q3_,i64_w,i32_w];rfl)
      refine pu_ (i:=10) (N:=some 40) (v:=?_) (a':=?_) #[Y,Y,Y,Y,Y,Y,Y,Y,Y,Y,Y] rfl rfl HT_.out (by kernel_rfl) (fun _ _ _ h=>h) (by rfl) ?_ ?_ ?_;rotate_left;(intro w';go_simp;with_reducible rfl);rotate_left;(simp only [Act.put,q1_,q2_,q3_,i64_w,i32_w];rfl)
      refine done_ (done_of HT_.out (by kernel_rfl)) ?_
      try go_wp2
      go_roundg k2
      case measure=>have:=HJ2.out;have:=HK2.out;omega
      case rel=>exact ⟨(wrap64 (x5_2 + 1)),(by first|rfl|(simp;done)|(simp [*];done)),H',⟨by have:=HJ2.out;have:=HK2.out;omega⟩,⟨by exact kk_ BK450.out⟩,⟨by exact kk_ BK451.out⟩,⟨hb2_ HB.out GE450.out GE451.out⟩⟩
     rw [if_neg c14] at H
     have c14b0 : decide (x5_2<(l0_0.length : Int))=false:=df_ c14;clear c14;have H':=A_ H;clear H;have hnb24:=NB450_451.out;have hnc24:=NB451_450.out;have z25_0 : wr.cell? ⟨gb450,0,none⟩=some (.slice A0_0 l0_0.length c0_0):=(bc_ BK450.out 0).trans rfl;have z25_1 : wr.cell? ⟨gb450,1,none⟩=some (.slice A0_1 l0_1.length c0_1):=(bc_ BK450.out 1).trans rfl;have y25_0:=bf_ BK450.out 0;have y25_1:=bf_ BK450.out 1;go_wp2
     go_loopg [6] k2 (fun kq v6 w'=>∃ (x6_3 : Int),v6=.int .i64 x6_3∧Aside0 (humusref08_Same.l1 kq x6_3 l0_0 l0_1 l1_0 l1_1=some r)∧Aside0 (kq≤k2)∧Aside0 (w'.heap[gb450]?=some (.cells #[(.slice A0_0 l0_0.length c0_0),(.slice A0_1 l0_1.length c0_1)] 27 (0,0)))∧Aside0 (w'.heap[gb451]?=some (.cells #[(.slice A1_0 l1_0.length c1_0),(.slice A1_1 l1_1.length c1_1)] 27 (0,0)))∧Aside0 (Below w.heap.size w w'))
     case atStart=>exact ⟨(0),(by first|rfl|(simp;done)|(simp [*];done)),H',⟨Nat.le_refl _⟩,⟨by exact kk_ BK450.out⟩,⟨by exact kk_ BK451.out⟩,⟨hb2_ HB.out GE450.out GE451.out⟩⟩
     case round =>
      clear H';(try clear c1);(try clear c2);(try clear p2);(try clear p4);(try clear q4);(try clear hx4);(try clear c6);(try clear c6b0);(try clear c6b1);(try clear c6b2);(try clear p6);(try clear c7);(try clear c10);(try clear c11);(try clear c13);(try clear c14);(try clear c14b0);(try clear c15);(try clear c15b0);(try clear c16);(try clear c16b0);(try clear c17);(try clear c17b0);(try clear c17b1);(try clear c18);(try clear c21);(try clear c24);(try clear hx452_0);(try clear hx453_0);(try clear p2);(try clear p452);(try clear p453);(try clear q452);(try clear q453);(try clear z11_0 z11_1 z12_0 z12_1 z19_0 z19_1 z22_0 z22_1 z25_0 z25_1 z8_0 z8_1 z9_0 z9_1 y11_0 y11_1 y12_0 y12_1 y19_0 y19_1 y22_0 y22_1 y25_0 y25_1 y8_0 y8_1 y9_0 y9_1);obtain ⟨x6_3,rfl,HA,HK3,BK450,BK451,HB⟩:=hrel
      cases gk with
      | zero=>exact absurd HA.out (by simp [humusref08_Same.l1])
      | succ k3 =>
       have H:=HA.out;clear HA
       simp only [humusref08_Same.l1] at H
       by_cases c26 : x6_3<(l0_1.length : Int)
       rotate_left
       ·rw [if_neg c26] at H
        have c26b0 : decide (x6_3<(l0_1.length : Int))=false:=df_ c26;clear c26;obtain rfl:=Option.some.inj H;have hnb36:=NB450_451.out;have hnc36:=NB451_450.out;have z37_0 : wr.cell? ⟨gb450,0,none⟩=some (.slice A0_0 l0_0.length c0_0):=(bc_ BK450.out 0).trans rfl;have z37_1 : wr.cell? ⟨gb450,1,none⟩=some (.slice A0_1 l0_1.length c0_1):=(bc_ BK450.out 1).trans rfl;have y37_0:=bf_ BK450.out 0;have y37_1:=bf_ BK450.out 1;go_wp2;go_ret
        exact ⟨by first|rfl|(simp [errW_none,errW_some] <;> rfl)|(simp [*,errW_none,errW_some] <;> rfl),hb2_ HB.out GE450.out GE451.out⟩
       rw [if_pos c26] at H
       have c26b0 : decide (x6_3<(l0_1.length : Int))=true:=dt_ c26;clear c26
       by_cases c27 : 0≤x6_3
       rotate_left
       ·rw [if_neg c27] at H
        exact absurd H (by simp)
       rw [if_pos c27] at H
       have c27b0 : decide (0≤x6_3)=true:=dt_ c27;clear c27
       by_cases c28 : x6_3<(l1_1.length : Int)
       rotate_left
       ·rw [if_neg c28] at H
        exact absurd H (by simp)
       rw [if_pos c28] at H
       have c28b0 : decide (x6_3<(l1_1.length : Int))=true:=dt_ c28;clear c28
       by_cases c29 : (strOfNums (rd_L2 l0_1 x6_3)).toList=(strOfNums (rd_L2 l1_1 x6_3)).toList
       rotate_left
       ·rw [if_neg c29] at H
        have c29b0 : ((strOfNums (rd_L2 l0_1 x6_3)).toList == (strOfNums (rd_L2 l1_1 x6_3)).toList)=false:=beq_eq_false_iff_ne.mpr c29;have c29b1 : ((strOfNums (rd_L2 l0_1 x6_3)).toList != (strOfNums (rd_L2 l1_1 x6_3)).toList)=true:=bne_iff_ne.mpr c29;obtain rfl:=Option.some.inj H;have hnb33:=NB450_451.out;have hnc33:=NB451_450.out;have z34_0 : wr.cell? ⟨gb450,0,none⟩=some (.slice A0_0 l0_0.length c0_0):=(bc_ BK450.out 0).trans rfl;have z34_1 : wr.cell? ⟨gb450,1,none⟩=some (.slice A0_1 l0_1.length c0_1):=(bc_ BK450.out 1).trans rfl;have y34_0:=bf_ BK450.out 0;have y34_1:=bf_ BK450.out 1
        try go_wp2
        have n0_:=A_ (ke_ BK450.out);have n1_:=A_ (ke_ BK451.out);have n2_:=A_ (be_ HB.out);clear BK450;clear BK451;clear HB;have BK450:=n0_;have BK451:=n1_;have HB:=n2_;clear n0_ n1_ n2_
        have p454 : 0≤(x6_3 : Int):=od_ (by first|(with_reducible assumption)|assumption)
        have q454 : x6_3<(l0_1.length : Int):=od_ (by first|(with_reducible assumption)|assumption)
        obtain ⟨ad454,A454_0,c454_0,e454,hx454_0,hl454_0,hi454_0⟩:=at_L2 HR0_1.out x6_3 p454 q454;have hw454_0:=hx454_0
        cases e454
        replace hx454_0:=(HB.out.cell (wb_ w _ hx454_0)).trans hx454_0;have HR454_0:=A_ hi454_0;have HC454_0:=A_ hl454_0;clear hi454_0 hl454_0;replace p454:=eq_true p454;replace q454:=eq_true q454
        have p455 : 0≤(x6_3 : Int):=od_ (by first|(with_reducible assumption)|assumption)
        have q455 : x6_3<(l1_1.length : Int):=od_ (by first|(with_reducible assumption)|assumption)
        obtain ⟨ad455,A455_0,c455_0,e455,hx455_0,hl455_0,hi455_0⟩:=at_L2 HR1_1.out x6_3 p455 q455;have hw455_0:=hx455_0
        cases e455
        replace hx455_0:=(HB.out.cell (wb_ w _ hx455_0)).trans hx455_0;have HR455_0:=A_ hi455_0;have HC455_0:=A_ hl455_0;clear hi455_0 hl455_0;replace p455:=eq_true p455;replace q455:=eq_true q455
        refine start_ (n:=13) (S:=fun w'=>w'.cell? ⟨gb450,0,none⟩=some (.slice A0_0 l0_0.length c0_0)∧w'.cell? ⟨gb450,1,none⟩=some (.slice (some ad454) l0_1.length c0_1)∧w'.cell? ⟨gb451,0,none⟩=some (.slice A1_0 l1_0.length c1_0)∧w'.cell? ⟨gb451,1,none⟩=some (.slice (some ad455) l1_1.length c1_1)∧w'.cell? (ad454.add (x6_3).toNat)=some (.slice A454_0 (rd_L2 l0_1 x6_3).length c454_0)∧(convert 22 9 (.slice A454_0 (rd_L2 l0_1 x6_3).length c454_0)).run Try.prog w'=.ok (.string (strOfNums (rd_L2 l0_1 x6_3))) w'∧w'.cell? (ad455.add (x6_3).toNat)=some (.slice A455_0 (rd_L2 l1_1 x6_3).length c455_0)∧(convert 22 9 (.slice A455_0 (rd_L2 l1_1 x6_3).length c455_0)).run Try.prog w'=.ok (.string (strOfNums (rd_L2 l1_1 x6_3))) w') (ds:=[]) #[Z,Z,Z,Z,Z,Z,Z,Z,Z,Z,Z,Z,Z] (by kernel_rfl) rfl rfl ⟨(bc_ BK450.out 0).trans rfl,(bc_ BK450.out 1).trans rfl,(bc_ BK451.out 0).trans rfl,(bc_ BK451.out 1).trans rfl,((HB.out.cell (wb_ w _ hw454_0)).trans hw454_0),Kd.C_string (P:=Try.prog) (A:=A454_0) (c:=c454_0) Try.underlying22 Try.underlying5 Try.underlying9 (Kd.C_below HR454_0.out HB.out),((HB.out.cell (wb_ w _ hw455_0)).trans hw455_0),Kd.C_string (P:=Try.prog) (A:=A455_0) (c:=c455_0) Try.underlying22 Try.underlying5 Try.underlying9 (Kd.C_below HR455_0.out HB.out)⟩ (fun hHeld=>?_);refine with_tabW humusref08_Same.tab11 humusref08_Same.bits11 (fun HT_ HW_=>?_)
        generalize wr.drew=w35 at BK450 BK451 HB HR454_0 HR455_0 hx454_0 hx455_0 hHeld ⊢
        refine pu_ (i:=0) (N:=some 48) (v:=?_) (a':=?_) #[Y,Z,Z,Z,Z,Z,Z,Z,Z,Z,Z,Z,Z] rfl rfl HT_.out (by kernel_rfl) (fun _ _ _ h=>h) (by rfl) ?_ ?_ ?_;rotate_left;(intro w';go_simp;with_reducible rfl);rotate_left;(simp only [Act.put,q1_,q2_,q3_,i64_w,i32_w];rfl)
        refine pu_ (i:=2) (N:=some 50) (v:=?_) (a':=?_) #[Y,Z,Y,Z,Z,Z,Z,Z,Z,Z,Z,Z,Z] rfl rfl HT_.out (by kernel_rfl) (fun _ _ _ h=>h) (by rfl) ?_ ?_ ?_;rotate_left;(intro w';go_simp;with_reducible rfl);rotate_left;(simp only [Act.put,q1_,q2_,q3_,i64_w,i32_w];rfl)
        refine pu_ (i:=6) (N:=some 54) (v:=?_) (a':=?_) #[Y,Z,Y,Z,Z,Z,Y,Z,Z,Z,Z,Z,Z] rfl rfl HT_.out (by kernel_rfl) (fun _ _ _ h=>h) (by rfl) ?_ ?_ ?_;rotate_left;(intro w';go_simp;with_reducible rfl);rotate_left;(simp only [Act.put,q1_,q2_,q3_,i64_w,i32_w];rfl)
        refine pu_ (i:=8) (N:=some 56) (v:=?_) (a':=?_) #[Y,Z,Y,Z,Z,Z,Y,Z,Y,Z,Z,Z,Z] rfl rfl HT_.out (by kernel_rfl) (fun _ _ _ h=>h) (by rfl) ?_ ?_ ?_;rotate_left;(intro w';go_simp;with_reducible rfl);rotate_left;(simp only [Act.put,q1_,q2_,q3_,i64_w,i32_w];rfl)
        refine ta_ (i:=1) (N:=some 49) (v:=?_) (a':=?_) #[Y,Y,Y,Z,Z,Z,Y,Z,Y,Z,Z,Z,Z] rfl rfl HT_.out HW_.out (by kernel_rfl) (fun _ _ _ h=>h) (by rfl) ?_ hHeld ?_ ?_;rotate_left;(rintro w' ⟨s0,s1,s2,s3,s4,s5,s6,s7⟩;go_simp;with_reducible rfl);rotate_left;(simp only [Act.put,q1_,q2_,q3_,i64_w,i32_w];rfl)
        refine pu_ (i:=3) (N:=some 51) (v:=?_) (a':=?_) #[Y,Y,Y,Y,Z,Z,Y,Z,Y,Z,Z,Z,Z] rfl rfl HT_.out (by kernel_rfl) (fun _ _ _ h=>h) (by rfl) ?_ ?_ ?_;rotate_left;(intro w';go_simp;with_reducible rfl);rotate_left;(simp only [Act.put,q1_,q2_,q3_,i64_w,i32_w];rfl)
        refine ta_ (i:=4) (N:=some 52) (v:=?_) (a':=?_) #[Y,Y,Y,Y,Y,Z,Y,Z,Y,Z,Z,Z,Z] rfl rfl HT_.out HW_.out (by kernel_rfl) (fun _ _ _ h=>h) (by rfl) ?_ hHeld ?_ ?_;rotate_left;(rintro w' ⟨s0,s1,s2,s3,s4,s5,s6,s7⟩;go_simp;with_reducible rfl);rotate_left;(simp only [Act.put,q1_,q2_,q3_,i64_w,i32_w];rfl)
        refine ta_ (i:=5) (N:=some 53) (v:=?_) (a':=?_) #[Y,Y,Y,Y,Y,Y,Y,Z,Y,Z,Z,Z,Z] rfl rfl HT_.out HW_.out (by kernel_rfl) (fun _ _ _ h=>h) (by rfl) ?_ hHeld ?_ ?_;rotate_left;(rintro w' ⟨s0,s1,s2,s3,s4,s5,s6,s7⟩;go_simp;with_reducible rfl);rotate_left;(simp only [Act.put,q1_,q2_,q3_,i64_w,i32_w];rfl)
        refine ta_ (i:=7) (N:=some 55) (v:=?_) (a':=?_) #[Y,Y,Y,Y,Y,Y,Y,Y,Y,Z,Z,Z,Z] rfl rfl HT_.out HW_.out (by kernel_rfl) (fun _ _ _ h=>h) (by rfl) ?_ hHeld ?_ ?_;rotate_left;(rintro w' ⟨s0,s1,s2,s3,s4,s5,s6,s7⟩;go_simp;with_reducible rfl);rotate_left;(simp only [Act.put,q1_,q2_,q3_,i64_w,i32_w];rfl)
        refine pu_ (i:=9) (N:=some 57) (v:=?_) (a':=?_) #[Y,Y,Y,Y,Y,Y,Y,Y,Y,Y,Z,Z,Z] rfl rfl HT_.out (by kernel_rfl) (fun _ _ _ h=>h) (by rfl) ?_ ?_ ?_;rotate_left;(intro w';go_simp;with_reducible rfl);rotate_left;(simp only [Act.put,q1_,q2_,q3_,i64_w,i32_w];rfl)
        refine ta_ (i:=10) (N:=some 58) (v:=?_) (a':=?_) #[Y,Y,Y,Y,Y,Y,Y,Y,Y,Y,Y,Z,Z] rfl rfl HT_.out HW_.out (by kernel_rfl) (fun _ _ _ h=>h) (by rfl) ?_ hHeld ?_ ?_;rotate_left;(rintro w' ⟨s0,s1,s2,s3,s4,s5,s6,s7⟩;go_simp;with_reducible rfl);rotate_left;(simp only [Act.put,q1_,q2_,q3_,i64_w,i32_w];rfl)
        refine ta_ (i:=11) (N:=some 59) (v:=?_) (a':=?_) #[Y,Y,Y,Y,Y,Y,Y,Y,Y,Y,Y,Y,Z] rfl rfl HT_.out HW_.out (by kernel_rfl) (fun _ _ _ h=>h) (by rfl) ?_ hHeld ?_ ?_;rotate_left;(rintro w' ⟨s0,s1,s2,s3,s4,s5,s6,s7⟩;go_simp;with_reducible rfl);rotate_left;(simp only [Act.put,q1_,q2_,q3_,i64_w,i32_w];rfl)
        refine pu_ (i:=12) (N:=some 60) (v:=?_) (a':=?_) #[Y,Y,Y,Y,Y,Y,Y,Y,Y,Y,Y,Y,Y] rfl rfl HT_.out (by kernel_rfl) (fun _ _ _ h=>h) (by rfl) ?_ ?_ ?_;rotate_left;(intro w';go_simp;with_reducible rfl);rotate_left;(simp only [Act.put,q1_,q2_,q3_,i64_w,i32_w];rfl)
        refine done_ (done_of HT_.out (by kernel_rfl)) ?_
        try go_wp2
        go_ret
        exact ⟨by first|rfl|(simp [errW_none,errW_some] <;> rfl)|(simp [*,errW_none,errW_some] <;> rfl),hb2_ HB.out GE450.out GE451.out⟩
       rw [if_pos c29] at H
       have c29b0 : ((strOfNums (rd_L2 l0_1 x6_3)).toList == (strOfNums (rd_L2 l1_1 x6_3)).toList)=true:=beq_iff_eq.mpr c29;have c29b1 : ((strOfNums (rd_L2 l0_1 x6_3)).toList != (strOfNums (rd_L2 l1_1 x6_3)).toList)=false:=bne_eq_false_iff_eq.mpr c29;clear c29;have H':=A_ H;clear H;have hnb30:=NB450_451.out;have hnc30:=NB451_450.out;have z31_0 : wr.cell? ⟨gb450,0,none⟩=some (.slice A0_0 l0_0.length c0_0):=(bc_ BK450.out 0).trans rfl;have z31_1 : wr.cell? ⟨gb450,1,none⟩=some (.slice A0_1 l0_1.length c0_1):=(bc_ BK450.out 1).trans rfl;have y31_0:=bf_ BK450.out 0;have y31_1:=bf_ BK450.out 1
       try go_wp2
       have n0_:=A_ (ke_ BK450.out);have n1_:=A_ (ke_ BK451.out);have n2_:=A_ (be_ HB.out);clear BK450;clear BK451;clear HB;have BK450:=n0_;have BK451:=n1_;have HB:=n2_;clear n0_ n1_ n2_
       have p454 : 0≤(x6_3 : Int):=od_ (by first|(with_reducible assumption)|assumption)
       have q454 : x6_3<(l0_1.length : Int):=od_ (by first|(with_reducible assumption)|assumption)
       obtain ⟨ad454,A454_0,c454_0,e454,hx454_0,hl454_0,hi454_0⟩:=at_L2 HR0_1.out x6_3 p454 q454;have hw454_0:=hx454_0
       cases e454
       replace hx454_0:=(HB.out.cell (wb_ w _ hx454_0)).trans hx454_0;have HR454_0:=A_ hi454_0;have HC454_0:=A_ hl454_0;clear hi454_0 hl454_0;replace p454:=eq_true p454;replace q454:=eq_true q454
       have p455 : 0≤(x6_3 : Int):=od_ (by first|(with_reducible assumption)|assumption)
       have q455 : x6_3<(l1_1.length : Int):=od_ (by first|(with_reducible assumption)|assumption)
       obtain ⟨ad455,A455_0,c455_0,e455,hx455_0,hl455_0,hi455_0⟩:=at_L2 HR1_1.out x6_3 p455 q455;have hw455_0:=hx455_0
       cases e455
       replace hx455_0:=(HB.out.cell (wb_ w _ hx455_0)).trans hx455_0;have HR455_0:=A_ hi455_0;have HC455_0:=A_ hl455_0;clear hi455_0 hl455_0;replace p455:=eq_true p455;replace q455:=eq_true q455
       refine start_ (n:=13) (S:=fun w'=>w'.cell? ⟨gb450,0,none⟩=some (.slice A0_0 l0_0.length c0_0)∧w'.cell? ⟨gb450,1,none⟩=some (.slice (some ad454) l0_1.length c0_1)∧w'.cell? ⟨gb451,0,none⟩=some (.slice A1_0 l1_0.length c1_0)∧w'.cell? ⟨gb451,1,none⟩=some (.slice (some ad455) l1_1.length c1_1)∧w'.cell? (ad454.add (x6_3).toNat)=some (.slice A454_0 (rd_L2 l0_1 x6_3).length c454_0)∧(convert 22 9 (.slice A454_0 (rd_L2 l0_1 x6_3).length c454_0)).run Try.prog w'=.ok (.string (strOfNums (rd_L2 l0_1 x6_3))) w'∧w'.cell? (ad455.add (x6_3).toNat)=some (.slice A455_0 (rd_L2 l1_1 x6_3).length c455_0)∧(convert 22 9 (.slice A455_0 (rd_L2 l1_1 x6_3).length c455_0)).run Try.prog w'=.ok (.string (strOfNums (rd_L2 l1_1 x6_3))) w') (ds:=[]) #[Z,Z,Z,Z,Z,Z,Z,Z,Z,Z,Z,Z,Z] (by kernel_rfl) rfl rfl ⟨(bc_ BK450.out 0).trans rfl,(bc_ BK450.out 1).trans rfl,(bc_ BK451.out 0).trans rfl,(bc_ BK451.out 1).trans rfl,((HB.out.cell (wb_ w _ hw454_0)).trans hw454_0),Kd.C_string (P:=Try.prog) (A:=A454_0) (c:=c454_0) Try.underlying22 Try.underlying5 Try.underlying9 (Kd.C_below HR454_0.out HB.out),((HB.out.cell (wb_ w _ hw455_0)).trans hw455_0),Kd.C_string (P:=Try.prog) (A:=A455_0) (c:=c455_0) Try.underlying22 Try.underlying5 Try.underlying9 (Kd.C_below HR455_0.out HB.out)⟩ (fun hHeld=>?_);refine with_tabW humusref08_Same.tab11 humusref08_Same.bits11 (fun HT_ HW_=>?_)
       generalize wr.drew=w32 at BK450 BK451 HB HR454_0 HR455_0 hx454_0 hx455_0 hHeld ⊢
       refine pu_ (i:=0) (N:=some 48) (v:=?_) (a':=?_) #[Y,Z,Z,Z,Z,Z,Z,Z,Z,Z,Z,Z,Z] rfl rfl HT_.out (by kernel_rfl) (fun _ _ _ h=>h) (by rfl) ?_ ?_ ?_;rotate_left;(intro w';go_simp;with_reducible rfl);rotate_left;(simp only [Act.put,q1_,q2_,q3_,i64_w,i32_w];rfl)
       refine pu_ (i:=2) (N:=some 50) (v:=?_) (a':=?_) #[Y,Z,Y,Z,Z,Z,Z,Z,Z,Z,Z,Z,Z] rfl rfl HT_.out (by kernel_rfl) (fun _ _ _ h=>h) (by rfl) ?_ ?_ ?_;rotate_left;(intro w';go_simp;with_reducible rfl);rotate_left;(simp only [Act.put,q1_,q2_,q3_,i64_w,i32_w];rfl)
       refine pu_ (i:=6) (N:=some 54) (v:=?_) (a':=?_) #[Y,Z,Y,Z,Z,Z,Y,Z,Z,Z,Z,Z,Z] rfl rfl HT_.out (by kernel_rfl) (fun _ _ _ h=>h) (by rfl) ?_ ?_ ?_;rotate_left;(intro w';go_simp;with_reducible rfl);rotate_left;(simp only [Act.put,q1_,q2_,q3_,i64_w,i32_w];rfl)
       refine pu_ (i:=8) (N:=some 56) (v:=?_) (a':=?_) #[Y,Z,Y,Z,Z,Z,Y,Z,Y,Z,Z,Z,Z] rfl rfl HT_.out (by kernel_rfl) (fun _ _ _ h=>h) (by rfl) ?_ ?_ ?_;rotate_left;(intro w';go_simp;with_reducible rfl);rotate_left;(simp only [Act.put,q1_,q2_,q3_,i64_w,i32_w];rfl)
       refine ta_ (i:=1) (N:=some 49) (v:=?_) (a':=?_) #[Y,Y,Y,Z,Z,Z,Y,Z,Y,Z,Z,Z,Z] rfl rfl HT_.out HW_.out (by kernel_rfl) (fun _ _ _ h=>h) (by rfl) ?_ hHeld ?_ ?_;rotate_left;(rintro w' ⟨s0,s1,s2,s3,s4,s5,s6,s7⟩;go_simp;with_reducible rfl);rotate_left;(simp only [Act.put,q1_,q2_,q3_,i64_w,i32_w];rfl)
       refine pu_ (i:=3) (N:=some 51) (v:=?_) (a':=?_) #[Y,Y,Y,Y,Z,Z,Y,Z,Y,Z,Z,Z,Z] rfl rfl HT_.out (by kernel_rfl) (fun _ _ _ h=>h) (by rfl) ?_ ?_ ?_;rotate_left;(intro w';go_simp;with_reducible rfl);rotate_left;(simp only [Act.put,q1_,q2_,q3_,i64_w,i32_w];rfl)
       refine ta_ (i:=4) (N:=some 52) (v:=?_) (a':=?_) #[Y,Y,Y,Y,Y,Z,Y,Z,Y,Z,Z,Z,Z] rfl rfl HT_.out HW_.out (by kernel_rfl) (fun _ _ _ h=>h) (by rfl) ?_ hHeld ?_ ?_;rotate_left;(rintro w' ⟨s0,s1,s2,s3,s4,s5,s6,s7⟩;go_simp;with_reducible rfl);rotate_left;(simp only [Act.put,q1_,q2_,q3_,i64_w,i32_w];rfl)
       refine ta_ (i:=5) (N:=some 53) (v:=?_) (a':=?_) #[Y,Y,Y,Y,Y,Y,Y,Z,Y,Z,Z,Z,Z] rfl rfl HT_.out HW_.out (by kernel_rfl) (fun _ _ _ h=>h) (by rfl) ?_ hHeld ?_ ?_;rotate_left;(rintro w' ⟨s0,s1,s2,s3,s4,s5,s6,s7⟩;go_simp;with_reducible rfl);rotate_left;(simp only [Act.put,q1_,q2_,q3_,i64_w,i32_w];rfl)
       refine ta_ (i:=7) (N:=some 55) (v:=?_) (a':=?_) #[Y,Y,Y,Y,Y,Y,Y,Y,Y,Z,Z,Z,Z] rfl rfl HT_.out HW_.out (by kernel_rfl) (fun _ _ _ h=>h) (by rfl) ?_ hHeld ?_ ?_;rotate_left;(rintro w' ⟨s0,s1,s2,s3,s4,s5,s6,s7⟩;go_simp;with_reducible rfl);rotate_left;(simp only [Act.put,q1_,q2_,q3_,i64_w,i32_w];rfl)
       refine pu_ (i:=9) (N:=some 57) (v:=?_) (a':=?_) #[Y,Y,Y,Y,Y,Y,Y,Y,Y,Y,Z,Z,Z] rfl rfl HT_.out (by kernel_rfl) (fun _ _ _ h=>h) (by rfl) ?_ ?_ ?_;rotate_left;(intro w';go_simp;with_reducible rfl);rotate_left;(simp only [Act.put,q1_,q2_,q3_,i64_w,i32_w];rfl)
       refine ta_ (i:=10) (N:=some 58) (v:=?_) (a':=?_) #[Y,Y,Y,Y,Y,Y,Y,Y,Y,Y,Y,Z,Z] rfl rfl HT_.out HW_.out (by kernel_rfl) (fun _ _ _ h=>h) (by rfl) ?_ hHeld ?_ ?_;rotate_left;(rintro w' ⟨s0,s1,s2,s3,s4,s5,s6,s7⟩;go_simp;with_reducible rfl);rotate_left;(simp only [Act.put,q1_,q2_,q3_,i64_w,i32_w];rfl)
       refine ta_ (i:=11) (N:=some 59) (v:=?_) (a':=?_) #[Y,Y,Y,Y,Y,Y,Y,Y,Y,Y,Y,Y,Z] rfl rfl HT_.out HW_.out (by kernel_rfl) (fun _ _ _ h=>h) (by rfl) ?_ hHeld ?_ ?_;rotate_left;(rintro w' ⟨s0,s1,s2,s3,s4,s5,s6,s7⟩;go_simp;with_reducible rfl);rotate_left;(simp only [Act.put,q1_,q2_,q3_,i64_w,i32_w];rfl)
       refine pu_ (i:=12) (N:=some 60) (v:=?_) (a':=?_) #[Y,Y,Y,Y,Y,Y,Y,Y,Y,Y,Y,Y,Y] rfl rfl HT_.out (by kernel_rfl) (fun _ _ _ h=>h) (by rfl) ?_ ?_ ?_;rotate_left;(intro w';go_simp;with_reducible rfl);rotate_left;(simp only [Act.put,q1_,q2_,q3_,i64_w,i32_w];rfl)
       refine done_ (done_of HT_.out (by kernel_rfl)) ?_
       try go_wp2
       go_roundg k3
       case measure=>have:=HJ2.out;have:=HK2.out;have:=HK3.out;omega
       case rel=>exact ⟨(wrap64 (x6_3 + 1)),(by first|rfl|(simp;done)|(simp [*];done)),H',⟨by have:=HJ2.out;have:=HK2.out;have:=HK3.out;omega⟩,⟨by exact kk_ BK450.out⟩,⟨by exact kk_ BK451.out⟩,⟨hb2_ HB.out GE450.out GE451.out⟩⟩
def humuslaw08_LeafDecodes.j0 : Nat→Bool→Option (Bool)
 | 0,_=>none
 | k + 1,x2=>some x2
def humuslaw08_LeafDecodes.f (k : Nat) (l0 : List Int) : Option (Bool):=if (l0.length : Int) > 2000 then ((humuslaw08_awake.f k).bind fun t456=>(some t456)) else ((some (([] : List Int) : List Int)).bind fun y457=>(if y457.length + l0.length<140737488355328 then ((leaf_Decode.f k (y457++l0)).bind fun bt463=>((humusref08_Decode.f k l0).bind fun bt471=>(if bt463.2.2=bt471.2.2 then ((humusref08_Same.f k bt463.1 bt463.2.1 bt471.1 bt471.2.1).bind fun t479=>(if t479=true then ((humuslaw08_awake.f k).bind fun t480=>(humuslaw08_LeafDecodes.j0 k t480)) else (none))) else (none)))) else (none)))
set_option maxHeartbeats 8000000 in
set_option maxRecDepth 100000 in
theorem humuslaw08_LeafDecodes.calls (k : Nat) (A0 : Option Addr) (c0 : Nat) (l0 : List Int) (r : Bool) (w : World) (hr0 : Kd.C (Kd.int .u8) w A0 l0.length l0) (hc0 : l0.length≤c0) (h : humuslaw08_LeafDecodes.f k l0=some r) :
  Calls Try.prog 3 #[.slice A0 l0.length c0] w fun e w'=>e=.returned (.bool r)∧Below w.heap.size w w':=by
 have hu27:=Try.underlying27;have HR0:=A_ hr0;have HC0:=A_ hc0;clear hr0 hc0;have HB:=A_ (Below.refl w.heap.size w)
 have H : (if (l0.length : Int) > 2000 then ((humuslaw08_awake.f k).bind fun t456=>(some t456)) else ((some (([] : List Int) : List Int)).bind fun y457=>(if y457.length + l0.length<140737488355328 then ((leaf_Decode.f k (y457++l0)).bind fun bt463=>((humusref08_Decode.f k l0).bind fun bt471=>(if bt463.2.2=bt471.2.2 then ((humusref08_Same.f k bt463.1 bt463.2.1 bt471.1 bt471.2.1).bind fun t479=>(if t479=true then ((humuslaw08_awake.f k).bind fun t480=>(humuslaw08_LeafDecodes.j0 k t480)) else (none))) else (none)))) else (none))))=some r:=h
 clear h
 by_cases c2 : (l0.length : Int) > 2000
 ·rw [if_pos c2] at H
  have c2b0 : decide (2000<(l0.length : Int))=true:=dt_ c2
  have c2b1 : decide (2000<l0.length)=true:=dt_ (by omega)
  clear c2;replace H:=Option.bind_eq_some_iff.mp H;obtain ⟨t456,A30,H⟩:=H;replace H : (some t456)=some r:=H;have A3:=A_ A30;clear A30;obtain rfl:=Option.some.inj H;go_enter Try.func3,Try.ntmps3
  go_wp2_with (first|((with_reducible refine gate_callee (f:=8) rfl ?_);refine goesL_ (some 10) rfl rfl Try.func8 (by kernel_rfl) rfl #[] rfl (by (try simp only [List.map_toArray,List.map_cons,List.map_nil]);first|done|rfl|(simp only [List.length_drop,List.length_take];rfl)) ?_;(with_reducible refine (humuslaw08_awake.calls k  t456 _ A3.out).mono ?_);rintro e w4 ⟨rfl,hb⟩;refine ⟨_,rfl,?_⟩;have n0_:=A_ (bp_ (hb0_ HB.out) hb);clear HB;have HB:=n0_;clear n0_;(try clear hb);(try clear hb2);(try clear hk);(try clear hi)))
  go_ret
  exact ⟨by first|rfl|(simp [errW_none,errW_some] <;> rfl)|(simp [*,errW_none,errW_some] <;> rfl),hb0_ HB.out⟩
 rw [if_neg c2] at H
 have c2b0 : decide (2000<(l0.length : Int))=false:=df_ c2
 have c2b1 : decide (2000<l0.length)=false:=df_ (by omega)
 clear c2
 obtain ⟨y457,hy457⟩ : ∃ y_ : List Int,y_=(([] : List Int)):=⟨_,rfl⟩
 replace H : (if y457.length + l0.length<140737488355328 then ((leaf_Decode.f k (y457++l0)).bind fun bt463=>((humusref08_Decode.f k l0).bind fun bt471=>(if bt463.2.2=bt471.2.2 then ((humusref08_Same.f k bt463.1 bt463.2.1 bt471.1 bt471.2.1).bind fun t479=>(if t479=true then ((humuslaw08_awake.f k).bind fun t480=>(humuslaw08_LeafDecodes.j0 k t480)) else (none))) else (none)))) else (none))=some r:=by first|(rw [hy457];with_reducible exact H)|(have H2_:=(Option.bind_some _ _).symm.trans H;rw [hy457];with_reducible exact H2_)|(have H2_:=(Option.bind_some _ _).symm.trans H;with_reducible exact H2_)|with_reducible exact H|(rw [hy457];exact H)|exact H
 have Ny457:=A_ hy457;clear hy457
 by_cases c5 : y457.length + l0.length<140737488355328
 rotate_left
 ·rw [if_neg c5] at H
  exact absurd H (by simp)
 rw [if_pos c5] at H
 have LMc5:=A_ c5;clear c5
 obtain ⟨y460,hy460⟩ : ∃ y_ : List Int,y_=(y457++l0):=⟨_,rfl⟩
 replace H : ((leaf_Decode.f k y460).bind fun bt463=>((humusref08_Decode.f k l0).bind fun bt471=>(if bt463.2.2=bt471.2.2 then ((humusref08_Same.f k bt463.1 bt463.2.1 bt471.1 bt471.2.1).bind fun t479=>(if t479=true then ((humuslaw08_awake.f k).bind fun t480=>(humuslaw08_LeafDecodes.j0 k t480)) else (none))) else (none))))=some r:=by first|(rw [hy460];with_reducible exact H)|(have H2_:=(Option.bind_some _ _).symm.trans H;rw [hy460];with_reducible exact H2_)|(have H2_:=(Option.bind_some _ _).symm.trans H;with_reducible exact H2_)|with_reducible exact H|(rw [hy460];exact H)|exact H
 have Ny460:=A_ hy460;clear hy460;replace H:=Option.bind_eq_some_iff.mp H;obtain ⟨⟨t463,t466,t469⟩,A60,H⟩:=H
 replace H : ((humusref08_Decode.f k l0).bind fun bt471=>(if t469=bt471.2.2 then ((humusref08_Same.f k t463 t466 bt471.1 bt471.2.1).bind fun t479=>(if t479=true then ((humuslaw08_awake.f k).bind fun t480=>(humuslaw08_LeafDecodes.j0 k t480)) else (none))) else (none)))=some r:=H
 have A6:=A_ A60;clear A60;replace H:=Option.bind_eq_some_iff.mp H;obtain ⟨⟨t471,t474,t477⟩,A70,H⟩:=H
 replace H : (if t469=t477 then ((humusref08_Same.f k t463 t466 t471 t474).bind fun t479=>(if t479=true then ((humuslaw08_awake.f k).bind fun t480=>(humuslaw08_LeafDecodes.j0 k t480)) else (none))) else (none))=some r:=H
 have A7:=A_ A70;clear A70;have HC8:=A_ H;clear H;go_enter Try.func3,Try.ntmps3
 go_upto_region 5 with (first|((with_reducible refine gate_dst (N:=12) rfl ?_);refine Kd.R_lit (Kd.int .u8) _ 5 ?hg (N:=12) ?hd (xs:=([] : List Int)) (inner:=[]) (ok:=fun _=>True) (okp:=fun _=>True) ?hr ?hp (fun _ hk=>hk) trivial (Below.refl _ _) (Nat.le_refl _) (by simp) ?_;(case hd=>rfl);(case hg=>rfl);(case hr=>first|(go_simp;done)|(go_simp;rfl));(case hp=>exact (Reps.none _ _));intro v458 w9 ho10 hb hg_ hnew_;clear hg_ hnew_;(first|rw [← Ny457.out] at ho10|(simp only [Int.reduceToNat] at ho10;rw [← Ny457.out] at ho10));have n0_:=A_ (Kd.R_lower ho10 (bz_ (hb0_ HB.out)));have n1_:=A_ (bp_ (hb0_ HB.out) hb);clear HB;have HO459:=n0_;have HB:=n1_;clear n0_ n1_;clear hb ho10)|((with_reducible refine gate_builtin (b:=.append) (xs:=#[.tmp 12,.tmp 13]) rfl ?_);at_builtin;refine Kd.R_append_rows (Kd.int .u8) (w0:=w) w.heap.size rfl (.tmp 12) (.tmp 13) 22 5 (.int .u8 0) 1 rfl Try.underlying22 info5 rfl (by decide) (by omega) v458 y457 l0 _ _ _ (fun _=>True) (fun _=>False) rfl rfl ?aO ?aR (fun _ _ h=>h) (fun _ h=>h.elim) ?aF ?aB ?aS ?aL ?_;(case aR=>repeat (first|exact (Kd.C_below HR0.out HB.out)|(with_reducible refine Kd.C_alloc ?_ _)|(with_reducible refine Kd.C_drewN ?_ _)|(with_reducible refine Kd.C_drew ?_)));(case aB=>exact (hb0_ HB.out));(case aF=>exact (fun _ _=>trivial));(case aO=>exact (by (with_reducible repeat (first|apply ra_|apply rn_|apply re_));exact HO459.out));(case aS=>exact (bz_ (hb0_ HB.out)));(case aL=>have:=LMc5.out;omega);intro v461 w11 ho hb hg hat;rw [← Ny460.out] at ho;have n0_:=A_ (hb);have n1_:=A_ (ho);clear HB;clear HO459;have HB:=n0_;have HO462:=n1_;clear n0_ n1_;clear ho hb hg hat;obtain ⟨Ao12,co12,eo12⟩:=Kd.R_slice HO462.out;subst eo12)|((with_reducible refine gate_callee (f:=9) rfl ?_);refine goesL_ (some 15) rfl rfl Try.func9 (by kernel_rfl) rfl #[.slice Ao12 y460.length co12] rfl (by (try simp only [List.map_toArray,List.map_cons,List.map_nil]);first|done|rfl|(simp only [List.length_drop,List.length_take];rfl)) ?_;(with_reducible refine (leaf_Decode.calls k _ _ y460 t463 t466 t469 _ ?side1 ?side2 A6.out).mono ?_);(case side1=>repeat (first|exact (Kd.R_reads' HO462.out).2.2|(with_reducible refine Kd.C_alloc ?_ _)|(with_reducible refine Kd.C_drewN ?_ _)|(with_reducible refine Kd.C_drew ?_)));(case side2=>exact (Kd.R_reads' HO462.out).2.1);rintro e w13 ⟨v464,v467,rfl,ho0,ho1,hb⟩;refine ⟨_,rfl,?_⟩;have n0_:=A_ (Kd.R_below (by (with_reducible repeat (first|apply ra_|apply rn_|apply re_));exact HO462.out) hb);have n1_:=A_ (Kd.R_lower (Kd.R_mono (ok':=fun k_=>True) ho0 (fun _ hk_=>trivial)) (bz_ (hb0_ HB.out)));have n2_:=A_ (Kd.N_lower (Kd.N_mono (ok':=fun k_=>some k_≠(v464 : Value).ownBlock∧some k_≠(.slice Ao12 y460.length co12 : Value).ownBlock) ho1 (fun k_ hk_=>⟨hk_.2,(Kd.fresh' (Kd.R_lt (by (with_reducible repeat (first|apply ra_|apply rn_|apply re_));exact HO462.out)) k_ hk_.1)⟩)) (bz_ (hb0_ HB.out)));have n3_:=A_ (bp_ (hb0_ HB.out) hb);clear HO462;clear HB;have HO462:=n0_;have HO465:=n1_;have HO468:=n2_;have HB:=n3_;clear n0_ n1_ n2_ n3_;(try clear hb);(try clear hb2);(try clear hk);(try clear hi);(try clear ho0);(try clear ho1))|((with_reducible refine gate_dst (N:=3) rfl ?_);refine box_event ?hg (N:=3) ?hd (cs:=#[.slice none 0 0,.slice none 0 0]) (t:=27) ?hr ?_;(case hd=>rfl);(case hg=>rfl);(case hr=>first|(go_simp;done)|(go_simp;rfl));intro gb470 hg w14 hbox hb;have n0_:=A_ (Kd.R_below (by (with_reducible repeat (first|apply ra_|apply rn_|apply re_));exact HO462.out) hb);have n1_:=A_ (Kd.R_below (by (with_reducible repeat (first|apply ra_|apply rn_|apply re_));exact HO465.out) hb);have n2_:=A_ (Kd.N_below (Kd.N_elderB (by (with_reducible repeat (first|apply Kd.N_alloc|apply Kd.N_drewN|apply Kd.N_drew));exact HO468.out) gb470 (Nat.le_of_eq hg.symm)) hb);have n3_:=A_ (bp_ (hb0_ HB.out) hb);have n4_:=A_ (hbox);have n5_:=A_ ((by rw [hg];exact (bz_ (hb0_ HB.out)) : w.heap.size≤gb470));have n6_:=n5_;clear HO462;clear HO465;clear HO468;clear HB;have HO462:=n0_;have HO465:=n1_;have HO468:=n2_;have HB:=n3_;have BK470:=n4_;have GW470:=n5_;have GE470:=n6_;clear n0_ n1_ n2_ n3_ n4_ n5_ n6_;clear hb hbox hg;obtain ⟨Ao15,co15,eo15⟩:=Kd.R_slice HO465.out;subst eo15;have z16_0 : w14.cell? ⟨gb470,0,none⟩=some (.slice none 0 0):=(bc_ BK470.out 0).trans rfl;have z16_1 : w14.cell? ⟨gb470,1,none⟩=some (.slice none 0 0):=(bc_ BK470.out 1).trans rfl;have y16_0:=bf_ BK470.out 0;have y16_1:=bf_ BK470.out 1;obtain ⟨Ao17,co17,eo17⟩:=Kd.N_slice HO468.out;subst eo17)|((with_reducible refine gate_callee (f:=10) rfl ?_);refine goesL_ (some 20) rfl rfl Try.func10 (by kernel_rfl) rfl #[.slice A0 l0.length c0] rfl (by (try simp only [List.map_toArray,List.map_cons,List.map_nil]);first|done|rfl|(simp only [List.length_drop,List.length_take];rfl)) ?_;(with_reducible refine (humusref08_Decode.calls k _ _ l0 t471 t474 t477 _ ?side1 ?side2 A7.out).mono ?_);(case side1=>exact Kd.C_below HR0.out (hb1_ HB.out GE470.out));(case side2=>exact HC0.out);rintro e w18 ⟨v472,v475,rfl,ho0,ho1,hb⟩;refine ⟨_,rfl,?_⟩;have n0_:=A_ (Kd.R_below (by (with_reducible repeat (first|apply ra_|apply rn_|apply re_));exact (Kd.R_mono (rf_ (p:=⟨gb470,1,none⟩) (rf_ (p:=⟨gb470,0,none⟩) (Kd.R_types HO462.out BK470.out (by decide)) (fun _ hk=>hk.2) (.slice Ao15 t463.length co15)) (fun _ hk=>hk.2) (.slice Ao17 t466.length co17)) (fun _ h_=>h_.1))) hb);have n1_:=A_ (Kd.R_elder' (by (with_reducible repeat (first|apply ra_|apply rn_|apply re_));exact (Kd.R_mono (rf_ (p:=⟨gb470,1,none⟩) (rf_ (p:=⟨gb470,0,none⟩) (Kd.R_types HO465.out BK470.out (by decide)) (fun _ hk=>hk.2) (.slice Ao15 t463.length co15)) (fun _ hk=>hk.2) (.slice Ao17 t466.length co17)) (fun _ h_=>h_.1))) (Kd.R_base ho0) hb);have n2_:=A_ (Kd.N_mono (Kd.N_told (Kd.N_told (Kd.N_old (by (with_reducible repeat (first|apply Kd.N_alloc|apply Kd.N_drewN|apply Kd.N_drew));exact (Kd.N_mono (Kd.N_far (p:=⟨gb470,1,none⟩) (Kd.N_far (p:=⟨gb470,0,none⟩) (Kd.N_mono HO468.out (fun k_ hk=>(⟨hk,hk.2⟩ : _∧k_≠gb470))) (fun _ hk=>hk.2) (.slice Ao15 t463.length co15)) (fun _ hk=>hk.2) (.slice Ao17 t466.length co17)) (fun _ h_=>h_.1))) hb) (Kd.R_base ho0)) (Kd.N_base ho1)) (fun _ h_=>h_.1));have n3_:=A_ (Kd.R_lower (Kd.R_new' (Kd.R_mono (ok':=fun k_=>True) ho0 (fun _ hk_=>trivial)) (Kd.R_lt (by (with_reducible repeat (first|apply ra_|apply rn_|apply re_));exact (Kd.R_mono (rf_ (p:=⟨gb470,1,none⟩) (rf_ (p:=⟨gb470,0,none⟩) (Kd.R_types HO465.out BK470.out (by decide)) (fun _ hk=>hk.2) (.slice Ao15 t463.length co15)) (fun _ hk=>hk.2) (.slice Ao17 t466.length co17)) (fun _ h_=>h_.1))))) (bz_ (hb1_ HB.out GE470.out)));have n4_:=A_ (Kd.N_lower (Kd.N_mono (ok':=fun k_=>some k_≠(v472 : Value).ownBlock∧some k_≠(.slice Ao12 y460.length co12 : Value).ownBlock∧some k_≠(.slice Ao15 t463.length co15 : Value).ownBlock∧some k_≠(.slice Ao17 t466.length co17 : Value).ownBlock∧k_≠gb470) ho1 (fun k_ hk_=>⟨hk_.2,(Kd.fresh' (Kd.R_lt (by (with_reducible repeat (first|apply ra_|apply rn_|apply re_));exact (Kd.R_mono (rf_ (p:=⟨gb470,1,none⟩) (rf_ (p:=⟨gb470,0,none⟩) (Kd.R_types HO462.out BK470.out (by decide)) (fun _ hk=>hk.2) (.slice Ao15 t463.length co15)) (fun _ hk=>hk.2) (.slice Ao17 t466.length co17)) (fun _ h_=>h_.1)))) k_ hk_.1),(Kd.fresh' (Kd.R_lt (by (with_reducible repeat (first|apply ra_|apply rn_|apply re_));exact (Kd.R_mono (rf_ (p:=⟨gb470,1,none⟩) (rf_ (p:=⟨gb470,0,none⟩) (Kd.R_types HO465.out BK470.out (by decide)) (fun _ hk=>hk.2) (.slice Ao15 t463.length co15)) (fun _ hk=>hk.2) (.slice Ao17 t466.length co17)) (fun _ h_=>h_.1)))) k_ hk_.1),(Kd.fresh' (Kd.N_lt (by (with_reducible repeat (first|apply Kd.N_alloc|apply Kd.N_drewN|apply Kd.N_drew));exact (Kd.N_mono (Kd.N_far (p:=⟨gb470,1,none⟩) (Kd.N_far (p:=⟨gb470,0,none⟩) (Kd.N_mono HO468.out (fun k_ hk=>(⟨hk,hk.2⟩ : _∧k_≠gb470))) (fun _ hk=>hk.2) (.slice Ao15 t463.length co15)) (fun _ hk=>hk.2) (.slice Ao17 t466.length co17)) (fun _ h_=>h_.1)))) k_ hk_.1),(Kd.freshB (g:=gb470) (o:=.cells #[.slice Ao15 t463.length co15,.slice Ao17 t466.length co17] 27 (0,0)) (by refine kk_ ?_;refine blk_put (cs:=#[.slice Ao15 t463.length co15,.slice none 0 0]) ?_ 1 _ rfl;refine kk_ ?_;refine blk_put (cs:=#[.slice none 0 0,.slice none 0 0]) ?_ 0 _ rfl;exact kk_ BK470.out) k_ hk_.1)⟩)) (bz_ (hb1_ HB.out GE470.out)));have n5_:=A_ (bb_ (g:=gb470) (o:=.cells #[.slice Ao15 t463.length co15,.slice Ao17 t466.length co17] 27 (0,0)) (by refine kk_ ?_;refine blk_put (cs:=#[.slice Ao15 t463.length co15,.slice none 0 0]) ?_ 1 _ rfl;refine kk_ ?_;refine blk_put (cs:=#[.slice none 0 0,.slice none 0 0]) ?_ 0 _ rfl;exact kk_ BK470.out) hb);have n6_:=A_ (bp_ (hb1_ HB.out GE470.out) hb);clear HO462;clear HO465;clear HO468;clear BK470;clear HB;have HO462:=n0_;have HO465:=n1_;have HO468:=n2_;have HO473:=n3_;have HO476:=n4_;have BK470:=n5_;have HB:=n6_;clear n0_ n1_ n2_ n3_ n4_ n5_ n6_;(try clear hb);(try clear hb2);(try clear hk);(try clear hi);(try clear ho0);(try clear ho1))|((with_reducible refine gate_dst (N:=5) rfl ?_);refine box_event ?hg (N:=5) ?hd (cs:=#[.slice none 0 0,.slice none 0 0]) (t:=27) ?hr ?_;(case hd=>rfl);(case hg=>rfl);(case hr=>first|(go_simp;done)|(go_simp;rfl));intro gb478 hg w19 hbox hb;have n0_:=A_ (Kd.R_below (by (with_reducible repeat (first|apply ra_|apply rn_|apply re_));exact HO462.out) hb);have n1_:=A_ (Kd.R_below (by (with_reducible repeat (first|apply ra_|apply rn_|apply re_));exact HO465.out) hb);have n2_:=A_ (Kd.N_below (Kd.N_elderB (by (with_reducible repeat (first|apply Kd.N_alloc|apply Kd.N_drewN|apply Kd.N_drew));exact HO468.out) gb478 (Nat.le_of_eq hg.symm)) hb);have n3_:=A_ (Kd.R_below (by (with_reducible repeat (first|apply ra_|apply rn_|apply re_));exact HO473.out) hb);have n4_:=A_ (Kd.N_below (Kd.N_elderB (by (with_reducible repeat (first|apply Kd.N_alloc|apply Kd.N_drewN|apply Kd.N_drew));exact HO476.out) gb478 (Nat.le_of_eq hg.symm)) hb);have n5_:=A_ (bx_ BK470.out kf_ hb);have n6_:=A_ (bp_ (hb1_ HB.out GE470.out) hb);have n7_:=A_ (hbox);have n8_:=A_ ((by rw [hg];exact (bz_ (hb1_ HB.out GE470.out)) : w.heap.size≤gb478));have n9_:=n8_;have n10_:=A_ ((by rw [hg];exact Nat.ne_of_lt (bl_ BK470.out kf_) : gb470≠gb478));have n11_:=A_ (Ne.symm n10_.out);clear HO462;clear HO465;clear HO468;clear HO473;clear HO476;clear BK470;clear HB;have HO462:=n0_;have HO465:=n1_;have HO468:=n2_;have HO473:=n3_;have HO476:=n4_;have BK470:=n5_;have HB:=n6_;have BK478:=n7_;have GW478:=n8_;have GE478:=n9_;have NB470_478:=n10_;have NB478_470:=n11_;clear n0_ n1_ n2_ n3_ n4_ n5_ n6_ n7_ n8_ n9_ n10_ n11_;clear hb hbox hg;obtain ⟨Ao20,co20,eo20⟩:=Kd.R_slice HO473.out;subst eo20;have hnb21:=NB478_470.out;have hnc21:=NB470_478.out;have z22_0 : w19.cell? ⟨gb478,0,none⟩=some (.slice none 0 0):=(bc_ BK478.out 0).trans rfl;have z22_1 : w19.cell? ⟨gb478,1,none⟩=some (.slice none 0 0):=(bc_ BK478.out 1).trans rfl;have y22_0:=bf_ BK478.out 0;have y22_1:=bf_ BK478.out 1;obtain ⟨Ao23,co23,eo23⟩:=Kd.N_slice HO476.out;subst eo23))
 (try simp only [Act.put,u1_,u2_,u3_])
 go_cut [2] (fun v2 wc=>∃ (kq : Nat) (x2_7 : Bool),v2=.bool x2_7∧Aside0 (humuslaw08_LeafDecodes.j0 kq x2_7=some r)∧Aside0 (kq≤k)∧Aside0 (Kd.R (Kd.int .i64) 3 wc w.heap.size (fun k_=>some k_≠((.slice Ao20 t471.length co20) : Value).ownBlock) (.slice Ao15 t463.length co15) t463)∧Aside0 (Kd.N (Kd.slice 5 (Kd.int .u8)) 22 wc w.heap.size (fun k_=>some k_≠((.slice Ao15 t463.length co15) : Value).ownBlock∧some k_≠((.slice Ao20 t471.length co20) : Value).ownBlock∧some k_≠((.slice Ao23 t474.length co23) : Value).ownBlock∧k_≠gb470∧k_≠gb478) (.slice Ao17 t466.length co17) t466)∧Aside0 (Kd.R (Kd.int .i64) 3 wc w.heap.size (fun k_=>some k_≠((.slice Ao15 t463.length co15) : Value).ownBlock) (.slice Ao20 t471.length co20) t471)∧Aside0 (Kd.N (Kd.slice 5 (Kd.int .u8)) 22 wc w.heap.size (fun k_=>some k_≠((.slice Ao15 t463.length co15) : Value).ownBlock∧some k_≠((.slice Ao17 t466.length co17) : Value).ownBlock∧some k_≠((.slice Ao20 t471.length co20) : Value).ownBlock∧k_≠gb470∧k_≠gb478) (.slice Ao23 t474.length co23) t474)∧Aside0 (wc.heap[gb470]?=some (.cells #[(.slice Ao15 t463.length co15),(.slice Ao17 t466.length co17)] 27 (0,0)))∧Aside0 (wc.heap[gb478]?=some (.cells #[(.slice Ao20 t471.length co20),(.slice Ao23 t474.length co23)] 27 (0,0)))∧Aside0 (Below w.heap.size w wc))
 case first =>
  have H:=HC8.out;clear HC8
  by_cases c24 : t469=t477
  rotate_left
  ·rw [if_neg c24] at H
   exact absurd H (by simp)
  rw [if_pos c24] at H
  have c24b0 : (t469 == t477)=true:=beq_iff_eq.mpr c24;have c24b1 : (t469 != t477)=false:=bne_eq_false_iff_eq.mpr c24;clear c24;(first|rw [c24b0]|(simp only [i64_w,i32_w];rw [c24b0])|skip);replace H:=Option.bind_eq_some_iff.mp H;obtain ⟨t479,A250,H⟩:=H
  replace H : (if t479=true then ((humuslaw08_awake.f k).bind fun t480=>(humuslaw08_LeafDecodes.j0 k t480)) else (none))=some r:=H
  have A25:=A_ A250;clear A250
  by_cases c26 : t479=true
  rotate_left
  ·replace c26:=Bool.eq_false_iff.mpr c26
   subst c26
   have H1 : (none)=some r:=by rw [if_neg (show ¬ (false=true) by decide)] at H;exact H
   clear H;have H:=H1;clear H1
   exact absurd H (by simp)
  subst c26
  have H1 : ((humuslaw08_awake.f k).bind fun t480=>(humuslaw08_LeafDecodes.j0 k t480))=some r:=by rw [if_pos rfl] at H;exact H
  clear H;have H:=H1;clear H1;replace H:=Option.bind_eq_some_iff.mp H;obtain ⟨t480,A270,H⟩:=H;replace H : (humuslaw08_LeafDecodes.j0 k t480)=some r:=H;have A27:=A_ A270;clear A270;have H':=A_ H;clear H;have hnb28:=NB470_478.out;have hnc28:=NB478_470.out;have z29_0 : w19.cell? ⟨gb470,0,none⟩=some (.slice Ao15 t463.length co15):=(bc_ BK470.out 0).trans rfl;have z29_1 : w19.cell? ⟨gb470,1,none⟩=some (.slice Ao17 t466.length co17):=(bc_ BK470.out 1).trans rfl;have y29_0:=bf_ BK470.out 0;have y29_1:=bf_ BK470.out 1;have z30_0 : w19.cell? ⟨gb478,0,none⟩=some (.slice none 0 0):=(bc_ BK478.out 0).trans rfl;have z30_1 : w19.cell? ⟨gb478,1,none⟩=some (.slice none 0 0):=(bc_ BK478.out 1).trans rfl;have y30_0:=bf_ BK478.out 0;have y30_1:=bf_ BK478.out 1
  go_wp2_with (first|(go_at_call 11;(with_reducible refine (humusref08_Same.calls k _ _ t463 _ _ t466 _ _ t471 _ _ t474 true _ ?side1 ?side2 ?side3 ?side4 ?side5 ?side6 ?side7 ?side8 A25.out).mono ?_);(case side1=>refine (Kd.R_reads' (e:=3) (base:=w.heap.size) (ok:=fun k_=>(True∧some k_≠(.slice Ao20 t471.length co20 : Value).ownBlock)) (n:=t463.length) (c:=co15) ?_).2.2;exact (by (with_reducible repeat (first|apply ra_|apply rn_|apply re_));exact (Kd.R_mono (rf_ (p:=⟨gb478,1,none⟩) (rf_ (p:=⟨gb478,0,none⟩) (Kd.R_types HO465.out BK478.out (by decide)) (fun _ hk=>hk.2) (.slice Ao20 t471.length co20)) (fun _ hk=>hk.2) (.slice Ao23 t474.length co23)) (fun _ h_=>h_.1))));(case side2=>exact (Kd.R_reads' HO465.out).2.1);(case side3=>refine (Kd.N_reads' (e:=22) (base:=w.heap.size) (ok:=fun k_=>(((((some k_≠(.slice Ao15 t463.length co15 : Value).ownBlock∧some k_≠(.slice Ao12 y460.length co12 : Value).ownBlock)∧k_≠gb470)∧some k_≠(.slice Ao20 t471.length co20 : Value).ownBlock)∧some k_≠(.slice Ao23 t474.length co23 : Value).ownBlock)∧k_≠gb478)) (n:=t466.length) (c:=co17) ?_).2.2;exact (by (with_reducible repeat (first|apply Kd.N_alloc|apply Kd.N_drewN|apply Kd.N_drew));exact (Kd.N_mono (Kd.N_far (p:=⟨gb478,1,none⟩) (Kd.N_far (p:=⟨gb478,0,none⟩) (Kd.N_mono HO468.out (fun k_ hk=>(⟨hk,hk.2⟩ : _∧k_≠gb478))) (fun _ hk=>hk.2) (.slice Ao20 t471.length co20)) (fun _ hk=>hk.2) (.slice Ao23 t474.length co23)) (fun _ h_=>h_.1))));(case side4=>exact (Kd.N_reads' HO468.out).2.1);(case side5=>refine (Kd.R_reads' (e:=3) (base:=w.heap.size) (ok:=fun k_=>(True∧some k_≠(.slice Ao15 t463.length co15 : Value).ownBlock)) (n:=t471.length) (c:=co20) ?_).2.2;exact (by (with_reducible repeat (first|apply ra_|apply rn_|apply re_));exact (Kd.R_mono (rf_ (p:=⟨gb478,1,none⟩) (rf_ (p:=⟨gb478,0,none⟩) (Kd.R_types HO473.out BK478.out (by decide)) (fun _ hk=>hk.2) (.slice Ao20 t471.length co20)) (fun _ hk=>hk.2) (.slice Ao23 t474.length co23)) (fun _ h_=>h_.1))));(case side6=>exact (Kd.R_reads' HO473.out).2.1);(case side7=>refine (Kd.N_reads' (e:=22) (base:=w.heap.size) (ok:=fun k_=>((some k_≠(.slice Ao20 t471.length co20 : Value).ownBlock∧(some k_≠(.slice Ao12 y460.length co12 : Value).ownBlock∧(some k_≠(.slice Ao15 t463.length co15 : Value).ownBlock∧(some k_≠(.slice Ao17 t466.length co17 : Value).ownBlock∧k_≠gb470))))∧k_≠gb478)) (n:=t474.length) (c:=co23) ?_).2.2;exact (by (with_reducible repeat (first|apply Kd.N_alloc|apply Kd.N_drewN|apply Kd.N_drew));exact (Kd.N_mono (Kd.N_far (p:=⟨gb478,1,none⟩) (Kd.N_far (p:=⟨gb478,0,none⟩) (Kd.N_mono HO476.out (fun k_ hk=>(⟨hk,hk.2⟩ : _∧k_≠gb478))) (fun _ hk=>hk.2) (.slice Ao20 t471.length co20)) (fun _ hk=>hk.2) (.slice Ao23 t474.length co23)) (fun _ h_=>h_.1))));(case side8=>exact (Kd.N_reads' HO476.out).2.1);rintro e w31 ⟨rfl,hb⟩;have n0_:=A_ (Kd.R_below (by (with_reducible repeat (first|apply ra_|apply rn_|apply re_));exact (Kd.R_mono (rf_ (p:=⟨gb478,1,none⟩) (rf_ (p:=⟨gb478,0,none⟩) (Kd.R_types HO462.out BK478.out (by decide)) (fun _ hk=>hk.2) (.slice Ao20 t471.length co20)) (fun _ hk=>hk.2) (.slice Ao23 t474.length co23)) (fun _ h_=>h_.1))) hb);have n1_:=A_ (Kd.R_below (by (with_reducible repeat (first|apply ra_|apply rn_|apply re_));exact (Kd.R_mono (rf_ (p:=⟨gb478,1,none⟩) (rf_ (p:=⟨gb478,0,none⟩) (Kd.R_types HO465.out BK478.out (by decide)) (fun _ hk=>hk.2) (.slice Ao20 t471.length co20)) (fun _ hk=>hk.2) (.slice Ao23 t474.length co23)) (fun _ h_=>h_.1))) hb);have n2_:=A_ (Kd.N_below (by (with_reducible repeat (first|apply Kd.N_alloc|apply Kd.N_drewN|apply Kd.N_drew));exact (Kd.N_mono (Kd.N_far (p:=⟨gb478,1,none⟩) (Kd.N_far (p:=⟨gb478,0,none⟩) (Kd.N_mono HO468.out (fun k_ hk=>(⟨hk,hk.2⟩ : _∧k_≠gb478))) (fun _ hk=>hk.2) (.slice Ao20 t471.length co20)) (fun _ hk=>hk.2) (.slice Ao23 t474.length co23)) (fun _ h_=>h_.1))) hb);have n3_:=A_ (Kd.R_below (by (with_reducible repeat (first|apply ra_|apply rn_|apply re_));exact (Kd.R_mono (rf_ (p:=⟨gb478,1,none⟩) (rf_ (p:=⟨gb478,0,none⟩) (Kd.R_types HO473.out BK478.out (by decide)) (fun _ hk=>hk.2) (.slice Ao20 t471.length co20)) (fun _ hk=>hk.2) (.slice Ao23 t474.length co23)) (fun _ h_=>h_.1))) hb);have n4_:=A_ (Kd.N_below (by (with_reducible repeat (first|apply Kd.N_alloc|apply Kd.N_drewN|apply Kd.N_drew));exact (Kd.N_mono (Kd.N_far (p:=⟨gb478,1,none⟩) (Kd.N_far (p:=⟨gb478,0,none⟩) (Kd.N_mono HO476.out (fun k_ hk=>(⟨hk,hk.2⟩ : _∧k_≠gb478))) (fun _ hk=>hk.2) (.slice Ao20 t471.length co20)) (fun _ hk=>hk.2) (.slice Ao23 t474.length co23)) (fun _ h_=>h_.1))) hb);have n5_:=A_ (bb_ (g:=gb470) (o:=.cells #[.slice Ao15 t463.length co15,.slice Ao17 t466.length co17] 27 (0,0)) (by refine kk_ ?_;refine blk_far ?_ NB470_478.out _;refine kk_ ?_;refine blk_far ?_ NB470_478.out _;exact kk_ BK470.out) hb);have n6_:=A_ (bb_ (g:=gb478) (o:=.cells #[.slice Ao20 t471.length co20,.slice Ao23 t474.length co23] 27 (0,0)) (by refine kk_ ?_;refine blk_put (cs:=#[.slice Ao20 t471.length co20,.slice none 0 0]) ?_ 1 _ rfl;refine kk_ ?_;refine blk_put (cs:=#[.slice none 0 0,.slice none 0 0]) ?_ 0 _ rfl;exact kk_ BK478.out) hb);have n7_:=A_ (bp_ (hb2_ HB.out GE470.out GE478.out) hb);clear HO462;clear HO465;clear HO468;clear HO473;clear HO476;clear BK470;clear BK478;clear HB;have HO462:=n0_;have HO465:=n1_;have HO468:=n2_;have HO473:=n3_;have HO476:=n4_;have BK470:=n5_;have BK478:=n6_;have HB:=n7_;clear n0_ n1_ n2_ n3_ n4_ n5_ n6_ n7_;(try clear hb);(try clear hb2);(try clear hk);(try clear hi))|(go_at_call 8;(with_reducible refine (humuslaw08_awake.calls k  t480 _ A27.out).mono ?_);rintro e w32 ⟨rfl,hb⟩;have n0_:=A_ (Kd.R_below (by (with_reducible repeat (first|apply ra_|apply rn_|apply re_));exact HO462.out) hb);have n1_:=A_ (Kd.R_below (by (with_reducible repeat (first|apply ra_|apply rn_|apply re_));exact HO465.out) hb);have n2_:=A_ (Kd.N_below (by (with_reducible repeat (first|apply Kd.N_alloc|apply Kd.N_drewN|apply Kd.N_drew));exact HO468.out) hb);have n3_:=A_ (Kd.R_below (by (with_reducible repeat (first|apply ra_|apply rn_|apply re_));exact HO473.out) hb);have n4_:=A_ (Kd.N_below (by (with_reducible repeat (first|apply Kd.N_alloc|apply Kd.N_drewN|apply Kd.N_drew));exact HO476.out) hb);have n5_:=A_ (bx_ BK470.out kf_ hb);have n6_:=A_ (bx_ BK478.out kf_ hb);have n7_:=A_ (bp_ (hb2_ HB.out GE470.out GE478.out) hb);clear HO462;clear HO465;clear HO468;clear HO473;clear HO476;clear BK470;clear BK478;clear HB;have HO462:=n0_;have HO465:=n1_;have HO468:=n2_;have HO473:=n3_;have HO476:=n4_;have BK470:=n5_;have BK478:=n6_;have HB:=n7_;clear n0_ n1_ n2_ n3_ n4_ n5_ n6_ n7_;(try clear hb);(try clear hb2);(try clear hk);(try clear hi)))
  go_meet
  case rel=>exact ⟨_,(t480),(by first|rfl|(simp;done)|(simp [*];done)),H',⟨by first|omega|exact Nat.le_refl _⟩,⟨by (with_reducible repeat (first|apply ra_|apply rn_|apply re_));exact Kd.R_mono HO465.out (fun _ hk=>hk.2)⟩,⟨by (with_reducible repeat (first|apply Kd.N_alloc|apply Kd.N_drewN|apply Kd.N_drew));exact Kd.N_mono HO468.out (fun _ hk=>⟨hk.1.1.1.1.1,⟨hk.1.1.2,⟨hk.1.2,⟨hk.1.1.1.2,hk.2⟩⟩⟩⟩)⟩,⟨by (with_reducible repeat (first|apply ra_|apply rn_|apply re_));exact Kd.R_mono HO473.out (fun _ hk=>hk.2)⟩,⟨by (with_reducible repeat (first|apply Kd.N_alloc|apply Kd.N_drewN|apply Kd.N_drew));exact Kd.N_mono HO476.out (fun _ hk=>⟨hk.1.2.2.1,⟨hk.1.2.2.2.1,⟨hk.1.1,⟨hk.1.2.2.2.2,hk.2⟩⟩⟩⟩)⟩,⟨by exact kk_ BK470.out⟩,⟨by exact kk_ BK478.out⟩,⟨hb2_ HB.out GE470.out GE478.out⟩⟩
 case rest =>
  clear HC8;(try clear c1);(try clear c2);(try clear c2b0);(try clear c2b1);(try clear p2);(try clear c3);(try clear c5);(try clear c8);(try clear c9);(try clear c10);(try clear c21);(try clear c24);(try clear c24b0);(try clear c24b1);(try clear c26);(try clear c28);(try clear z16_0 z16_1 z22_0 z22_1 z29_0 z29_1 z30_0 z30_1 y16_0 y16_1 y22_0 y22_1 y29_0 y29_1 y30_0 y30_1);obtain ⟨kq,x2_7,rfl,HA,HJ7,HO_471000,HO_471001,HO_479000,HO_479001,BK470,BK478,HB⟩:=hcut
  cases kq with
  | zero=>exact absurd HA.out (by simp [humuslaw08_LeafDecodes.j0])
  | succ kj7 =>
   have H:=HA.out;clear HA
   simp only [humuslaw08_LeafDecodes.j0] at H
   obtain rfl:=Option.some.inj H;go_wp2;go_ret
   exact ⟨by first|rfl|(simp [errW_none,errW_some] <;> rfl)|(simp [*,errW_none,errW_some] <;> rfl),hb2_ HB.out GE470.out GE478.out⟩
def humuslaw08_LeafDecodes.Pure : Prop:=∀ (l0 : List Int),l0.length≤maxLen→l0.length * 1≤140737488351232→(∀ x ∈ l0,(Lit.int .u8 x).wf=true)→∃ k,humuslaw08_LeafDecodes.f k l0=some true
theorem humuslaw08_LeafDecodes.walk (P : humuslaw08_LeafDecodes.Pure) (a0 : Option Addr) (len0 cap0 : Nat) (z0 : List Int) (w : World) (w0 : (a0=none∧len0=0∧cap0=0∧z0=[])∨∃ x,a0=some x∧len0≤cap0∧cap0≤maxLen∧z0.length=cap0∧(∀ i,i<z0.length→w.cell? (x.add i)=some (.int .u8 (z0.getD i 0)))∧∀ n ∈ z0,(Lit.int .u8 n).wf=true) (y0 : len0 * 1≤140737488351232) :
  Calls Try.prog 3 #[.slice a0 len0 cap0] w fun e w'=>e=.returned (.bool true)∧Below w.heap.size w w':=by
 obtain ⟨l0,rfl,hr0,hm0,hw0,hc0⟩:=ReadsInt.ofRowC w0;obtain ⟨k,h⟩:=P l0 hm0 y0 hw0
 refine (humuslaw08_LeafDecodes.calls k _ _ l0 true w (Kd.C_of_reads (d:=(0 : Int)) (h1:=fun _=>rfl) hr0) hc0 h).mono ?_
 rintro e w' ⟨rfl,hd⟩;exact ⟨rfl,hd⟩
end Go.Proofs.Ytjigckhopkclgaa.P
namespace Go.Proofs.Ytjigckhopkclgaa.P
open Go.RowKit Ytjigckhopkclgaa Ytjigckhopkclgaa.Mem YtjigckhopkclgaaW.PrintWords YtjigckhopkclgaaW.PrintLast YtjigckhopkclgaaW.PrintMore
def slotsL : List (List Int)→Int
  | []=>0
  | s :: S=>1 + (s.length : Int) + slotsL S
def needL (S : List (List Int)) : Int:=18 + slotsL S
structure Small (S : List (List Int)) : Prop where
  len : S.length≤1000
  each : ∀ s ∈ S,s.length≤1000
theorem rdR_mem {S : List (List Int)} {i : Nat} (h : i<S.length) : rd_L2 S (i : Int) ∈ S:=List.mem_of_getElem? (rdR_at h)
theorem drop_rd {S : List (List Int)} {i : Nat} (h : i<S.length) : S.drop i=rd_L2 S (i : Int) :: S.drop (i + 1):=by
  rw [List.drop_eq_getElem_cons h];have:=rdR_at h;rw [List.getElem?_eq_getElem h] at this
  injection this with this
  rw [this]
theorem need_l0 {S : List (List Int)} (hs : Small S) : ∀ (d i k : Nat) (x : Int),d=S.length - i→i≤S.length→d + 1≤k→0≤x→x≤100 + 1001 * (i : Int)→leaf_need.l0 k x S (S.length : Int) (i : Int)=some (x + slotsL (S.drop i)):=by
  intro d
  induction d with
  | zero =>
    intro i k x hd hi hk h0 h1
    obtain ⟨k,rfl⟩ : ∃ m,k=m + 1:=⟨k - 1,by omega⟩
    rw [leaf_need.l0,if_neg (by omega),List.drop_eq_nil_of_le (by omega)]
    simp [slotsL]
  | succ d ih =>
    intro i k x hd hi hk h0 h1
    obtain ⟨k,rfl⟩ : ∃ m,k=m + 1:=⟨k - 1,by omega⟩
    have hlt : i<S.length:=by omega
    have hl:=hs.len;have he:=hs.each _ (rdR_mem hlt)
    have hw : wrap64 ((i : Int) + 1)=((i + 1 : Nat) : Int):=by unfold wrap64; omega
    have hw2 : wrap64 (x + wrap64 (1 + ((rd_L2 S (i : Int)).length : Int)))=x + (1 + ((rd_L2 S (i : Int)).length : Int)):=by unfold wrap64; omega
    rw [leaf_need.l0,if_pos (by omega),if_pos (by omega),if_pos (by omega),hw,hw2,ih (i + 1) k _ (by omega) (by omega) (by omega) (by omega) (by omega),drop_rd hlt]
    simp only [slotsL]
    congr 1; omega
theorem need_ev {k : Nat} {I : List Int} {S : List (List Int)} (hs : Small S) (hk : 1002≤k) : leaf_need.f k I S=some (needL S):=by
  have:=hs.len
  unfold leaf_need.f
  have h:=need_l0 hs S.length 0 k 18 (by omega) (by omega) (by omega) (by omega) (by omega)
  rw [List.drop_zero] at h;exact h
theorem Need_l0 {I : List Int} {S : List (List Int)} (hs : Small S) : ∀ (d i k : Nat) (x : Int),d=S.length - i→i≤S.length→d + 1≤k→0≤x→x≤100 + 1001 * (i : Int)→humusref08_Need.l0 k x (i : Int) I S=some (x + slotsL (S.drop i)):=by
  intro d
  induction d with
  | zero =>
    intro i k x hd hi hk h0 h1
    obtain ⟨k,rfl⟩ : ∃ m,k=m + 1:=⟨k - 1,by omega⟩
    rw [humusref08_Need.l0,if_neg (by omega),List.drop_eq_nil_of_le (by omega)]
    simp [slotsL]
  | succ d ih =>
    intro i k x hd hi hk h0 h1
    obtain ⟨k,rfl⟩ : ∃ m,k=m + 1:=⟨k - 1,by omega⟩
    have hlt : i<S.length:=by omega
    have hl:=hs.len;have he:=hs.each _ (rdR_mem hlt)
    have hw : wrap64 ((i : Int) + 1)=((i + 1 : Nat) : Int):=by unfold wrap64; omega
    have hw2 : wrap64 (wrap64 (x + 1) + ((rd_L2 S (i : Int)).length : Int))=x + (1 + ((rd_L2 S (i : Int)).length : Int)):=by unfold wrap64; omega
    rw [humusref08_Need.l0,if_pos (by omega),if_pos (by omega),hw,hw2,ih (i + 1) k _ (by omega) (by omega) (by omega) (by omega) (by omega),drop_rd hlt]
    simp only [slotsL]
    congr 1; omega
theorem Need_ev {k : Nat} {I : List Int} {S : List (List Int)} (hs : Small S) (hk : 1002≤k) : humusref08_Need.f k I S=some (needL S):=by
  have:=hs.len
  unfold humusref08_Need.f
  have h:=Need_l0 (I:=I) hs S.length 0 k 18 (by omega) (by omega) (by omega) (by omega) (by omega)
  rw [List.drop_zero] at h;exact h
def OkS (S : List (List Int)) : Prop:=S.length≤64∧(0<S.length→(rd_L2 S ((S.length - 1 : Nat) : Int)).length≠0)∧(∀ s ∈ S,s.length≤255)∧needL S≤508
def OkI (a b c d : Int) : Prop:=(0≤a∧a≤2147483647)∧(0≤b∧b≤2147483647)∧(0≤c∧c≤2147483647)∧(0≤d∧d≤2147483647)∧(0<b→b≠a)∧(0<c→c≠a∧c≠b)∧(0<d→d≠a∧d≠b∧d≠c)
def MayL (I : List Int) (S : List (List Int)) : Prop:=(∃ a b c d,I=[a,b,c,d]∧OkI a b c d)∧OkS S
theorem wsub {n : Nat} (h : 0<n) (h2 : n≤1000000) : wrap64 ((n : Int) - 1)=((n - 1 : Nat) : Int):=by unfold wrap64; omega
theorem any255 {S : List (List Int)} : (S.any fun e=>decide ((e.length : Int) > 255))=false ↔ ∀ s ∈ S,s.length≤255:=by
  rw [List.any_eq_false]
  constructor
  · intro h s hs
    have:=h s hs;rw [decide_eq_true_eq] at this;omega
  · intro h s hs
    have:=h s hs;rw [decide_eq_true_eq];omega
theorem Check_end {k : Nat} {I : List Int} {S : List (List Int)} (hs : Small S) (hk : 1010≤k) (n : Int) (x : Nat) (hx : ¬ (x : Int)<n) (J : List Int) : (((∀ s ∈ S,s.length≤255)∧needL S≤508)→leaf_Check.l0 k J n (x : Int) I S=some 0)∧(¬ ((∀ s ∈ S,s.length≤255)∧needL S≤508)→leaf_Check.l0 k J n (x : Int) I S=some 1):=by
  have hl:=hs.len
  obtain ⟨k,rfl⟩ : ∃ m,k=m + 2:=⟨k - 2,by omega⟩
  rw [leaf_Check.l0,if_neg hx]
  unfold containsFunc_leaf_Check_1.f
  rw [if_pos (by omega),Option.bind_some]
  cases hb : S.any fun e=>decide ((e.length : Int) > 255) with
  | true =>
    rw [if_pos rfl,leaf_Check.j3]
    have : ¬ ∀ s ∈ S,s.length≤255:=fun h=>by rw [any255.2 h] at hb; cases hb
    exact ⟨fun h=>absurd h.1 this,fun _=>rfl⟩
  | false =>
    have h5:=any255.1 hb
    rw [if_neg (by decide),need_ev hs (by omega),Option.bind_some]
    by_cases h : needL S > 508
    · rw [if_pos h,leaf_Check.j4]
      exact ⟨fun hh=>absurd hh.2 (by omega),fun _=>rfl⟩
    · rw [if_neg h]
      exact ⟨fun _=>rfl,fun hh=>absurd ⟨h5,by omega⟩ hh⟩
theorem Check_step {k : Nat} {I J : List Int} {S : List (List Int)} (n : Int) (x : Nat) (w : Int) (hI : I=J) (hl : J.length≤1000) (hn : (x : Int)<n) (hx : x<J.length) (hw : rd J (x : Int)=w) (hk : 1010≤k) :
    (0≤w∧w≤2147483647∧(0<w→∀ y ∈ J.take x,y≠w)→leaf_Check.l0 (k + 1) J n (x : Int) I S=leaf_Check.l0 k J n ((x + 1 : Nat) : Int) I S)∧(¬ (0≤w∧w≤2147483647∧(0<w→∀ y ∈ J.take x,y≠w))→leaf_Check.l0 (k + 1) J n (x : Int) I S=some 1):=by
  subst hI
  have hw1 : wrap64 ((x : Int) + 1)=((x + 1 : Nat) : Int):=by unfold wrap64; omega
  rw [leaf_Check.l0,if_pos hn,if_pos (by omega),if_pos (by omega),hw,hw1]
  by_cases h1 : w<0
  · rw [if_pos h1]; exact ⟨fun h=>by omega,fun _=>rfl⟩
  · rw [if_neg h1]
    by_cases h2 : w > 2147483647
    · rw [if_pos h2]; exact ⟨fun h=>by omega,fun _=>rfl⟩
    · rw [if_neg h2]
      by_cases h3 : w > 0
      · rw [if_pos h3,if_pos (by omega),Int.toNat_natCast,Contains_ev w (by rw [List.length_take]; omega) (by rw [List.length_take]; omega),Option.bind_some]
        cases hb : (I.take x).any fun y=>w == y with
        | true =>
          obtain ⟨k,rfl⟩ : ∃ m,k=m + 1:=⟨k - 1,by omega⟩
          rw [if_pos rfl,leaf_Check.j2];rw [List.any_eq_true] at hb;obtain ⟨y,hy,he⟩:=hb
          exact ⟨fun h=>absurd (beq_iff_eq.mp he).symm (h.2.2 (by omega) y hy),fun _=>rfl⟩
        | false =>
          rw [if_neg (by decide)]
          rw [List.any_eq_false] at hb
          exact ⟨fun _=>rfl,fun h=>absurd ⟨by omega,by omega,fun _ y hy he=>hb y hy (beq_iff_eq.mpr he.symm)⟩ h⟩
      · rw [if_neg h3]
        exact ⟨fun _=>rfl,fun h=>absurd ⟨by omega,by omega,fun hh=>absurd hh (by omega)⟩ h⟩
theorem Check_loop {k : Nat} {a b c d : Int} {S : List (List Int)} (hs : Small S) (hk : 1020≤k) : ((OkI a b c d∧(∀ s ∈ S,s.length≤255)∧needL S≤508)→leaf_Check.l0 k [a,b,c,d] 4 0 [a,b,c,d] S=some 0)∧(¬ (OkI a b c d∧(∀ s ∈ S,s.length≤255)∧needL S≤508)→leaf_Check.l0 k [a,b,c,d] 4 0 [a,b,c,d] S=some 1):=by
  obtain ⟨k,rfl⟩ : ∃ m,k=m + 4:=⟨k - 4,by omega⟩
  have s0:=@Check_step (k + 3) [a,b,c,d] [a,b,c,d] S 4 0 a rfl (by simp) (by decide) (by simp) rfl (by omega)
  have s1:=@Check_step (k + 2) [a,b,c,d] [a,b,c,d] S 4 1 b rfl (by simp) (by decide) (by simp) rfl (by omega)
  have s2:=@Check_step (k + 1) [a,b,c,d] [a,b,c,d] S 4 2 c rfl (by simp) (by decide) (by simp) rfl (by omega)
  have s3:=@Check_step k [a,b,c,d] [a,b,c,d] S 4 3 d rfl (by simp) (by decide) (by simp) rfl (by omega)
  have s4:=@Check_end k [a,b,c,d] S hs (by omega) 4 4 (by decide) [a,b,c,d]
  simp only [List.take_succ_cons,List.take_zero,List.mem_cons,List.not_mem_nil,or_false,forall_eq_or_imp,forall_eq,false_imp_iff,imp_true_iff,implies_true,Nat.zero_add,Nat.reduceAdd] at s0 s1 s2 s3 s4
  have e0 : ((0 : Nat) : Int)=0:=rfl;have e1 : ((1 : Nat) : Int)=1:=rfl;have e2 : ((2 : Nat) : Int)=2:=rfl;have e3 : ((3 : Nat) : Int)=3:=rfl;have e4 : ((4 : Nat) : Int)=4:=rfl
  simp only [e0,e1,e2,e3,e4] at s0 s1 s2 s3 s4
  unfold OkI
  by_cases h0 : 0≤a∧a≤2147483647
  · rw [s0.1 (by simpa using h0)]
    by_cases h1 : 0≤b∧b≤2147483647∧(0<b→a≠b)
    · rw [s1.1 h1]
      by_cases h2 : 0≤c∧c≤2147483647∧(0<c→a≠c∧b≠c)
      · rw [s2.1 h2]
        by_cases h3 : 0≤d∧d≤2147483647∧(0<d→a≠d∧b≠d∧c≠d)
        · rw [s3.1 h3]
          refine ⟨fun h=>s4.1 h.2,fun h=>s4.2 fun hh=>h ⟨⟨h0,⟨h1.1,h1.2.1⟩,⟨h2.1,h2.2.1⟩,⟨h3.1,h3.2.1⟩,fun p q=>h1.2.2 p q.symm,fun p=>⟨fun q=>(h2.2.2 p).1 q.symm,fun q=>(h2.2.2 p).2 q.symm⟩,fun p=>⟨fun q=>(h3.2.2 p).1 q.symm,fun q=>(h3.2.2 p).2.1 q.symm,fun q=>(h3.2.2 p).2.2 q.symm⟩⟩,hh⟩⟩
        · rw [s3.2 h3]
          refine ⟨fun h=>absurd ⟨h.1.2.2.2.1.1,h.1.2.2.2.1.2,fun p=>⟨fun q=>(h.1.2.2.2.2.2.2 p).1 q.symm,fun q=>(h.1.2.2.2.2.2.2 p).2.1 q.symm,fun q=>(h.1.2.2.2.2.2.2 p).2.2 q.symm⟩⟩ h3,fun _=>rfl⟩
      · rw [s2.2 h2]
        exact ⟨fun h=>absurd ⟨h.1.2.2.1.1,h.1.2.2.1.2,fun p=>⟨fun q=>(h.1.2.2.2.2.2.1 p).1 q.symm,fun q=>(h.1.2.2.2.2.2.1 p).2 q.symm⟩⟩ h2,fun _=>rfl⟩
    · rw [s1.2 h1]
      exact ⟨fun h=>absurd ⟨h.1.2.1.1,h.1.2.1.2,fun p q=>h.1.2.2.2.2.1 p q.symm⟩ h1,fun _=>rfl⟩
  · rw [s0.2 (by simpa using h0)]
    exact ⟨fun h=>absurd h.1.1 h0,fun _=>rfl⟩
theorem four {I : List Int} (h : I.length=4) : ∃ a b c d,I=[a,b,c,d]:=by
  match I,h with
  | [a,b,c,d],_=>exact ⟨a,b,c,d,rfl⟩
theorem Check_ev {k : Nat} {I : List Int} {S : List (List Int)} (hs : Small S) (hk : 1030≤k) : (MayL I S→leaf_Check.f k I S=some 0)∧(¬ MayL I S→leaf_Check.f k I S=some 1):=by
  have hl:=hs.len
  obtain ⟨k,rfl⟩ : ∃ m,k=m + 1:=⟨k - 1,by omega⟩
  unfold leaf_Check.f
  by_cases h4 : (I.length : Int)=4
  · rw [if_pos h4]
    obtain ⟨a,b,c,d,rfl⟩:=four (I:=I) (by omega)
    have hL:=Check_loop (k:=k) (a:=a) (b:=b) (c:=c) (d:=d) hs (by omega)
    have hM : MayL [a,b,c,d] S ↔ OkI a b c d∧OkS S:=⟨fun ⟨⟨a',b',c',d',he,ho⟩,h2⟩=>by
      injection he with e1 e2; injection e2 with e2 e3; injection e3 with e3 e4; injection e4 with e4 _
      subst e1 e2 e3 e4; exact ⟨ho,h2⟩,fun h=>⟨⟨a,b,c,d,rfl,h.1⟩,h.2⟩⟩
    rw [hM]
    by_cases h64 : (S.length : Int) > 64
    · rw [if_pos h64,leaf_Check.j0,if_pos rfl]
      exact ⟨fun h=>by have:=h.2.1; omega,fun _=>rfl⟩
    · rw [if_neg h64]
      by_cases h0 : (S.length : Int) > 0
      · rw [if_pos h0,wsub (by omega) (by omega),if_pos (by omega),if_pos (by omega),leaf_Check.j0]
        by_cases hz : (rd_L2 S ((S.length - 1 : Nat) : Int)).length=0
        · rw [if_pos (by rw [hz]; rfl)]
          exact ⟨fun h=>absurd hz (h.2.2.1 (by omega)),fun _=>rfl⟩
        · rw [if_neg (by rw [beq_iff_eq]; omega)]
          exact ⟨fun h=>hL.1 ⟨h.1,h.2.2.2⟩,fun h=>hL.2 fun hh=>h ⟨hh.1,by omega,fun _=>hz,hh.2⟩⟩
      · rw [if_neg h0,leaf_Check.j0,if_neg (by decide)]
        exact ⟨fun h=>hL.1 ⟨h.1,h.2.2.2⟩,fun h=>hL.2 fun hh=>h ⟨hh.1,by omega,fun q=>absurd q (by omega),hh.2⟩⟩
  · rw [if_neg h4,leaf_Check.j0,if_pos rfl]
    refine ⟨fun h=>?_,fun _=>rfl⟩
    obtain ⟨⟨a,b,c,d,rfl,_⟩,_⟩:=h;exact absurd rfl h4
theorem Same_l1 {I J : List Int} {S : List (List Int)} (hs : S.length≤1000) : ∀ (d i k : Nat),d=S.length - i→i≤S.length→d + 1≤k→humusref08_Same.l1 k (i : Int) I S J S=some true:=by
  intro d
  induction d with
  | zero =>
    intro i k hd hi hk
    obtain ⟨k,rfl⟩ : ∃ m,k=m + 1:=⟨k - 1,by omega⟩
    rw [humusref08_Same.l1,if_neg (by omega)]
  | succ d ih =>
    intro i k hd hi hk
    obtain ⟨k,rfl⟩ : ∃ m,k=m + 1:=⟨k - 1,by omega⟩
    have hw : wrap64 ((i : Int) + 1)=((i + 1 : Nat) : Int):=by unfold wrap64; omega
    rw [humusref08_Same.l1,if_pos (by omega),if_pos (by omega),if_pos (by omega),if_pos rfl,hw]
    exact ih (i + 1) k (by omega) (by omega) (by omega)
theorem Same_l0 {I : List Int} {S : List (List Int)} (hs : S.length≤1000) (hI : I.length≤1000) : ∀ (d i k : Nat),d=I.length - i→i≤I.length→d + 1005≤k→humusref08_Same.l0 k (i : Int) I S I S=some true:=by
  intro d
  induction d with
  | zero =>
    intro i k hd hi hk
    obtain ⟨k,rfl⟩ : ∃ m,k=m + 1:=⟨k - 1,by omega⟩
    rw [humusref08_Same.l0,if_neg (by omega)]
    exact Same_l1 hs S.length 0 k (by omega) (by omega) (by omega)
  | succ d ih =>
    intro i k hd hi hk
    obtain ⟨k,rfl⟩ : ∃ m,k=m + 1:=⟨k - 1,by omega⟩
    have hw : wrap64 ((i : Int) + 1)=((i + 1 : Nat) : Int):=by unfold wrap64; omega
    rw [humusref08_Same.l0,if_pos (by omega),if_pos (by omega),if_pos (by omega),if_pos rfl,hw]
    exact ih (i + 1) k (by omega) (by omega) (by omega)
theorem Same_refl {k : Nat} {I : List Int} {S : List (List Int)} (hs : S.length≤1000) (hI : I.length≤1000) (hk : 2010≤k) : humusref08_Same.f k I S I S=some true:=by
  obtain ⟨k,rfl⟩ : ∃ m,k=m + 1:=⟨k - 1,by omega⟩
  unfold humusref08_Same.f
  rw [if_pos rfl,bne_self_eq_false,humusref08_Same.j0,if_neg (by decide)]
  exact Same_l0 hs hI I.length 0 k (by omega) (by omega) (by omega)
end Go.Proofs.Ytjigckhopkclgaa.P
namespace Go.Proofs.Ytjigckhopkclgaa.P
open Go.RowKit Ytjigckhopkclgaa Ytjigckhopkclgaa.Mem YtjigckhopkclgaaW.PrintWords YtjigckhopkclgaaW.PrintLast YtjigckhopkclgaaW.PrintMore
theorem May_l1_step {k : Nat} {I : List Int} {S : List (List Int)} (i j : Nat) (x y : Int) (hl : I.length≤1000) (hi : i<I.length) (hj : j<i) (hx : rd I (i : Int)=x) (hy : rd I (j : Int)=y) :
    (¬ (y≠0∧y=x)→humusref08_May.l1 (k + 1) (i : Int) (j : Int) I S=humusref08_May.l1 k (i : Int) ((j + 1 : Nat) : Int) I S)∧((y≠0∧y=x)→humusref08_May.l1 (k + 1) (i : Int) (j : Int) I S=some false):=by
  have hw : wrap64 ((j : Int) + 1)=((j + 1 : Nat) : Int):=by unfold wrap64; omega
  rw [humusref08_May.l1,if_pos (by omega),if_pos (by omega),if_pos (by omega),hy,hw]
  by_cases h0 : y=0
  · rw [if_pos h0]; exact ⟨fun _=>rfl,fun h=>absurd h0 h.1⟩
  · rw [if_neg h0,if_pos (by omega),if_pos (by omega),hx]
    by_cases h1 : y=x
    · rw [if_pos h1]; exact ⟨fun h=>absurd ⟨h0,h1⟩ h,fun _=>rfl⟩
    · rw [if_neg h1]; exact ⟨fun _=>rfl,fun h=>absurd h.2 h1⟩
theorem May_l1_end {k : Nat} {I : List Int} {S : List (List Int)} (i : Nat) (hi : i≤1000) : humusref08_May.l1 (k + 1) (i : Int) (i : Int) I S=humusref08_May.l0 k ((i + 1 : Nat) : Int) I S:=by
  have hw : wrap64 ((i : Int) + 1)=((i + 1 : Nat) : Int):=by unfold wrap64; omega
  rw [humusref08_May.l1,if_neg (by omega),hw]
theorem May_l0_step {k : Nat} {I : List Int} {S : List (List Int)} (i : Nat) (x : Int) (hi : i<I.length) (h4 : i<4) (hx : rd I (i : Int)=x) :
    ((0≤x∧x≤2147483647)→humusref08_May.l0 (k + 2) (i : Int) I S=humusref08_May.l1 k (i : Int) 0 I S)∧(¬ (0≤x∧x≤2147483647)→humusref08_May.l0 (k + 2) (i : Int) I S=some false):=by
  rw [humusref08_May.l0,if_pos (by omega),if_pos (by omega),if_pos (by omega),hx]
  by_cases h0 : x<0
  · rw [if_pos h0,humusref08_May.j2,if_pos rfl]; exact ⟨fun h=>by omega,fun _=>rfl⟩
  · rw [if_neg h0,humusref08_May.j2]
    by_cases h1 : x > 2147483647
    · rw [if_pos (dt_ h1)]; exact ⟨fun h=>by omega,fun _=>rfl⟩
    · rw [if_neg (by rw [decide_eq_true_eq]; exact h1)]; exact ⟨fun _=>rfl,fun h=>absurd ⟨by omega,by omega⟩ h⟩
def LastOk (S : List (List Int)) : Prop:=0<S.length→(rd_L2 S ((S.length - 1 : Nat) : Int)).length≠0
theorem May_l2_pos {I : List Int} {S : List (List Int)} (hs : Small S) (h5 : ∀ s ∈ S,s.length≤255) (hL : LastOk S) : ∀ (d i k : Nat),d=S.length - i→i≤S.length→d + 1010≤k→humusref08_May.l2 k (i : Int) I S=some (decide (needL S≤508)):=by
  have hl:=hs.len;intro d
  induction d with
  | zero =>
    intro i k hd hi hk
    obtain ⟨k,rfl⟩ : ∃ m,k=m + 1:=⟨k - 1,by omega⟩
    rw [humusref08_May.l2,if_neg (by omega),Need_ev hs (by omega),Option.bind_some]
  | succ d ih =>
    intro i k hd hi hk
    obtain ⟨k,rfl⟩ : ∃ m,k=m + 1:=⟨k - 1,by omega⟩
    have hlt : i<S.length:=by omega
    have he:=h5 _ (rdR_mem hlt)
    have hw : wrap64 ((i : Int) + 1)=((i + 1 : Nat) : Int):=by unfold wrap64; omega
    rw [humusref08_May.l2,if_pos (by omega),if_pos (by omega),if_neg (by omega),wsub (by omega) (by omega),hw]
    by_cases hq : (i : Int)=((S.length - 1 : Nat) : Int)
    · rw [if_pos hq,if_neg (by rw [hq]; have:=hL (by omega); omega)]
      exact ih (i + 1) k (by omega) (by omega) (by omega)
    · rw [if_neg hq]
      exact ih (i + 1) k (by omega) (by omega) (by omega)
theorem May_l2_neg {I : List Int} {S : List (List Int)} (hs : Small S) : ∀ (d i k : Nat),d=S.length - i→i≤S.length→d + 1010≤k→¬ ((∀ j,i≤j→j<S.length→(rd_L2 S (j : Int)).length≤255)∧(i<S.length→LastOk S))→humusref08_May.l2 k (i : Int) I S=some false:=by
  have hl:=hs.len;intro d
  induction d with
  | zero =>
    intro i k hd hi hk h
    exact absurd ⟨fun j h1 h2=>by omega,fun q=>by omega⟩ h
  | succ d ih =>
    intro i k hd hi hk h
    obtain ⟨k,rfl⟩ : ∃ m,k=m + 1:=⟨k - 1,by omega⟩
    have hlt : i<S.length:=by omega
    have hw : wrap64 ((i : Int) + 1)=((i + 1 : Nat) : Int):=by unfold wrap64; omega
    rw [humusref08_May.l2,if_pos (by omega),if_pos (by omega),wsub (by omega) (by omega),hw]
    by_cases h1 : ((rd_L2 S (i : Int)).length : Int) > 255
    · rw [if_pos h1]
    · rw [if_neg h1]
      have more : ¬ ((∀ j,i + 1≤j→j<S.length→(rd_L2 S (j : Int)).length≤255)∧(i<S.length→LastOk S)):=fun hh=>h ⟨fun j q1 q2=>by
        by_cases e : j=i
        · subst e; omega
        · exact hh.1 j (by omega) q2,hh.2⟩
      by_cases hq : (i : Int)=((S.length - 1 : Nat) : Int)
      · rw [if_pos hq]
        by_cases hz : ((rd_L2 S (i : Int)).length : Int)=0
        · rw [if_pos hz]
        · exfalso
          refine more ⟨fun j q1 q2=>by omega,fun _ _=>?_⟩
          rw [← hq]; omega
      · rw [if_neg hq]
        exact ih (i + 1) k (by omega) (by omega) (by omega) (fun hh=>more ⟨hh.1,fun _=>hh.2 (by omega)⟩)
theorem May_l2 {k : Nat} {I : List Int} {S : List (List Int)} (hs : Small S) (hk : 2020≤k) : (((∀ s ∈ S,s.length≤255)∧LastOk S∧needL S≤508)→humusref08_May.l2 k 0 I S=some true)∧(¬ ((∀ s ∈ S,s.length≤255)∧LastOk S∧needL S≤508)→humusref08_May.l2 k 0 I S=some false):=by
  have hl:=hs.len
  by_cases h : (∀ s ∈ S,s.length≤255)∧LastOk S
  · have:=May_l2_pos (I:=I) hs h.1 h.2 S.length 0 k (by omega) (by omega) (by omega)
    rw [show ((0 : Nat) : Int)=0 from rfl] at this
    rw [this]
    refine ⟨fun hh=>by rw [dt_ hh.2.2],fun hh=>by rw [df_ fun q=>hh ⟨h.1,h.2,q⟩]⟩
  · refine ⟨fun hh=>absurd ⟨hh.1,hh.2.1⟩ h,fun _=>?_⟩
    refine May_l2_neg (I:=I) hs S.length 0 k (by omega) (by omega) (by omega) (fun hh=>h ⟨fun s hm=>?_,fun q=>hh.2 q q⟩)
    obtain ⟨j,hj⟩:=List.mem_iff_getElem?.1 hm;have hj':=(List.getElem?_eq_some_iff.1 hj).1;have:=hh.1 j (Nat.zero_le _) hj';have e:=(rdR_at hj').symm.trans hj
    injection e with e
    rw [← e]; exact this
theorem mayL4 {a b c d : Int} {S : List (List Int)} : MayL [a,b,c,d] S ↔ OkI a b c d∧OkS S:=⟨fun ⟨⟨a',b',c',d',he,ho⟩,h2⟩=>by
  injection he with e1 e2; injection e2 with e2 e3; injection e3 with e3 e4; injection e4 with e4 _
  subst e1 e2 e3 e4; exact ⟨ho,h2⟩,fun h=>⟨⟨a,b,c,d,rfl,h.1⟩,h.2⟩⟩
theorem May_loop {k : Nat} {a b c d : Int} {S : List (List Int)} (hs : Small S) (hk : 2050≤k) : ((OkI a b c d∧((∀ s ∈ S,s.length≤255)∧LastOk S∧needL S≤508))→humusref08_May.l0 k 0 [a,b,c,d] S=some true)∧(¬ (OkI a b c d∧((∀ s ∈ S,s.length≤255)∧LastOk S∧needL S≤508))→humusref08_May.l0 k 0 [a,b,c,d] S=some false):=by
  obtain ⟨k,rfl⟩ : ∃ m,k=m + 1 + 1 + 1 + 1 + 1 + 2 + 1 + 1 + 1 + 2 + 1 + 1 + 2 + 1 + 2:=⟨k - 19,by omega⟩
  have A0:=@May_l0_step (k + 1 + 1 + 1 + 1 + 1 + 2 + 1 + 1 + 1 + 2 + 1 + 1 + 2 + 1) [a,b,c,d] S 0 a (by simp) (by decide) rfl
  have E0:=@May_l1_end (k + 1 + 1 + 1 + 1 + 1 + 2 + 1 + 1 + 1 + 2 + 1 + 1 + 2) [a,b,c,d] S 0 (by decide)
  have A1:=@May_l0_step (k + 1 + 1 + 1 + 1 + 1 + 2 + 1 + 1 + 1 + 2 + 1 + 1) [a,b,c,d] S 1 b (by simp) (by decide) rfl
  have B1:=@May_l1_step (k + 1 + 1 + 1 + 1 + 1 + 2 + 1 + 1 + 1 + 2 + 1) [a,b,c,d] S 1 0 b a (by simp) (by simp) (by decide) rfl rfl
  have E1:=@May_l1_end (k + 1 + 1 + 1 + 1 + 1 + 2 + 1 + 1 + 1 + 2) [a,b,c,d] S 1 (by decide)
  have A2:=@May_l0_step (k + 1 + 1 + 1 + 1 + 1 + 2 + 1 + 1 + 1) [a,b,c,d] S 2 c (by simp) (by decide) rfl
  have B2:=@May_l1_step (k + 1 + 1 + 1 + 1 + 1 + 2 + 1 + 1) [a,b,c,d] S 2 0 c a (by simp) (by simp) (by decide) rfl rfl
  have C2:=@May_l1_step (k + 1 + 1 + 1 + 1 + 1 + 2 + 1) [a,b,c,d] S 2 1 c b (by simp) (by simp) (by decide) rfl rfl
  have E2:=@May_l1_end (k + 1 + 1 + 1 + 1 + 1 + 2) [a,b,c,d] S 2 (by decide)
  have A3:=@May_l0_step (k + 1 + 1 + 1 + 1 + 1) [a,b,c,d] S 3 d (by simp) (by decide) rfl
  have B3:=@May_l1_step (k + 1 + 1 + 1 + 1) [a,b,c,d] S 3 0 d a (by simp) (by simp) (by decide) rfl rfl
  have C3:=@May_l1_step (k + 1 + 1 + 1) [a,b,c,d] S 3 1 d b (by simp) (by simp) (by decide) rfl rfl
  have D3:=@May_l1_step (k + 1 + 1) [a,b,c,d] S 3 2 d c (by simp) (by simp) (by decide) rfl rfl
  have E3:=@May_l1_end (k + 1) [a,b,c,d] S 3 (by decide)
  have L:=@May_l2 k [a,b,c,d] S hs (by omega)
  have Z : humusref08_May.l0 (k + 1) ((3 + 1 : Nat) : Int) [a,b,c,d] S=humusref08_May.l2 k 0 [a,b,c,d] S:=by
    rw [humusref08_May.l0,if_neg (by decide)]
  have z0 : ((0 : Nat) : Int)=0:=rfl;have z1 : ((1 : Nat) : Int)=1:=rfl;have z2 : ((2 : Nat) : Int)=2:=rfl;have z3 : ((3 : Nat) : Int)=3:=rfl;have z4 : ((4 : Nat) : Int)=4:=rfl
  simp only [z0,z1,z2,z3,z4,Nat.zero_add,Nat.reduceAdd] at A0 E0 A1 B1 E1 A2 B2 C2 E2 A3 B3 C3 D3 E3 Z
  generalize ((∀ s ∈ S,s.length≤255)∧LastOk S∧needL S≤508)=X at *
  have H : ∀ {Q : Prop} {o : Option Bool},¬ Q→o=some false→((Q∧X)→o=some true)∧(¬ (Q∧X)→o=some false):=fun h e=>⟨fun hh=>absurd hh.1 h,fun _=>e⟩
  by_cases a0 : 0≤a∧a≤2147483647
  rotate_left
  · exact H (fun o=>a0 o.1) (A0.2 a0)
  rw [A0.1 a0,E0]
  by_cases b0 : 0≤b∧b≤2147483647
  rotate_left
  · exact H (fun o=>b0 o.2.1) (A1.2 b0)
  rw [A1.1 b0]
  by_cases b1 : a≠0∧a=b
  · exact H (fun o=>o.2.2.2.2.1 (by omega) b1.2.symm) (B1.2 b1)
  rw [B1.1 b1,E1]
  by_cases c0 : 0≤c∧c≤2147483647
  rotate_left
  · exact H (fun o=>c0 o.2.2.1) (A2.2 c0)
  rw [A2.1 c0]
  by_cases c1 : a≠0∧a=c
  · exact H (fun o=>(o.2.2.2.2.2.1 (by omega)).1 c1.2.symm) (B2.2 c1)
  rw [B2.1 c1]
  by_cases c2 : b≠0∧b=c
  · exact H (fun o=>(o.2.2.2.2.2.1 (by omega)).2 c2.2.symm) (C2.2 c2)
  rw [C2.1 c2,E2]
  by_cases d0 : 0≤d∧d≤2147483647
  rotate_left
  · exact H (fun o=>d0 o.2.2.2.1) (A3.2 d0)
  rw [A3.1 d0]
  by_cases d1 : a≠0∧a=d
  · exact H (fun o=>(o.2.2.2.2.2.2 (by omega)).1 d1.2.symm) (B3.2 d1)
  rw [B3.1 d1]
  by_cases d2 : b≠0∧b=d
  · exact H (fun o=>(o.2.2.2.2.2.2 (by omega)).2.1 d2.2.symm) (C3.2 d2)
  rw [C3.1 d2]
  by_cases d3 : c≠0∧c=d
  · exact H (fun o=>(o.2.2.2.2.2.2 (by omega)).2.2 d3.2.symm) (D3.2 d3)
  rw [D3.1 d3,E3,Z]
  have ok : OkI a b c d:=⟨a0,b0,c0,d0,fun p q=>b1 ⟨by omega,q.symm⟩,fun p=>⟨fun q=>c1 ⟨by omega,q.symm⟩,fun q=>c2 ⟨by omega,q.symm⟩⟩,fun p=>⟨fun q=>d1 ⟨by omega,q.symm⟩,fun q=>d2 ⟨by omega,q.symm⟩,fun q=>d3 ⟨by omega,q.symm⟩⟩⟩
  exact ⟨fun h=>L.1 h.2,fun h=>L.2 fun x=>h ⟨ok,x⟩⟩
theorem May_ev {k : Nat} {I : List Int} {S : List (List Int)} (hs : Small S) (hk : 2060≤k) : (MayL I S→humusref08_May.f k I S=some true)∧(¬ MayL I S→humusref08_May.f k I S=some false):=by
  have hl:=hs.len
  obtain ⟨k,rfl⟩ : ∃ m,k=m + 1:=⟨k - 1,by omega⟩
  unfold humusref08_May.f
  by_cases h4 : (I.length : Int)=4
  · rw [if_pos h4]
    obtain ⟨a,b,c,d,rfl⟩:=four (I:=I) (by omega)
    rw [mayL4,humusref08_May.j0]
    have L:=May_loop (k:=k) (a:=a) (b:=b) (c:=c) (d:=d) hs (by omega)
    by_cases h64 : (S.length : Int) > 64
    · rw [if_pos (dt_ h64)]
      exact ⟨fun h=>by have:=h.2.1; omega,fun _=>rfl⟩
    · rw [if_neg (by rw [decide_eq_true_eq]; exact h64)]
      exact ⟨fun h=>L.1 ⟨h.1,h.2.2.2.1,h.2.2.1,h.2.2.2.2⟩,fun h=>L.2 fun hh=>h ⟨hh.1,by omega,hh.2.2.1,hh.2.1,hh.2.2.2⟩⟩
  · rw [if_neg h4,humusref08_May.j0,if_pos rfl]
    refine ⟨fun h=>?_,fun _=>rfl⟩
    obtain ⟨⟨a,b,c,d,rfl,_⟩,_⟩:=h;exact absurd rfl h4
theorem awake08_at : humuslaw08_awake.f 700=some true:=by kernel_rfl
theorem awake08_ev : ∀ {k : Nat},700≤k→humuslaw08_awake.f k=some true:=by
  intro k hk
  obtain ⟨d,rfl⟩ : ∃ d,k=700 + d:=⟨k - 700,by omega⟩
  clear hk
  induction d with
  | zero=>exact awake08_at
  | succ d ih=>exact humuslaw08_awake.mono (700 + d) _ ih
end Go.Proofs.Ytjigckhopkclgaa.P
