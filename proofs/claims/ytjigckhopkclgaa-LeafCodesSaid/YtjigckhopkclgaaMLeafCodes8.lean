/- by wip/prune.py -/
import Derived.Test.YtjigckhopkclgaaMLeafCodes3
import Derived.Test.YtjigckhopkclgaaMLeafCodes4
import Derived.Test.YtjigckhopkclgaaMLeafCodes6
import Derived.Test.YtjigckhopkclgaaMLeafCodes7
set_option linter.unusedSimpArgs false
set_option linter.unusedVariables false
namespace Go.Proofs.Ytjigckhopkclgaa.P
open Go.RowKit YtjigckhopkclgaaW.PrintWords YtjigckhopkclgaaW.PrintLast YtjigckhopkclgaaW.PrintMore
attribute [local go_sem] max2_int min2_int max_two min_two max_three min_three max_four min_four   -- for this text's walks alone
attribute [local go_sem] run_store_float
def leaf_need.l0 : Nat→Int→List (List Int)→Int→Int→Option (Int)
 | 0,_,_,_,_=>none
 | k + 1,x3,x7,x8,x9=>if x9<x8 then (if 0≤x9 then (if x9<(x7.length : Int) then (leaf_need.l0 k (wrap64 (x3 + (wrap64 (1 + ((rd_L2 x7 x9).length : Int))))) x7 x8 (wrap64 (x9 + 1))) else (none)) else (none)) else (some x3)
def leaf_need.f (k : Nat) (l0_0 : List Int) (l0_1 : List (List Int)) : Option (Int):=leaf_need.l0 k 18 l0_1 (l0_1.length : Int) 0
theorem leaf_need.mono_l : ∀ k,(∀ y0 y1 y2 y3,LeO (leaf_need.l0 k y0 y1 y2 y3) (leaf_need.l0 (k + 1) y0 y1 y2 y3))
 | 0=>fun _ _ _ _ r h=>by simp [leaf_need.l0] at h
 | k + 1=>by
  have ih0:=leaf_need.mono_l k
  ·intro y0 y1 y2 y3
   unfold leaf_need.l0
   repeat' first
   | (with_reducible exact ih0 _ _ _ _)
   | (with_reducible exact LeO.refl _)
   | (with_reducible exact LeO.none _)
   | (with_reducible refine LeO.ite ?_ ?_)
   | (with_reducible refine LeO.bind ?_ (fun _=>?_))
   | exact ih0 _ _ _ _
   | exact LeO.none _
   | refine LeO.ite ?_ ?_
   | refine LeO.bind ?_ (fun _=>?_)
theorem leaf_need.mono : ∀ a0 a1 k,LeO (leaf_need.f k a0 a1) (leaf_need.f (k + 1) a0 a1):=by
 intro a0 a1 k;have ih0:=leaf_need.mono_l k
 unfold leaf_need.f
 repeat' first
   | (with_reducible exact ih0 _ _ _ _)
   | (with_reducible exact LeO.refl _)
   | (with_reducible exact LeO.none _)
   | (with_reducible refine LeO.ite ?_ ?_)
   | (with_reducible refine LeO.bind ?_ (fun _=>?_))
   | exact ih0 _ _ _ _
   | exact LeO.none _
   | refine LeO.ite ?_ ?_
   | refine LeO.bind ?_ (fun _=>?_)
set_option maxHeartbeats 8000000 in
set_option maxRecDepth 100000 in
theorem leaf_need.calls (k : Nat) (A0_0 : Option Addr) (c0_0 : Nat) (l0_0 : List Int) (A0_1 : Option Addr) (c0_1 : Nat) (l0_1 : List (List Int)) (r : Int) (w : World) (hr0_0 : Kd.C (Kd.int .i64) w A0_0 l0_0.length l0_0) (hc0_0 : l0_0.length≤c0_0) (hr0_1 : Kd.C (Kd.slice 5 (Kd.int .u8)) w A0_1 l0_1.length l0_1) (hc0_1 : l0_1.length≤c0_1) (h : leaf_need.f k l0_0 l0_1=some r) :
  Calls Try.prog 46 #[.agg #[.slice A0_0 l0_0.length c0_0,.slice A0_1 l0_1.length c0_1]] w fun e w'=>e=.returned (.int .i64 r)∧Below w.heap.size w w':=by
 have hu27:=Try.underlying27;have HR0_0:=A_ hr0_0;have HC0_0:=A_ hc0_0;clear hr0_0 hc0_0;have HR0_1:=A_ hr0_1;have HC0_1:=A_ hc0_1;clear hr0_1 hc0_1;have HB:=A_ (Below.refl w.heap.size w);have H : (leaf_need.l0 k 18 l0_1 (l0_1.length : Int) 0)=some r:=h;clear h;have H':=A_ H;clear H;go_enter Try.func46,Try.ntmps46
 go_wp2_with (first|((with_reducible refine gate_dst (N:=1) rfl ?_);refine box_event ?hg (N:=1) ?hd (cs:=#[.slice A0_0 l0_0.length c0_0,.slice A0_1 l0_1.length c0_1]) (t:=27) ?hr ?_;(case hd=>rfl);(case hg=>rfl);(case hr=>first|(go_simp;done)|(go_simp;rfl));intro gb103 hg w2 hbox hb;have n0_:=A_ (bp_ (by repeat (first|(with_reducible first|exact HB.out|apply ba_|apply bd_|apply be_)|exact HB.out)) hb);have n1_:=A_ (hbox);have n2_:=A_ ((by rw [hg];exact (bz_ (by repeat (first|(with_reducible first|exact HB.out|apply ba_|apply bd_|apply be_)|exact HB.out))) : w.heap.size≤gb103));have n3_:=n2_;clear HB;have HB:=n0_;have BK103:=n1_;have GW103:=n2_;have GE103:=n3_;clear n0_ n1_ n2_ n3_;clear hb hbox hg;have z3_0 : w2.cell? ⟨gb103,0,none⟩=some (.slice A0_0 l0_0.length c0_0):=(bc_ BK103.out 0).trans rfl;have z3_1 : w2.cell? ⟨gb103,1,none⟩=some (.slice A0_1 l0_1.length c0_1):=(bc_ BK103.out 1).trans rfl;have y3_0:=bf_ BK103.out 0;have y3_1:=bf_ BK103.out 1))
 go_loopg [3,9] k (fun kq v3 v9 w'=>∃ (x3_1 : Int) (x9_1 : Int),v3=.int .i64 x3_1∧v9=.int .i64 x9_1∧Aside0 (leaf_need.l0 kq x3_1 l0_1 (l0_1.length : Int) x9_1=some r)∧Aside0 (kq≤k)∧Aside0 (w'.heap[gb103]?=some (.cells #[(.slice A0_0 l0_0.length c0_0),(.slice A0_1 l0_1.length c0_1)] 27 (0,0)))∧Aside0 (Below w.heap.size w w'))
 case atStart=>exact ⟨(18),(0),(by first|rfl|(simp;done)|(simp [*];done)),(by first|rfl|(simp;done)|(simp [*];done)),H',⟨Nat.le_refl _⟩,⟨by (with_reducible repeat (first|refine kd_ ?_ _|refine ke_ ?_|refine ka_ ?_ _));exact BK103.out⟩,⟨by repeat (first|(with_reducible first|exact HB.out|apply ba_|apply bd_|apply be_|refine bs_ ?_ GE103.out)|exact HB.out)⟩⟩
 case round =>
  clear H';(try clear p2);(try clear z3_0 z3_1 y3_0 y3_1);obtain ⟨x3_1,x9_1,rfl,rfl,HA,HK1,BK103,HB⟩:=hrel
  cases gk with
  | zero=>exact absurd HA.out (by simp [leaf_need.l0])
  | succ k1 =>
   have H:=HA.out;clear HA
   simp only [leaf_need.l0] at H
   by_cases c4 : x9_1<(l0_1.length : Int)
   ·rw [if_pos c4] at H
    have c4b0 : decide (x9_1<(l0_1.length : Int))=true:=dt_ c4;clear c4
    by_cases c5 : 0≤x9_1
    ·rw [if_pos c5] at H
     have c5b0 : decide (0≤x9_1)=true:=dt_ c5;clear c5
     by_cases c6 : x9_1<(l0_1.length : Int)
     ·rw [if_pos c6] at H
      have c6b0 : decide (x9_1<(l0_1.length : Int))=true:=dt_ c6;clear c6;have H':=A_ H;clear H
      have p104 : 0≤(x9_1 : Int):=od_ (by first|(with_reducible assumption)|assumption)
      have q104 : x9_1<(l0_1.length : Int):=od_ (by first|(with_reducible assumption)|assumption)
      obtain ⟨ad104,A104_0,c104_0,e104,hx104_0,hl104_0,hi104_0⟩:=at_L2 HR0_1.out x9_1 p104 q104
      cases e104
      replace hx104_0:=(HB.out.cell (wb_ w _ hx104_0)).trans hx104_0;have HR104_0:=A_ hi104_0;have HC104_0:=A_ hl104_0;clear hi104_0 hl104_0;replace p104:=eq_true p104;replace q104:=eq_true q104;go_wp2;go_roundg k1
      case measure=>have:=HK1.out;omega
      case rel=>exact ⟨(wrap64 (x3_1 + (wrap64 (1 + ((rd_L2 l0_1 x9_1).length : Int))))),(wrap64 (x9_1 + 1)),(by first|rfl|(simp;done)|(simp [*];done)),(by first|rfl|(simp;done)|(simp [*];done)),H',⟨by have:=HK1.out;omega⟩,⟨by (with_reducible repeat (first|refine kd_ ?_ _|refine ke_ ?_|refine ka_ ?_ _));exact BK103.out⟩,⟨by repeat (first|(with_reducible first|exact HB.out|apply ba_|apply bd_|apply be_|refine bs_ ?_ GE103.out)|exact HB.out)⟩⟩
     ·rw [if_neg c6] at H
      exact absurd H (by simp)
    ·rw [if_neg c5] at H
     exact absurd H (by simp)
   ·rw [if_neg c4] at H
    have c4b0 : decide (x9_1<(l0_1.length : Int))=false:=df_ c4;clear c4;obtain rfl:=Option.some.inj H;go_wp2;go_ret
    exact ⟨by first|rfl|(simp [errW_none,errW_some] <;> rfl)|(simp [*,errW_none,errW_some] <;> rfl),by repeat (first|(with_reducible first|exact HB.out|apply ba_|apply bd_|apply be_|refine bs_ ?_ GE103.out)|exact HB.out)⟩
mutual
def leaf_Check.j0 : Nat→Bool→List Int→List (List Int)→Option (Int)
 | 0,_,_,_=>none
 | k + 1,x30,x106000,x106001=>if x30=true then (some 1) else (leaf_Check.l0 k x106000 (x106000.length : Int) 0 x106000 x106001)
def leaf_Check.l0 : Nat→List Int→Int→Int→List Int→List (List Int)→Option (Int)
 | 0,_,_,_,_,_=>none
 | k + 1,x32,x33,x34,x106000,x106001=>if x34<x33 then (if 0≤x34 then (if x34<(x32.length : Int) then (if (rd x32 x34)<0 then (some 1) else (if (rd x32 x34) > 2147483647 then (some 1) else (if (rd x32 x34) > 0 then (if x34≤(x106000.length : Int) then ((slices_Contains_int_int.f k (x106000.take (x34 : Int).toNat) (rd x32 x34)).bind fun t109=>(if t109=true then (leaf_Check.j2 k 1) else (leaf_Check.l0 k x32 x33 (wrap64 (x34 + 1)) x106000 x106001))) else (none)) else (leaf_Check.l0 k x32 x33 (wrap64 (x34 + 1)) x106000 x106001)))) else (none)) else (none)) else ((containsFunc_leaf_Check_1.f x106001).bind fun t110=>(if t110=true then (leaf_Check.j3 k 1) else ((leaf_need.f k x106000 x106001).bind fun t111=>(if t111 > 508 then (leaf_Check.j4 k 1) else (some 0)))))
def leaf_Check.j2 : Nat→Int→Option (Int)
 | 0,_=>none
 | k + 1,x2=>some x2
def leaf_Check.j3 : Nat→Int→Option (Int)
 | 0,_=>none
 | k + 1,x2=>some x2
def leaf_Check.j4 : Nat→Int→Option (Int)
 | 0,_=>none
 | k + 1,x2=>some x2
end
def leaf_Check.f (k : Nat) (l0_0 : List Int) (l0_1 : List (List Int)) : Option (Int):=if (l0_0.length : Int)=4 then (if (l0_1.length : Int) > 64 then (leaf_Check.j0 k true l0_0 l0_1) else (if (l0_1.length : Int) > 0 then (if 0≤(wrap64 ((l0_1.length : Int) - 1)) then (if (wrap64 ((l0_1.length : Int) - 1))<(l0_1.length : Int) then (leaf_Check.j0 k (((rd_L2 l0_1 (wrap64 ((l0_1.length : Int) - 1))).length : Int) == 0) l0_0 l0_1) else (none)) else (none)) else (leaf_Check.j0 k false l0_0 l0_1))) else (leaf_Check.j0 k true l0_0 l0_1)
theorem leaf_Check.mono_l : ∀ k,(∀ y0 y1 y2,LeO (leaf_Check.j0 k y0 y1 y2) (leaf_Check.j0 (k + 1) y0 y1 y2))∧(∀ y0 y1 y2 y3 y4,LeO (leaf_Check.l0 k y0 y1 y2 y3 y4) (leaf_Check.l0 (k + 1) y0 y1 y2 y3 y4))∧(∀ y0,LeO (leaf_Check.j2 k y0) (leaf_Check.j2 (k + 1) y0))∧(∀ y0,LeO (leaf_Check.j3 k y0) (leaf_Check.j3 (k + 1) y0))∧(∀ y0,LeO (leaf_Check.j4 k y0) (leaf_Check.j4 (k + 1) y0))
 | 0=>⟨fun _ _ _ r h=>by simp [leaf_Check.j0] at h,fun _ _ _ _ _ r h=>by simp [leaf_Check.l0] at h,fun _ r h=>by simp [leaf_Check.j2] at h,fun _ r h=>by simp [leaf_Check.j3] at h,fun _ r h=>by simp [leaf_Check.j4] at h⟩
 | k + 1=>by
  obtain ⟨ih0,ih1,ih2,ih3,ih4⟩:=leaf_Check.mono_l k;refine ⟨?_,?_,?_,?_,?_⟩
  ·intro y0 y1 y2
   unfold leaf_Check.j0
   repeat' first
   | (with_reducible exact ih0 _ _ _)
   | (with_reducible exact ih1 _ _ _ _ _)
   | (with_reducible exact ih2 _)
   | (with_reducible exact ih3 _)
   | (with_reducible exact ih4 _)
   | (with_reducible exact leaf_need.mono _ _ _)
   | (with_reducible exact slices_Contains_int_int.mono _ _ _)
   | (with_reducible exact LeO.refl _)
   | (with_reducible exact LeO.none _)
   | (with_reducible refine LeO.ite ?_ ?_)
   | (with_reducible refine LeO.bind ?_ (fun _=>?_))
   | exact ih0 _ _ _
   | exact ih1 _ _ _ _ _
   | exact ih2 _
   | exact ih3 _
   | exact ih4 _
   | exact leaf_need.mono _ _ _
   | exact slices_Contains_int_int.mono _ _ _
   | exact LeO.none _
   | refine LeO.ite ?_ ?_
   | refine LeO.bind ?_ (fun _=>?_)
  ·intro y0 y1 y2 y3 y4
   unfold leaf_Check.l0
   repeat' first
   | (with_reducible exact ih0 _ _ _)
   | (with_reducible exact ih1 _ _ _ _ _)
   | (with_reducible exact ih2 _)
   | (with_reducible exact ih3 _)
   | (with_reducible exact ih4 _)
   | (with_reducible exact leaf_need.mono _ _ _)
   | (with_reducible exact slices_Contains_int_int.mono _ _ _)
   | (with_reducible exact LeO.refl _)
   | (with_reducible exact LeO.none _)
   | (with_reducible refine LeO.ite ?_ ?_)
   | (with_reducible refine LeO.bind ?_ (fun _=>?_))
   | exact ih0 _ _ _
   | exact ih1 _ _ _ _ _
   | exact ih2 _
   | exact ih3 _
   | exact ih4 _
   | exact leaf_need.mono _ _ _
   | exact slices_Contains_int_int.mono _ _ _
   | exact LeO.none _
   | refine LeO.ite ?_ ?_
   | refine LeO.bind ?_ (fun _=>?_)
  ·intro y0
   unfold leaf_Check.j2
   repeat' first
   | (with_reducible exact ih0 _ _ _)
   | (with_reducible exact ih1 _ _ _ _ _)
   | (with_reducible exact ih2 _)
   | (with_reducible exact ih3 _)
   | (with_reducible exact ih4 _)
   | (with_reducible exact leaf_need.mono _ _ _)
   | (with_reducible exact slices_Contains_int_int.mono _ _ _)
   | (with_reducible exact LeO.refl _)
   | (with_reducible exact LeO.none _)
   | (with_reducible refine LeO.ite ?_ ?_)
   | (with_reducible refine LeO.bind ?_ (fun _=>?_))
   | exact ih0 _ _ _
   | exact ih1 _ _ _ _ _
   | exact ih2 _
   | exact ih3 _
   | exact ih4 _
   | exact leaf_need.mono _ _ _
   | exact slices_Contains_int_int.mono _ _ _
   | exact LeO.none _
   | refine LeO.ite ?_ ?_
   | refine LeO.bind ?_ (fun _=>?_)
  ·intro y0
   unfold leaf_Check.j3
   repeat' first
   | (with_reducible exact ih0 _ _ _)
   | (with_reducible exact ih1 _ _ _ _ _)
   | (with_reducible exact ih2 _)
   | (with_reducible exact ih3 _)
   | (with_reducible exact ih4 _)
   | (with_reducible exact leaf_need.mono _ _ _)
   | (with_reducible exact slices_Contains_int_int.mono _ _ _)
   | (with_reducible exact LeO.refl _)
   | (with_reducible exact LeO.none _)
   | (with_reducible refine LeO.ite ?_ ?_)
   | (with_reducible refine LeO.bind ?_ (fun _=>?_))
   | exact ih0 _ _ _
   | exact ih1 _ _ _ _ _
   | exact ih2 _
   | exact ih3 _
   | exact ih4 _
   | exact leaf_need.mono _ _ _
   | exact slices_Contains_int_int.mono _ _ _
   | exact LeO.none _
   | refine LeO.ite ?_ ?_
   | refine LeO.bind ?_ (fun _=>?_)
  ·intro y0
   unfold leaf_Check.j4
   repeat' first
   | (with_reducible exact ih0 _ _ _)
   | (with_reducible exact ih1 _ _ _ _ _)
   | (with_reducible exact ih2 _)
   | (with_reducible exact ih3 _)
   | (with_reducible exact ih4 _)
   | (with_reducible exact leaf_need.mono _ _ _)
   | (with_reducible exact slices_Contains_int_int.mono _ _ _)
   | (with_reducible exact LeO.refl _)
   | (with_reducible exact LeO.none _)
   | (with_reducible refine LeO.ite ?_ ?_)
   | (with_reducible refine LeO.bind ?_ (fun _=>?_))
   | exact ih0 _ _ _
   | exact ih1 _ _ _ _ _
   | exact ih2 _
   | exact ih3 _
   | exact ih4 _
   | exact leaf_need.mono _ _ _
   | exact slices_Contains_int_int.mono _ _ _
   | exact LeO.none _
   | refine LeO.ite ?_ ?_
   | refine LeO.bind ?_ (fun _=>?_)
theorem leaf_Check.mono : ∀ a0 a1 k,LeO (leaf_Check.f k a0 a1) (leaf_Check.f (k + 1) a0 a1):=by
 intro a0 a1 k;obtain ⟨ih0,ih1,ih2,ih3,ih4⟩:=leaf_Check.mono_l k
 unfold leaf_Check.f
 repeat' first
   | (with_reducible exact ih0 _ _ _)
   | (with_reducible exact ih1 _ _ _ _ _)
   | (with_reducible exact ih2 _)
   | (with_reducible exact ih3 _)
   | (with_reducible exact ih4 _)
   | (with_reducible exact leaf_need.mono _ _ _)
   | (with_reducible exact slices_Contains_int_int.mono _ _ _)
   | (with_reducible exact LeO.refl _)
   | (with_reducible exact LeO.none _)
   | (with_reducible refine LeO.ite ?_ ?_)
   | (with_reducible refine LeO.bind ?_ (fun _=>?_))
   | exact ih0 _ _ _
   | exact ih1 _ _ _ _ _
   | exact ih2 _
   | exact ih3 _
   | exact ih4 _
   | exact leaf_need.mono _ _ _
   | exact slices_Contains_int_int.mono _ _ _
   | exact LeO.none _
   | refine LeO.ite ?_ ?_
   | refine LeO.bind ?_ (fun _=>?_)
set_option maxHeartbeats 8000000 in
set_option maxRecDepth 100000 in
theorem leaf_Check.calls (k : Nat) (A0_0 : Option Addr) (c0_0 : Nat) (l0_0 : List Int) (A0_1 : Option Addr) (c0_1 : Nat) (l0_1 : List (List Int)) (r : Int) (w : World) (hr0_0 : Kd.C (Kd.int .i64) w A0_0 l0_0.length l0_0) (hc0_0 : l0_0.length≤c0_0) (hr0_1 : Kd.C (Kd.slice 5 (Kd.int .u8)) w A0_1 l0_1.length l0_1) (hc0_1 : l0_1.length≤c0_1) (h : leaf_Check.f k l0_0 l0_1=some r) :
  Calls Try.prog 21 #[.agg #[.slice A0_0 l0_0.length c0_0,.slice A0_1 l0_1.length c0_1]] w fun e w'=>e=.returned (.int .i64 r)∧Below w.heap.size w w':=by
 have hu27:=Try.underlying27;have HR0_0:=A_ hr0_0;have HC0_0:=A_ hc0_0;clear hr0_0 hc0_0;have HR0_1:=A_ hr0_1;have HC0_1:=A_ hc0_1;clear hr0_1 hc0_1;have HB:=A_ (Below.refl w.heap.size w)
 have H : (if (l0_0.length : Int)=4 then (if (l0_1.length : Int) > 64 then (leaf_Check.j0 k true l0_0 l0_1) else (if (l0_1.length : Int) > 0 then (if 0≤(wrap64 ((l0_1.length : Int) - 1)) then (if (wrap64 ((l0_1.length : Int) - 1))<(l0_1.length : Int) then (leaf_Check.j0 k (((rd_L2 l0_1 (wrap64 ((l0_1.length : Int) - 1))).length : Int) == 0) l0_0 l0_1) else (none)) else (none)) else (leaf_Check.j0 k false l0_0 l0_1))) else (leaf_Check.j0 k true l0_0 l0_1))=some r:=h
 clear h;have HC2:=A_ H;clear H;go_enter Try.func21,Try.ntmps21
 go_upto_region 2 with (first|((with_reducible refine gate_dst (N:=1) rfl ?_);(try (refine gate_guard (by rfl) ?_;dsimp only));refine box_event ?hg (N:=1) ?hd (cs:=#[.slice A0_0 l0_0.length c0_0,.slice A0_1 l0_1.length c0_1]) (t:=27) ?hr ?_;(case hd=>rfl);(case hg=>rfl);(case hr=>first|(go_simp;done)|(go_simp;rfl));intro gb105 hg w3 hbox hb;have n0_:=A_ (bp_ (by repeat (first|(with_reducible first|exact HB.out|apply ba_|apply bd_|apply be_)|exact HB.out)) hb);have n1_:=A_ (hbox);have n2_:=A_ ((by rw [hg];exact (bz_ (by repeat (first|(with_reducible first|exact HB.out|apply ba_|apply bd_|apply be_)|exact HB.out))) : w.heap.size≤gb105));have n3_:=n2_;clear HB;have HB:=n0_;have BK105:=n1_;have GW105:=n2_;have GE105:=n3_;clear n0_ n1_ n2_ n3_;clear hb hbox hg;have z4_0 : w3.cell? ⟨gb105,0,none⟩=some (.slice A0_0 l0_0.length c0_0):=(bc_ BK105.out 0).trans rfl;have z4_1 : w3.cell? ⟨gb105,1,none⟩=some (.slice A0_1 l0_1.length c0_1):=(bc_ BK105.out 1).trans rfl;have y4_0:=bf_ BK105.out 0;have y4_1:=bf_ BK105.out 1))
 (try simp only [Act.put,u1_,u2_,u3_])
 go_cut [30] (fun v30 wc=>∃ (kq : Nat) (x30_1 : Bool),v30=.bool x30_1∧Aside0 (leaf_Check.j0 kq x30_1 l0_0 l0_1=some r)∧Aside0 (kq≤k)∧Aside0 (wc.heap[gb105]?=some (.cells #[(.slice A0_0 l0_0.length c0_0),(.slice A0_1 l0_1.length c0_1)] 27 (0,0)))∧Aside0 (Below w.heap.size w wc))
 case first =>
  have H:=HC2.out;clear HC2
  by_cases c5 : (l0_0.length : Int)=4
  ·rw [if_pos c5] at H
   have c5b0 : ((l0_0.length : Int) == 4)=true:=beq_iff_eq.mpr c5;have c5b1 : ((l0_0.length : Int) != 4)=false:=bne_eq_false_iff_eq.mpr c5;clear c5;(first|rw [c5b0]|(simp only [i64_w,i32_w];rw [c5b0])|skip)
   by_cases c6 : (l0_1.length : Int) > 64
   ·rw [if_pos c6] at H
    have c6b0 : decide (64<(l0_1.length : Int))=true:=dt_ c6
    have c6b1 : decide (64<l0_1.length)=true:=dt_ (by omega)
    clear c6;have H':=A_ H;clear H;have z7_0 : w3.cell? ⟨gb105,0,none⟩=some (.slice A0_0 l0_0.length c0_0):=(bc_ BK105.out 0).trans rfl;have z7_1 : w3.cell? ⟨gb105,1,none⟩=some (.slice A0_1 l0_1.length c0_1):=(bc_ BK105.out 1).trans rfl;have y7_0:=bf_ BK105.out 0;have y7_1:=bf_ BK105.out 1;go_wp2;go_meet
    case rel=>exact ⟨_,true,rfl,H',⟨by first|omega|exact Nat.le_refl _⟩,⟨by (with_reducible repeat (first|refine kd_ ?_ _|refine ke_ ?_|refine ka_ ?_ _));exact BK105.out⟩,⟨by repeat (first|(with_reducible first|exact HB.out|apply ba_|apply bd_|apply be_|refine bs_ ?_ GE105.out)|exact HB.out)⟩⟩
   ·rw [if_neg c6] at H
    have c6b0 : decide (64<(l0_1.length : Int))=false:=df_ c6
    have c6b1 : decide (64<l0_1.length)=false:=df_ (by omega)
    clear c6
    by_cases c8 : (l0_1.length : Int) > 0
    ·rw [if_pos c8] at H
     have c8b0 : decide (0<(l0_1.length : Int))=true:=dt_ c8
     have c8b1 : decide (0<l0_1.length)=true:=dt_ (by omega)
     clear c8
     obtain ⟨ji9,hji9⟩ : ∃ j_ : Int,(wrap64 ((l0_1.length : Int) - 1))=j_:=⟨_,rfl⟩
     replace H : (if 0≤(ji9) then (if (ji9)<(l0_1.length : Int) then (leaf_Check.j0 k (((rd_L2 l0_1 (ji9)).length : Int) == 0) l0_0 l0_1) else (none)) else (none))=some r:=by first|(rw [hji9] at H;exact H)|(simp only [hji9] at H ⊢;exact H)
     have hji9w : (IntKind.i64.wrap ((l0_1.length : Int) - 1))=ji9:=(i64_w _).trans hji9
     by_cases c10 : 0≤(ji9)
     ·rw [if_pos c10] at H
      have c10b0 : decide (0≤(ji9))=true:=dt_ c10;clear c10
      by_cases c11 : (ji9)<(l0_1.length : Int)
      ·rw [if_pos c11] at H
       have c11b0 : decide ((ji9)<(l0_1.length : Int))=true:=dt_ c11;clear c11;have H':=A_ H;clear H;have z12_0 : w3.cell? ⟨gb105,0,none⟩=some (.slice A0_0 l0_0.length c0_0):=(bc_ BK105.out 0).trans rfl;have z12_1 : w3.cell? ⟨gb105,1,none⟩=some (.slice A0_1 l0_1.length c0_1):=(bc_ BK105.out 1).trans rfl;have y12_0:=bf_ BK105.out 0;have y12_1:=bf_ BK105.out 1
       have p106 : 0≤((ji9) : Int):=od_ (by first|(with_reducible assumption)|assumption)
       have q106 : (ji9)<(l0_1.length : Int):=od_ (by first|(with_reducible assumption)|assumption)
       obtain ⟨ad106,A106_0,c106_0,e106,hx106_0,hl106_0,hi106_0⟩:=at_L2 HR0_1.out (ji9) p106 q106
       cases e106
       replace hx106_0:=(HB.out.cell (wb_ w _ hx106_0)).trans hx106_0;have HR106_0:=A_ hi106_0;have HC106_0:=A_ hl106_0;clear hi106_0 hl106_0;replace p106:=eq_true p106;replace q106:=eq_true q106;go_wp2;go_meet
       case rel=>exact ⟨_,((((rd_L2 l0_1 (ji9)).length : Int) == 0)),(by first|rfl|(simp;done)|(simp only [← hji9] <;> (first|rfl|simp))|(simp [*];done)),H',⟨by first|omega|exact Nat.le_refl _⟩,⟨by (with_reducible repeat (first|refine kd_ ?_ _|refine ke_ ?_|refine ka_ ?_ _));exact BK105.out⟩,⟨by repeat (first|(with_reducible first|exact HB.out|apply ba_|apply bd_|apply be_|refine bs_ ?_ GE105.out)|exact HB.out)⟩⟩
      ·rw [if_neg c11] at H
       exact absurd H (by simp)
     ·rw [if_neg c10] at H
      exact absurd H (by simp)
    ·rw [if_neg c8] at H
     have c8b0 : decide (0<(l0_1.length : Int))=false:=df_ c8
     have c8b1 : decide (0<l0_1.length)=false:=df_ (by omega)
     clear c8;have H':=A_ H;clear H;have z13_0 : w3.cell? ⟨gb105,0,none⟩=some (.slice A0_0 l0_0.length c0_0):=(bc_ BK105.out 0).trans rfl;have z13_1 : w3.cell? ⟨gb105,1,none⟩=some (.slice A0_1 l0_1.length c0_1):=(bc_ BK105.out 1).trans rfl;have y13_0:=bf_ BK105.out 0;have y13_1:=bf_ BK105.out 1;go_wp2;go_meet
     case rel=>exact ⟨_,false,rfl,H',⟨by first|omega|exact Nat.le_refl _⟩,⟨by (with_reducible repeat (first|refine kd_ ?_ _|refine ke_ ?_|refine ka_ ?_ _));exact BK105.out⟩,⟨by repeat (first|(with_reducible first|exact HB.out|apply ba_|apply bd_|apply be_|refine bs_ ?_ GE105.out)|exact HB.out)⟩⟩
  ·rw [if_neg c5] at H
   have c5b0 : ((l0_0.length : Int) == 4)=false:=beq_eq_false_iff_ne.mpr c5;have c5b1 : ((l0_0.length : Int) != 4)=true:=bne_iff_ne.mpr c5;(first|rw [c5b0]|(simp only [i64_w,i32_w];rw [c5b0])|skip);have H':=A_ H;clear H;have z14_0 : w3.cell? ⟨gb105,0,none⟩=some (.slice A0_0 l0_0.length c0_0):=(bc_ BK105.out 0).trans rfl;have z14_1 : w3.cell? ⟨gb105,1,none⟩=some (.slice A0_1 l0_1.length c0_1):=(bc_ BK105.out 1).trans rfl;have y14_0:=bf_ BK105.out 0;have y14_1:=bf_ BK105.out 1;go_wp2;go_meet
   case rel=>exact ⟨_,true,rfl,H',⟨by first|omega|exact Nat.le_refl _⟩,⟨by (with_reducible repeat (first|refine kd_ ?_ _|refine ke_ ?_|refine ka_ ?_ _));exact BK105.out⟩,⟨by repeat (first|(with_reducible first|exact HB.out|apply ba_|apply bd_|apply be_|refine bs_ ?_ GE105.out)|exact HB.out)⟩⟩
 case rest =>
  clear HC2;(try clear c1);(try clear p1);(try clear q1);(try clear hx1);(try clear c2);(try clear p2);(try clear c5);(try clear c5b0);(try clear c5b1);(try clear c6);(try clear c6b0);(try clear c6b1);(try clear p6);(try clear c8);(try clear c8b0);(try clear c8b1);(try clear c10);(try clear c10b0);(try clear p10);(try clear q10);(try clear hx10);(try clear c11);(try clear c11b0);(try clear hx106_0);(try clear p106);(try clear q106);(try clear z12_0 z12_1 z13_0 z13_1 z14_0 z14_1 z4_0 z4_1 z7_0 z7_1 y12_0 y12_1 y13_0 y13_1 y14_0 y14_1 y4_0 y4_1 y7_0 y7_1);obtain ⟨kq,x30_1,rfl,HA,HJ1,BK105,HB⟩:=hcut
  cases kq with
  | zero=>exact absurd HA.out (by simp [leaf_Check.j0])
  | succ kj1 =>
   have H:=HA.out;clear HA
   simp only [leaf_Check.j0] at H
   by_cases c15 : x30_1=true
   ·subst c15
    have H1 : (some 1)=some r:=by rw [if_pos rfl] at H;exact H
    clear H;have H:=H1;clear H1;obtain rfl:=Option.some.inj H;go_wp2;go_ret
    exact ⟨by first|rfl|(simp [errW_none,errW_some] <;> rfl)|(simp [*,errW_none,errW_some] <;> rfl),by repeat (first|(with_reducible first|exact HB.out|apply ba_|apply bd_|apply be_|refine bs_ ?_ GE105.out)|exact HB.out)⟩
   ·replace c15:=Bool.eq_false_iff.mpr c15
    subst c15
    have H1 : (leaf_Check.l0 kj1 l0_0 (l0_0.length : Int) 0 l0_0 l0_1)=some r:=by rw [if_neg (show ¬ (false=true) by decide)] at H;exact H
    clear H;have H:=H1;clear H1;have H':=A_ H;clear H;have z16_0 : wc.cell? ⟨gb105,0,none⟩=some (.slice A0_0 l0_0.length c0_0):=(bc_ BK105.out 0).trans rfl;have z16_1 : wc.cell? ⟨gb105,1,none⟩=some (.slice A0_1 l0_1.length c0_1):=(bc_ BK105.out 1).trans rfl;have y16_0:=bf_ BK105.out 0;have y16_1:=bf_ BK105.out 1;go_wp2
    go_loopg [34] kj1 (fun kq v34 w'=>∃ (x34_2 : Int),v34=.int .i64 x34_2∧Aside0 (leaf_Check.l0 kq l0_0 (l0_0.length : Int) x34_2 l0_0 l0_1=some r)∧Aside0 (kq≤kj1)∧Aside0 (w'.heap[gb105]?=some (.cells #[(.slice A0_0 l0_0.length c0_0),(.slice A0_1 l0_1.length c0_1)] 27 (0,0)))∧Aside0 (Below w.heap.size w w'))
    case atStart=>exact ⟨(0),(by first|rfl|(simp;done)|(simp [*];done)),H',⟨Nat.le_refl _⟩,⟨by (with_reducible repeat (first|refine kd_ ?_ _|refine ke_ ?_|refine ka_ ?_ _));exact BK105.out⟩,⟨by repeat (first|(with_reducible first|exact HB.out|apply ba_|apply bd_|apply be_|refine bs_ ?_ GE105.out)|exact HB.out)⟩⟩
    case round =>
     clear H';(try clear c1);(try clear p1);(try clear q1);(try clear hx1);(try clear c2);(try clear p2);(try clear c5);(try clear c5b0);(try clear c5b1);(try clear c6);(try clear c6b0);(try clear c6b1);(try clear p6);(try clear c8);(try clear c8b0);(try clear c8b1);(try clear c10);(try clear c10b0);(try clear p10);(try clear q10);(try clear hx10);(try clear c11);(try clear c11b0);(try clear c15);(try clear hx106_0);(try clear p1);(try clear p10);(try clear p106);(try clear p2);(try clear p6);(try clear q1);(try clear q10);(try clear q106);(try clear z12_0 z12_1 z13_0 z13_1 z14_0 z14_1 z16_0 z16_1 z4_0 z4_1 z7_0 z7_1 y12_0 y12_1 y13_0 y13_1 y14_0 y14_1 y16_0 y16_1 y4_0 y4_1 y7_0 y7_1);obtain ⟨x34_2,rfl,HA,HK2,BK105,HB⟩:=hrel
     cases gk with
     | zero=>exact absurd HA.out (by simp [leaf_Check.l0])
     | succ k2 =>
      have H:=HA.out;clear HA
      simp only [leaf_Check.l0] at H
      by_cases c17 : x34_2<(l0_0.length : Int)
      ·rw [if_pos c17] at H
       have c17b0 : decide (x34_2<(l0_0.length : Int))=true:=dt_ c17;clear c17
       by_cases c18 : 0≤x34_2
       ·rw [if_pos c18] at H
        have c18b0 : decide (0≤x34_2)=true:=dt_ c18;clear c18
        by_cases c19 : x34_2<(l0_0.length : Int)
        ·rw [if_pos c19] at H
         have c19b0 : decide (x34_2<(l0_0.length : Int))=true:=dt_ c19;clear c19
         by_cases c20 : (rd l0_0 x34_2)<0
         ·rw [if_pos c20] at H
          have c20b0 : decide ((rd l0_0 x34_2)<0)=true:=dt_ c20;clear c20;obtain rfl:=Option.some.inj H
          have p107 : 0≤(x34_2 : Int):=od_ (by first|(with_reducible assumption)|assumption)
          have q107 : x34_2<(l0_0.length : Int):=od_ (by first|(with_reducible assumption)|assumption)
          obtain ⟨ad107,e107,hx107_0⟩:=Kd.at_int HR0_0.out x34_2 p107 q107
          cases e107
          replace hx107_0:=(HB.out.cell (wb_ w _ hx107_0)).trans hx107_0;replace p107:=eq_true p107;replace q107:=eq_true q107;go_wp2;go_ret
          exact ⟨by first|rfl|(simp [errW_none,errW_some] <;> rfl)|(simp [*,errW_none,errW_some] <;> rfl),by repeat (first|(with_reducible first|exact HB.out|apply ba_|apply bd_|apply be_|refine bs_ ?_ GE105.out)|exact HB.out)⟩
         ·rw [if_neg c20] at H
          have c20b0 : decide ((rd l0_0 x34_2)<0)=false:=df_ c20;clear c20
          by_cases c21 : (rd l0_0 x34_2) > 2147483647
          ·rw [if_pos c21] at H
           have c21b0 : decide (2147483647<(rd l0_0 x34_2))=true:=dt_ c21;clear c21;obtain rfl:=Option.some.inj H
           have p107 : 0≤(x34_2 : Int):=od_ (by first|(with_reducible assumption)|assumption)
           have q107 : x34_2<(l0_0.length : Int):=od_ (by first|(with_reducible assumption)|assumption)
           obtain ⟨ad107,e107,hx107_0⟩:=Kd.at_int HR0_0.out x34_2 p107 q107
           cases e107
           replace hx107_0:=(HB.out.cell (wb_ w _ hx107_0)).trans hx107_0;replace p107:=eq_true p107;replace q107:=eq_true q107;go_wp2;go_ret
           exact ⟨by first|rfl|(simp [errW_none,errW_some] <;> rfl)|(simp [*,errW_none,errW_some] <;> rfl),by repeat (first|(with_reducible first|exact HB.out|apply ba_|apply bd_|apply be_|refine bs_ ?_ GE105.out)|exact HB.out)⟩
          ·rw [if_neg c21] at H
           have c21b0 : decide (2147483647<(rd l0_0 x34_2))=false:=df_ c21;clear c21
           by_cases c22 : (rd l0_0 x34_2) > 0
           ·rw [if_pos c22] at H
            have c22b0 : decide (0<(rd l0_0 x34_2))=true:=dt_ c22;clear c22
            have c23b0:=eq_true (od_ (by first|(with_reducible assumption)|assumption) : 0≤x34_2)
            by_cases c24 : x34_2≤(l0_0.length : Int)
            ·rw [if_pos c24] at H
             have c24b0:=eq_true c24;have c24b1 : decide (x34_2≤(l0_0.length : Int))=true:=dt_ c24;clear c24;replace H:=Option.bind_eq_some_iff.mp H;obtain ⟨t109,A250,H⟩:=H
             replace H : (if t109=true then (leaf_Check.j2 k2 1) else (leaf_Check.l0 k2 l0_0 (l0_0.length : Int) (wrap64 (x34_2 + 1)) l0_0 l0_1))=some r:=H
             have A25:=A_ A250;clear A250
             by_cases c26 : t109=true
             ·subst c26
              have H1 : (leaf_Check.j2 k2 1)=some r:=by rw [if_pos rfl] at H;exact H
              clear H;have H:=H1;clear H1;have HC27:=A_ H;clear H
              have p107 : 0≤(x34_2 : Int):=od_ (by first|(with_reducible assumption)|assumption)
              have q107 : x34_2<(l0_0.length : Int):=od_ (by first|(with_reducible assumption)|assumption)
              obtain ⟨ad107,e107,hx107_0⟩:=Kd.at_int HR0_0.out x34_2 p107 q107
              cases e107
              replace hx107_0:=(HB.out.cell (wb_ w _ hx107_0)).trans hx107_0;replace p107:=eq_true p107;replace q107:=eq_true q107;have z28_0 : wr.cell? ⟨gb105,0,none⟩=some (.slice (some ad107) l0_0.length c0_0):=(bc_ BK105.out 0).trans rfl;have z28_1 : wr.cell? ⟨gb105,1,none⟩=some (.slice A0_1 l0_1.length c0_1):=(bc_ BK105.out 1).trans rfl;have y28_0:=bf_ BK105.out 0;have y28_1:=bf_ BK105.out 1;obtain ⟨i029,hi029,_,hsz29,_⟩:=info_parts info3
              obtain ⟨hcut29,hA29,hC29⟩:=print_take_of (P:=Try.prog) (Value.int .i64) 0 24 3 .i64 Try.underlying24 hi029 hsz29 (some ad107) c0_0 l0_0 x34_2 (od_ (by first|(with_reducible assumption)|assumption)) (od_ (by first|(with_reducible assumption)|assumption)) HC0_0.out
              have HR108:=A_ (Kd.C_of_reads (h1:=fun _=>rfl) (hA29 _ (Kd.reads_of_C HR0_0.out)))
              have HC108:=A_ hC29;clear hA29 hC29 hi029 hsz29
              go_upto_region 8 with (first|(go_at_call 38;have ht_0 : (l0_0.take (x34_2 : Int).toNat).length=(x34_2 : Int).toNat:=(by rw [List.length_take];have h1_ : (x34_2 : Int)≤(l0_0.length : Int):=od_ (by first|(with_reducible assumption)|assumption);omega);refine calls_of_args (args':=#[.slice (some ad107) (l0_0.take (x34_2 : Int).toNat).length c0_0,.int .i64 (rd l0_0 x34_2)]) (by first|rfl|(rw [ht_0];rfl)|(simp only [ht_0];done)) ?_;(with_reducible refine (slices_Contains_int_int.calls k2 _ _ (l0_0.take (x34_2 : Int).toNat) (rd l0_0 x34_2) true _ ?side1 ?side2 A25.out).mono ?_);(case side1=>repeat (first|exact (Kd.C_below HR108.out HB.out)|(with_reducible refine Kd.C_alloc ?_ _)|(with_reducible refine Kd.C_drewN ?_ _)|(with_reducible refine Kd.C_drew ?_)));(case side2=>exact HC108.out);rintro e w' ⟨rfl,⟨nd,rfl⟩⟩))
              (try simp only [Act.put,u1_,u2_,u3_])
              go_cut [2] (fun v2 wc=>∃ (kq : Nat) (x2_26 : Int),v2=.int .i64 x2_26∧Aside0 (leaf_Check.j2 kq x2_26=some r)∧Aside0 (kq≤k2)∧Aside0 (wc.heap[gb105]?=some (.cells #[(.slice (some ad107) l0_0.length c0_0),(.slice A0_1 l0_1.length c0_1)] 27 (0,0)))∧Aside0 (Below w.heap.size w wc))
              case first =>
               have H:=HC27.out;clear HC27;have H':=A_ H;clear H;go_wp2;go_meet
               case rel=>exact ⟨_,(1),(by first|rfl|(simp;done)|(simp [*];done)),H',⟨by have:=HJ1.out;have:=HK2.out;first|omega|exact Nat.le_refl _⟩,⟨by (with_reducible repeat (first|refine kd_ ?_ _|refine ke_ ?_|refine ka_ ?_ _));exact BK105.out⟩,⟨by repeat (first|(with_reducible first|exact HB.out|apply ba_|apply bd_|apply be_|refine bs_ ?_ GE105.out)|exact HB.out)⟩⟩
              case rest =>
               clear HC27;(try clear c1);(try clear p1);(try clear q1);(try clear hx1);(try clear c2);(try clear p2);(try clear c5);(try clear c5b0);(try clear c5b1);(try clear c6);(try clear c6b0);(try clear c6b1);(try clear p6);(try clear c8);(try clear c8b0);(try clear c8b1);(try clear c10);(try clear c10b0);(try clear p10);(try clear q10);(try clear hx10);(try clear c11);(try clear c11b0);(try clear c15);(try clear c17);(try clear c17b0);(try clear c18);(try clear c18b0);(try clear c19);(try clear c19b0);(try clear c20);(try clear c20b0);(try clear c21);(try clear c21b0);(try clear c22);(try clear c22b0);(try clear c23);(try clear c23b0);(try clear c24);(try clear c24b0);(try clear c24b1);(try clear c26);(try clear hx106_0);(try clear hx107_0);(try clear p1);(try clear p10);(try clear p106);(try clear p107);(try clear p2);(try clear p6);(try clear q1);(try clear q10);(try clear q106);(try clear q107);(try clear z12_0 z12_1 z13_0 z13_1 z14_0 z14_1 z16_0 z16_1 z28_0 z28_1 z4_0 z4_1 z7_0 z7_1 y12_0 y12_1 y13_0 y13_1 y14_0 y14_1 y16_0 y16_1 y28_0 y28_1 y4_0 y4_1 y7_0 y7_1);obtain ⟨kq,x2_26,rfl,HA,HJ26,BK105,HB⟩:=hcut
               cases kq with
               | zero=>exact absurd HA.out (by simp [leaf_Check.j2])
               | succ kj26 =>
                have H:=HA.out;clear HA
                simp only [leaf_Check.j2] at H
                obtain rfl:=Option.some.inj H;go_wp2;go_ret
                exact ⟨by first|rfl|(simp [errW_none,errW_some] <;> rfl)|(simp [*,errW_none,errW_some] <;> rfl),by repeat (first|(with_reducible first|exact HB.out|apply ba_|apply bd_|apply be_|refine bs_ ?_ GE105.out)|exact HB.out)⟩
             ·replace c26:=Bool.eq_false_iff.mpr c26
              subst c26
              have H1 : (leaf_Check.l0 k2 l0_0 (l0_0.length : Int) (wrap64 (x34_2 + 1)) l0_0 l0_1)=some r:=by rw [if_neg (show ¬ (false=true) by decide)] at H;exact H
              clear H;have H:=H1;clear H1;have H':=A_ H;clear H
              have p107 : 0≤(x34_2 : Int):=od_ (by first|(with_reducible assumption)|assumption)
              have q107 : x34_2<(l0_0.length : Int):=od_ (by first|(with_reducible assumption)|assumption)
              obtain ⟨ad107,e107,hx107_0⟩:=Kd.at_int HR0_0.out x34_2 p107 q107
              cases e107
              replace hx107_0:=(HB.out.cell (wb_ w _ hx107_0)).trans hx107_0;replace p107:=eq_true p107;replace q107:=eq_true q107;have z30_0 : wr.cell? ⟨gb105,0,none⟩=some (.slice (some ad107) l0_0.length c0_0):=(bc_ BK105.out 0).trans rfl;have z30_1 : wr.cell? ⟨gb105,1,none⟩=some (.slice A0_1 l0_1.length c0_1):=(bc_ BK105.out 1).trans rfl;have y30_0:=bf_ BK105.out 0;have y30_1:=bf_ BK105.out 1;obtain ⟨i031,hi031,_,hsz31,_⟩:=info_parts info3
              obtain ⟨hcut31,hA31,hC31⟩:=print_take_of (P:=Try.prog) (Value.int .i64) 0 24 3 .i64 Try.underlying24 hi031 hsz31 (some ad107) c0_0 l0_0 x34_2 (od_ (by first|(with_reducible assumption)|assumption)) (od_ (by first|(with_reducible assumption)|assumption)) HC0_0.out
              have HR108:=A_ (Kd.C_of_reads (h1:=fun _=>rfl) (hA31 _ (Kd.reads_of_C HR0_0.out)))
              have HC108:=A_ hC31;clear hA31 hC31 hi031 hsz31
              go_wp2_with (first|(go_at_call 38;have ht_0 : (l0_0.take (x34_2 : Int).toNat).length=(x34_2 : Int).toNat:=(by rw [List.length_take];have h1_ : (x34_2 : Int)≤(l0_0.length : Int):=od_ (by first|(with_reducible assumption)|assumption);omega);refine calls_of_args (args':=#[.slice (some ad107) (l0_0.take (x34_2 : Int).toNat).length c0_0,.int .i64 (rd l0_0 x34_2)]) (by first|rfl|(rw [ht_0];rfl)|(simp only [ht_0];done)) ?_;(with_reducible refine (slices_Contains_int_int.calls k2 _ _ (l0_0.take (x34_2 : Int).toNat) (rd l0_0 x34_2) false _ ?side1 ?side2 A25.out).mono ?_);(case side1=>repeat (first|exact (Kd.C_below HR108.out HB.out)|(with_reducible refine Kd.C_alloc ?_ _)|(with_reducible refine Kd.C_drewN ?_ _)|(with_reducible refine Kd.C_drew ?_)));(case side2=>exact HC108.out);rintro e w' ⟨rfl,⟨nd,rfl⟩⟩))
              go_roundg k2
              case measure=>have:=HJ1.out;have:=HK2.out;omega
              case rel=>exact ⟨(wrap64 (x34_2 + 1)),(by first|rfl|(simp;done)|(simp [*];done)),H',⟨by have:=HJ1.out;have:=HK2.out;omega⟩,⟨by (with_reducible repeat (first|refine kd_ ?_ _|refine ke_ ?_|refine ka_ ?_ _));exact BK105.out⟩,⟨by repeat (first|(with_reducible first|exact HB.out|apply ba_|apply bd_|apply be_|refine bs_ ?_ GE105.out)|exact HB.out)⟩⟩
            ·rw [if_neg c24] at H
             exact absurd H (by simp)
           ·rw [if_neg c22] at H
            have c22b0 : decide (0<(rd l0_0 x34_2))=false:=df_ c22;clear c22;have H':=A_ H;clear H
            have p107 : 0≤(x34_2 : Int):=od_ (by first|(with_reducible assumption)|assumption)
            have q107 : x34_2<(l0_0.length : Int):=od_ (by first|(with_reducible assumption)|assumption)
            obtain ⟨ad107,e107,hx107_0⟩:=Kd.at_int HR0_0.out x34_2 p107 q107
            cases e107
            replace hx107_0:=(HB.out.cell (wb_ w _ hx107_0)).trans hx107_0;replace p107:=eq_true p107;replace q107:=eq_true q107;go_wp2;go_roundg k2
            case measure=>have:=HJ1.out;have:=HK2.out;omega
            case rel=>exact ⟨(wrap64 (x34_2 + 1)),(by first|rfl|(simp;done)|(simp [*];done)),H',⟨by have:=HJ1.out;have:=HK2.out;omega⟩,⟨by (with_reducible repeat (first|refine kd_ ?_ _|refine ke_ ?_|refine ka_ ?_ _));exact BK105.out⟩,⟨by repeat (first|(with_reducible first|exact HB.out|apply ba_|apply bd_|apply be_|refine bs_ ?_ GE105.out)|exact HB.out)⟩⟩
        ·rw [if_neg c19] at H
         exact absurd H (by simp)
       ·rw [if_neg c18] at H
        exact absurd H (by simp)
      ·rw [if_neg c17] at H
       have c17b0 : decide (x34_2<(l0_0.length : Int))=false:=df_ c17;clear c17;replace H:=Option.bind_eq_some_iff.mp H;obtain ⟨t110,A320,H⟩:=H
       replace H : (if t110=true then (leaf_Check.j3 k2 1) else ((leaf_need.f k2 l0_0 l0_1).bind fun t111=>(if t111 > 508 then (leaf_Check.j4 k2 1) else (some 0))))=some r:=H
       have A32:=A_ A320;clear A320
       by_cases c33 : t110=true
       ·subst c33
        have H1 : (leaf_Check.j3 k2 1)=some r:=by rw [if_pos rfl] at H;exact H
        clear H;have H:=H1;clear H1;have HC34:=A_ H;clear H;have z35_0 : wr.cell? ⟨gb105,0,none⟩=some (.slice A0_0 l0_0.length c0_0):=(bc_ BK105.out 0).trans rfl;have z35_1 : wr.cell? ⟨gb105,1,none⟩=some (.slice A0_1 l0_1.length c0_1):=(bc_ BK105.out 1).trans rfl;have y35_0:=bf_ BK105.out 0;have y35_1:=bf_ BK105.out 1
        go_upto_region 11 with (first|((with_reducible refine gate_callee (f:=44) rfl ?_);refine goesL_ (some 60) rfl rfl Try.func44 (by kernel_rfl) rfl #[.slice A0_1 l0_1.length c0_1,.func (.func 45) #[] #[]] rfl (by (try simp only [List.map_toArray,List.map_cons,List.map_nil]);first|done|rfl|(simp only [List.length_drop,List.length_take];rfl)) ?_;(with_reducible refine (containsFunc_leaf_Check_1.calls _ _ l0_1 true _ ?side1 ?side2 A32.out).mono ?_);(case side1=>repeat (first|exact (Kd.C_below HR0_1.out HB.out)|(with_reducible refine Kd.C_alloc ?_ _)|(with_reducible refine Kd.C_drewN ?_ _)|(with_reducible refine Kd.C_drew ?_)));(case side2=>exact HC0_1.out);rintro e w36 ⟨rfl,hb⟩;refine ⟨_,rfl,?_⟩;have n0_:=A_ (bx_ BK105.out (by intro h_;(with_reducible repeat (first|refine kd_ ?_ _|refine ke_ ?_|refine ka_ ?_ _));exact h_) hb);have n1_:=A_ (bp_ (by repeat (first|(with_reducible first|exact HB.out|apply ba_|apply bd_|apply be_|refine bs_ ?_ GE105.out)|exact HB.out)) hb);clear BK105;clear HB;have BK105:=n0_;have HB:=n1_;clear n0_ n1_;(try clear hb);(try clear hb2);(try clear hk);(try clear hi)))
        (try simp only [Act.put,u1_,u2_,u3_])
        go_cut [2] (fun v2 wc=>∃ (kq : Nat) (x2_33 : Int),v2=.int .i64 x2_33∧Aside0 (leaf_Check.j3 kq x2_33=some r)∧Aside0 (kq≤k2)∧Aside0 (wc.heap[gb105]?=some (.cells #[(.slice A0_0 l0_0.length c0_0),(.slice A0_1 l0_1.length c0_1)] 27 (0,0)))∧Aside0 (Below w.heap.size w wc))
        case first =>
         have H:=HC34.out;clear HC34;have H':=A_ H;clear H;go_wp2;go_meet
         case rel=>exact ⟨_,(1),(by first|rfl|(simp;done)|(simp [*];done)),H',⟨by have:=HJ1.out;have:=HK2.out;first|omega|exact Nat.le_refl _⟩,⟨by (with_reducible repeat (first|refine kd_ ?_ _|refine ke_ ?_|refine ka_ ?_ _));exact BK105.out⟩,⟨by repeat (first|(with_reducible first|exact HB.out|apply ba_|apply bd_|apply be_|refine bs_ ?_ GE105.out)|exact HB.out)⟩⟩
        case rest =>
         clear HC34;(try clear c1);(try clear p1);(try clear q1);(try clear hx1);(try clear c2);(try clear p2);(try clear c3);(try clear c5);(try clear c5b0);(try clear c5b1);(try clear c6);(try clear c6b0);(try clear c6b1);(try clear p6);(try clear c8);(try clear c8b0);(try clear c8b1);(try clear c10);(try clear c10b0);(try clear p10);(try clear q10);(try clear hx10);(try clear c11);(try clear c11b0);(try clear c15);(try clear c17);(try clear c17b0);(try clear c18);(try clear c18b0);(try clear c19);(try clear c19b0);(try clear c20);(try clear c20b0);(try clear c21);(try clear c21b0);(try clear c22);(try clear c22b0);(try clear c23);(try clear c23b0);(try clear c24);(try clear c24b0);(try clear c24b1);(try clear c26);(try clear c33);(try clear hx106_0);(try clear hx107_0);(try clear p1);(try clear p10);(try clear p106);(try clear p107);(try clear p2);(try clear p6);(try clear q1);(try clear q10);(try clear q106);(try clear q107);(try clear z12_0 z12_1 z13_0 z13_1 z14_0 z14_1 z16_0 z16_1 z28_0 z28_1 z30_0 z30_1 z35_0 z35_1 z4_0 z4_1 z7_0 z7_1 y12_0 y12_1 y13_0 y13_1 y14_0 y14_1 y16_0 y16_1 y28_0 y28_1 y30_0 y30_1 y35_0 y35_1 y4_0 y4_1 y7_0 y7_1);obtain ⟨kq,x2_33,rfl,HA,HJ33,BK105,HB⟩:=hcut
         cases kq with
         | zero=>exact absurd HA.out (by simp [leaf_Check.j3])
         | succ kj33 =>
          have H:=HA.out;clear HA
          simp only [leaf_Check.j3] at H
          obtain rfl:=Option.some.inj H;go_wp2;go_ret
          exact ⟨by first|rfl|(simp [errW_none,errW_some] <;> rfl)|(simp [*,errW_none,errW_some] <;> rfl),by repeat (first|(with_reducible first|exact HB.out|apply ba_|apply bd_|apply be_|refine bs_ ?_ GE105.out)|exact HB.out)⟩
       ·replace c33:=Bool.eq_false_iff.mpr c33
        subst c33
        have H1 : ((leaf_need.f k2 l0_0 l0_1).bind fun t111=>(if t111 > 508 then (leaf_Check.j4 k2 1) else (some 0)))=some r:=by rw [if_neg (show ¬ (false=true) by decide)] at H;exact H
        clear H;have H:=H1;clear H1;replace H:=Option.bind_eq_some_iff.mp H;obtain ⟨t111,A370,H⟩:=H
        replace H : (if t111 > 508 then (leaf_Check.j4 k2 1) else (some 0))=some r:=H
        have A37:=A_ A370;clear A370
        by_cases c38 : t111 > 508
        ·rw [if_pos c38] at H
         have c38b0 : decide (508<t111)=true:=dt_ c38;clear c38;have HC39:=A_ H;clear H;have z40_0 : wr.cell? ⟨gb105,0,none⟩=some (.slice A0_0 l0_0.length c0_0):=(bc_ BK105.out 0).trans rfl;have z40_1 : wr.cell? ⟨gb105,1,none⟩=some (.slice A0_1 l0_1.length c0_1):=(bc_ BK105.out 1).trans rfl;have y40_0:=bf_ BK105.out 0;have y40_1:=bf_ BK105.out 1
         go_upto_region 11 with (first|((with_reducible refine gate_callee (f:=44) rfl ?_);refine goesL_ (some 60) rfl rfl Try.func44 (by kernel_rfl) rfl #[.slice A0_1 l0_1.length c0_1,.func (.func 45) #[] #[]] rfl (by (try simp only [List.map_toArray,List.map_cons,List.map_nil]);first|done|rfl|(simp only [List.length_drop,List.length_take];rfl)) ?_;(with_reducible refine (containsFunc_leaf_Check_1.calls _ _ l0_1 false _ ?side1 ?side2 A32.out).mono ?_);(case side1=>repeat (first|exact (Kd.C_below HR0_1.out HB.out)|(with_reducible refine Kd.C_alloc ?_ _)|(with_reducible refine Kd.C_drewN ?_ _)|(with_reducible refine Kd.C_drew ?_)));(case side2=>exact HC0_1.out);rintro e w41 ⟨rfl,hb⟩;refine ⟨_,rfl,?_⟩;have n0_:=A_ (bx_ BK105.out (by intro h_;(with_reducible repeat (first|refine kd_ ?_ _|refine ke_ ?_|refine ka_ ?_ _));exact h_) hb);have n1_:=A_ (bp_ (by repeat (first|(with_reducible first|exact HB.out|apply ba_|apply bd_|apply be_|refine bs_ ?_ GE105.out)|exact HB.out)) hb);clear BK105;clear HB;have BK105:=n0_;have HB:=n1_;clear n0_ n1_;(try clear hb);(try clear hb2);(try clear hk);(try clear hi);have z42_0 : w41.cell? ⟨gb105,0,none⟩=some (.slice A0_0 l0_0.length c0_0):=(bc_ BK105.out 0).trans rfl;have z42_1 : w41.cell? ⟨gb105,1,none⟩=some (.slice A0_1 l0_1.length c0_1):=(bc_ BK105.out 1).trans rfl;have y42_0:=bf_ BK105.out 0;have y42_1:=bf_ BK105.out 1)|(go_at_call 46;(with_reducible refine (leaf_need.calls k2 _ _ l0_0 _ _ l0_1 t111 _ ?side1 ?side2 ?side3 ?side4 A37.out).mono ?_);(case side1=>repeat (first|exact (Kd.C_below HR0_0.out HB.out)|(with_reducible refine Kd.C_alloc ?_ _)|(with_reducible refine Kd.C_drewN ?_ _)|(with_reducible refine Kd.C_drew ?_)));(case side2=>exact HC0_0.out);(case side3=>repeat (first|exact (Kd.C_below HR0_1.out HB.out)|(with_reducible refine Kd.C_alloc ?_ _)|(with_reducible refine Kd.C_drewN ?_ _)|(with_reducible refine Kd.C_drew ?_)));(case side4=>exact HC0_1.out);rintro e w43 ⟨rfl,hb⟩;have n0_:=A_ (bx_ BK105.out (by intro h_;(with_reducible repeat (first|refine kd_ ?_ _|refine ke_ ?_|refine ka_ ?_ _));exact h_) hb);have n1_:=A_ (bp_ (by repeat (first|(with_reducible first|exact HB.out|apply ba_|apply bd_|apply be_|refine bs_ ?_ GE105.out)|exact HB.out)) hb);clear BK105;clear HB;have BK105:=n0_;have HB:=n1_;clear n0_ n1_;(try clear hb);(try clear hb2);(try clear hk);(try clear hi)))
         (try simp only [Act.put,u1_,u2_,u3_])
         go_cut [2] (fun v2 wc=>∃ (kq : Nat) (x2_38 : Int),v2=.int .i64 x2_38∧Aside0 (leaf_Check.j4 kq x2_38=some r)∧Aside0 (kq≤k2)∧Aside0 (wc.heap[gb105]?=some (.cells #[(.slice A0_0 l0_0.length c0_0),(.slice A0_1 l0_1.length c0_1)] 27 (0,0)))∧Aside0 (Below w.heap.size w wc))
         case first =>
          have H:=HC39.out;clear HC39;have H':=A_ H;clear H;go_wp2;go_meet
          case rel=>exact ⟨_,(1),(by first|rfl|(simp;done)|(simp [*];done)),H',⟨by have:=HJ1.out;have:=HK2.out;first|omega|exact Nat.le_refl _⟩,⟨by (with_reducible repeat (first|refine kd_ ?_ _|refine ke_ ?_|refine ka_ ?_ _));exact BK105.out⟩,⟨by repeat (first|(with_reducible first|exact HB.out|apply ba_|apply bd_|apply be_|refine bs_ ?_ GE105.out)|exact HB.out)⟩⟩
         case rest =>
          clear HC39;(try clear c1);(try clear p1);(try clear q1);(try clear hx1);(try clear c2);(try clear p2);(try clear c3);(try clear c5);(try clear c5b0);(try clear c5b1);(try clear c6);(try clear c6b0);(try clear c6b1);(try clear p6);(try clear c8);(try clear c8b0);(try clear c8b1);(try clear c10);(try clear c10b0);(try clear p10);(try clear q10);(try clear hx10);(try clear c11);(try clear c11b0);(try clear c15);(try clear c17);(try clear c17b0);(try clear c18);(try clear c18b0);(try clear c19);(try clear c19b0);(try clear c20);(try clear c20b0);(try clear c21);(try clear c21b0);(try clear c22);(try clear c22b0);(try clear c23);(try clear c23b0);(try clear c24);(try clear c24b0);(try clear c24b1);(try clear c26);(try clear c33);(try clear c38);(try clear c38b0);(try clear hx106_0);(try clear hx107_0);(try clear p1);(try clear p10);(try clear p106);(try clear p107);(try clear p2);(try clear p6);(try clear q1);(try clear q10);(try clear q106);(try clear q107);(try clear z12_0 z12_1 z13_0 z13_1 z14_0 z14_1 z16_0 z16_1 z28_0 z28_1 z30_0 z30_1 z35_0 z35_1 z40_0 z40_1 z42_0 z42_1 z4_0 z4_1 z7_0 z7_1 y12_0 y12_1 y13_0 y13_1 y14_0 y14_1 y16_0 y16_1 y28_0 y28_1 y30_0 y30_1 y35_0 y35_1 y40_0 y40_1 y42_0 y42_1 y4_0 y4_1 y7_0 y7_1);obtain ⟨kq,x2_38,rfl,HA,HJ38,BK105,HB⟩:=hcut
          cases kq with
          | zero=>exact absurd HA.out (by simp [leaf_Check.j4])
          | succ kj38 =>
           have H:=HA.out;clear HA
           simp only [leaf_Check.j4] at H
           obtain rfl:=Option.some.inj H;go_wp2;go_ret
           exact ⟨by first|rfl|(simp [errW_none,errW_some] <;> rfl)|(simp [*,errW_none,errW_some] <;> rfl),by repeat (first|(with_reducible first|exact HB.out|apply ba_|apply bd_|apply be_|refine bs_ ?_ GE105.out)|exact HB.out)⟩
        ·rw [if_neg c38] at H
         have c38b0 : decide (508<t111)=false:=df_ c38;clear c38;obtain rfl:=Option.some.inj H;have z44_0 : wr.cell? ⟨gb105,0,none⟩=some (.slice A0_0 l0_0.length c0_0):=(bc_ BK105.out 0).trans rfl;have z44_1 : wr.cell? ⟨gb105,1,none⟩=some (.slice A0_1 l0_1.length c0_1):=(bc_ BK105.out 1).trans rfl;have y44_0:=bf_ BK105.out 0;have y44_1:=bf_ BK105.out 1
         go_wp2_with (first|((with_reducible refine gate_callee (f:=44) rfl ?_);refine goesL_ (some 60) rfl rfl Try.func44 (by kernel_rfl) rfl #[.slice A0_1 l0_1.length c0_1,.func (.func 45) #[] #[]] rfl (by (try simp only [List.map_toArray,List.map_cons,List.map_nil]);first|done|rfl|(simp only [List.length_drop,List.length_take];rfl)) ?_;(with_reducible refine (containsFunc_leaf_Check_1.calls _ _ l0_1 false _ ?side1 ?side2 A32.out).mono ?_);(case side1=>repeat (first|exact (Kd.C_below HR0_1.out HB.out)|(with_reducible refine Kd.C_alloc ?_ _)|(with_reducible refine Kd.C_drewN ?_ _)|(with_reducible refine Kd.C_drew ?_)));(case side2=>exact HC0_1.out);rintro e w45 ⟨rfl,hb⟩;refine ⟨_,rfl,?_⟩;have n0_:=A_ (bx_ BK105.out (by intro h_;(with_reducible repeat (first|refine kd_ ?_ _|refine ke_ ?_|refine ka_ ?_ _));exact h_) hb);have n1_:=A_ (bp_ (by repeat (first|(with_reducible first|exact HB.out|apply ba_|apply bd_|apply be_|refine bs_ ?_ GE105.out)|exact HB.out)) hb);clear BK105;clear HB;have BK105:=n0_;have HB:=n1_;clear n0_ n1_;(try clear hb);(try clear hb2);(try clear hk);(try clear hi);have z46_0 : w45.cell? ⟨gb105,0,none⟩=some (.slice A0_0 l0_0.length c0_0):=(bc_ BK105.out 0).trans rfl;have z46_1 : w45.cell? ⟨gb105,1,none⟩=some (.slice A0_1 l0_1.length c0_1):=(bc_ BK105.out 1).trans rfl;have y46_0:=bf_ BK105.out 0;have y46_1:=bf_ BK105.out 1)|(go_at_call 46;(with_reducible refine (leaf_need.calls k2 _ _ l0_0 _ _ l0_1 t111 _ ?side1 ?side2 ?side3 ?side4 A37.out).mono ?_);(case side1=>repeat (first|exact (Kd.C_below HR0_0.out HB.out)|(with_reducible refine Kd.C_alloc ?_ _)|(with_reducible refine Kd.C_drewN ?_ _)|(with_reducible refine Kd.C_drew ?_)));(case side2=>exact HC0_0.out);(case side3=>repeat (first|exact (Kd.C_below HR0_1.out HB.out)|(with_reducible refine Kd.C_alloc ?_ _)|(with_reducible refine Kd.C_drewN ?_ _)|(with_reducible refine Kd.C_drew ?_)));(case side4=>exact HC0_1.out);rintro e w47 ⟨rfl,hb⟩;have n0_:=A_ (bx_ BK105.out (by intro h_;(with_reducible repeat (first|refine kd_ ?_ _|refine ke_ ?_|refine ka_ ?_ _));exact h_) hb);have n1_:=A_ (bp_ (by repeat (first|(with_reducible first|exact HB.out|apply ba_|apply bd_|apply be_|refine bs_ ?_ GE105.out)|exact HB.out)) hb);clear BK105;clear HB;have BK105:=n0_;have HB:=n1_;clear n0_ n1_;(try clear hb);(try clear hb2);(try clear hk);(try clear hi)))
         go_ret
         exact ⟨by first|rfl|(simp [errW_none,errW_some] <;> rfl)|(simp [*,errW_none,errW_some] <;> rfl),by repeat (first|(with_reducible first|exact HB.out|apply ba_|apply bd_|apply be_|refine bs_ ?_ GE105.out)|exact HB.out)⟩
def humusref08_Need.l0 : Nat→Int→Int→List Int→List (List Int)→Option (Int)
 | 0,_,_,_,_=>none
 | k + 1,x3,x4,x370000,x370001=>if x4<(x370001.length : Int) then (if 0≤x4 then (humusref08_Need.l0 k (wrap64 ((wrap64 (x3 + 1)) + ((rd_L2 x370001 x4).length : Int))) (wrap64 (x4 + 1)) x370000 x370001) else (none)) else (some x3)
def humusref08_Need.f (k : Nat) (l0_0 : List Int) (l0_1 : List (List Int)) : Option (Int):=humusref08_Need.l0 k 18 0 l0_0 l0_1
set_option maxHeartbeats 8000000 in
set_option maxRecDepth 100000 in
theorem humusref08_Need.calls (k : Nat) (A0_0 : Option Addr) (c0_0 : Nat) (l0_0 : List Int) (A0_1 : Option Addr) (c0_1 : Nat) (l0_1 : List (List Int)) (r : Int) (w : World) (hr0_0 : Kd.C (Kd.int .i64) w A0_0 l0_0.length l0_0) (hc0_0 : l0_0.length≤c0_0) (hr0_1 : Kd.C (Kd.slice 5 (Kd.int .u8)) w A0_1 l0_1.length l0_1) (hc0_1 : l0_1.length≤c0_1) (h : humusref08_Need.f k l0_0 l0_1=some r) :
  Calls Try.prog 23 #[.agg #[.slice A0_0 l0_0.length c0_0,.slice A0_1 l0_1.length c0_1]] w fun e w'=>e=.returned (.int .i64 r)∧Below w.heap.size w w':=by
 have hu27:=Try.underlying27;have HR0_0:=A_ hr0_0;have HC0_0:=A_ hc0_0;clear hr0_0 hc0_0;have HR0_1:=A_ hr0_1;have HC0_1:=A_ hc0_1;clear hr0_1 hc0_1;have HB:=A_ (Below.refl w.heap.size w);have H : (humusref08_Need.l0 k 18 0 l0_0 l0_1)=some r:=h;clear h;have H':=A_ H;clear H;go_enter Try.func23,Try.ntmps23
 go_wp2_with (first|((with_reducible refine gate_dst (N:=1) rfl ?_);refine box_event ?hg (N:=1) ?hd (cs:=#[.slice A0_0 l0_0.length c0_0,.slice A0_1 l0_1.length c0_1]) (t:=27) ?hr ?_;(case hd=>rfl);(case hg=>rfl);(case hr=>first|(go_simp;done)|(go_simp;rfl));intro gb369 hg w2 hbox hb;have n0_:=A_ (bp_ (by repeat (first|(with_reducible first|exact HB.out|apply ba_|apply bd_|apply be_)|exact HB.out)) hb);have n1_:=A_ (hbox);have n2_:=A_ ((by rw [hg];exact (bz_ (by repeat (first|(with_reducible first|exact HB.out|apply ba_|apply bd_|apply be_)|exact HB.out))) : w.heap.size≤gb369));have n3_:=n2_;clear HB;have HB:=n0_;have BK369:=n1_;have GW369:=n2_;have GE369:=n3_;clear n0_ n1_ n2_ n3_;clear hb hbox hg))
 go_loopg [3,4] k (fun kq v3 v4 w'=>∃ (x3_1 : Int) (x4_1 : Int),v3=.int .i64 x3_1∧v4=.int .i64 x4_1∧Aside0 (humusref08_Need.l0 kq x3_1 x4_1 l0_0 l0_1=some r)∧Aside0 (kq≤k)∧Aside0 (w'.heap[gb369]?=some (.cells #[(.slice A0_0 l0_0.length c0_0),(.slice A0_1 l0_1.length c0_1)] 27 (0,0)))∧Aside0 (Below w.heap.size w w'))
 case atStart=>exact ⟨(18),(0),(by first|rfl|(simp;done)|(simp [*];done)),(by first|rfl|(simp;done)|(simp [*];done)),H',⟨Nat.le_refl _⟩,⟨by (with_reducible repeat (first|refine kd_ ?_ _|refine ke_ ?_|refine ka_ ?_ _));exact BK369.out⟩,⟨by repeat (first|(with_reducible first|exact HB.out|apply ba_|apply bd_|apply be_|refine bs_ ?_ GE369.out)|exact HB.out)⟩⟩
 case round =>
  clear H';(try clear c2);(try clear p2);obtain ⟨x3_1,x4_1,rfl,rfl,HA,HK1,BK369,HB⟩:=hrel
  cases gk with
  | zero=>exact absurd HA.out (by simp [humusref08_Need.l0])
  | succ k1 =>
   have H:=HA.out;clear HA
   simp only [humusref08_Need.l0] at H
   by_cases c3 : x4_1<(l0_1.length : Int)
   ·rw [if_pos c3] at H
    have c3b0 : decide (x4_1<(l0_1.length : Int))=true:=dt_ c3;clear c3
    by_cases c4 : 0≤x4_1
    ·rw [if_pos c4] at H
     have c4b0 : decide (0≤x4_1)=true:=dt_ c4;clear c4;have H':=A_ H;clear H;have z5_0 : wr.cell? ⟨gb369,0,none⟩=some (.slice A0_0 l0_0.length c0_0):=(bc_ BK369.out 0).trans rfl;have z5_1 : wr.cell? ⟨gb369,1,none⟩=some (.slice A0_1 l0_1.length c0_1):=(bc_ BK369.out 1).trans rfl;have y5_0:=bf_ BK369.out 0;have y5_1:=bf_ BK369.out 1
     have p370 : 0≤(x4_1 : Int):=od_ (by first|(with_reducible assumption)|assumption)
     have q370 : x4_1<(l0_1.length : Int):=od_ (by first|(with_reducible assumption)|assumption)
     obtain ⟨ad370,A370_0,c370_0,e370,hx370_0,hl370_0,hi370_0⟩:=at_L2 HR0_1.out x4_1 p370 q370
     cases e370
     replace hx370_0:=(HB.out.cell (wb_ w _ hx370_0)).trans hx370_0;have HR370_0:=A_ hi370_0;have HC370_0:=A_ hl370_0;clear hi370_0 hl370_0;replace p370:=eq_true p370;replace q370:=eq_true q370;go_wp2;go_roundg k1
     case measure=>have:=HK1.out;omega
     case rel=>exact ⟨(wrap64 ((wrap64 (x3_1 + 1)) + ((rd_L2 l0_1 x4_1).length : Int))),(wrap64 (x4_1 + 1)),(by first|rfl|(simp;done)|(simp [*];done)),(by first|rfl|(simp;done)|(simp [*];done)),H',⟨by have:=HK1.out;omega⟩,⟨by (with_reducible repeat (first|refine kd_ ?_ _|refine ke_ ?_|refine ka_ ?_ _));exact BK369.out⟩,⟨by repeat (first|(with_reducible first|exact HB.out|apply ba_|apply bd_|apply be_|refine bs_ ?_ GE369.out)|exact HB.out)⟩⟩
    ·rw [if_neg c4] at H
     exact absurd H (by simp)
   ·rw [if_neg c3] at H
    have c3b0 : decide (x4_1<(l0_1.length : Int))=false:=df_ c3;clear c3;obtain rfl:=Option.some.inj H;have z6_0 : wr.cell? ⟨gb369,0,none⟩=some (.slice A0_0 l0_0.length c0_0):=(bc_ BK369.out 0).trans rfl;have z6_1 : wr.cell? ⟨gb369,1,none⟩=some (.slice A0_1 l0_1.length c0_1):=(bc_ BK369.out 1).trans rfl;have y6_0:=bf_ BK369.out 0;have y6_1:=bf_ BK369.out 1;go_wp2;go_ret
    exact ⟨by first|rfl|(simp [errW_none,errW_some] <;> rfl)|(simp [*,errW_none,errW_some] <;> rfl),by repeat (first|(with_reducible first|exact HB.out|apply ba_|apply bd_|apply be_|refine bs_ ?_ GE369.out)|exact HB.out)⟩
mutual
def humusref08_May.j0 : Nat→Bool→List Int→List (List Int)→Option (Bool)
 | 0,_,_,_=>none
 | k + 1,x15,x372000,x372001=>if x15=true then (some false) else (humusref08_May.l0 k 0 x372000 x372001)
def humusref08_May.l0 : Nat→Int→List Int→List (List Int)→Option (Bool)
 | 0,_,_,_=>none
 | k + 1,x3,x372000,x372001=>if x3<4 then (if 0≤x3 then (if x3<(x372000.length : Int) then (if (rd x372000 x3)<0 then (humusref08_May.j2 k x3 true x372000 x372001) else (humusref08_May.j2 k x3 (decide ((rd x372000 x3) > 2147483647)) x372000 x372001)) else (none)) else (none)) else (humusref08_May.l2 k 0 x372000 x372001)
def humusref08_May.j2 : Nat→Int→Bool→List Int→List (List Int)→Option (Bool)
 | 0,_,_,_,_=>none
 | k + 1,x3,x33,x372000,x372001=>if x33=true then (some false) else (humusref08_May.l1 k x3 0 x372000 x372001)
def humusref08_May.l1 : Nat→Int→Int→List Int→List (List Int)→Option (Bool)
 | 0,_,_,_,_=>none
 | k + 1,x3,x4,x372000,x372001=>if x4<x3 then (if 0≤x4 then (if x4<(x372000.length : Int) then (if (rd x372000 x4)=0 then (humusref08_May.l1 k x3 (wrap64 (x4 + 1)) x372000 x372001) else (if 0≤x3 then (if x3<(x372000.length : Int) then (if (rd x372000 x4)=(rd x372000 x3) then (some false) else (humusref08_May.l1 k x3 (wrap64 (x4 + 1)) x372000 x372001)) else (none)) else (none))) else (none)) else (none)) else (humusref08_May.l0 k (wrap64 (x3 + 1)) x372000 x372001)
def humusref08_May.l2 : Nat→Int→List Int→List (List Int)→Option (Bool)
 | 0,_,_,_=>none
 | k + 1,x5,x372000,x372001=>if x5<(x372001.length : Int) then (if 0≤x5 then (if ((rd_L2 x372001 x5).length : Int) > 255 then (some false) else (if x5=(wrap64 ((x372001.length : Int) - 1)) then (if ((rd_L2 x372001 x5).length : Int)=0 then (some false) else (humusref08_May.l2 k (wrap64 (x5 + 1)) x372000 x372001)) else (humusref08_May.l2 k (wrap64 (x5 + 1)) x372000 x372001))) else (none)) else ((humusref08_Need.f k x372000 x372001).bind fun t379=>(some (decide (t379≤508))))
end
def humusref08_May.f (k : Nat) (l0_0 : List Int) (l0_1 : List (List Int)) : Option (Bool):=if (l0_0.length : Int)=4 then (humusref08_May.j0 k (decide ((l0_1.length : Int) > 64)) l0_0 l0_1) else (humusref08_May.j0 k true l0_0 l0_1)
set_option maxHeartbeats 8000000 in
set_option maxRecDepth 100000 in
theorem humusref08_May.calls (k : Nat) (A0_0 : Option Addr) (c0_0 : Nat) (l0_0 : List Int) (A0_1 : Option Addr) (c0_1 : Nat) (l0_1 : List (List Int)) (r : Bool) (w : World) (hr0_0 : Kd.C (Kd.int .i64) w A0_0 l0_0.length l0_0) (hc0_0 : l0_0.length≤c0_0) (hr0_1 : Kd.C (Kd.slice 5 (Kd.int .u8)) w A0_1 l0_1.length l0_1) (hc0_1 : l0_1.length≤c0_1) (h : humusref08_May.f k l0_0 l0_1=some r) :
  Calls Try.prog 13 #[.agg #[.slice A0_0 l0_0.length c0_0,.slice A0_1 l0_1.length c0_1]] w fun e w'=>e=.returned (.bool r)∧Below w.heap.size w w':=by
 have hu27:=Try.underlying27;have HR0_0:=A_ hr0_0;have HC0_0:=A_ hc0_0;clear hr0_0 hc0_0;have HR0_1:=A_ hr0_1;have HC0_1:=A_ hc0_1;clear hr0_1 hc0_1;have HB:=A_ (Below.refl w.heap.size w)
 have H : (if (l0_0.length : Int)=4 then (humusref08_May.j0 k (decide ((l0_1.length : Int) > 64)) l0_0 l0_1) else (humusref08_May.j0 k true l0_0 l0_1))=some r:=h
 clear h;have HC2:=A_ H;clear H;go_enter Try.func13,Try.ntmps13
 go_upto_region 1 with (first|((with_reducible refine gate_dst (N:=1) rfl ?_);(try (refine gate_guard (by rfl) ?_;dsimp only));refine box_event ?hg (N:=1) ?hd (cs:=#[.slice A0_0 l0_0.length c0_0,.slice A0_1 l0_1.length c0_1]) (t:=27) ?hr ?_;(case hd=>rfl);(case hg=>rfl);(case hr=>first|(go_simp;done)|(go_simp;rfl));intro gb371 hg w3 hbox hb;have n0_:=A_ (bp_ (by repeat (first|(with_reducible first|exact HB.out|apply ba_|apply bd_|apply be_)|exact HB.out)) hb);have n1_:=A_ (hbox);have n2_:=A_ ((by rw [hg];exact (bz_ (by repeat (first|(with_reducible first|exact HB.out|apply ba_|apply bd_|apply be_)|exact HB.out))) : w.heap.size≤gb371));have n3_:=n2_;clear HB;have HB:=n0_;have BK371:=n1_;have GW371:=n2_;have GE371:=n3_;clear n0_ n1_ n2_ n3_;clear hb hbox hg))
 repeat (go_quiet (first|((with_reducible refine gate_dst (N:=1) rfl ?_);(try (refine gate_guard (by rfl) ?_;dsimp only));refine box_event ?hg (N:=1) ?hd (cs:=#[.slice A0_0 l0_0.length c0_0,.slice A0_1 l0_1.length c0_1]) (t:=27) ?hr ?_;(case hd=>rfl);(case hg=>rfl);(case hr=>first|(go_simp;done)|(go_simp;rfl));intro gb371 hg w3 hbox hb;have n0_:=A_ (bp_ (by repeat (first|(with_reducible first|exact HB.out|apply ba_|apply bd_|apply be_)|exact HB.out)) hb);have n1_:=A_ (hbox);have n2_:=A_ ((by rw [hg];exact (bz_ (by repeat (first|(with_reducible first|exact HB.out|apply ba_|apply bd_|apply be_)|exact HB.out))) : w.heap.size≤gb371));have n3_:=n2_;clear HB;have HB:=n0_;have BK371:=n1_;have GW371:=n2_;have GE371:=n3_;clear n0_ n1_ n2_ n3_;clear hb hbox hg));go_upto_region 1 with (first|((with_reducible refine gate_dst (N:=1) rfl ?_);(try (refine gate_guard (by rfl) ?_;dsimp only));refine box_event ?hg (N:=1) ?hd (cs:=#[.slice A0_0 l0_0.length c0_0,.slice A0_1 l0_1.length c0_1]) (t:=27) ?hr ?_;(case hd=>rfl);(case hg=>rfl);(case hr=>first|(go_simp;done)|(go_simp;rfl));intro gb371 hg w3 hbox hb;have n0_:=A_ (bp_ (by repeat (first|(with_reducible first|exact HB.out|apply ba_|apply bd_|apply be_)|exact HB.out)) hb);have n1_:=A_ (hbox);have n2_:=A_ ((by rw [hg];exact (bz_ (by repeat (first|(with_reducible first|exact HB.out|apply ba_|apply bd_|apply be_)|exact HB.out))) : w.heap.size≤gb371));have n3_:=n2_;clear HB;have HB:=n0_;have BK371:=n1_;have GW371:=n2_;have GE371:=n3_;clear n0_ n1_ n2_ n3_;clear hb hbox hg)))
 (try simp only [Act.put,u1_,u2_,u3_])
 go_cut [15] (fun v15 wc=>∃ (kq : Nat) (x15_1 : Bool),v15=.bool x15_1∧Aside0 (humusref08_May.j0 kq x15_1 l0_0 l0_1=some r)∧Aside0 (kq≤k)∧Aside0 (wc.heap[gb371]?=some (.cells #[(.slice A0_0 l0_0.length c0_0),(.slice A0_1 l0_1.length c0_1)] 27 (0,0)))∧Aside0 (Below w.heap.size w wc))
 case first =>
  have H:=HC2.out;clear HC2
  by_cases c4 : (l0_0.length : Int)=4
  ·rw [if_pos c4] at H
   have c4b0 : ((l0_0.length : Int) == 4)=true:=beq_iff_eq.mpr c4;have c4b1 : ((l0_0.length : Int) != 4)=false:=bne_eq_false_iff_eq.mpr c4;clear c4;(first|rw [c4b0]|(simp only [i64_w,i32_w];rw [c4b0])|skip);have H':=A_ H;clear H;have z5_0 : w3.cell? ⟨gb371,0,none⟩=some (.slice A0_0 l0_0.length c0_0):=(bc_ BK371.out 0).trans rfl;have z5_1 : w3.cell? ⟨gb371,1,none⟩=some (.slice A0_1 l0_1.length c0_1):=(bc_ BK371.out 1).trans rfl;have y5_0:=bf_ BK371.out 0;have y5_1:=bf_ BK371.out 1;go_wp2
   repeat (go_quiet (fail);try go_wp2)
   go_meet
   case rel=>exact ⟨_,(decide ((l0_1.length : Int) > 64)),(by first|rfl|(simp;done)|(simp [*];done)),H',⟨by first|omega|exact Nat.le_refl _⟩,⟨by (with_reducible repeat (first|refine kd_ ?_ _|refine ke_ ?_|refine ka_ ?_ _));exact BK371.out⟩,⟨by repeat (first|(with_reducible first|exact HB.out|apply ba_|apply bd_|apply be_|refine bs_ ?_ GE371.out)|exact HB.out)⟩⟩
  ·rw [if_neg c4] at H
   have c4b0 : ((l0_0.length : Int) == 4)=false:=beq_eq_false_iff_ne.mpr c4;have c4b1 : ((l0_0.length : Int) != 4)=true:=bne_iff_ne.mpr c4;(first|rw [c4b0]|(simp only [i64_w,i32_w];rw [c4b0])|skip);have H':=A_ H;clear H;have z6_0 : w3.cell? ⟨gb371,0,none⟩=some (.slice A0_0 l0_0.length c0_0):=(bc_ BK371.out 0).trans rfl;have z6_1 : w3.cell? ⟨gb371,1,none⟩=some (.slice A0_1 l0_1.length c0_1):=(bc_ BK371.out 1).trans rfl;have y6_0:=bf_ BK371.out 0;have y6_1:=bf_ BK371.out 1;go_wp2
   repeat (go_quiet (fail);try go_wp2)
   go_meet
   case rel=>exact ⟨_,true,rfl,H',⟨by first|omega|exact Nat.le_refl _⟩,⟨by (with_reducible repeat (first|refine kd_ ?_ _|refine ke_ ?_|refine ka_ ?_ _));exact BK371.out⟩,⟨by repeat (first|(with_reducible first|exact HB.out|apply ba_|apply bd_|apply be_|refine bs_ ?_ GE371.out)|exact HB.out)⟩⟩
 case rest =>
  clear HC2;(try clear c1);(try clear p2);(try clear c4);(try clear c4b0);(try clear c4b1);(try clear z5_0 z5_1 z6_0 z6_1 y5_0 y5_1 y6_0 y6_1);obtain ⟨kq,x15_1,rfl,HA,HJ1,BK371,HB⟩:=hcut
  cases kq with
  | zero=>exact absurd HA.out (by simp [humusref08_May.j0])
  | succ kj1 =>
   have H:=HA.out;clear HA
   simp only [humusref08_May.j0] at H
   by_cases c7 : x15_1=true
   ·subst c7
    have H1 : (some false)=some r:=by rw [if_pos rfl] at H;exact H
    clear H;have H:=H1;clear H1;obtain rfl:=Option.some.inj H;go_wp2
    repeat (go_quiet (fail);try go_wp2)
    go_ret
    exact ⟨by first|rfl|(simp [errW_none,errW_some] <;> rfl)|(simp [*,errW_none,errW_some] <;> rfl),by repeat (first|(with_reducible first|exact HB.out|apply ba_|apply bd_|apply be_|refine bs_ ?_ GE371.out)|exact HB.out)⟩
   ·replace c7:=Bool.eq_false_iff.mpr c7
    subst c7
    have H1 : (humusref08_May.l0 kj1 0 l0_0 l0_1)=some r:=by rw [if_neg (show ¬ (false=true) by decide)] at H;exact H
    clear H;have H:=H1;clear H1;have H':=A_ H;clear H;go_wp2
    repeat (go_quiet (fail);try go_wp2)
    go_loopg [3] kj1 (fun kq v3 w'=>∃ (x3_2 : Int),v3=.int .i64 x3_2∧Aside0 (humusref08_May.l0 kq x3_2 l0_0 l0_1=some r)∧Aside0 (kq≤kj1)∧Aside0 (w'.heap[gb371]?=some (.cells #[(.slice A0_0 l0_0.length c0_0),(.slice A0_1 l0_1.length c0_1)] 27 (0,0)))∧Aside0 (Below w.heap.size w w'))
    case atStart=>exact ⟨(0),(by first|rfl|(simp;done)|(simp [*];done)),H',⟨Nat.le_refl _⟩,⟨by (with_reducible repeat (first|refine kd_ ?_ _|refine ke_ ?_|refine ka_ ?_ _));exact BK371.out⟩,⟨by repeat (first|(with_reducible first|exact HB.out|apply ba_|apply bd_|apply be_|refine bs_ ?_ GE371.out)|exact HB.out)⟩⟩
    case round =>
     clear H';(try clear c1);(try clear p2);(try clear c4);(try clear c4b0);(try clear c4b1);(try clear c7);(try clear p2);(try clear z5_0 z5_1 z6_0 z6_1 y5_0 y5_1 y6_0 y6_1);obtain ⟨x3_2,rfl,HA,HK2,BK371,HB⟩:=hrel
     cases gk with
     | zero=>exact absurd HA.out (by simp [humusref08_May.l0])
     | succ k2 =>
      have H:=HA.out;clear HA
      simp only [humusref08_May.l0] at H
      by_cases c8 : x3_2<4
      ·rw [if_pos c8] at H
       have c8b0 : decide (x3_2<4)=true:=dt_ c8;clear c8;have HC9:=A_ H;clear H
       go_upto_region 6 with (fail)
       repeat (go_quiet (fail);go_upto_region 6 with (fail))
       go_cut [33] (fun v33 wc=>∃ (kq : Nat) (x33_8 : Bool),v33=.bool x33_8∧Aside0 (humusref08_May.j2 kq x3_2 x33_8 l0_0 l0_1=some r)∧Aside0 (kq≤k2)∧Aside0 (wc.heap[gb371]?=some (.cells #[(.slice A0_0 l0_0.length c0_0),(.slice A0_1 l0_1.length c0_1)] 27 (0,0)))∧Aside0 (Below w.heap.size w wc))
       case first =>
        have H:=HC9.out;clear HC9
        by_cases c10 : 0≤x3_2
        ·rw [if_pos c10] at H
         have c10b0 : decide (0≤x3_2)=true:=dt_ c10;clear c10;(first|rw [c10b0]|(simp only [i64_w,i32_w];rw [c10b0])|skip)
         by_cases c11 : x3_2<(l0_0.length : Int)
         ·rw [if_pos c11] at H
          have c11b0 : decide (x3_2<(l0_0.length : Int))=true:=dt_ c11;clear c11
          by_cases c12 : (rd l0_0 x3_2)<0
          ·rw [if_pos c12] at H
           have c12b0 : decide ((rd l0_0 x3_2)<0)=true:=dt_ c12;clear c12;have H':=A_ H;clear H;have z13_0 : wr.cell? ⟨gb371,0,none⟩=some (.slice A0_0 l0_0.length c0_0):=(bc_ BK371.out 0).trans rfl;have z13_1 : wr.cell? ⟨gb371,1,none⟩=some (.slice A0_1 l0_1.length c0_1):=(bc_ BK371.out 1).trans rfl;have y13_0:=bf_ BK371.out 0;have y13_1:=bf_ BK371.out 1
           have p372 : 0≤(x3_2 : Int):=od_ (by first|(with_reducible assumption)|assumption)
           have q372 : x3_2<(l0_0.length : Int):=od_ (by first|(with_reducible assumption)|assumption)
           obtain ⟨ad372,e372,hx372_0⟩:=Kd.at_int HR0_0.out x3_2 p372 q372
           cases e372
           replace hx372_0:=(HB.out.cell (wb_ w _ hx372_0)).trans hx372_0;replace p372:=eq_true p372;replace q372:=eq_true q372;go_wp2
           repeat (go_quiet (fail);try go_wp2)
           go_meet
           case rel=>exact ⟨_,true,rfl,H',⟨by have:=HJ1.out;have:=HK2.out;first|omega|exact Nat.le_refl _⟩,⟨by (with_reducible repeat (first|refine kd_ ?_ _|refine ke_ ?_|refine ka_ ?_ _));exact BK371.out⟩,⟨by repeat (first|(with_reducible first|exact HB.out|apply ba_|apply bd_|apply be_|refine bs_ ?_ GE371.out)|exact HB.out)⟩⟩
          ·rw [if_neg c12] at H
           have c12b0 : decide ((rd l0_0 x3_2)<0)=false:=df_ c12;clear c12;have H':=A_ H;clear H;have z14_0 : wr.cell? ⟨gb371,0,none⟩=some (.slice A0_0 l0_0.length c0_0):=(bc_ BK371.out 0).trans rfl;have z14_1 : wr.cell? ⟨gb371,1,none⟩=some (.slice A0_1 l0_1.length c0_1):=(bc_ BK371.out 1).trans rfl;have y14_0:=bf_ BK371.out 0;have y14_1:=bf_ BK371.out 1
           have p372 : 0≤(x3_2 : Int):=od_ (by first|(with_reducible assumption)|assumption)
           have q372 : x3_2<(l0_0.length : Int):=od_ (by first|(with_reducible assumption)|assumption)
           obtain ⟨ad372,e372,hx372_0⟩:=Kd.at_int HR0_0.out x3_2 p372 q372
           cases e372
           replace hx372_0:=(HB.out.cell (wb_ w _ hx372_0)).trans hx372_0;replace p372:=eq_true p372;replace q372:=eq_true q372
           have p373 : 0≤(x3_2 : Int):=od_ (by first|(with_reducible assumption)|assumption)
           have q373 : x3_2<(l0_0.length : Int):=od_ (by first|(with_reducible assumption)|assumption)
           obtain ⟨ad373,e373,hx373_0⟩:=Kd.at_int HR0_0.out x3_2 p373 q373
           obtain rfl : ad372=ad373:=(by injection e373)
           replace hx373_0:=(HB.out.cell (wb_ w _ hx373_0)).trans hx373_0;replace p373:=eq_true p373;replace q373:=eq_true q373;go_wp2
           repeat (go_quiet (fail);try go_wp2)
           go_meet
           case rel=>exact ⟨_,(decide ((rd l0_0 x3_2) > 2147483647)),(by first|rfl|(simp;done)|(simp [*];done)),H',⟨by have:=HJ1.out;have:=HK2.out;first|omega|exact Nat.le_refl _⟩,⟨by (with_reducible repeat (first|refine kd_ ?_ _|refine ke_ ?_|refine ka_ ?_ _));exact BK371.out⟩,⟨by repeat (first|(with_reducible first|exact HB.out|apply ba_|apply bd_|apply be_|refine bs_ ?_ GE371.out)|exact HB.out)⟩⟩
         ·rw [if_neg c11] at H
          exact absurd H (by simp)
        ·rw [if_neg c10] at H
         exact absurd H (by simp)
       case rest =>
        clear HC9;(try clear c1);(try clear p2);(try clear p3);(try clear q3);(try clear hx3);(try clear c4);(try clear c4b0);(try clear c4b1);(try clear c7);(try clear c8);(try clear c8b0);(try clear c10);(try clear c10b0);(try clear c11);(try clear c11b0);(try clear c12);(try clear c12b0);(try clear c13);(try clear hx372_0);(try clear hx373_0);(try clear p2);(try clear p372);(try clear p373);(try clear q372);(try clear q373);(try clear z13_0 z13_1 z14_0 z14_1 z5_0 z5_1 z6_0 z6_1 y13_0 y13_1 y14_0 y14_1 y5_0 y5_1 y6_0 y6_1);obtain ⟨kq,x33_8,rfl,HA,HJ8,BK371,HB⟩:=hcut
        cases kq with
        | zero=>exact absurd HA.out (by simp [humusref08_May.j2])
        | succ kj8 =>
         have H:=HA.out;clear HA
         simp only [humusref08_May.j2] at H
         by_cases c15 : x33_8=true
         ·subst c15
          have H1 : (some false)=some r:=by rw [if_pos rfl] at H;exact H
          clear H;have H:=H1;clear H1;obtain rfl:=Option.some.inj H;go_wp2
          repeat (go_quiet (fail);try go_wp2)
          go_ret
          exact ⟨by first|rfl|(simp [errW_none,errW_some] <;> rfl)|(simp [*,errW_none,errW_some] <;> rfl),by repeat (first|(with_reducible first|exact HB.out|apply ba_|apply bd_|apply be_|refine bs_ ?_ GE371.out)|exact HB.out)⟩
         ·replace c15:=Bool.eq_false_iff.mpr c15
          subst c15
          have H1 : (humusref08_May.l1 kj8 x3_2 0 l0_0 l0_1)=some r:=by rw [if_neg (show ¬ (false=true) by decide)] at H;exact H
          clear H;have H:=H1;clear H1;have H':=A_ H;clear H;go_wp2
          repeat (go_quiet (fail);try go_wp2)
          go_loopg [4] kj8 (fun kq v4 w'=>∃ (x4_4 : Int),v4=.int .i64 x4_4∧Aside0 (humusref08_May.l1 kq x3_2 x4_4 l0_0 l0_1=some r)∧Aside0 (kq≤kj8)∧Aside0 (w'.heap[gb371]?=some (.cells #[(.slice A0_0 l0_0.length c0_0),(.slice A0_1 l0_1.length c0_1)] 27 (0,0)))∧Aside0 (Below w.heap.size w w'))
          case atStart=>exact ⟨(0),(by first|rfl|(simp;done)|(simp [*];done)),H',⟨Nat.le_refl _⟩,⟨by (with_reducible repeat (first|refine kd_ ?_ _|refine ke_ ?_|refine ka_ ?_ _));exact BK371.out⟩,⟨by repeat (first|(with_reducible first|exact HB.out|apply ba_|apply bd_|apply be_|refine bs_ ?_ GE371.out)|exact HB.out)⟩⟩
          case round =>
           clear H';(try clear c1);(try clear p2);(try clear p3);(try clear q3);(try clear hx3);(try clear c4);(try clear c4b0);(try clear c4b1);(try clear c7);(try clear c8);(try clear c8b0);(try clear c10);(try clear c10b0);(try clear c11);(try clear c11b0);(try clear c12);(try clear c12b0);(try clear c13);(try clear c15);(try clear hx372_0);(try clear hx373_0);(try clear p2);(try clear p3);(try clear p372);(try clear p373);(try clear q3);(try clear q372);(try clear q373);(try clear z13_0 z13_1 z14_0 z14_1 z5_0 z5_1 z6_0 z6_1 y13_0 y13_1 y14_0 y14_1 y5_0 y5_1 y6_0 y6_1);obtain ⟨x4_4,rfl,HA,HK4,BK371,HB⟩:=hrel
           cases gk with
           | zero=>exact absurd HA.out (by simp [humusref08_May.l1])
           | succ k4 =>
            have H:=HA.out;clear HA
            simp only [humusref08_May.l1] at H
            by_cases c16 : x4_4<x3_2
            ·rw [if_pos c16] at H
             have c16b0 : decide (x4_4<x3_2)=true:=dt_ c16;clear c16
             by_cases c17 : 0≤x4_4
             ·rw [if_pos c17] at H
              have c17b0 : decide (0≤x4_4)=true:=dt_ c17;clear c17
              by_cases c18 : x4_4<(l0_0.length : Int)
              ·rw [if_pos c18] at H
               have c18b0 : decide (x4_4<(l0_0.length : Int))=true:=dt_ c18;clear c18
               by_cases c19 : (rd l0_0 x4_4)=0
               ·rw [if_pos c19] at H
                have c19b0 : ((rd l0_0 x4_4) == 0)=true:=beq_iff_eq.mpr c19;have c19b1 : ((rd l0_0 x4_4) != 0)=false:=bne_eq_false_iff_eq.mpr c19;clear c19;have H':=A_ H;clear H;have z20_0 : wr.cell? ⟨gb371,0,none⟩=some (.slice A0_0 l0_0.length c0_0):=(bc_ BK371.out 0).trans rfl;have z20_1 : wr.cell? ⟨gb371,1,none⟩=some (.slice A0_1 l0_1.length c0_1):=(bc_ BK371.out 1).trans rfl;have y20_0:=bf_ BK371.out 0;have y20_1:=bf_ BK371.out 1
                have p374 : 0≤(x4_4 : Int):=od_ (by first|(with_reducible assumption)|assumption)
                have q374 : x4_4<(l0_0.length : Int):=od_ (by first|(with_reducible assumption)|assumption)
                obtain ⟨ad374,e374,hx374_0⟩:=Kd.at_int HR0_0.out x4_4 p374 q374
                cases e374
                replace hx374_0:=(HB.out.cell (wb_ w _ hx374_0)).trans hx374_0;replace p374:=eq_true p374;replace q374:=eq_true q374;go_wp2
                repeat (go_quiet (fail);try go_wp2)
                go_roundg k4
                case measure=>have:=HJ1.out;have:=HK2.out;have:=HJ8.out;have:=HK4.out;omega
                case rel=>exact ⟨(wrap64 (x4_4 + 1)),(by first|rfl|(simp;done)|(simp [*];done)),H',⟨by have:=HJ1.out;have:=HK2.out;have:=HJ8.out;have:=HK4.out;omega⟩,⟨by (with_reducible repeat (first|refine kd_ ?_ _|refine ke_ ?_|refine ka_ ?_ _));exact BK371.out⟩,⟨by repeat (first|(with_reducible first|exact HB.out|apply ba_|apply bd_|apply be_|refine bs_ ?_ GE371.out)|exact HB.out)⟩⟩
               ·rw [if_neg c19] at H
                have c19b0 : ((rd l0_0 x4_4) == 0)=false:=beq_eq_false_iff_ne.mpr c19;have c19b1 : ((rd l0_0 x4_4) != 0)=true:=bne_iff_ne.mpr c19
                by_cases c21 : 0≤x3_2
                ·rw [if_pos c21] at H
                 have c21b0 : decide (0≤x3_2)=true:=dt_ c21;clear c21
                 by_cases c22 : x3_2<(l0_0.length : Int)
                 ·rw [if_pos c22] at H
                  have c22b0 : decide (x3_2<(l0_0.length : Int))=true:=dt_ c22;clear c22
                  by_cases c23 : (rd l0_0 x4_4)=(rd l0_0 x3_2)
                  ·rw [if_pos c23] at H
                   have c23b0 : ((rd l0_0 x4_4) == (rd l0_0 x3_2))=true:=beq_iff_eq.mpr c23;have c23b1 : ((rd l0_0 x4_4) != (rd l0_0 x3_2))=false:=bne_eq_false_iff_eq.mpr c23;clear c23;obtain rfl:=Option.some.inj H;have z24_0 : wr.cell? ⟨gb371,0,none⟩=some (.slice A0_0 l0_0.length c0_0):=(bc_ BK371.out 0).trans rfl;have z24_1 : wr.cell? ⟨gb371,1,none⟩=some (.slice A0_1 l0_1.length c0_1):=(bc_ BK371.out 1).trans rfl;have y24_0:=bf_ BK371.out 0;have y24_1:=bf_ BK371.out 1
                   have p374 : 0≤(x4_4 : Int):=od_ (by first|(with_reducible assumption)|assumption)
                   have q374 : x4_4<(l0_0.length : Int):=od_ (by first|(with_reducible assumption)|assumption)
                   obtain ⟨ad374,e374,hx374_0⟩:=Kd.at_int HR0_0.out x4_4 p374 q374
                   cases e374
                   replace hx374_0:=(HB.out.cell (wb_ w _ hx374_0)).trans hx374_0;replace p374:=eq_true p374;replace q374:=eq_true q374
                   have p375 : 0≤(x4_4 : Int):=od_ (by first|(with_reducible assumption)|assumption)
                   have q375 : x4_4<(l0_0.length : Int):=od_ (by first|(with_reducible assumption)|assumption)
                   obtain ⟨ad375,e375,hx375_0⟩:=Kd.at_int HR0_0.out x4_4 p375 q375
                   obtain rfl : ad374=ad375:=(by injection e375)
                   replace hx375_0:=(HB.out.cell (wb_ w _ hx375_0)).trans hx375_0;replace p375:=eq_true p375;replace q375:=eq_true q375
                   have p376 : 0≤(x3_2 : Int):=od_ (by first|(with_reducible assumption)|assumption)
                   have q376 : x3_2<(l0_0.length : Int):=od_ (by first|(with_reducible assumption)|assumption)
                   obtain ⟨ad376,e376,hx376_0⟩:=Kd.at_int HR0_0.out x3_2 p376 q376
                   obtain rfl : ad374=ad376:=(by injection e376)
                   replace hx376_0:=(HB.out.cell (wb_ w _ hx376_0)).trans hx376_0;replace p376:=eq_true p376;replace q376:=eq_true q376;go_wp2
                   repeat (go_quiet (fail);try go_wp2)
                   go_ret
                   exact ⟨by first|rfl|(simp [errW_none,errW_some] <;> rfl)|(simp [*,errW_none,errW_some] <;> rfl),by repeat (first|(with_reducible first|exact HB.out|apply ba_|apply bd_|apply be_|refine bs_ ?_ GE371.out)|exact HB.out)⟩
                  ·rw [if_neg c23] at H
                   have c23b0 : ((rd l0_0 x4_4) == (rd l0_0 x3_2))=false:=beq_eq_false_iff_ne.mpr c23;have c23b1 : ((rd l0_0 x4_4) != (rd l0_0 x3_2))=true:=bne_iff_ne.mpr c23;have H':=A_ H;clear H;have z25_0 : wr.cell? ⟨gb371,0,none⟩=some (.slice A0_0 l0_0.length c0_0):=(bc_ BK371.out 0).trans rfl;have z25_1 : wr.cell? ⟨gb371,1,none⟩=some (.slice A0_1 l0_1.length c0_1):=(bc_ BK371.out 1).trans rfl;have y25_0:=bf_ BK371.out 0;have y25_1:=bf_ BK371.out 1
                   have p374 : 0≤(x4_4 : Int):=od_ (by first|(with_reducible assumption)|assumption)
                   have q374 : x4_4<(l0_0.length : Int):=od_ (by first|(with_reducible assumption)|assumption)
                   obtain ⟨ad374,e374,hx374_0⟩:=Kd.at_int HR0_0.out x4_4 p374 q374
                   cases e374
                   replace hx374_0:=(HB.out.cell (wb_ w _ hx374_0)).trans hx374_0;replace p374:=eq_true p374;replace q374:=eq_true q374
                   have p375 : 0≤(x4_4 : Int):=od_ (by first|(with_reducible assumption)|assumption)
                   have q375 : x4_4<(l0_0.length : Int):=od_ (by first|(with_reducible assumption)|assumption)
                   obtain ⟨ad375,e375,hx375_0⟩:=Kd.at_int HR0_0.out x4_4 p375 q375
                   obtain rfl : ad374=ad375:=(by injection e375)
                   replace hx375_0:=(HB.out.cell (wb_ w _ hx375_0)).trans hx375_0;replace p375:=eq_true p375;replace q375:=eq_true q375
                   have p376 : 0≤(x3_2 : Int):=od_ (by first|(with_reducible assumption)|assumption)
                   have q376 : x3_2<(l0_0.length : Int):=od_ (by first|(with_reducible assumption)|assumption)
                   obtain ⟨ad376,e376,hx376_0⟩:=Kd.at_int HR0_0.out x3_2 p376 q376
                   obtain rfl : ad374=ad376:=(by injection e376)
                   replace hx376_0:=(HB.out.cell (wb_ w _ hx376_0)).trans hx376_0;replace p376:=eq_true p376;replace q376:=eq_true q376;go_wp2
                   repeat (go_quiet (fail);try go_wp2)
                   go_roundg k4
                   case measure=>have:=HJ1.out;have:=HK2.out;have:=HJ8.out;have:=HK4.out;omega
                   case rel=>exact ⟨(wrap64 (x4_4 + 1)),(by first|rfl|(simp;done)|(simp [*];done)),H',⟨by have:=HJ1.out;have:=HK2.out;have:=HJ8.out;have:=HK4.out;omega⟩,⟨by (with_reducible repeat (first|refine kd_ ?_ _|refine ke_ ?_|refine ka_ ?_ _));exact BK371.out⟩,⟨by repeat (first|(with_reducible first|exact HB.out|apply ba_|apply bd_|apply be_|refine bs_ ?_ GE371.out)|exact HB.out)⟩⟩
                 ·rw [if_neg c22] at H
                  exact absurd H (by simp)
                ·rw [if_neg c21] at H
                 exact absurd H (by simp)
              ·rw [if_neg c18] at H
               exact absurd H (by simp)
             ·rw [if_neg c17] at H
              exact absurd H (by simp)
            ·rw [if_neg c16] at H
             have c16b0 : decide (x4_4<x3_2)=false:=df_ c16;clear c16;have H':=A_ H;clear H;go_wp2
             repeat (go_quiet (fail);try go_wp2)
             go_roundg k4
             case measure=>have:=HJ1.out;have:=HK2.out;have:=HJ8.out;have:=HK4.out;omega
             case rel=>exact ⟨(wrap64 (x3_2 + 1)),(by first|rfl|(simp;done)|(simp [*];done)),H',⟨by have:=HJ1.out;have:=HK2.out;have:=HJ8.out;have:=HK4.out;omega⟩,⟨by (with_reducible repeat (first|refine kd_ ?_ _|refine ke_ ?_|refine ka_ ?_ _));exact BK371.out⟩,⟨by repeat (first|(with_reducible first|exact HB.out|apply ba_|apply bd_|apply be_|refine bs_ ?_ GE371.out)|exact HB.out)⟩⟩
      ·rw [if_neg c8] at H
       have c8b0 : decide (x3_2<4)=false:=df_ c8;clear c8;have H':=A_ H;clear H;go_wp2
       repeat (go_quiet (fail);try go_wp2)
       go_loopg [5] k2 (fun kq v5 w'=>∃ (x5_3 : Int),v5=.int .i64 x5_3∧Aside0 (humusref08_May.l2 kq x5_3 l0_0 l0_1=some r)∧Aside0 (kq≤k2)∧Aside0 (w'.heap[gb371]?=some (.cells #[(.slice A0_0 l0_0.length c0_0),(.slice A0_1 l0_1.length c0_1)] 27 (0,0)))∧Aside0 (Below w.heap.size w w'))
       case atStart=>exact ⟨(0),(by first|rfl|(simp;done)|(simp [*];done)),H',⟨Nat.le_refl _⟩,⟨by (with_reducible repeat (first|refine kd_ ?_ _|refine ke_ ?_|refine ka_ ?_ _));exact BK371.out⟩,⟨by repeat (first|(with_reducible first|exact HB.out|apply ba_|apply bd_|apply be_|refine bs_ ?_ GE371.out)|exact HB.out)⟩⟩
       case round =>
        clear H';(try clear c1);(try clear c2);(try clear p2);(try clear p3);(try clear q3);(try clear hx3);(try clear c4);(try clear c4b0);(try clear c4b1);(try clear p6);(try clear c7);(try clear c8);(try clear c8b0);(try clear c10);(try clear c10b0);(try clear c11);(try clear c11b0);(try clear c12);(try clear c12b0);(try clear c13);(try clear c15);(try clear c16);(try clear c16b0);(try clear c17);(try clear c17b0);(try clear c18);(try clear c18b0);(try clear c19);(try clear c19b0);(try clear c19b1);(try clear c21);(try clear c21b0);(try clear c22);(try clear c22b0);(try clear c23);(try clear c23b0);(try clear c23b1);(try clear hx372_0);(try clear hx373_0);(try clear hx374_0);(try clear hx375_0);(try clear hx376_0);(try clear p2);(try clear p3);(try clear p372);(try clear p373);(try clear p374);(try clear p375);(try clear p376);(try clear q3);(try clear q372);(try clear q373);(try clear q374);(try clear q375);(try clear q376);(try clear z13_0 z13_1 z14_0 z14_1 z20_0 z20_1 z24_0 z24_1 z25_0 z25_1 z5_0 z5_1 z6_0 z6_1 y13_0 y13_1 y14_0 y14_1 y20_0 y20_1 y24_0 y24_1 y25_0 y25_1 y5_0 y5_1 y6_0 y6_1);obtain ⟨x5_3,rfl,HA,HK3,BK371,HB⟩:=hrel
        cases gk with
        | zero=>exact absurd HA.out (by simp [humusref08_May.l2])
        | succ k3 =>
         have H:=HA.out;clear HA
         simp only [humusref08_May.l2] at H
         by_cases c26 : x5_3<(l0_1.length : Int)
         ·rw [if_pos c26] at H
          have c26b0 : decide (x5_3<(l0_1.length : Int))=true:=dt_ c26;clear c26
          by_cases c27 : 0≤x5_3
          ·rw [if_pos c27] at H
           have c27b0 : decide (0≤x5_3)=true:=dt_ c27;clear c27
           by_cases c28 : ((rd_L2 l0_1 x5_3).length : Int) > 255
           ·rw [if_pos c28] at H
            have c28b0 : decide (255<((rd_L2 l0_1 x5_3).length : Int))=true:=dt_ c28
            have c28b1 : decide (255<(rd_L2 l0_1 x5_3).length)=true:=dt_ (by omega)
            clear c28;obtain rfl:=Option.some.inj H;have z29_0 : wr.cell? ⟨gb371,0,none⟩=some (.slice A0_0 l0_0.length c0_0):=(bc_ BK371.out 0).trans rfl;have z29_1 : wr.cell? ⟨gb371,1,none⟩=some (.slice A0_1 l0_1.length c0_1):=(bc_ BK371.out 1).trans rfl;have y29_0:=bf_ BK371.out 0;have y29_1:=bf_ BK371.out 1
            have p377 : 0≤(x5_3 : Int):=od_ (by first|(with_reducible assumption)|assumption)
            have q377 : x5_3<(l0_1.length : Int):=od_ (by first|(with_reducible assumption)|assumption)
            obtain ⟨ad377,A377_0,c377_0,e377,hx377_0,hl377_0,hi377_0⟩:=at_L2 HR0_1.out x5_3 p377 q377
            cases e377
            replace hx377_0:=(HB.out.cell (wb_ w _ hx377_0)).trans hx377_0;have HR377_0:=A_ hi377_0;have HC377_0:=A_ hl377_0;clear hi377_0 hl377_0;replace p377:=eq_true p377;replace q377:=eq_true q377;go_wp2
            repeat (go_quiet (fail);try go_wp2)
            go_ret
            exact ⟨by first|rfl|(simp [errW_none,errW_some] <;> rfl)|(simp [*,errW_none,errW_some] <;> rfl),by repeat (first|(with_reducible first|exact HB.out|apply ba_|apply bd_|apply be_|refine bs_ ?_ GE371.out)|exact HB.out)⟩
           ·rw [if_neg c28] at H
            have c28b0 : decide (255<((rd_L2 l0_1 x5_3).length : Int))=false:=df_ c28
            have c28b1 : decide (255<(rd_L2 l0_1 x5_3).length)=false:=df_ (by omega)
            clear c28
            by_cases c30 : x5_3=(wrap64 ((l0_1.length : Int) - 1))
            ·rw [if_pos c30] at H
             have c30b0 : (x5_3 == (wrap64 ((l0_1.length : Int) - 1)))=true:=beq_iff_eq.mpr c30;have c30b1 : (x5_3 != (wrap64 ((l0_1.length : Int) - 1)))=false:=bne_eq_false_iff_eq.mpr c30;clear c30
             by_cases c31 : ((rd_L2 l0_1 x5_3).length : Int)=0
             ·rw [if_pos c31] at H
              have c31b0 : (((rd_L2 l0_1 x5_3).length : Int) == 0)=true:=beq_iff_eq.mpr c31;have c31b1 : (((rd_L2 l0_1 x5_3).length : Int) != 0)=false:=bne_eq_false_iff_eq.mpr c31;clear c31;obtain rfl:=Option.some.inj H;have z32_0 : wr.cell? ⟨gb371,0,none⟩=some (.slice A0_0 l0_0.length c0_0):=(bc_ BK371.out 0).trans rfl;have z32_1 : wr.cell? ⟨gb371,1,none⟩=some (.slice A0_1 l0_1.length c0_1):=(bc_ BK371.out 1).trans rfl;have y32_0:=bf_ BK371.out 0;have y32_1:=bf_ BK371.out 1
              have p377 : 0≤(x5_3 : Int):=od_ (by first|(with_reducible assumption)|assumption)
              have q377 : x5_3<(l0_1.length : Int):=od_ (by first|(with_reducible assumption)|assumption)
              obtain ⟨ad377,A377_0,c377_0,e377,hx377_0,hl377_0,hi377_0⟩:=at_L2 HR0_1.out x5_3 p377 q377
              cases e377
              replace hx377_0:=(HB.out.cell (wb_ w _ hx377_0)).trans hx377_0;have HR377_0:=A_ hi377_0;have HC377_0:=A_ hl377_0;clear hi377_0 hl377_0;replace p377:=eq_true p377;replace q377:=eq_true q377
              have p378 : 0≤(x5_3 : Int):=od_ (by first|(with_reducible assumption)|assumption)
              have q378 : x5_3<(l0_1.length : Int):=od_ (by first|(with_reducible assumption)|assumption)
              obtain ⟨ad378,A378_0,c378_0,e378,hx378_0,hl378_0,hi378_0⟩:=at_L2 HR0_1.out x5_3 p378 q378
              obtain rfl : ad377=ad378:=(by injection e378)
              replace hx378_0:=(HB.out.cell (wb_ w _ hx378_0)).trans hx378_0;have HR378_0:=A_ hi378_0;have HC378_0:=A_ hl378_0;clear hi378_0 hl378_0;replace p378:=eq_true p378;replace q378:=eq_true q378;have ea_:=Option.some.inj (hx377_0.symm.trans hx378_0)
              injection ea_ with ea_ en_ ec_
              subst ea_;subst ec_;clear en_;go_wp2
              repeat (go_quiet (fail);try go_wp2)
              go_ret
              exact ⟨by first|rfl|(simp [errW_none,errW_some] <;> rfl)|(simp [*,errW_none,errW_some] <;> rfl),by repeat (first|(with_reducible first|exact HB.out|apply ba_|apply bd_|apply be_|refine bs_ ?_ GE371.out)|exact HB.out)⟩
             ·rw [if_neg c31] at H
              have c31b0 : (((rd_L2 l0_1 x5_3).length : Int) == 0)=false:=beq_eq_false_iff_ne.mpr c31;have c31b1 : (((rd_L2 l0_1 x5_3).length : Int) != 0)=true:=bne_iff_ne.mpr c31
              have c31b2 : ¬ ((rd_L2 l0_1 x5_3)=[]):=fun h_=>c31 (by rw [h_];rfl)
              have H':=A_ H;clear H;have z33_0 : wr.cell? ⟨gb371,0,none⟩=some (.slice A0_0 l0_0.length c0_0):=(bc_ BK371.out 0).trans rfl;have z33_1 : wr.cell? ⟨gb371,1,none⟩=some (.slice A0_1 l0_1.length c0_1):=(bc_ BK371.out 1).trans rfl;have y33_0:=bf_ BK371.out 0;have y33_1:=bf_ BK371.out 1
              have p377 : 0≤(x5_3 : Int):=od_ (by first|(with_reducible assumption)|assumption)
              have q377 : x5_3<(l0_1.length : Int):=od_ (by first|(with_reducible assumption)|assumption)
              obtain ⟨ad377,A377_0,c377_0,e377,hx377_0,hl377_0,hi377_0⟩:=at_L2 HR0_1.out x5_3 p377 q377
              cases e377
              replace hx377_0:=(HB.out.cell (wb_ w _ hx377_0)).trans hx377_0;have HR377_0:=A_ hi377_0;have HC377_0:=A_ hl377_0;clear hi377_0 hl377_0;replace p377:=eq_true p377;replace q377:=eq_true q377
              have p378 : 0≤(x5_3 : Int):=od_ (by first|(with_reducible assumption)|assumption)
              have q378 : x5_3<(l0_1.length : Int):=od_ (by first|(with_reducible assumption)|assumption)
              obtain ⟨ad378,A378_0,c378_0,e378,hx378_0,hl378_0,hi378_0⟩:=at_L2 HR0_1.out x5_3 p378 q378
              obtain rfl : ad377=ad378:=(by injection e378)
              replace hx378_0:=(HB.out.cell (wb_ w _ hx378_0)).trans hx378_0;have HR378_0:=A_ hi378_0;have HC378_0:=A_ hl378_0;clear hi378_0 hl378_0;replace p378:=eq_true p378;replace q378:=eq_true q378;have ea_:=Option.some.inj (hx377_0.symm.trans hx378_0)
              injection ea_ with ea_ en_ ec_
              subst ea_;subst ec_;clear en_;go_wp2
              repeat (go_quiet (fail);try go_wp2)
              go_roundg k3
              case measure=>have:=HJ1.out;have:=HK2.out;have:=HK3.out;omega
              case rel=>exact ⟨(wrap64 (x5_3 + 1)),(by first|rfl|(simp;done)|(simp [*];done)),H',⟨by have:=HJ1.out;have:=HK2.out;have:=HK3.out;omega⟩,⟨by (with_reducible repeat (first|refine kd_ ?_ _|refine ke_ ?_|refine ka_ ?_ _));exact BK371.out⟩,⟨by repeat (first|(with_reducible first|exact HB.out|apply ba_|apply bd_|apply be_|refine bs_ ?_ GE371.out)|exact HB.out)⟩⟩
            ·rw [if_neg c30] at H
             have c30b0 : (x5_3 == (wrap64 ((l0_1.length : Int) - 1)))=false:=beq_eq_false_iff_ne.mpr c30;have c30b1 : (x5_3 != (wrap64 ((l0_1.length : Int) - 1)))=true:=bne_iff_ne.mpr c30;have H':=A_ H;clear H;have z34_0 : wr.cell? ⟨gb371,0,none⟩=some (.slice A0_0 l0_0.length c0_0):=(bc_ BK371.out 0).trans rfl;have z34_1 : wr.cell? ⟨gb371,1,none⟩=some (.slice A0_1 l0_1.length c0_1):=(bc_ BK371.out 1).trans rfl;have y34_0:=bf_ BK371.out 0;have y34_1:=bf_ BK371.out 1
             have p377 : 0≤(x5_3 : Int):=od_ (by first|(with_reducible assumption)|assumption)
             have q377 : x5_3<(l0_1.length : Int):=od_ (by first|(with_reducible assumption)|assumption)
             obtain ⟨ad377,A377_0,c377_0,e377,hx377_0,hl377_0,hi377_0⟩:=at_L2 HR0_1.out x5_3 p377 q377
             cases e377
             replace hx377_0:=(HB.out.cell (wb_ w _ hx377_0)).trans hx377_0;have HR377_0:=A_ hi377_0;have HC377_0:=A_ hl377_0;clear hi377_0 hl377_0;replace p377:=eq_true p377;replace q377:=eq_true q377;go_wp2
             repeat (go_quiet (fail);try go_wp2)
             go_roundg k3
             case measure=>have:=HJ1.out;have:=HK2.out;have:=HK3.out;omega
             case rel=>exact ⟨(wrap64 (x5_3 + 1)),(by first|rfl|(simp;done)|(simp [*];done)),H',⟨by have:=HJ1.out;have:=HK2.out;have:=HK3.out;omega⟩,⟨by (with_reducible repeat (first|refine kd_ ?_ _|refine ke_ ?_|refine ka_ ?_ _));exact BK371.out⟩,⟨by repeat (first|(with_reducible first|exact HB.out|apply ba_|apply bd_|apply be_|refine bs_ ?_ GE371.out)|exact HB.out)⟩⟩
          ·rw [if_neg c27] at H
           exact absurd H (by simp)
         ·rw [if_neg c26] at H
          have c26b0 : decide (x5_3<(l0_1.length : Int))=false:=df_ c26;clear c26;replace H:=Option.bind_eq_some_iff.mp H;obtain ⟨t379,A350,H⟩:=H;replace H : (some (decide (t379≤508)))=some r:=H;have A35:=A_ A350;clear A350;obtain rfl:=Option.some.inj H;have z36_0 : wr.cell? ⟨gb371,0,none⟩=some (.slice A0_0 l0_0.length c0_0):=(bc_ BK371.out 0).trans rfl;have z36_1 : wr.cell? ⟨gb371,1,none⟩=some (.slice A0_1 l0_1.length c0_1):=(bc_ BK371.out 1).trans rfl;have y36_0:=bf_ BK371.out 0;have y36_1:=bf_ BK371.out 1
          go_wp2_with (first|(go_at_call 23;(with_reducible refine (humusref08_Need.calls k3 _ _ l0_0 _ _ l0_1 t379 _ ?side1 ?side2 ?side3 ?side4 A35.out).mono ?_);(case side1=>repeat (first|exact (Kd.C_below HR0_0.out HB.out)|(with_reducible refine Kd.C_alloc ?_ _)|(with_reducible refine Kd.C_drewN ?_ _)|(with_reducible refine Kd.C_drew ?_)));(case side2=>exact HC0_0.out);(case side3=>repeat (first|exact (Kd.C_below HR0_1.out HB.out)|(with_reducible refine Kd.C_alloc ?_ _)|(with_reducible refine Kd.C_drewN ?_ _)|(with_reducible refine Kd.C_drew ?_)));(case side4=>exact HC0_1.out);rintro e w37 ⟨rfl,hb⟩;have n0_:=A_ (bx_ BK371.out (by intro h_;(with_reducible repeat (first|refine kd_ ?_ _|refine ke_ ?_|refine ka_ ?_ _));exact h_) hb);have n1_:=A_ (bp_ (by repeat (first|(with_reducible first|exact HB.out|apply ba_|apply bd_|apply be_|refine bs_ ?_ GE371.out)|exact HB.out)) hb);clear BK371;clear HB;have BK371:=n0_;have HB:=n1_;clear n0_ n1_;(try clear hb);(try clear hb2);(try clear hk);(try clear hi)))
          repeat (go_quiet (first|(go_at_call 23;(with_reducible refine (humusref08_Need.calls k3 _ _ l0_0 _ _ l0_1 t379 _ ?side1 ?side2 ?side3 ?side4 A35.out).mono ?_);(case side1=>repeat (first|exact (Kd.C_below HR0_0.out HB.out)|(with_reducible refine Kd.C_alloc ?_ _)|(with_reducible refine Kd.C_drewN ?_ _)|(with_reducible refine Kd.C_drew ?_)));(case side2=>exact HC0_0.out);(case side3=>repeat (first|exact (Kd.C_below HR0_1.out HB.out)|(with_reducible refine Kd.C_alloc ?_ _)|(with_reducible refine Kd.C_drewN ?_ _)|(with_reducible refine Kd.C_drew ?_)));(case side4=>exact HC0_1.out);rintro e w37 ⟨rfl,hb⟩;have n0_:=A_ (bx_ BK371.out (by intro h_;(with_reducible repeat (first|refine kd_ ?_ _|refine ke_ ?_|refine ka_ ?_ _));exact h_) hb);have n1_:=A_ (bp_ (by repeat (first|(with_reducible first|exact HB.out|apply ba_|apply bd_|apply be_|refine bs_ ?_ GE371.out)|exact HB.out)) hb);clear BK371;clear HB;have BK371:=n0_;have HB:=n1_;clear n0_ n1_;(try clear hb);(try clear hb2);(try clear hk);(try clear hi)));try go_wp2_with (first|(go_at_call 23;(with_reducible refine (humusref08_Need.calls k3 _ _ l0_0 _ _ l0_1 t379 _ ?side1 ?side2 ?side3 ?side4 A35.out).mono ?_);(case side1=>repeat (first|exact (Kd.C_below HR0_0.out HB.out)|(with_reducible refine Kd.C_alloc ?_ _)|(with_reducible refine Kd.C_drewN ?_ _)|(with_reducible refine Kd.C_drew ?_)));(case side2=>exact HC0_0.out);(case side3=>repeat (first|exact (Kd.C_below HR0_1.out HB.out)|(with_reducible refine Kd.C_alloc ?_ _)|(with_reducible refine Kd.C_drewN ?_ _)|(with_reducible refine Kd.C_drew ?_)));(case side4=>exact HC0_1.out);rintro e w37 ⟨rfl,hb⟩;have n0_:=A_ (bx_ BK371.out (by intro h_;(with_reducible repeat (first|refine kd_ ?_ _|refine ke_ ?_|refine ka_ ?_ _));exact h_) hb);have n1_:=A_ (bp_ (by repeat (first|(with_reducible first|exact HB.out|apply ba_|apply bd_|apply be_|refine bs_ ?_ GE371.out)|exact HB.out)) hb);clear BK371;clear HB;have BK371:=n0_;have HB:=n1_;clear n0_ n1_;(try clear hb);(try clear hb2);(try clear hk);(try clear hi))))
          go_ret
          exact ⟨by first|rfl|(simp [errW_none,errW_some] <;> rfl)|(simp [*,errW_none,errW_some] <;> rfl),by repeat (first|(with_reducible first|exact HB.out|apply ba_|apply bd_|apply be_|refine bs_ ?_ GE371.out)|exact HB.out)⟩
def slices_Clone_int_int.f (l0 : List Int) : Option (List Int):=(some (([] : List Int) : List Int)).bind fun y199=>(if y199.length + l0.length<17592186044416 then (some (y199++l0)) else (none))
set_option maxHeartbeats 8000000 in
set_option maxRecDepth 100000 in
theorem slices_Clone_int_int.calls (A0 : Option Addr) (c0 : Nat) (l0 : List Int) (r : List Int) (w : World) (hr0 : Kd.C (Kd.int .i64) w A0 l0.length l0) (hc0 : l0.length≤c0) (h : slices_Clone_int_int.f l0=some r) :
  Calls Try.prog 57 #[.slice A0 l0.length c0] w fun e w'=>∃ v0_ : Value,e=.returned (v0_)∧Kd.R (Kd.int .i64) 3 w' w.heap.size (fun _=>True) v0_ r∧Below w.heap.size w w':=by
 have hnl0_:=fun w_=>nil_eq Try.underlying24 A0 l0.length c0 w_
 by_cases hA_ : A0=none
 ·subst hA_
  obtain rfl:=C_nil_ hr0
  have h2_ : slices_Clone_int_int.f []=some []:=by simp [slices_Clone_int_int.f]
  rw [h2_] at h;obtain rfl:=Option.some.inj h;clear hnl0_
  have hnl1_ : ∀ w_,(binOp BinOp.eql 24 (.slice none 0 c0) (.slice none 0 0)).run Try.prog w_=.ok (.bool true) w_:=fun w_=>nil_eq Try.underlying24 none 0 c0 w_
  simp only [List.length_nil]
  go_enter Try.func57,Try.ntmps57;go_wp2;go_ret
  exact ⟨_,by rfl,by first|exact Kd.R_nil _ _ _ _ _|exact Kd.N_nil _ _ _ _ _|exact Kd.V_nil _ _ _ _ _|exact Kd.S_nil _ _ _ _ _,Below.refl _ _⟩
 have hnl_ : ∀ w_,(binOp BinOp.eql 24 (.slice A0 l0.length c0) (.slice none 0 0)).run Try.prog w_=.ok (.bool false) w_:=by
  intro w_;have h3_:=hnl0_ w_
  cases A0 with
  | none=>exact absurd rfl hA_
  | some a_=>exact h3_
 clear hnl0_ hA_;have HR0:=A_ hr0;have HC0:=A_ hc0;clear hr0 hc0;have HB:=A_ (Below.refl w.heap.size w)
 have H : ((some (([] : List Int) : List Int)).bind fun y199=>(if y199.length + l0.length<17592186044416 then (some (y199++l0)) else (none)))=some r:=h
 clear h
 obtain ⟨y199,hy199⟩ : ∃ y_ : List Int,y_=(([] : List Int)):=⟨_,rfl⟩
 replace H : (if y199.length + l0.length<17592186044416 then (some (y199++l0)) else (none))=some r:=by first|(rw [hy199];with_reducible exact H)|(have H2_:=(Option.bind_some _ _).symm.trans H;rw [hy199];with_reducible exact H2_)|(have H2_:=(Option.bind_some _ _).symm.trans H;with_reducible exact H2_)|with_reducible exact H|(rw [hy199];exact H)|exact H
 have Ny199:=A_ hy199;clear hy199
 by_cases c2 : y199.length + l0.length<17592186044416
 ·rw [if_pos c2] at H
  have LMc2:=A_ c2;clear c2
  obtain ⟨y202,hy202⟩ : ∃ y_ : List Int,y_=(y199++l0):=⟨_,rfl⟩
  replace H : (some y202)=some r:=by first|(rw [hy202];with_reducible exact H)|(have H2_:=(Option.bind_some _ _).symm.trans H;rw [hy202];with_reducible exact H2_)|(have H2_:=(Option.bind_some _ _).symm.trans H;with_reducible exact H2_)|with_reducible exact H|(rw [hy202];exact H)|exact H
  have Ny202:=A_ hy202;clear hy202;obtain rfl:=Option.some.inj H;go_enter Try.func57,Try.ntmps57
  go_wp2_with (first|((with_reducible refine gate_dst (N:=5) rfl ?_);refine Kd.R_lit (Kd.int .i64) _ 3 ?hg (N:=5) ?hd (xs:=([] : List Int)) (inner:=[]) (ok:=fun _=>True) (okp:=fun _=>True) ?hr ?hp (fun _ hk=>hk) trivial (Below.refl _ _) (Nat.le_refl _) (by simp) ?_;(case hd=>rfl);(case hg=>rfl);(case hr=>first|(go_simp;done)|(go_simp;rfl));(case hp=>exact (Reps.none _ _));intro v200 w3 ho4 hb hg_ hnew_;clear hg_ hnew_;(first|rw [← Ny199.out] at ho4|(simp only [Int.reduceToNat] at ho4;rw [← Ny199.out] at ho4));have n0_:=A_ (Kd.R_lower ho4 (bz_ (by repeat (first|(with_reducible first|exact HB.out|apply ba_|apply bd_|apply be_)|exact HB.out))));have n1_:=A_ (bp_ (by repeat (first|(with_reducible first|exact HB.out|apply ba_|apply bd_|apply be_)|exact HB.out)) hb);clear HB;have HO201:=n0_;have HB:=n1_;clear n0_ n1_;clear hb ho4)|((with_reducible refine gate_builtin (b:=.append) (xs:=#[.tmp 5,.tmp 6]) rfl ?_);at_builtin;refine Kd.R_append_rows (Kd.int .i64) (w0:=w) w.heap.size rfl (.tmp 5) (.tmp 6) 24 3 (.int .i64 0) 8 rfl Try.underlying24 info3 rfl (by decide) (by omega) v200 y199 l0 _ _ _ (fun _=>True) (fun _=>False) rfl rfl ?aO ?aR (fun _ _ h=>h) (fun _ h=>h.elim) ?aF ?aB ?aS ?aL ?_;(case aR=>repeat (first|exact (Kd.C_below HR0.out HB.out)|(with_reducible refine Kd.C_alloc ?_ _)|(with_reducible refine Kd.C_drewN ?_ _)|(with_reducible refine Kd.C_drew ?_)));(case aB=>exact (by repeat (first|(with_reducible first|exact HB.out|apply ba_|apply bd_|apply be_)|exact HB.out)));(case aF=>exact (fun _ _=>trivial));(case aO=>exact (by (with_reducible repeat (first|apply ra_|apply rn_|apply re_));exact HO201.out));(case aS=>exact (bz_ (by repeat (first|(with_reducible first|exact HB.out|apply ba_|apply bd_|apply be_)|exact HB.out))));(case aL=>have:=LMc2.out;omega);intro v203 w5 ho hb hg hat;rw [← Ny202.out] at ho;have n0_:=A_ (hb);have n1_:=A_ (ho);clear HB;clear HO201;have HB:=n0_;have HO204:=n1_;clear n0_ n1_;clear ho hb hg hat))
  go_ret
  exact ⟨_,by first|rfl|(simp [errW_none,errW_some] <;> rfl)|(simp [*,errW_none,errW_some] <;> rfl),by (with_reducible repeat (first|apply ra_|apply rn_|apply re_));exact HO204.out,by repeat (first|(with_reducible first|exact HB.out|apply ba_|apply bd_|apply be_)|exact HB.out)⟩
 ·rw [if_neg c2] at H
  exact absurd H (by simp)
def slices_Clone_byte_byte_58.f (l0 : List (List Int)) : Option ((List (List Int))):=(some (([] : List (List Int)) : List (List Int))).bind fun y205=>(if y205.length + l0.length<5864062014805 then (some (y205++l0)) else (none))
set_option maxHeartbeats 8000000 in
set_option maxRecDepth 100000 in
theorem slices_Clone_byte_byte_58.calls (P0_ : Nat→Prop) (A0 : Option Addr) (c0 : Nat) (l0 : List (List Int)) (r : List (List Int)) (w : World) (hs0 : Kd.V (Kd.slice 5 (Kd.int .u8)) 22 w w.heap.size (fun k_=>P0_ k_) (.slice A0 l0.length c0) l0) (h : slices_Clone_byte_byte_58.f l0=some r) :
  Calls Try.prog 58 #[.slice A0 l0.length c0] w fun e w'=>∃ v0_ : Value,e=.returned (v0_)∧Kd.N (Kd.slice 5 (Kd.int .u8)) 22 w' w.heap.size (fun k_=>(P0_ k_∨w.heap.size≤k_)) v0_ r∧Below w.heap.size w w':=by
 have hnl0_:=fun w_=>nil_eq Try.underlying25 A0 l0.length c0 w_
 by_cases hA_ : A0=none
 ·subst hA_
  obtain rfl:=C_nil_ (Kd.V_reads' hs0).2.2
  have h2_ : slices_Clone_byte_byte_58.f []=some []:=by simp [slices_Clone_byte_byte_58.f]
  rw [h2_] at h;obtain rfl:=Option.some.inj h;clear hnl0_
  have hnl1_ : ∀ w_,(binOp BinOp.eql 25 (.slice none 0 c0) (.slice none 0 0)).run Try.prog w_=.ok (.bool true) w_:=fun w_=>nil_eq Try.underlying25 none 0 c0 w_
  simp only [List.length_nil]
  go_enter Try.func58,Try.ntmps58;go_wp2;go_ret
  exact ⟨_,by rfl,by first|exact Kd.R_nil _ _ _ _ _|exact Kd.N_nil _ _ _ _ _|exact Kd.V_nil _ _ _ _ _|exact Kd.S_nil _ _ _ _ _,Below.refl _ _⟩
 have hnl_ : ∀ w_,(binOp BinOp.eql 25 (.slice A0 l0.length c0) (.slice none 0 0)).run Try.prog w_=.ok (.bool false) w_:=by
  intro w_;have h3_:=hnl0_ w_
  cases A0 with
  | none=>exact absurd rfl hA_
  | some a_=>exact h3_
 clear hnl0_ hA_
 have HO0:=A_ (show Kd.V (Kd.slice 5 (Kd.int .u8)) 22 w w.heap.size (fun k_=>(P0_ k_∨w.heap.size≤k_)) (.slice A0 l0.length c0) l0 from Kd.V_mono hs0 (fun k_ hk=>.inl hk))
 have HB:=A_ (Below.refl w.heap.size w)
 have H : ((some (([] : List (List Int)) : List (List Int))).bind fun y205=>(if y205.length + l0.length<5864062014805 then (some (y205++l0)) else (none)))=some r:=h
 clear h
 obtain ⟨y205,hy205⟩ : ∃ y_ : List (List Int),y_=(([] : List (List Int))):=⟨_,rfl⟩
 replace H : (if y205.length + l0.length<5864062014805 then (some (y205++l0)) else (none))=some r:=by first|(rw [hy205];with_reducible exact H)|(have H2_:=(Option.bind_some _ _).symm.trans H;rw [hy205];with_reducible exact H2_)|(have H2_:=(Option.bind_some _ _).symm.trans H;with_reducible exact H2_)|with_reducible exact H|(rw [hy205];exact H)|exact H
 have Ny205:=A_ hy205;clear hy205
 by_cases c2 : y205.length + l0.length<5864062014805
 ·rw [if_pos c2] at H
  have LMc2:=A_ c2;clear c2
  obtain ⟨y208,hy208⟩ : ∃ y_ : List (List Int),y_=(y205++l0):=⟨_,rfl⟩
  replace H : (some y208)=some r:=by first|(rw [hy208];with_reducible exact H)|(have H2_:=(Option.bind_some _ _).symm.trans H;rw [hy208];with_reducible exact H2_)|(have H2_:=(Option.bind_some _ _).symm.trans H;with_reducible exact H2_)|with_reducible exact H|(rw [hy208];exact H)|exact H
  have Ny208:=A_ hy208;clear hy208;obtain rfl:=Option.some.inj H;go_enter Try.func58,Try.ntmps58
  go_wp2_with (first|((with_reducible refine gate_dst (N:=5) rfl ?_);refine Kd.N_lit (Kd.slice 5 (Kd.int .u8)) _ 22 ?hg (N':=5) ?hd (xs:=([] : List (List Int))) (inner:=[]) (ok:=(fun k_=>(P0_ k_∨w.heap.size≤k_))) (okp:=(fun k_=>(P0_ k_∨w.heap.size≤k_))) ?hr ?hp (fun _ hk=>hk) ((show ∀ k_,w.heap.size≤k_→(fun k_=>(P0_ k_∨w.heap.size≤k_)) k_ from fun k_ hk=>(.inr (Nat.le_trans (bz_ (by repeat (first|(with_reducible first|exact HB.out|apply ba_|apply bd_|apply be_)|exact HB.out))) hk))) _ (Nat.le_refl _)) (Below.refl _ _) (Nat.le_refl _) (by simp) ?_;(case hd=>rfl);(case hg=>rfl);(case hr=>first|(go_simp;done)|(go_simp;rfl));(case hp=>exact (Reps.none _ _));intro v206 w3 ho4 hb hg_ hnew_;clear hg_ hnew_;(first|rw [← Ny205.out] at ho4|(simp only [Int.reduceToNat] at ho4;rw [← Ny205.out] at ho4));have n0_:=A_ (Kd.V_elder' (by (with_reducible repeat (first|apply Kd.V_alloc|apply Kd.V_drewN|apply Kd.V_drew));exact HO0.out) (Kd.N_base ho4) hb);have n1_:=A_ (Kd.N_lower ho4 (bz_ (by repeat (first|(with_reducible first|exact HB.out|apply ba_|apply bd_|apply be_)|exact HB.out))));have n2_:=A_ (bp_ (by repeat (first|(with_reducible first|exact HB.out|apply ba_|apply bd_|apply be_)|exact HB.out)) hb);clear HO0;clear HB;have HO0:=n0_;have HO207:=n1_;have HB:=n2_;clear n0_ n1_ n2_;clear hb ho4)|((with_reducible refine gate_builtin (b:=.append) (xs:=#[.tmp 5,.tmp 6]) rfl ?_);at_builtin;refine Kd.N_append_rows (Kd.slice 5 (Kd.int .u8)) (w0:=w) w.heap.size rfl (.tmp 5) (.tmp 6) 25 22 (.slice none 0 0) 24 rfl Try.underlying25 info22 rfl (by decide) (by omega) v206 y205 l0 _ _ _ (fun k_=>(P0_ k_∨w.heap.size≤k_)) (fun k_=>((fun k_=>(P0_ k_∨w.heap.size≤k_))) k_∧some k_≠(v206 : Value).ownBlock) rfl rfl ?aO ?aR (fun _ hk=>hk) ?aF ?aB ?aS ?aL ?_;(case aR=>exact (by skip;exact Kd.V_F (Kd.V_mono (ok':=(fun k_=>((fun k_=>(P0_ k_∨w.heap.size≤k_))) k_∧some k_≠(v206 : Value).ownBlock)) (HO0.out) (fun k_ hk=>⟨hk.1,hk.2⟩))));(case aB=>exact (by repeat (first|(with_reducible first|exact HB.out|apply ba_|apply bd_|apply be_)|exact HB.out)));(case aF=>exact (fun k_ hk=>(.inr (Nat.le_trans (bz_ (by repeat (first|(with_reducible first|exact HB.out|apply ba_|apply bd_|apply be_)|exact HB.out))) hk))));(case aO=>exact (by (with_reducible repeat (first|apply Kd.N_alloc|apply Kd.N_drewN|apply Kd.N_drew));exact HO207.out));(case aS=>exact (bz_ (by repeat (first|(with_reducible first|exact HB.out|apply ba_|apply bd_|apply be_)|exact HB.out))));(case aL=>have:=LMc2.out;omega);intro v209 w5 ho hb hg hat;rw [← Ny208.out] at ho;have n0_:=A_ (Kd.V_afterv (ok:=(fun k_=>(P0_ k_∨w.heap.size≤k_))) (by (with_reducible repeat (first|apply Kd.V_alloc|apply Kd.V_drewN|apply Kd.V_drew));exact HO0.out) hg hat);have n1_:=A_ (hb);have n2_:=A_ (ho);clear HO0;clear HB;clear HO207;have HO0:=n0_;have HB:=n1_;have HO210:=n2_;clear n0_ n1_ n2_;clear ho hb hg hat))
  go_ret
  exact ⟨_,by first|rfl|(simp [errW_none,errW_some] <;> rfl)|(simp [*,errW_none,errW_some] <;> rfl),by (with_reducible repeat (first|apply Kd.N_alloc|apply Kd.N_drewN|apply Kd.N_drew));exact HO210.out,by repeat (first|(with_reducible first|exact HB.out|apply ba_|apply bd_|apply be_)|exact HB.out)⟩
 ·rw [if_neg c2] at H
  exact absurd H (by simp)
def slices_Clone_byte_byte_59.f (l0 : List Int) : Option (List Int):=(some (([] : List Int) : List Int)).bind fun y211=>(if y211.length + l0.length<140737488355328 then (some (y211++l0)) else (none))
set_option maxHeartbeats 8000000 in
set_option maxRecDepth 100000 in
theorem slices_Clone_byte_byte_59.calls (A0 : Option Addr) (c0 : Nat) (l0 : List Int) (r : List Int) (w : World) (hr0 : Kd.C (Kd.int .u8) w A0 l0.length l0) (hc0 : l0.length≤c0) (h : slices_Clone_byte_byte_59.f l0=some r) :
  Calls Try.prog 59 #[.slice A0 l0.length c0] w fun e w'=>∃ v0_ : Value,e=.returned (v0_)∧Kd.R (Kd.int .u8) 5 w' w.heap.size (fun _=>True) v0_ r∧Below w.heap.size w w':=by
 have hnl0_:=fun w_=>nil_eq Try.underlying22 A0 l0.length c0 w_
 by_cases hA_ : A0=none
 ·subst hA_
  obtain rfl:=C_nil_ hr0
  have h2_ : slices_Clone_byte_byte_59.f []=some []:=by simp [slices_Clone_byte_byte_59.f]
  rw [h2_] at h;obtain rfl:=Option.some.inj h;clear hnl0_
  have hnl1_ : ∀ w_,(binOp BinOp.eql 22 (.slice none 0 c0) (.slice none 0 0)).run Try.prog w_=.ok (.bool true) w_:=fun w_=>nil_eq Try.underlying22 none 0 c0 w_
  simp only [List.length_nil]
  go_enter Try.func59,Try.ntmps59;go_wp2;go_ret
  exact ⟨_,by rfl,by first|exact Kd.R_nil _ _ _ _ _|exact Kd.N_nil _ _ _ _ _|exact Kd.V_nil _ _ _ _ _|exact Kd.S_nil _ _ _ _ _,Below.refl _ _⟩
 have hnl_ : ∀ w_,(binOp BinOp.eql 22 (.slice A0 l0.length c0) (.slice none 0 0)).run Try.prog w_=.ok (.bool false) w_:=by
  intro w_;have h3_:=hnl0_ w_
  cases A0 with
  | none=>exact absurd rfl hA_
  | some a_=>exact h3_
 clear hnl0_ hA_;have HR0:=A_ hr0;have HC0:=A_ hc0;clear hr0 hc0;have HB:=A_ (Below.refl w.heap.size w)
 have H : ((some (([] : List Int) : List Int)).bind fun y211=>(if y211.length + l0.length<140737488355328 then (some (y211++l0)) else (none)))=some r:=h
 clear h
 obtain ⟨y211,hy211⟩ : ∃ y_ : List Int,y_=(([] : List Int)):=⟨_,rfl⟩
 replace H : (if y211.length + l0.length<140737488355328 then (some (y211++l0)) else (none))=some r:=by first|(rw [hy211];with_reducible exact H)|(have H2_:=(Option.bind_some _ _).symm.trans H;rw [hy211];with_reducible exact H2_)|(have H2_:=(Option.bind_some _ _).symm.trans H;with_reducible exact H2_)|with_reducible exact H|(rw [hy211];exact H)|exact H
 have Ny211:=A_ hy211;clear hy211
 by_cases c2 : y211.length + l0.length<140737488355328
 ·rw [if_pos c2] at H
  have LMc2:=A_ c2;clear c2
  obtain ⟨y214,hy214⟩ : ∃ y_ : List Int,y_=(y211++l0):=⟨_,rfl⟩
  replace H : (some y214)=some r:=by first|(rw [hy214];with_reducible exact H)|(have H2_:=(Option.bind_some _ _).symm.trans H;rw [hy214];with_reducible exact H2_)|(have H2_:=(Option.bind_some _ _).symm.trans H;with_reducible exact H2_)|with_reducible exact H|(rw [hy214];exact H)|exact H
  have Ny214:=A_ hy214;clear hy214;obtain rfl:=Option.some.inj H;go_enter Try.func59,Try.ntmps59
  go_wp2_with (first|((with_reducible refine gate_dst (N:=5) rfl ?_);refine Kd.R_lit (Kd.int .u8) _ 5 ?hg (N:=5) ?hd (xs:=([] : List Int)) (inner:=[]) (ok:=fun _=>True) (okp:=fun _=>True) ?hr ?hp (fun _ hk=>hk) trivial (Below.refl _ _) (Nat.le_refl _) (by simp) ?_;(case hd=>rfl);(case hg=>rfl);(case hr=>first|(go_simp;done)|(go_simp;rfl));(case hp=>exact (Reps.none _ _));intro v212 w3 ho4 hb hg_ hnew_;clear hg_ hnew_;(first|rw [← Ny211.out] at ho4|(simp only [Int.reduceToNat] at ho4;rw [← Ny211.out] at ho4));have n0_:=A_ (Kd.R_lower ho4 (bz_ (by repeat (first|(with_reducible first|exact HB.out|apply ba_|apply bd_|apply be_)|exact HB.out))));have n1_:=A_ (bp_ (by repeat (first|(with_reducible first|exact HB.out|apply ba_|apply bd_|apply be_)|exact HB.out)) hb);clear HB;have HO213:=n0_;have HB:=n1_;clear n0_ n1_;clear hb ho4)|((with_reducible refine gate_builtin (b:=.append) (xs:=#[.tmp 5,.tmp 6]) rfl ?_);at_builtin;refine Kd.R_append_rows (Kd.int .u8) (w0:=w) w.heap.size rfl (.tmp 5) (.tmp 6) 22 5 (.int .u8 0) 1 rfl Try.underlying22 info5 rfl (by decide) (by omega) v212 y211 l0 _ _ _ (fun _=>True) (fun _=>False) rfl rfl ?aO ?aR (fun _ _ h=>h) (fun _ h=>h.elim) ?aF ?aB ?aS ?aL ?_;(case aR=>repeat (first|exact (Kd.C_below HR0.out HB.out)|(with_reducible refine Kd.C_alloc ?_ _)|(with_reducible refine Kd.C_drewN ?_ _)|(with_reducible refine Kd.C_drew ?_)));(case aB=>exact (by repeat (first|(with_reducible first|exact HB.out|apply ba_|apply bd_|apply be_)|exact HB.out)));(case aF=>exact (fun _ _=>trivial));(case aO=>exact (by (with_reducible repeat (first|apply ra_|apply rn_|apply re_));exact HO213.out));(case aS=>exact (bz_ (by repeat (first|(with_reducible first|exact HB.out|apply ba_|apply bd_|apply be_)|exact HB.out))));(case aL=>have:=LMc2.out;omega);intro v215 w5 ho hb hg hat;rw [← Ny214.out] at ho;have n0_:=A_ (hb);have n1_:=A_ (ho);clear HB;clear HO213;have HB:=n0_;have HO216:=n1_;clear n0_ n1_;clear ho hb hg hat))
  go_ret
  exact ⟨_,by first|rfl|(simp [errW_none,errW_some] <;> rfl)|(simp [*,errW_none,errW_some] <;> rfl),by (with_reducible repeat (first|apply ra_|apply rn_|apply re_));exact HO216.out,by repeat (first|(with_reducible first|exact HB.out|apply ba_|apply bd_|apply be_)|exact HB.out)⟩
 ·rw [if_neg c2] at H
  exact absurd H (by simp)
def leaf_own.l0 : Nat→List (List Int)→Int→Int→List Int→Option (List Int × (List (List Int)))
 | 0,_,_,_,_=>none
 | k + 1,x10,x15,x16,x218000=>if x16<x15 then (if 0≤x16 then (if x16<(x10.length : Int) then ((slices_Clone_byte_byte_59.f (rd_L2 x10 x16)).bind fun t226=>(leaf_own.l0 k (x10.set (x16 : Int).toNat t226) x15 (wrap64 (x16 + 1)) x218000)) else (none)) else (none)) else (some (x218000,x10))
def leaf_own.f (k : Nat) (l0_0 : List Int) (l0_1 : List (List Int)) : Option (List Int × (List (List Int))):=(slices_Clone_int_int.f l0_0).bind fun t219=>((slices_Clone_byte_byte_58.f l0_1).bind fun t222=>(leaf_own.l0 k t222 (t222.length : Int) 0 t219))
theorem leaf_own.mono_l : ∀ k,(∀ y0 y1 y2 y3,LeO (leaf_own.l0 k y0 y1 y2 y3) (leaf_own.l0 (k + 1) y0 y1 y2 y3))
 | 0=>fun _ _ _ _ r h=>by simp [leaf_own.l0] at h
 | k + 1=>by
  have ih0:=leaf_own.mono_l k
  ·intro y0 y1 y2 y3
   unfold leaf_own.l0
   repeat' first
   | (with_reducible exact ih0 _ _ _ _)
   | (with_reducible exact LeO.refl _)
   | (with_reducible exact LeO.none _)
   | (with_reducible refine LeO.ite ?_ ?_)
   | (with_reducible refine LeO.bind ?_ (fun _=>?_))
   | exact ih0 _ _ _ _
   | exact LeO.none _
   | refine LeO.ite ?_ ?_
   | refine LeO.bind ?_ (fun _=>?_)
theorem leaf_own.mono : ∀ a0 a1 k,LeO (leaf_own.f k a0 a1) (leaf_own.f (k + 1) a0 a1):=by
 intro a0 a1 k;have ih0:=leaf_own.mono_l k
 unfold leaf_own.f
 repeat' first
   | (with_reducible exact ih0 _ _ _ _)
   | (with_reducible exact LeO.refl _)
   | (with_reducible exact LeO.none _)
   | (with_reducible refine LeO.ite ?_ ?_)
   | (with_reducible refine LeO.bind ?_ (fun _=>?_))
   | exact ih0 _ _ _ _
   | exact LeO.none _
   | refine LeO.ite ?_ ?_
   | refine LeO.bind ?_ (fun _=>?_)
def leaf_own.T1 : Bool × List (List Nat × List Nat):=(true,[([],[]),([0],[0]),([1],[1]),([],[]),([3],[3]),([4,2],[4]),([0,1,2,3,4],[]),([6,2,5,0,1,2,3,4],[2,6]),([0,1,2,3,4,5,6,7],[]),([8,5,7,0,1,2,3,4,5,6,7],[5,8])])
def leaf_own.B1 : List Nat:=[0,1,3,0,8,31,31,127,255,511]
theorem leaf_own.tab1 : rtab .any (opsOf Try.f33 1)=leaf_own.T1:=by kernel_rfl
theorem leaf_own.bits1 : waitsOk leaf_own.T1.2 leaf_own.B1=true:=by kernel_rfl
set_option maxHeartbeats 8000000 in
set_option maxRecDepth 100000 in
theorem leaf_own.calls (k : Nat) (A0_0 : Option Addr) (c0_0 : Nat) (l0_0 : List Int) (P0_1_ : Nat→Prop) (A0_1 : Option Addr) (c0_1 : Nat) (l0_1 : List (List Int)) (r1 : List Int) (r2 : List (List Int)) (w : World) (hr0_0 : Kd.C (Kd.int .i64) w A0_0 l0_0.length l0_0) (hc0_0 : l0_0.length≤c0_0) (hs0_1 : Kd.V (Kd.slice 5 (Kd.int .u8)) 22 w w.heap.size (fun k_=>P0_1_ k_) (.slice A0_1 l0_1.length c0_1) l0_1) (h : leaf_own.f k l0_0 l0_1=some (r1,r2)) :
  Calls Try.prog 33 #[.agg #[.slice A0_0 l0_0.length c0_0,.slice A0_1 l0_1.length c0_1]] w fun e w'=>∃ v0_ v1_ : Value,e=.returned (.agg #[v0_,v1_])∧Kd.R (Kd.int .i64) 3 w' w.heap.size (fun k_=>(w.heap.size≤k_)) v0_ r1∧Kd.N (Kd.slice 5 (Kd.int .u8)) 22 w' w.heap.size (fun k_=>(P0_1_ k_∨w.heap.size≤k_)∧some k_≠(v0_ : Value).ownBlock) v1_ r2∧Below w.heap.size w w':=by
 have hu27:=Try.underlying27;have HR0_0:=A_ hr0_0;have HC0_0:=A_ hc0_0;clear hr0_0 hc0_0
 have HO0_1:=A_ (show Kd.V (Kd.slice 5 (Kd.int .u8)) 22 w w.heap.size (fun k_=>(P0_1_ k_∨w.heap.size≤k_)) (.slice A0_1 l0_1.length c0_1) l0_1 from Kd.V_mono hs0_1 (fun k_ hk=>.inl hk))
 have HB:=A_ (Below.refl w.heap.size w)
 have H : ((slices_Clone_int_int.f l0_0).bind fun t219=>((slices_Clone_byte_byte_58.f l0_1).bind fun t222=>(leaf_own.l0 k t222 (t222.length : Int) 0 t219)))=some (r1,r2):=h
 clear h;replace H:=Option.bind_eq_some_iff.mp H;obtain ⟨t219,A20,H⟩:=H
 replace H : ((slices_Clone_byte_byte_58.f l0_1).bind fun t222=>(leaf_own.l0 k t222 (t222.length : Int) 0 t219))=some (r1,r2):=H
 have A2:=A_ A20;clear A20;replace H:=Option.bind_eq_some_iff.mp H;obtain ⟨t222,A30,H⟩:=H;replace H : (leaf_own.l0 k t222 (t222.length : Int) 0 t219)=some (r1,r2):=H;have A3:=A_ A30;clear A30;have H':=A_ H;clear H;go_enter Try.func33,Try.ntmps33
 try go_wp2_with (first|((with_reducible refine gate_dst (N:=1) rfl ?_);refine box_event ?hg (N:=1) ?hd (cs:=#[.slice A0_0 l0_0.length c0_0,.slice A0_1 l0_1.length c0_1]) (t:=27) ?hr ?_;(case hd=>rfl);(case hg=>rfl);(case hr=>first|(go_simp;done)|(go_simp;rfl));intro gb217 hg w4 hbox hb;have n0_:=A_ (Kd.V_below (Kd.V_elderB (by (with_reducible repeat (first|apply Kd.V_alloc|apply Kd.V_drewN|apply Kd.V_drew));exact HO0_1.out) gb217 (Nat.le_of_eq hg.symm)) hb);have n1_:=A_ (bp_ (by repeat (first|(with_reducible first|exact HB.out|apply ba_|apply bd_|apply be_)|exact HB.out)) hb);have n2_:=A_ (hbox);have n3_:=A_ ((by rw [hg];exact (bz_ (by repeat (first|(with_reducible first|exact HB.out|apply ba_|apply bd_|apply be_)|exact HB.out))) : w.heap.size≤gb217));have n4_:=n3_;clear HO0_1;clear HB;have HO0_1:=n0_;have HB:=n1_;have BK217:=n2_;have GW217:=n3_;have GE217:=n4_;clear n0_ n1_ n2_ n3_ n4_;clear hb hbox hg)|((with_reducible refine gate_dst (N:=2) rfl ?_);refine box_event ?hg (N:=2) ?hd (cs:=#[.slice none 0 0,.slice none 0 0]) (t:=27) ?hr ?_;(case hd=>rfl);(case hg=>rfl);(case hr=>first|(go_simp;done)|(go_simp;rfl));intro gb218 hg w5 hbox hb;have n0_:=A_ (Kd.V_below (Kd.V_elderB (by (with_reducible repeat (first|apply Kd.V_alloc|apply Kd.V_drewN|apply Kd.V_drew));exact HO0_1.out) gb218 (Nat.le_of_eq hg.symm)) hb);have n1_:=A_ (bx_ BK217.out (by intro h_;(with_reducible repeat (first|refine kd_ ?_ _|refine ke_ ?_|refine ka_ ?_ _));exact h_) hb);have n2_:=A_ (bp_ (by repeat (first|(with_reducible first|exact HB.out|apply ba_|apply bd_|apply be_|refine bs_ ?_ GE217.out)|exact HB.out)) hb);have n3_:=A_ (hbox);have n4_:=A_ ((by rw [hg];exact (bz_ (by repeat (first|(with_reducible first|exact HB.out|apply ba_|apply bd_|apply be_|refine bs_ ?_ GE217.out)|exact HB.out))) : w.heap.size≤gb218));have n5_:=n4_;have n6_:=A_ ((by rw [hg];exact Nat.ne_of_lt (bl_ BK217.out (by intro h_;(with_reducible repeat (first|refine kd_ ?_ _|refine ke_ ?_|refine ka_ ?_ _));exact h_)) : gb217≠gb218));have n7_:=A_ (Ne.symm n6_.out);clear HO0_1;clear BK217;clear HB;have HO0_1:=n0_;have BK217:=n1_;have HB:=n2_;have BK218:=n3_;have GW218:=n4_;have GE218:=n5_;have NB217_218:=n6_;have NB218_217:=n7_;clear n0_ n1_ n2_ n3_ n4_ n5_ n6_ n7_;clear hb hbox hg))
 have n0_:=A_ (Kd.V_drew HO0_1.out);have n1_:=A_ (ke_ BK217.out);have n2_:=A_ (ke_ BK218.out);have n3_:=A_ (be_ HB.out);clear HO0_1;clear BK217;clear BK218;clear HB;have HO0_1:=n0_;have BK217:=n1_;have BK218:=n2_;have HB:=n3_;clear n0_ n1_ n2_ n3_
 refine start_ (n:=10) (S:=fun w'=>w'.cell? ⟨gb217,0,none⟩=some (.slice A0_0 l0_0.length c0_0)∧w'.cell? ⟨gb217,1,none⟩=some (.slice A0_1 l0_1.length c0_1)) (ds:=[7,9]) #[Z,Z,Z,Z,Z,Z,Z,Z,Z,Z] (by kernel_rfl) rfl rfl ⟨(bc_ BK217.out 0).trans rfl,(bc_ BK217.out 1).trans rfl⟩ (fun hHeld=>?_);refine with_tabW leaf_own.tab1 leaf_own.bits1 (fun HT_ HW_=>?_)
 generalize w5.drew=w6 at HO0_1 BK217 BK218 HB hHeld ⊢
 refine pu_ (i:=0) (N:=some 5) (v:=?_) (a':=?_) #[Y,Z,Z,Z,Z,Z,Z,Z,Z,Z] rfl rfl HT_.out (by kernel_rfl) (fun _ _ _ h=>h) (by rfl) ?_ ?_ ?_;rotate_left;(intro w';go_simp;with_reducible rfl);rotate_left;(simp only [Act.put,q1_,q2_,q3_,i64_w,i32_w];rfl)
 refine pu_ (i:=3) (N:=some 8) (v:=?_) (a':=?_) #[Y,Z,Z,Y,Z,Z,Z,Z,Z,Z] rfl rfl HT_.out (by kernel_rfl) (fun _ _ _ h=>h) (by rfl) ?_ ?_ ?_;rotate_left;(intro w';go_simp;with_reducible rfl);rotate_left;(simp only [Act.put,q1_,q2_,q3_,i64_w,i32_w];rfl)
 refine ta_ (i:=1) (N:=some 6) (v:=?_) (a':=?_) #[Y,Y,Z,Y,Z,Z,Z,Z,Z,Z] rfl rfl HT_.out HW_.out (by kernel_rfl) (fun _ _ _ h=>h) (by rfl) ?_ hHeld ?_ ?_;rotate_left;(rintro w' ⟨s0,s1⟩;go_simp;with_reducible rfl);rotate_left;(simp only [Act.put,q1_,q2_,q3_,i64_w,i32_w];rfl)
 refine ta_ (i:=4) (N:=some 9) (v:=?_) (a':=?_) #[Y,Y,Z,Y,Y,Z,Z,Z,Z,Z] rfl rfl HT_.out HW_.out (by kernel_rfl) (fun _ _ _ h=>h) (by rfl) ?_ hHeld ?_ ?_;rotate_left;(rintro w' ⟨s0,s1⟩;go_simp;with_reducible rfl);rotate_left;(simp only [Act.put,q1_,q2_,q3_,i64_w,i32_w];rfl)
 refine one_ (i:=2) (N:=some 7) #[Y,Y,Y,Y,Y,Z,Z,Z,Z,Z] rfl rfl (one_of HT_.out (by kernel_rfl)) (by decide) (fun K hK=>?_)
 refine goes_ Try.func57 (by kernel_rfl) rfl #[.slice A0_0 l0_0.length c0_0] (by rfl) rfl rfl (by (try simp only [List.map_toArray,List.map_cons,List.map_nil]);first|done|rfl|(simp only [List.length_drop,List.length_take];rfl)) ?_
 with_reducible refine (slices_Clone_int_int.calls _ _ l0_0 t219 _ ?side1 ?side2 A2.out).mono ?_
 (case side1=>repeat (first|exact (Kd.C_below HR0_0.out HB.out)|(with_reducible refine Kd.C_alloc ?_ _)|(with_reducible refine Kd.C_drewN ?_ _)|(with_reducible refine Kd.C_drew ?_)))
 (case side2=>exact HC0_0.out)
 rintro e w7 ⟨v220,rfl,ho0,hb⟩;refine ⟨_,rfl,?_⟩
 have n0_:=A_ (Kd.V_elder' (by (with_reducible repeat (first|apply Kd.V_alloc|apply Kd.V_drewN|apply Kd.V_drew));exact HO0_1.out) (Kd.R_base ho0) hb)
 have n1_:=A_ (Kd.R_lower (Kd.R_newM (M:=fun k_=>(w.heap.size≤k_)) ho0 (bz_ (by repeat (first|(with_reducible first|exact HB.out|apply ba_|apply bd_|apply be_|refine bs_ ?_ GE217.out|refine bs_ ?_ GE218.out)|exact HB.out))) (fun k_ h_=>h_)) (bz_ (by repeat (first|(with_reducible first|exact HB.out|apply ba_|apply bd_|apply be_|refine bs_ ?_ GE217.out|refine bs_ ?_ GE218.out)|exact HB.out))))
 have n2_:=A_ (bx_ BK217.out (by intro h_;(with_reducible repeat (first|refine kd_ ?_ _|refine ke_ ?_|refine ka_ ?_ _));exact h_) hb)
 have n3_:=A_ (bx_ BK218.out (by intro h_;(with_reducible repeat (first|refine kd_ ?_ _|refine ke_ ?_|refine ka_ ?_ _));exact h_) hb)
 have n4_:=A_ (bp_ (by repeat (first|(with_reducible first|exact HB.out|apply ba_|apply bd_|apply be_|refine bs_ ?_ GE217.out|refine bs_ ?_ GE218.out)|exact HB.out)) hb)
 clear HO0_1;clear BK217;clear BK218;clear HB;have HO0_1:=n0_;have HO221:=n1_;have BK217:=n2_;have BK218:=n3_;have HB:=n4_;clear n0_ n1_ n2_ n3_ n4_;(try clear hb);(try clear hb2);(try clear hk);(try clear hi);(try clear ho0)
 refine hK.out _ _ ⟨(bc_ BK217.out 0).trans rfl,(bc_ BK217.out 1).trans rfl⟩ (fun hHeld=>?_)
 clear hK K
 refine norm_ (a':=?_) ?_ ?_;rotate_left;(show Act.put _ (some 7) _=_;simp only [Act.put,q1_,q2_,q3_,i64_w,i32_w];rfl)
 refine pu_ (i:=6) (N:=some 11) (v:=?_) (a':=?_) #[Y,Y,Y,Y,Y,Z,Y,Z,Z,Z] rfl rfl HT_.out (by kernel_rfl) (fun _ _ _ h=>h) (by rfl) ?_ ?_ ?_;rotate_left;(intro w';go_simp;with_reducible rfl);rotate_left;(simp only [Act.put,q1_,q2_,q3_,i64_w,i32_w];rfl)
 refine one_ (i:=5) (N:=some 10) #[Y,Y,Y,Y,Y,Y,Y,Z,Z,Z] rfl rfl (one_of HT_.out (by kernel_rfl)) (by decide) (fun K hK=>?_)
 refine goes_ Try.func58 (by kernel_rfl) rfl #[.slice A0_1 l0_1.length c0_1] (by rfl) rfl rfl (by (try simp only [List.map_toArray,List.map_cons,List.map_nil]);first|done|rfl|(simp only [List.length_drop,List.length_take];rfl)) ?_
 with_reducible refine (slices_Clone_byte_byte_58.calls (fun k_=>((((P0_1_ k_∨w.heap.size≤k_)∧k_≠gb217)∧k_≠gb218)∧some k_≠(v220 : Value).ownBlock)) _ _ l0_1 t222 _ ?side1 A3.out).mono ?_
 (case side1=>exact HO0_1.out)
 rintro e w8 ⟨v223,rfl,ho0,hb⟩;refine ⟨_,rfl,?_⟩
 have n0_:=A_ (Kd.V_elder' (by (with_reducible repeat (first|apply Kd.V_alloc|apply Kd.V_drewN|apply Kd.V_drew));exact HO0_1.out) (Kd.N_base ho0) hb)
 have n1_:=A_ (Kd.R_below (by (with_reducible repeat (first|apply ra_|apply rn_|apply re_));exact HO221.out) hb)
 have n2_:=A_ (Kd.N_lower (Kd.N_mono (ok':=fun k_=>(P0_1_ k_∨w.heap.size≤k_)∧some k_≠(v220 : Value).ownBlock∧k_≠gb217∧k_≠gb218) ho0 (fun k_ hk_=>⟨Or.elim hk_ (fun hs_=>hs_.1.1.1) (fun hn_=>(.inr (Nat.le_trans (bz_ (by repeat (first|(with_reducible first|exact HB.out|apply ba_|apply bd_|apply be_|refine bs_ ?_ GE217.out|refine bs_ ?_ GE218.out)|exact HB.out))) hn_))),Or.elim hk_ (fun hs_=>hs_.2) (fun hn_=>(Kd.fresh' (Kd.R_lt (by (with_reducible repeat (first|apply ra_|apply rn_|apply re_));exact HO221.out)) k_ hn_)),Or.elim hk_ (fun hs_=>hs_.1.1.2) (fun hn_=>(Kd.freshB (g:=gb217) (o:=.cells #[.slice A0_0 l0_0.length c0_0,.slice A0_1 l0_1.length c0_1] 27 (0,0)) (by (with_reducible repeat (first|refine kd_ ?_ _|refine ke_ ?_|refine ka_ ?_ _));exact BK217.out) k_ hn_)),Or.elim hk_ (fun hs_=>hs_.1.2) (fun hn_=>(Kd.freshB (g:=gb218) (o:=.cells #[.slice none 0 0,.slice none 0 0] 27 (0,0)) (by (with_reducible repeat (first|refine kd_ ?_ _|refine ke_ ?_|refine ka_ ?_ _));exact BK218.out) k_ hn_))⟩)) (bz_ (by repeat (first|(with_reducible first|exact HB.out|apply ba_|apply bd_|apply be_|refine bs_ ?_ GE217.out|refine bs_ ?_ GE218.out)|exact HB.out))))
 have n3_:=A_ (bx_ BK217.out (by intro h_;(with_reducible repeat (first|refine kd_ ?_ _|refine ke_ ?_|refine ka_ ?_ _));exact h_) hb)
 have n4_:=A_ (bx_ BK218.out (by intro h_;(with_reducible repeat (first|refine kd_ ?_ _|refine ke_ ?_|refine ka_ ?_ _));exact h_) hb)
 have n5_:=A_ (bp_ (by repeat (first|(with_reducible first|exact HB.out|apply ba_|apply bd_|apply be_|refine bs_ ?_ GE217.out|refine bs_ ?_ GE218.out)|exact HB.out)) hb)
 clear HO0_1;clear HO221;clear BK217;clear BK218;clear HB;have HO0_1:=n0_;have HO221:=n1_;have HO224:=n2_;have BK217:=n3_;have BK218:=n4_;have HB:=n5_;clear n0_ n1_ n2_ n3_ n4_ n5_;(try clear hb);(try clear hb2);(try clear hk);(try clear hi);(try clear ho0);obtain ⟨Ao9,co9,eo9⟩:=Kd.R_slice HO221.out
 (first|subst eo9|(injection eo9 with f1_ f2_ f3_;have f4_:=f1_.symm;have f5_:=f3_.symm;clear f1_ f2_ f3_;subst f4_;subst f5_))
 obtain ⟨Ao11,co11,eo11⟩:=Kd.N_slice HO224.out
 (first|subst eo11|(injection eo11 with f1_ f2_ f3_;have f4_:=f1_.symm;have f5_:=f3_.symm;clear f1_ f2_ f3_;subst f4_;subst f5_))
 refine hK.out _ _ ⟨(bc_ BK217.out 0).trans rfl,(bc_ BK217.out 1).trans rfl⟩ (fun hHeld=>?_)
 clear hK K
 refine norm_ (a':=?_) ?_ ?_;rotate_left;(show Act.put _ (some 10) _=_;simp only [Act.put,q1_,q2_,q3_,i64_w,i32_w];rfl)
 refine last_ (i:=7) (N:=none) #[Y,Y,Y,Y,Y,Y,Y,Y,Z,Z] rfl rfl (one_of HT_.out (by kernel_rfl)) (by decide) (fun K hK=>?_)
 have hs10 : w8.cell? ⟨gb217,0,none⟩=some (.slice A0_0 l0_0.length c0_0):=(bc_ BK217.out 0).trans rfl;have hfs10:=bf_ BK217.out 0;have hns10_1:=NB218_217.out;have hms10_1:=NB217_218.out
 refine skip_ (w1:=?_) (by rfl) rfl ?_ ?_
 rotate_left
 ·go_simp
  rfl
 refine hK.out _ _ ?_;clear hK K
 refine pu_ (i:=8) (N:=some 12) (v:=?_) (a':=?_) #[Y,Y,Y,Y,Y,Y,Y,Y,Y,Z] rfl rfl HT_.out (by kernel_rfl) (fun _ _ _ h=>h) (by rfl) ?_ ?_ ?_;rotate_left;(intro w';go_simp;with_reducible rfl);rotate_left;(simp only [Act.put,q1_,q2_,q3_,i64_w,i32_w];rfl)
 refine last_ (i:=9) (N:=none) #[Y,Y,Y,Y,Y,Y,Y,Y,Y,Y] rfl rfl (one_of HT_.out (by kernel_rfl)) (by decide) (fun K hK=>?_)
 have hs12 : w8.cell? ⟨gb217,1,none⟩=some (.slice A0_1 l0_1.length c0_1):=(bc_ BK217.out 1).trans rfl;have hfs12:=bf_ BK217.out 1;have hns12_1:=NB218_217.out;have hms12_1:=NB217_218.out
 refine skip_ (w1:=?_) (by rfl) rfl ?_ ?_
 rotate_left
 ·go_simp
  rfl
 refine hK.out _ _ ?_;clear hK K;refine done_ (done_of HT_.out (by kernel_rfl)) ?_;have hnb13:=NB217_218.out;have hnc13:=NB218_217.out;have z14_0 : w8.cell? ⟨gb217,0,none⟩=some (.slice A0_0 l0_0.length c0_0):=(bc_ BK217.out 0).trans rfl;have z14_1 : w8.cell? ⟨gb217,1,none⟩=some (.slice A0_1 l0_1.length c0_1):=(bc_ BK217.out 1).trans rfl;have y14_0:=bf_ BK217.out 0;have y14_1:=bf_ BK217.out 1
 try go_wp2
 go_loopg [16] k (fun kq v16 w'=>∃ (x10_1 : List (List Int)) (x16_1 : Int),v16=.int .i64 x16_1∧Aside0 (leaf_own.l0 kq x10_1 (t222.length : Int) x16_1 t219=some (r1,r2))∧Aside0 (kq≤k)∧Aside0 (Kd.N (Kd.slice 5 (Kd.int .u8)) 22 w' w.heap.size (fun k_=>(P0_1_ k_∨w.heap.size≤k_)∧some k_≠((.slice Ao9 t219.length co9) : Value).ownBlock∧k_≠gb217∧k_≠gb218) (.slice Ao11 t222.length co11) x10_1)∧Aside0 (Kd.R (Kd.int .i64) 3 w' w.heap.size (fun k_=>(w.heap.size≤k_)) (.slice Ao9 t219.length co9) t219)∧Aside0 (w'.heap[gb217]?=some (.cells #[(.slice Ao9 t219.length co9),(.slice Ao11 t222.length co11)] 27 (0,0)))∧Aside0 (w'.heap[gb218]?=some (.cells #[(.slice none 0 0),(.slice none 0 0)] 27 (0,0)))∧Aside0 (Below w.heap.size w w'))
 case atStart=>exact ⟨(t222),(0),(by first|rfl|(simp;done)|(simp [*];done)),H',⟨Nat.le_refl _⟩,⟨by (with_reducible repeat (first|apply Kd.N_alloc|apply Kd.N_drewN|apply Kd.N_drew));exact Kd.N_mono (Kd.N_far (p:=⟨gb217,1,none⟩) (Kd.N_far (p:=⟨gb217,0,none⟩) (Kd.N_mono HO224.out (fun k_ hk=>(⟨hk,hk.2.2.1⟩ : _∧k_≠gb217))) (fun _ hk=>hk.2) (.slice Ao9 t219.length co9)) (fun _ hk=>hk.2) (.slice Ao11 t222.length co11)) (fun _ hk=>⟨hk.1.1,⟨hk.1.2.1,⟨hk.1.2.2.1,hk.1.2.2.2⟩⟩⟩)⟩,⟨by (with_reducible repeat (first|apply ra_|apply rn_|apply re_));exact Kd.R_mono (rf_ (p:=⟨gb217,1,none⟩) (rf_ (p:=⟨gb217,0,none⟩) (Kd.R_types HO221.out BK217.out (by decide)) (fun _ hk=>hk.2) (.slice Ao9 t219.length co9)) (fun _ hk=>hk.2) (.slice Ao11 t222.length co11)) (fun _ hk=>hk.1.1)⟩,⟨by (with_reducible repeat (first|refine kd_ ?_ _|refine ke_ ?_|refine ka_ ?_ _));refine blk_put (cs:=#[.slice Ao9 t219.length co9,.slice A0_1 l0_1.length c0_1]) ?_ 1 _ rfl;(with_reducible repeat (first|refine kd_ ?_ _|refine ke_ ?_|refine ka_ ?_ _));refine blk_put (cs:=#[.slice A0_0 l0_0.length c0_0,.slice A0_1 l0_1.length c0_1]) ?_ 0 _ rfl;(with_reducible repeat (first|refine kd_ ?_ _|refine ke_ ?_|refine ka_ ?_ _));exact BK217.out⟩,⟨by (with_reducible repeat (first|refine kd_ ?_ _|refine ke_ ?_|refine ka_ ?_ _));refine blk_far ?_ NB218_217.out _;(with_reducible repeat (first|refine kd_ ?_ _|refine ke_ ?_|refine ka_ ?_ _));refine blk_far ?_ NB218_217.out _;(with_reducible repeat (first|refine kd_ ?_ _|refine ke_ ?_|refine ka_ ?_ _));exact BK218.out⟩,⟨by repeat (first|(with_reducible first|exact HB.out|apply ba_|apply bd_|apply be_|refine bs_ ?_ GE217.out|refine bs_ ?_ GE218.out)|exact HB.out)⟩⟩
 case round =>
  clear H';(try clear c1);(try clear p2);(try clear c3);(try clear c5);(try clear c13);(try clear z14_0 z14_1 y14_0 y14_1);obtain ⟨x10_1,x16_1,rfl,HA,HK1,HO_10,HO_218000,BK217,BK218,HB⟩:=hrel;have hl10_1:=(Kd.N_reads' HO_10.out).1;rw [hl10_1] at HO_10;(try simp only [hl10_1]);(try simp only [hl10_1] at BK217);(try simp only [hl10_1] at BK218);(try simp only [hl10_1] at HO_218000)
  cases gk with
  | zero=>exact absurd HA.out (by simp [leaf_own.l0])
  | succ k1 =>
   have H:=HA.out;clear HA
   simp only [leaf_own.l0] at H
   by_cases c15 : x16_1<(t222.length : Int)
   ·rw [if_pos c15] at H
    have c15b0 : decide (x16_1<(t222.length : Int))=true:=dt_ c15;(try (have c15b0h:=c15b0; simp only [hl10_1] at c15b0h));clear c15
    by_cases c16 : 0≤x16_1
    ·rw [if_pos c16] at H
     have c16b0 : decide (0≤x16_1)=true:=dt_ c16;clear c16
     by_cases c17 : x16_1<(x10_1.length : Int)
     ·rw [if_pos c17] at H
      have c17b0 : decide (x16_1<(x10_1.length : Int))=true:=dt_ c17;(try (have c17b0h:=c17b0; simp only [hl10_1] at c17b0h));clear c17;replace H:=Option.bind_eq_some_iff.mp H;obtain ⟨t226,A180,H⟩:=H;replace H : (leaf_own.l0 k1 (x10_1.set (x16_1 : Int).toNat t226) (t222.length : Int) (wrap64 (x16_1 + 1)) t219)=some (r1,r2):=H;have A18:=A_ A180;clear A180
      obtain ⟨y229,hy229⟩ : ∃ y_ : List (List Int),y_=(x10_1.set (x16_1 : Int).toNat t226):=⟨_,rfl⟩
      replace H : (leaf_own.l0 k1 y229 (t222.length : Int) (wrap64 (x16_1 + 1)) t219)=some (r1,r2):=by first|(rw [hy229];with_reducible exact H)|(have H2_:=(Option.bind_some _ _).symm.trans H;rw [hy229];with_reducible exact H2_)|(have H2_:=(Option.bind_some _ _).symm.trans H;with_reducible exact H2_)|with_reducible exact H|(rw [hy229];exact H)|exact H
      have Ny229:=A_ hy229;clear hy229;have H':=A_ H;clear H
      have p225 : 0≤(x16_1 : Int):=od_ (by first|(with_reducible assumption)|assumption)
      have q225 : x16_1<(x10_1.length : Int):=od_ (by first|(with_reducible assumption)|assumption)
      obtain ⟨ad225,A225_0,c225_0,e225,hx225_0,hl225_0,hi225_0⟩:=at_L2 (Kd.N_reads' HO_10.out).2.2 x16_1 p225 q225
      cases e225
      obtain ⟨ce225,hce225,hMe225,hcc225⟩:=Kd.N_get HO_10.out [] x16_1 p225 (by first|exact q225|exact od_ (by first|(with_reducible assumption)|assumption)|(have e_:=(Kd.N_reads' HO_10.out).1;omega))
      obtain ⟨ua225_0,uc225_0,rfl,ul225_0,ge225_0⟩:=Kd.FK_slice_open hMe225;have hv225_0:=hcc225 0 _ rfl
      rw [Nat.add_zero,show ((Kd.slice 5 (Kd.int .u8))).sz=1 from rfl,Nat.mul_one] at hv225_0
      replace hv225_0:=Option.some.inj (hv225_0.symm.trans hx225_0)
      injection hv225_0 with hva_ hvn_ hvc_
      rw [hva_] at ge225_0;rw [hvc_] at ul225_0
      have HL225_0:=A_ (show Kd.V (Kd.int .u8) 5 _ w.heap.size _ _ (rd_L2 x10_1 x16_1) from Kd.V_mk ul225_0 ge225_0)
      clear hva_ hvn_ hvc_ ge225_0 ul225_0;clear hcc225 hce225;have HR225_0:=A_ hi225_0;have HC225_0:=A_ hl225_0;clear hi225_0 hl225_0;replace p225:=eq_true p225;replace q225:=eq_true q225
      try go_wp2
      have n0_:=A_ (Kd.N_drew HO_10.out);have n1_:=A_ (re_ HO_218000.out);have n2_:=A_ (Kd.V_drew HL225_0.out);have n3_:=A_ (ke_ BK217.out);have n4_:=A_ (ke_ BK218.out);have n5_:=A_ (Kd.C_drew HR225_0.out);have n6_:=A_ (be_ HB.out);clear HO_10;clear HO_218000;clear HL225_0;clear BK217;clear BK218;clear HR225_0;clear HB;have HO_10:=n0_;have HO_218000:=n1_;have HL225_0:=n2_;have BK217:=n3_;have BK218:=n4_;have HR225_0:=n5_;have HB:=n6_;clear n0_ n1_ n2_ n3_ n4_ n5_ n6_
      refine start_ (n:=7) (S:=fun w'=>w'.cell? ⟨gb217,0,none⟩=some (.slice Ao9 t219.length co9)∧w'.cell? ⟨gb217,1,none⟩=some (.slice (some ad225) x10_1.length co11)) (ds:=[6]) #[Z,Z,Z,Z,Z,Z,Z] (by kernel_rfl) rfl rfl ⟨(bc_ BK217.out 0).trans rfl,(bc_ BK217.out 1).trans rfl⟩ (fun hHeld=>?_)
      generalize wr.drew=w20 at HO_10 HO_218000 HL225_0 BK217 BK218 HR225_0 HB hHeld ⊢
      refine pure_ (i:=0) (N:=some 21) (v:=?_) (a':=?_) #[Y,Z,Z,Z,Z,Z,Z] rfl rfl (by kernel_rfl) (fun _ _ _ h=>h) (Or.inl ⟨by rfl,?_⟩) ?_ ?_;rotate_left;(intro w';go_simp;with_reducible rfl);rotate_left;(simp only [Act.put,q1_,q2_,q3_,i64_w,i32_w];rfl)
      refine pure_ (i:=2) (N:=some 23) (v:=?_) (a':=?_) #[Y,Z,Y,Z,Z,Z,Z] rfl rfl (by kernel_rfl) (fun _ _ _ h=>h) (Or.inl ⟨by rfl,?_⟩) ?_ ?_;rotate_left;(intro w';go_simp;with_reducible rfl);rotate_left;(simp only [Act.put,q1_,q2_,q3_,i64_w,i32_w];rfl)
      refine pure_ (i:=3) (N:=some 24) (v:=?_) (a':=?_) #[Y,Z,Y,Y,Z,Z,Z] rfl rfl (by kernel_rfl) (fun _ _ _ h=>h) (Or.inl ⟨by rfl,?_⟩) ?_ ?_;rotate_left;(intro w';go_simp;with_reducible rfl);rotate_left;(simp only [Act.put,q1_,q2_,q3_,i64_w,i32_w];rfl)
      refine take_ (i:=1) (N:=some 22) (v:=?_) (a':=?_) #[Y,Y,Y,Y,Z,Z,Z] rfl rfl (by kernel_rfl) (fun _ _ _ h=>h) (Or.inl ⟨by rfl,?_⟩) hHeld ?_ ?_;rotate_left;(rintro w' ⟨s0,s1⟩;go_simp;with_reducible rfl);rotate_left;(simp only [Act.put,q1_,q2_,q3_,i64_w,i32_w];rfl)
      refine one_ (i:=4) (N:=some 25) #[Y,Y,Y,Y,Y,Z,Z] rfl rfl (by kernel_rfl) (by decide) (fun K hK=>?_)
      refine goes_ Try.func59 (by kernel_rfl) rfl #[.slice A225_0 (rd_L2 x10_1 x16_1).length c225_0] (by rfl) rfl rfl (by (try simp only [List.map_toArray,List.map_cons,List.map_nil]);first|done|rfl|(simp only [List.length_drop,List.length_take];rfl)) ?_
      with_reducible refine (slices_Clone_byte_byte_59.calls _ _ (rd_L2 x10_1 x16_1) t226 _ ?side1 ?side2 A18.out).mono ?_
      (case side1=>repeat (first|exact (by repeat (first|(with_reducible exact HR225_0.out)|(with_reducible refine Kd.C_alloc ?_ _)|(with_reducible refine Kd.C_drewN ?_ _)|(with_reducible refine Kd.C_drew ?_)|exact HR225_0.out))|(with_reducible refine Kd.C_alloc ?_ _)|(with_reducible refine Kd.C_drewN ?_ _)|(with_reducible refine Kd.C_drew ?_)))
      (case side2=>exact HC225_0.out)
      rintro e w21 ⟨v227,rfl,ho0,hb⟩;refine ⟨_,rfl,?_⟩
      have n0_:=A_ (Kd.N_elder' (by (with_reducible repeat (first|apply Kd.N_alloc|apply Kd.N_drewN|apply Kd.N_drew));exact HO_10.out) (Kd.R_base ho0) hb)
      have n1_:=A_ (Kd.R_below (by (with_reducible repeat (first|apply ra_|apply rn_|apply re_));exact HO_218000.out) hb)
      have n2_:=A_ (Kd.V_elder' (by (with_reducible repeat (first|apply Kd.V_alloc|apply Kd.V_drewN|apply Kd.V_drew));exact HL225_0.out) (Kd.R_base ho0) hb)
      have n3_:=A_ (Kd.R_lower (Kd.R_newM (M:=fun k_=>(w.heap.size≤k_)) ho0 (bz_ (by repeat (first|(with_reducible first|exact HB.out|apply ba_|apply bd_|apply be_|refine bs_ ?_ GE217.out|refine bs_ ?_ GE218.out)|exact HB.out))) (fun k_ h_=>h_)) (bz_ (by repeat (first|(with_reducible first|exact HB.out|apply ba_|apply bd_|apply be_|refine bs_ ?_ GE217.out|refine bs_ ?_ GE218.out)|exact HB.out))))
      have n4_:=A_ (bx_ BK217.out (by intro h_;(with_reducible repeat (first|refine kd_ ?_ _|refine ke_ ?_|refine ka_ ?_ _));exact h_) hb)
      have n5_:=A_ (bx_ BK218.out (by intro h_;(with_reducible repeat (first|refine kd_ ?_ _|refine ke_ ?_|refine ka_ ?_ _));exact h_) hb)
      have n6_:=A_ (Kd.C_below (by repeat (first|(with_reducible exact HR225_0.out)|(with_reducible refine Kd.C_alloc ?_ _)|(with_reducible refine Kd.C_drewN ?_ _)|(with_reducible refine Kd.C_drew ?_)|exact HR225_0.out)) hb)
      have n7_:=A_ (bp_ (by repeat (first|(with_reducible first|exact HB.out|apply ba_|apply bd_|apply be_|refine bs_ ?_ GE217.out|refine bs_ ?_ GE218.out)|exact HB.out)) hb)
      clear HO_10;clear HO_218000;clear HL225_0;clear BK217;clear BK218;clear HR225_0;clear HB;have HO_10:=n0_;have HO_218000:=n1_;have HL225_0:=n2_;have HO228:=n3_;have BK217:=n4_;have BK218:=n5_;have HR225_0:=n6_;have HB:=n7_;clear n0_ n1_ n2_ n3_ n4_ n5_ n6_ n7_;(try clear hb);(try clear hb2);(try clear hk);(try clear hi);(try clear ho0)
      have p19 : 0≤(x16_1 : Int):=od_ (by first|(with_reducible assumption)|assumption)
      have q19 : (x16_1 : Int)<((x10_1.length : Int) : Int):=od_ (by first|(with_reducible assumption)|assumption)
      obtain ⟨go19,co19,eo19,gb19,gl19,cl19,HG19⟩:=Kd.N_form HO_10.out (by omega)
      (first|cases eo19|(injection eo19 with ea_ en_ ec_;(first|subst ea_|(injection ea_ with ea_;subst ea_));subst ec_;clear en_))
      have GB19:=A_ gb19;have GG19:=A_ HG19;clear gb19 gl19 HG19;(first|simp only [add_plain] at hx225_0|skip);obtain ⟨ce19,hcl19,hM19,hcc19,hfr19⟩:=Kd.N_elem HO_10.out [] (x16_1 : Int) p19 q19;obtain ⟨ua19_0,uc19_0,rfl,ul19_0,ge19_0⟩:=Kd.FK_slice_open hM19;have hx19_0:=hcc19 0 _ rfl;have hf19_0:=hfr19 0
      (try simp only [show ((Kd.slice 5 (Kd.int .u8))).sz=1 from rfl,Nat.mul_one,Nat.add_zero] at hx19_0)
      (try simp only [show ((Kd.slice 5 (Kd.int .u8))).sz=1 from rfl,Nat.mul_one,Nat.add_zero] at hf19_0)
      clear hcl19 hcc19 hfr19 hM19;replace p19:=eq_true p19;replace q19:=eq_true q19;obtain ⟨Ao22,co22,eo22⟩:=Kd.R_slice HO228.out
      (first|subst eo22|(injection eo22 with f1_ f2_ f3_;have f4_:=f1_.symm;have f5_:=f3_.symm;clear f1_ f2_ f3_;subst f4_;subst f5_))
      have HX23:=A_ (show Kd.N (Kd.slice 5 (Kd.int .u8)) 22 _ w.heap.size (fun k_=>(P0_1_ k_∨w.heap.size≤k_)∧some k_≠(.slice Ao9 t219.length co9 : Value).ownBlock∧some k_≠(.slice Ao22 t226.length co22 : Value).ownBlock∧k_≠gb217∧k_≠gb218) (.slice (some ⟨go19,0,none⟩) x10_1.length co11) x10_1 from (Kd.N_mono (HO_10.out) (fun k_ hk=>⟨hk.1.1,⟨hk.1.2.1,⟨hk.2,⟨hk.1.2.2.1,hk.1.2.2.2⟩⟩⟩⟩)))
      replace HX23:=A_ (show Kd.N (Kd.slice 5 (Kd.int .u8)) 22 _ w.heap.size (fun k_=>(P0_1_ k_∨w.heap.size≤k_)∧some k_≠(.slice Ao9 t219.length co9 : Value).ownBlock∧k_≠gb217∧k_≠gb218) (.slice (some ⟨go19,0,none⟩) x10_1.length co11) x10_1 from Kd.N_mono HX23.out (fun k_ hk=>⟨hk.1,⟨hk.2.1,⟨hk.2.2.2.1,hk.2.2.2.2⟩⟩⟩))
      obtain ⟨ce23,hcl23,hM23,hcc23,hfr23⟩:=Kd.N_elem HX23.out [] (x16_1 : Int) (od_ (by first|(with_reducible assumption)|assumption)) (by have h_ : (x16_1 : Int)<((x10_1.length : Int) : Int):=od_ (by first|(with_reducible assumption)|assumption);first|exact h_|(have e_:=(Kd.N_reads' HO_10.out).1;omega)|simpa using h_)
      obtain ⟨ua23_0,uc23_0,rfl,ul23_0,ge23_0⟩:=Kd.FK_slice_open hM23
      have HP23:=(Kd.N_seg HX23.out (x16_1 : Int) (od_ (by first|(with_reducible assumption)|assumption)) (by have h_ : (x16_1 : Int)<((x10_1.length : Int) : Int):=od_ (by first|(with_reducible assumption)|assumption);first|exact h_|(have e_:=(Kd.N_reads' HO_10.out).1;omega)|simpa using h_) (seg:=[.slice Ao22 t226.length co22]) (j:=0) hcl23 hcc23 (show 1≤1 from by decide) (x':=t226) (Kd.FK_slice_mk (Kd.R_reads' (Kd.R_mono (ok':=(fun k_=>((fun k_=>(P0_1_ k_∨w.heap.size≤k_)∧some k_≠(.slice Ao9 t219.length co9 : Value).ownBlock∧k_≠gb217∧k_≠gb218)) k_∧k_≠go19)) (Kd.R_types (Kd.R_types (Kd.R_apart' (Kd.R_apart' (HO228.out) (Kd.R_typed HO_218000.out) (by decide)) (Kd.N_typed HO_10.out) (by decide)) BK217.out (by decide)) BK218.out (by decide)) (fun k_ hk=>⟨⟨(.inr (hk.1.1.1.1.1)),⟨hk.1.1.1.2,⟨hk.1.2,hk.2⟩⟩⟩,fun e_=>(hk.1.1.2) (by rw [e_];rfl)⟩))).2.1 (Kd.R_F (Kd.R_mono (ok':=(fun k_=>((fun k_=>(P0_1_ k_∨w.heap.size≤k_)∧some k_≠(.slice Ao9 t219.length co9 : Value).ownBlock∧k_≠gb217∧k_≠gb218)) k_∧k_≠go19)) (Kd.R_types (Kd.R_types (Kd.R_apart' (Kd.R_apart' (HO228.out) (Kd.R_typed HO_218000.out) (by decide)) (Kd.N_typed HO_10.out) (by decide)) BK217.out (by decide)) BK218.out (by decide)) (fun k_ hk=>⟨⟨(.inr (hk.1.1.1.1.1)),⟨hk.1.1.1.2,⟨hk.1.2,hk.2⟩⟩⟩,fun e_=>(hk.1.1.2) (by rw [e_];rfl)⟩)))) (fun _ hk=>hk)).1
      (try simp only [show ((Kd.slice 5 (Kd.int .u8))).sz=1 from rfl,Nat.mul_one,Nat.add_zero] at HP23)
      rw [← Ny229.out] at HP23;have HQ23:=A_ HP23;clear hcl23 hcc23 hfr23 hM23 HP23
      refine hK.out _ _ ⟨(bc_ BK217.out 0).trans rfl,(bc_ BK217.out 1).trans rfl⟩ (fun hHeld=>?_)
      clear hK K
      refine norm_ (a':=?_) ?_ ?_;rotate_left;(show Act.put _ (some 25) _=_;simp only [Act.put,q1_,q2_,q3_,i64_w,i32_w];rfl)
      refine pure_ (i:=5) (N:=some 26) (v:=?_) (a':=?_) #[Y,Y,Y,Y,Y,Y,Z] rfl rfl (by kernel_rfl) (fun _ _ _ h=>h) (Or.inl ⟨by rfl,?_⟩) ?_ ?_;rotate_left;(intro w';go_simp;with_reducible rfl);rotate_left;(simp only [Act.put,q1_,q2_,q3_,i64_w,i32_w];rfl)
      refine last_ (i:=6) (N:=none) #[Y,Y,Y,Y,Y,Y,Y] rfl rfl (by kernel_rfl) (by decide) (fun K hK=>?_)
      refine skip_ (w1:=?_) (by rfl) rfl ?_ ?_
      rotate_left
      ·go_simp
       rfl
      refine hK.out _ _ ?_;clear hK K;refine done_ (by kernel_rfl) ?_
      try go_wp2
      (try simp only [← hl10_1]);go_roundg k1
      case measure=>have:=HK1.out;omega
      case rel=>exact ⟨(y229),(wrap64 (x16_1 + 1)),(by first|rfl|(simp;done)|(simp [*];done)),H',⟨by have:=HK1.out;omega⟩,⟨by (try simp only [hl10_1]);(with_reducible repeat (first|apply Kd.N_alloc|apply Kd.N_drewN|apply Kd.N_drew));exact HQ23.out⟩,⟨by (try simp only [hl10_1]);(with_reducible repeat (first|apply ra_|apply rn_|apply re_));exact Kd.R_mono (rf_ (p:=⟨go19,(x16_1 : Int).toNat,none⟩) (Kd.R_types HO_218000.out GG19.out (by decide)) (fun _ hk=>hk.2) (.slice Ao22 t226.length co22)) (fun _ hk=>hk.1)⟩,⟨by (try simp only [hl10_1]);(with_reducible repeat (first|refine kd_ ?_ _|refine ke_ ?_|refine ka_ ?_ _));refine blk_far ?_ (by have h_:=Kd.N_away HO_10.out (fun _ hk=>hk.1.2.2.1);intro e_;exact h_ (by rw [e_];rfl)) _;(with_reducible repeat (first|refine kd_ ?_ _|refine ke_ ?_|refine ka_ ?_ _));exact BK217.out⟩,⟨by (try simp only [hl10_1]);(with_reducible repeat (first|refine kd_ ?_ _|refine ke_ ?_|refine ka_ ?_ _));refine blk_far ?_ (by have h_:=Kd.N_away HO_10.out (fun _ hk=>hk.1.2.2.2);intro e_;exact h_ (by rw [e_];rfl)) _;(with_reducible repeat (first|refine kd_ ?_ _|refine ke_ ?_|refine ka_ ?_ _));exact BK218.out⟩,⟨by repeat (first|(with_reducible first|exact HB.out|apply ba_|apply bd_|apply be_|refine bs_ ?_ GB19.out|refine bs_ ?_ GE217.out|refine bs_ ?_ GE218.out)|exact HB.out)⟩⟩
     ·rw [if_neg c17] at H
      exact absurd H (by simp)
    ·rw [if_neg c16] at H
     exact absurd H (by simp)
   ·rw [if_neg c15] at H
    have c15b0 : decide (x16_1<(t222.length : Int))=false:=df_ c15;(try (have c15b0h:=c15b0; simp only [hl10_1] at c15b0h));clear c15
    simp only [Option.some.injEq,Prod.mk.injEq] at H
    obtain ⟨rfl,rfl⟩:=H;have hnb24:=NB217_218.out;have hnc24:=NB218_217.out;have z25_0 : wr.cell? ⟨gb217,0,none⟩=some (.slice Ao9 t219.length co9):=(bc_ BK217.out 0).trans rfl;have z25_1 : wr.cell? ⟨gb217,1,none⟩=some (.slice Ao11 x10_1.length co11):=(bc_ BK217.out 1).trans rfl;have y25_0:=bf_ BK217.out 0;have y25_1:=bf_ BK217.out 1;have z26_0 : wr.cell? ⟨gb218,0,none⟩=some (.slice none 0 0):=(bc_ BK218.out 0).trans rfl;have z26_1 : wr.cell? ⟨gb218,1,none⟩=some (.slice none 0 0):=(bc_ BK218.out 1).trans rfl;have y26_0:=bf_ BK218.out 0;have y26_1:=bf_ BK218.out 1;go_wp2
    refine bodyPost_ret (results_cell_row rfl _ _ gb218 27 #[.slice Ao9 t219.length co9,.slice Ao11 x10_1.length co11] (0,0) _ rfl (by (with_reducible repeat (first|refine kd_ ?_ _|refine ke_ ?_|refine ka_ ?_ _));refine blk_put (cs:=#[.slice Ao9 t219.length co9,.slice none 0 0]) ?_ 1 _ rfl;(with_reducible repeat (first|refine kd_ ?_ _|refine ke_ ?_|refine ka_ ?_ _));refine blk_put (cs:=#[.slice none 0 0,.slice none 0 0]) ?_ 0 _ rfl;(with_reducible repeat (first|refine kd_ ?_ _|refine ke_ ?_|refine ka_ ?_ _));exact BK218.out) Try.underlying27 rfl (by kernel_rfl)) rfl ?_
    exact ⟨_,_,by first|rfl|(simp [errW_none,errW_some] <;> rfl)|(simp [*,errW_none,errW_some] <;> rfl),by (with_reducible repeat (first|apply ra_|apply rn_|apply re_));exact Kd.R_mono (rf_ (p:=⟨gb218,1,none⟩) (rf_ (p:=⟨gb218,0,none⟩) (Kd.R_types HO_218000.out BK218.out (by decide)) (fun _ hk=>hk.2) (.slice Ao9 t219.length co9)) (fun _ hk=>hk.2) (.slice Ao11 x10_1.length co11)) (fun _ hk=>hk.1),by (with_reducible repeat (first|apply Kd.N_alloc|apply Kd.N_drewN|apply Kd.N_drew));exact Kd.N_mono (Kd.N_far (p:=⟨gb218,1,none⟩) (Kd.N_far (p:=⟨gb218,0,none⟩) (Kd.N_mono HO_10.out (fun k_ hk=>(⟨hk,hk.2.2.2⟩ : _∧k_≠gb218))) (fun _ hk=>hk.2) (.slice Ao9 t219.length co9)) (fun _ hk=>hk.2) (.slice Ao11 x10_1.length co11)) (fun _ hk=>⟨hk.1.1,hk.1.2.1⟩),by repeat (first|(with_reducible first|exact HB.out|apply ba_|apply bd_|apply be_|refine bs_ ?_ GE217.out|refine bs_ ?_ GE218.out)|exact HB.out)⟩
mutual
def humusref08_Same.j0 : Nat→Bool→List Int→List (List Int)→List Int→List (List Int)→Option (Bool)
 | 0,_,_,_,_,_=>none
 | k + 1,x22,x362000,x362001,x363000,x363001=>if x22=true then (some false) else (humusref08_Same.l0 k 0 x362000 x362001 x363000 x363001)
def humusref08_Same.l0 : Nat→Int→List Int→List (List Int)→List Int→List (List Int)→Option (Bool)
 | 0,_,_,_,_,_=>none
 | k + 1,x5,x362000,x362001,x363000,x363001=>if x5<(x362000.length : Int) then (if 0≤x5 then (if x5<(x363000.length : Int) then (if (rd x362000 x5)=(rd x363000 x5) then (humusref08_Same.l0 k (wrap64 (x5 + 1)) x362000 x362001 x363000 x363001) else (some false)) else (none)) else (none)) else (humusref08_Same.l1 k 0 x362000 x362001 x363000 x363001)
def humusref08_Same.l1 : Nat→Int→List Int→List (List Int)→List Int→List (List Int)→Option (Bool)
 | 0,_,_,_,_,_=>none
 | k + 1,x6,x362000,x362001,x363000,x363001=>if x6<(x362001.length : Int) then (if 0≤x6 then (if x6<(x363001.length : Int) then (if (strOfNums (rd_L2 x362001 x6)).toList=(strOfNums (rd_L2 x363001 x6)).toList then (humusref08_Same.l1 k (wrap64 (x6 + 1)) x362000 x362001 x363000 x363001) else (some false)) else (none)) else (none)) else (some true)
end
def humusref08_Same.f (k : Nat) (l0_0 : List Int) (l0_1 : List (List Int)) (l1_0 : List Int) (l1_1 : List (List Int)) : Option (Bool):=if (l0_0.length : Int)=(l1_0.length : Int) then (humusref08_Same.j0 k ((l0_1.length : Int) != (l1_1.length : Int)) l0_0 l0_1 l1_0 l1_1) else (humusref08_Same.j0 k true l0_0 l0_1 l1_0 l1_1)
def humusref08_Same.T6 : Bool × List (List Nat × List Nat):=(true,[([],[]),([0],[0]),([],[]),([1,2],[1,2]),([3],[3]),([],[]),([5],[5]),([],[]),([6,7],[6,7]),([8],[8]),([4,9],[4,9])])
def humusref08_Same.B6 : List Nat:=[0,1,0,7,15,0,32,0,224,480,1023]
theorem humusref08_Same.tab6 : rtab .any (opsOf Try.f11 6)=humusref08_Same.T6:=by kernel_rfl
theorem humusref08_Same.bits6 : waitsOk humusref08_Same.T6.2 humusref08_Same.B6=true:=by kernel_rfl
def humusref08_Same.T11 : Bool × List (List Nat × List Nat):=(true,[([],[]),([0],[0]),([],[]),([1,2],[1,2]),([3],[3]),([4],[4]),([],[]),([6],[6]),([],[]),([7,8],[7,8]),([9],[9]),([10],[10]),([5,11],[5,11])])
def humusref08_Same.B11 : List Nat:=[0,1,0,7,15,31,0,64,0,448,960,1984,4095]
theorem humusref08_Same.tab11 : rtab .any (opsOf Try.f11 11)=humusref08_Same.T11:=by kernel_rfl
theorem humusref08_Same.bits11 : waitsOk humusref08_Same.T11.2 humusref08_Same.B11=true:=by kernel_rfl
set_option maxHeartbeats 8000000 in
set_option maxRecDepth 100000 in
theorem humusref08_Same.calls (k : Nat) (A0_0 : Option Addr) (c0_0 : Nat) (l0_0 : List Int) (A0_1 : Option Addr) (c0_1 : Nat) (l0_1 : List (List Int)) (A1_0 : Option Addr) (c1_0 : Nat) (l1_0 : List Int) (A1_1 : Option Addr) (c1_1 : Nat) (l1_1 : List (List Int)) (r : Bool) (w : World) (hr0_0 : Kd.C (Kd.int .i64) w A0_0 l0_0.length l0_0) (hc0_0 : l0_0.length≤c0_0) (hr0_1 : Kd.C (Kd.slice 5 (Kd.int .u8)) w A0_1 l0_1.length l0_1) (hc0_1 : l0_1.length≤c0_1) (hr1_0 : Kd.C (Kd.int .i64) w A1_0 l1_0.length l1_0) (hc1_0 : l1_0.length≤c1_0) (hr1_1 : Kd.C (Kd.slice 5 (Kd.int .u8)) w A1_1 l1_1.length l1_1) (hc1_1 : l1_1.length≤c1_1) (h : humusref08_Same.f k l0_0 l0_1 l1_0 l1_1=some r) :
  Calls Try.prog 11 #[.agg #[.slice A0_0 l0_0.length c0_0,.slice A0_1 l0_1.length c0_1],.agg #[.slice A1_0 l1_0.length c1_0,.slice A1_1 l1_1.length c1_1]] w fun e w'=>e=.returned (.bool r)∧Below w.heap.size w w':=by
 have hu27:=Try.underlying27;have HR0_0:=A_ hr0_0;have HC0_0:=A_ hc0_0;clear hr0_0 hc0_0;have HR0_1:=A_ hr0_1;have HC0_1:=A_ hc0_1;clear hr0_1 hc0_1;have HR1_0:=A_ hr1_0;have HC1_0:=A_ hc1_0;clear hr1_0 hc1_0;have HR1_1:=A_ hr1_1;have HC1_1:=A_ hc1_1;clear hr1_1 hc1_1;have HB:=A_ (Below.refl w.heap.size w)
 have H : (if (l0_0.length : Int)=(l1_0.length : Int) then (humusref08_Same.j0 k ((l0_1.length : Int) != (l1_1.length : Int)) l0_0 l0_1 l1_0 l1_1) else (humusref08_Same.j0 k true l0_0 l0_1 l1_0 l1_1))=some r:=h
 clear h;have HC3:=A_ H;clear H;go_enter Try.func11,Try.ntmps11
 go_upto_region 1 with (first|((with_reducible refine gate_dst (N:=2) rfl ?_);(try (refine gate_guard (by rfl) ?_;dsimp only));refine box_event ?hg (N:=2) ?hd (cs:=#[.slice A0_0 l0_0.length c0_0,.slice A0_1 l0_1.length c0_1]) (t:=27) ?hr ?_;(case hd=>rfl);(case hg=>rfl);(case hr=>first|(go_simp;done)|(go_simp;rfl));intro gb361 hg w4 hbox hb;have n0_:=A_ (bp_ (by repeat (first|(with_reducible first|exact HB.out|apply ba_|apply bd_|apply be_)|exact HB.out)) hb);have n1_:=A_ (hbox);have n2_:=A_ ((by rw [hg];exact (bz_ (by repeat (first|(with_reducible first|exact HB.out|apply ba_|apply bd_|apply be_)|exact HB.out))) : w.heap.size≤gb361));have n3_:=n2_;clear HB;have HB:=n0_;have BK361:=n1_;have GW361:=n2_;have GE361:=n3_;clear n0_ n1_ n2_ n3_;clear hb hbox hg)|((with_reducible refine gate_dst (N:=3) rfl ?_);(try (refine gate_guard (by rfl) ?_;dsimp only));refine box_event ?hg (N:=3) ?hd (cs:=#[.slice A1_0 l1_0.length c1_0,.slice A1_1 l1_1.length c1_1]) (t:=27) ?hr ?_;(case hd=>rfl);(case hg=>rfl);(case hr=>first|(go_simp;done)|(go_simp;rfl));intro gb362 hg w5 hbox hb;have n0_:=A_ (bx_ BK361.out (by intro h_;(with_reducible repeat (first|refine kd_ ?_ _|refine ke_ ?_|refine ka_ ?_ _));exact h_) hb);have n1_:=A_ (bp_ (by repeat (first|(with_reducible first|exact HB.out|apply ba_|apply bd_|apply be_|refine bs_ ?_ GE361.out)|exact HB.out)) hb);have n2_:=A_ (hbox);have n3_:=A_ ((by rw [hg];exact (bz_ (by repeat (first|(with_reducible first|exact HB.out|apply ba_|apply bd_|apply be_|refine bs_ ?_ GE361.out)|exact HB.out))) : w.heap.size≤gb362));have n4_:=n3_;have n5_:=A_ ((by rw [hg];exact Nat.ne_of_lt (bl_ BK361.out (by intro h_;(with_reducible repeat (first|refine kd_ ?_ _|refine ke_ ?_|refine ka_ ?_ _));exact h_)) : gb361≠gb362));have n6_:=A_ (Ne.symm n5_.out);clear BK361;clear HB;have BK361:=n0_;have HB:=n1_;have BK362:=n2_;have GW362:=n3_;have GE362:=n4_;have NB361_362:=n5_;have NB362_361:=n6_;clear n0_ n1_ n2_ n3_ n4_ n5_ n6_;clear hb hbox hg))
 (try simp only [Act.put,u1_,u2_,u3_])
 go_cut [22] (fun v22 wc=>∃ (kq : Nat) (x22_2 : Bool),v22=.bool x22_2∧Aside0 (humusref08_Same.j0 kq x22_2 l0_0 l0_1 l1_0 l1_1=some r)∧Aside0 (kq≤k)∧Aside0 (wc.heap[gb361]?=some (.cells #[(.slice A0_0 l0_0.length c0_0),(.slice A0_1 l0_1.length c0_1)] 27 (0,0)))∧Aside0 (wc.heap[gb362]?=some (.cells #[(.slice A1_0 l1_0.length c1_0),(.slice A1_1 l1_1.length c1_1)] 27 (0,0)))∧Aside0 (Below w.heap.size w wc))
 case first =>
  have H:=HC3.out;clear HC3
  by_cases c6 : (l0_0.length : Int)=(l1_0.length : Int)
  ·rw [if_pos c6] at H
   have c6b0 : ((l0_0.length : Int) == (l1_0.length : Int))=true:=beq_iff_eq.mpr c6;have c6b1 : ((l0_0.length : Int) != (l1_0.length : Int))=false:=bne_eq_false_iff_eq.mpr c6
   have c6b2 : (l0_0.length == l1_0.length)=true:=by first|simpa using c6|(simp at c6 ⊢;omega)
   clear c6;(first|rw [c6b0]|(simp only [i64_w,i32_w];rw [c6b0])|skip);have H':=A_ H;clear H;have hnb7:=NB361_362.out;have hnc7:=NB362_361.out;have z8_0 : w5.cell? ⟨gb361,0,none⟩=some (.slice A0_0 l0_0.length c0_0):=(bc_ BK361.out 0).trans rfl;have z8_1 : w5.cell? ⟨gb361,1,none⟩=some (.slice A0_1 l0_1.length c0_1):=(bc_ BK361.out 1).trans rfl;have y8_0:=bf_ BK361.out 0;have y8_1:=bf_ BK361.out 1;have z9_0 : w5.cell? ⟨gb362,0,none⟩=some (.slice A1_0 l1_0.length c1_0):=(bc_ BK362.out 0).trans rfl;have z9_1 : w5.cell? ⟨gb362,1,none⟩=some (.slice A1_1 l1_1.length c1_1):=(bc_ BK362.out 1).trans rfl;have y9_0:=bf_ BK362.out 0;have y9_1:=bf_ BK362.out 1;go_wp2;go_meet
   case rel=>exact ⟨_,(((l0_1.length : Int) != (l1_1.length : Int))),(by first|rfl|(simp;done)|(simp [*];done)),H',⟨by first|omega|exact Nat.le_refl _⟩,⟨by (with_reducible repeat (first|refine kd_ ?_ _|refine ke_ ?_|refine ka_ ?_ _));exact BK361.out⟩,⟨by (with_reducible repeat (first|refine kd_ ?_ _|refine ke_ ?_|refine ka_ ?_ _));exact BK362.out⟩,⟨by repeat (first|(with_reducible first|exact HB.out|apply ba_|apply bd_|apply be_|refine bs_ ?_ GE361.out|refine bs_ ?_ GE362.out)|exact HB.out)⟩⟩
  ·rw [if_neg c6] at H
   have c6b0 : ((l0_0.length : Int) == (l1_0.length : Int))=false:=beq_eq_false_iff_ne.mpr c6;have c6b1 : ((l0_0.length : Int) != (l1_0.length : Int))=true:=bne_iff_ne.mpr c6
   have c6b2 : (l0_0.length == l1_0.length)=false:=by first|simpa using c6|(simp at c6 ⊢;omega)
   (first|rw [c6b0]|(simp only [i64_w,i32_w];rw [c6b0])|skip);have H':=A_ H;clear H;have hnb10:=NB361_362.out;have hnc10:=NB362_361.out;have z11_0 : w5.cell? ⟨gb361,0,none⟩=some (.slice A0_0 l0_0.length c0_0):=(bc_ BK361.out 0).trans rfl;have z11_1 : w5.cell? ⟨gb361,1,none⟩=some (.slice A0_1 l0_1.length c0_1):=(bc_ BK361.out 1).trans rfl;have y11_0:=bf_ BK361.out 0;have y11_1:=bf_ BK361.out 1;have z12_0 : w5.cell? ⟨gb362,0,none⟩=some (.slice A1_0 l1_0.length c1_0):=(bc_ BK362.out 0).trans rfl;have z12_1 : w5.cell? ⟨gb362,1,none⟩=some (.slice A1_1 l1_1.length c1_1):=(bc_ BK362.out 1).trans rfl;have y12_0:=bf_ BK362.out 0;have y12_1:=bf_ BK362.out 1;go_wp2;go_meet
   case rel=>exact ⟨_,true,rfl,H',⟨by first|omega|exact Nat.le_refl _⟩,⟨by (with_reducible repeat (first|refine kd_ ?_ _|refine ke_ ?_|refine ka_ ?_ _));exact BK361.out⟩,⟨by (with_reducible repeat (first|refine kd_ ?_ _|refine ke_ ?_|refine ka_ ?_ _));exact BK362.out⟩,⟨by repeat (first|(with_reducible first|exact HB.out|apply ba_|apply bd_|apply be_|refine bs_ ?_ GE361.out|refine bs_ ?_ GE362.out)|exact HB.out)⟩⟩
 case rest =>
  clear HC3;(try clear c1);(try clear p2);(try clear c6);(try clear c6b0);(try clear c6b1);(try clear c6b2);(try clear c7);(try clear c10);(try clear c11);(try clear z11_0 z11_1 z12_0 z12_1 z8_0 z8_1 z9_0 z9_1 y11_0 y11_1 y12_0 y12_1 y8_0 y8_1 y9_0 y9_1);obtain ⟨kq,x22_2,rfl,HA,HJ2,BK361,BK362,HB⟩:=hcut
  cases kq with
  | zero=>exact absurd HA.out (by simp [humusref08_Same.j0])
  | succ kj2 =>
   have H:=HA.out;clear HA
   simp only [humusref08_Same.j0] at H
   by_cases c13 : x22_2=true
   ·subst c13
    have H1 : (some false)=some r:=by rw [if_pos rfl] at H;exact H
    clear H;have H:=H1;clear H1;obtain rfl:=Option.some.inj H;go_wp2;go_ret
    exact ⟨by first|rfl|(simp [errW_none,errW_some] <;> rfl)|(simp [*,errW_none,errW_some] <;> rfl),by repeat (first|(with_reducible first|exact HB.out|apply ba_|apply bd_|apply be_|refine bs_ ?_ GE361.out|refine bs_ ?_ GE362.out)|exact HB.out)⟩
   ·replace c13:=Bool.eq_false_iff.mpr c13
    subst c13
    have H1 : (humusref08_Same.l0 kj2 0 l0_0 l0_1 l1_0 l1_1)=some r:=by rw [if_neg (show ¬ (false=true) by decide)] at H;exact H
    clear H;have H:=H1;clear H1;have H':=A_ H;clear H;go_wp2
    go_loopg [5] kj2 (fun kq v5 w'=>∃ (x5_2 : Int),v5=.int .i64 x5_2∧Aside0 (humusref08_Same.l0 kq x5_2 l0_0 l0_1 l1_0 l1_1=some r)∧Aside0 (kq≤kj2)∧Aside0 (w'.heap[gb361]?=some (.cells #[(.slice A0_0 l0_0.length c0_0),(.slice A0_1 l0_1.length c0_1)] 27 (0,0)))∧Aside0 (w'.heap[gb362]?=some (.cells #[(.slice A1_0 l1_0.length c1_0),(.slice A1_1 l1_1.length c1_1)] 27 (0,0)))∧Aside0 (Below w.heap.size w w'))
    case atStart=>exact ⟨(0),(by first|rfl|(simp;done)|(simp [*];done)),H',⟨Nat.le_refl _⟩,⟨by (with_reducible repeat (first|refine kd_ ?_ _|refine ke_ ?_|refine ka_ ?_ _));exact BK361.out⟩,⟨by (with_reducible repeat (first|refine kd_ ?_ _|refine ke_ ?_|refine ka_ ?_ _));exact BK362.out⟩,⟨by repeat (first|(with_reducible first|exact HB.out|apply ba_|apply bd_|apply be_|refine bs_ ?_ GE361.out|refine bs_ ?_ GE362.out)|exact HB.out)⟩⟩
    case round =>
     clear H';(try clear c1);(try clear p2);(try clear c6);(try clear c6b0);(try clear c6b1);(try clear c6b2);(try clear c7);(try clear c10);(try clear c11);(try clear c13);(try clear p2);(try clear z11_0 z11_1 z12_0 z12_1 z8_0 z8_1 z9_0 z9_1 y11_0 y11_1 y12_0 y12_1 y8_0 y8_1 y9_0 y9_1);obtain ⟨x5_2,rfl,HA,HK2,BK361,BK362,HB⟩:=hrel
     cases gk with
     | zero=>exact absurd HA.out (by simp [humusref08_Same.l0])
     | succ k2 =>
      have H:=HA.out;clear HA
      simp only [humusref08_Same.l0] at H
      by_cases c14 : x5_2<(l0_0.length : Int)
      ·rw [if_pos c14] at H
       have c14b0 : decide (x5_2<(l0_0.length : Int))=true:=dt_ c14;clear c14
       by_cases c15 : 0≤x5_2
       ·rw [if_pos c15] at H
        have c15b0 : decide (0≤x5_2)=true:=dt_ c15;clear c15
        by_cases c16 : x5_2<(l1_0.length : Int)
        ·rw [if_pos c16] at H
         have c16b0 : decide (x5_2<(l1_0.length : Int))=true:=dt_ c16;clear c16
         by_cases c17 : (rd l0_0 x5_2)=(rd l1_0 x5_2)
         ·rw [if_pos c17] at H
          have c17b0 : ((rd l0_0 x5_2) == (rd l1_0 x5_2))=true:=beq_iff_eq.mpr c17;have c17b1 : ((rd l0_0 x5_2) != (rd l1_0 x5_2))=false:=bne_eq_false_iff_eq.mpr c17;clear c17;have H':=A_ H;clear H;have hnb18:=NB361_362.out;have hnc18:=NB362_361.out;have z19_0 : wr.cell? ⟨gb361,0,none⟩=some (.slice A0_0 l0_0.length c0_0):=(bc_ BK361.out 0).trans rfl;have z19_1 : wr.cell? ⟨gb361,1,none⟩=some (.slice A0_1 l0_1.length c0_1):=(bc_ BK361.out 1).trans rfl;have y19_0:=bf_ BK361.out 0;have y19_1:=bf_ BK361.out 1
          try go_wp2
          have n0_:=A_ (ke_ BK361.out);have n1_:=A_ (ke_ BK362.out);have n2_:=A_ (be_ HB.out);clear BK361;clear BK362;clear HB;have BK361:=n0_;have BK362:=n1_;have HB:=n2_;clear n0_ n1_ n2_
          have p363 : 0≤(x5_2 : Int):=od_ (by first|(with_reducible assumption)|assumption)
          have q363 : x5_2<(l0_0.length : Int):=od_ (by first|(with_reducible assumption)|assumption)
          obtain ⟨ad363,e363,hx363_0⟩:=Kd.at_int HR0_0.out x5_2 p363 q363;have hw363_0:=hx363_0
          cases e363
          replace hx363_0:=(HB.out.cell (wb_ w _ hx363_0)).trans hx363_0;replace p363:=eq_true p363;replace q363:=eq_true q363
          have p364 : 0≤(x5_2 : Int):=od_ (by first|(with_reducible assumption)|assumption)
          have q364 : x5_2<(l1_0.length : Int):=od_ (by first|(with_reducible assumption)|assumption)
          obtain ⟨ad364,e364,hx364_0⟩:=Kd.at_int HR1_0.out x5_2 p364 q364;have hw364_0:=hx364_0
          cases e364
          replace hx364_0:=(HB.out.cell (wb_ w _ hx364_0)).trans hx364_0;replace p364:=eq_true p364;replace q364:=eq_true q364
          refine start_ (n:=11) (S:=fun w'=>w'.cell? ⟨gb361,0,none⟩=some (.slice (some ad363) l0_0.length c0_0)∧w'.cell? ⟨gb361,1,none⟩=some (.slice A0_1 l0_1.length c0_1)∧w'.cell? ⟨gb362,0,none⟩=some (.slice (some ad364) l1_0.length c1_0)∧w'.cell? ⟨gb362,1,none⟩=some (.slice A1_1 l1_1.length c1_1)∧w'.cell? (ad363.add (x5_2).toNat)=some (.int .i64 (rd l0_0 x5_2))∧w'.cell? (ad364.add (x5_2).toNat)=some (.int .i64 (rd l1_0 x5_2))) (ds:=[]) #[Z,Z,Z,Z,Z,Z,Z,Z,Z,Z,Z] (by kernel_rfl) rfl rfl ⟨(bc_ BK361.out 0).trans rfl,(bc_ BK361.out 1).trans rfl,(bc_ BK362.out 0).trans rfl,(bc_ BK362.out 1).trans rfl,((HB.out.cell (wb_ w _ hw363_0)).trans hw363_0),((HB.out.cell (wb_ w _ hw364_0)).trans hw364_0)⟩ (fun hHeld=>?_);refine with_tabW humusref08_Same.tab6 humusref08_Same.bits6 (fun HT_ HW_=>?_)
          generalize wr.drew=w20 at BK361 BK362 HB hx363_0 hx364_0 hHeld ⊢
          refine pu_ (i:=0) (N:=some 30) (v:=?_) (a':=?_) #[Y,Z,Z,Z,Z,Z,Z,Z,Z,Z,Z] rfl rfl HT_.out (by kernel_rfl) (fun _ _ _ h=>h) (by rfl) ?_ ?_ ?_;rotate_left;(intro w';go_simp;with_reducible rfl);rotate_left;(simp only [Act.put,q1_,q2_,q3_,i64_w,i32_w];rfl)
          refine pu_ (i:=2) (N:=some 32) (v:=?_) (a':=?_) #[Y,Z,Y,Z,Z,Z,Z,Z,Z,Z,Z] rfl rfl HT_.out (by kernel_rfl) (fun _ _ _ h=>h) (by rfl) ?_ ?_ ?_;rotate_left;(intro w';go_simp;with_reducible rfl);rotate_left;(simp only [Act.put,q1_,q2_,q3_,i64_w,i32_w];rfl)
          refine pu_ (i:=5) (N:=some 35) (v:=?_) (a':=?_) #[Y,Z,Y,Z,Z,Y,Z,Z,Z,Z,Z] rfl rfl HT_.out (by kernel_rfl) (fun _ _ _ h=>h) (by rfl) ?_ ?_ ?_;rotate_left;(intro w';go_simp;with_reducible rfl);rotate_left;(simp only [Act.put,q1_,q2_,q3_,i64_w,i32_w];rfl)
          refine pu_ (i:=7) (N:=some 37) (v:=?_) (a':=?_) #[Y,Z,Y,Z,Z,Y,Z,Y,Z,Z,Z] rfl rfl HT_.out (by kernel_rfl) (fun _ _ _ h=>h) (by rfl) ?_ ?_ ?_;rotate_left;(intro w';go_simp;with_reducible rfl);rotate_left;(simp only [Act.put,q1_,q2_,q3_,i64_w,i32_w];rfl)
          refine ta_ (i:=1) (N:=some 31) (v:=?_) (a':=?_) #[Y,Y,Y,Z,Z,Y,Z,Y,Z,Z,Z] rfl rfl HT_.out HW_.out (by kernel_rfl) (fun _ _ _ h=>h) (by rfl) ?_ hHeld ?_ ?_;rotate_left;(rintro w' ⟨s0,s1,s2,s3,s4,s5⟩;go_simp;with_reducible rfl);rotate_left;(simp only [Act.put,q1_,q2_,q3_,i64_w,i32_w];rfl)
          refine pu_ (i:=3) (N:=some 33) (v:=?_) (a':=?_) #[Y,Y,Y,Y,Z,Y,Z,Y,Z,Z,Z] rfl rfl HT_.out (by kernel_rfl) (fun _ _ _ h=>h) (by rfl) ?_ ?_ ?_;rotate_left;(intro w';go_simp;with_reducible rfl);rotate_left;(simp only [Act.put,q1_,q2_,q3_,i64_w,i32_w];rfl)
          refine ta_ (i:=4) (N:=some 34) (v:=?_) (a':=?_) #[Y,Y,Y,Y,Y,Y,Z,Y,Z,Z,Z] rfl rfl HT_.out HW_.out (by kernel_rfl) (fun _ _ _ h=>h) (by rfl) ?_ hHeld ?_ ?_;rotate_left;(rintro w' ⟨s0,s1,s2,s3,s4,s5⟩;go_simp;with_reducible rfl);rotate_left;(simp only [Act.put,q1_,q2_,q3_,i64_w,i32_w];rfl)
          refine ta_ (i:=6) (N:=some 36) (v:=?_) (a':=?_) #[Y,Y,Y,Y,Y,Y,Y,Y,Z,Z,Z] rfl rfl HT_.out HW_.out (by kernel_rfl) (fun _ _ _ h=>h) (by rfl) ?_ hHeld ?_ ?_;rotate_left;(rintro w' ⟨s0,s1,s2,s3,s4,s5⟩;go_simp;with_reducible rfl);rotate_left;(simp only [Act.put,q1_,q2_,q3_,i64_w,i32_w];rfl)
          refine pu_ (i:=8) (N:=some 38) (v:=?_) (a':=?_) #[Y,Y,Y,Y,Y,Y,Y,Y,Y,Z,Z] rfl rfl HT_.out (by kernel_rfl) (fun _ _ _ h=>h) (by rfl) ?_ ?_ ?_;rotate_left;(intro w';go_simp;with_reducible rfl);rotate_left;(simp only [Act.put,q1_,q2_,q3_,i64_w,i32_w];rfl)
          refine ta_ (i:=9) (N:=some 39) (v:=?_) (a':=?_) #[Y,Y,Y,Y,Y,Y,Y,Y,Y,Y,Z] rfl rfl HT_.out HW_.out (by kernel_rfl) (fun _ _ _ h=>h) (by rfl) ?_ hHeld ?_ ?_;rotate_left;(rintro w' ⟨s0,s1,s2,s3,s4,s5⟩;go_simp;with_reducible rfl);rotate_left;(simp only [Act.put,q1_,q2_,q3_,i64_w,i32_w];rfl)
          refine pu_ (i:=10) (N:=some 40) (v:=?_) (a':=?_) #[Y,Y,Y,Y,Y,Y,Y,Y,Y,Y,Y] rfl rfl HT_.out (by kernel_rfl) (fun _ _ _ h=>h) (by rfl) ?_ ?_ ?_;rotate_left;(intro w';go_simp;with_reducible rfl);rotate_left;(simp only [Act.put,q1_,q2_,q3_,i64_w,i32_w];rfl)
          refine done_ (done_of HT_.out (by kernel_rfl)) ?_
          try go_wp2
          go_roundg k2
          case measure=>have:=HJ2.out;have:=HK2.out;omega
          case rel=>exact ⟨(wrap64 (x5_2 + 1)),(by first|rfl|(simp;done)|(simp [*];done)),H',⟨by have:=HJ2.out;have:=HK2.out;omega⟩,⟨by (with_reducible repeat (first|refine kd_ ?_ _|refine ke_ ?_|refine ka_ ?_ _));exact BK361.out⟩,⟨by (with_reducible repeat (first|refine kd_ ?_ _|refine ke_ ?_|refine ka_ ?_ _));exact BK362.out⟩,⟨by repeat (first|(with_reducible first|exact HB.out|apply ba_|apply bd_|apply be_|refine bs_ ?_ GE361.out|refine bs_ ?_ GE362.out)|exact HB.out)⟩⟩
         ·rw [if_neg c17] at H
          have c17b0 : ((rd l0_0 x5_2) == (rd l1_0 x5_2))=false:=beq_eq_false_iff_ne.mpr c17;have c17b1 : ((rd l0_0 x5_2) != (rd l1_0 x5_2))=true:=bne_iff_ne.mpr c17;obtain rfl:=Option.some.inj H;have hnb21:=NB361_362.out;have hnc21:=NB362_361.out;have z22_0 : wr.cell? ⟨gb361,0,none⟩=some (.slice A0_0 l0_0.length c0_0):=(bc_ BK361.out 0).trans rfl;have z22_1 : wr.cell? ⟨gb361,1,none⟩=some (.slice A0_1 l0_1.length c0_1):=(bc_ BK361.out 1).trans rfl;have y22_0:=bf_ BK361.out 0;have y22_1:=bf_ BK361.out 1
          try go_wp2
          have n0_:=A_ (ke_ BK361.out);have n1_:=A_ (ke_ BK362.out);have n2_:=A_ (be_ HB.out);clear BK361;clear BK362;clear HB;have BK361:=n0_;have BK362:=n1_;have HB:=n2_;clear n0_ n1_ n2_
          have p363 : 0≤(x5_2 : Int):=od_ (by first|(with_reducible assumption)|assumption)
          have q363 : x5_2<(l0_0.length : Int):=od_ (by first|(with_reducible assumption)|assumption)
          obtain ⟨ad363,e363,hx363_0⟩:=Kd.at_int HR0_0.out x5_2 p363 q363;have hw363_0:=hx363_0
          cases e363
          replace hx363_0:=(HB.out.cell (wb_ w _ hx363_0)).trans hx363_0;replace p363:=eq_true p363;replace q363:=eq_true q363
          have p364 : 0≤(x5_2 : Int):=od_ (by first|(with_reducible assumption)|assumption)
          have q364 : x5_2<(l1_0.length : Int):=od_ (by first|(with_reducible assumption)|assumption)
          obtain ⟨ad364,e364,hx364_0⟩:=Kd.at_int HR1_0.out x5_2 p364 q364;have hw364_0:=hx364_0
          cases e364
          replace hx364_0:=(HB.out.cell (wb_ w _ hx364_0)).trans hx364_0;replace p364:=eq_true p364;replace q364:=eq_true q364
          refine start_ (n:=11) (S:=fun w'=>w'.cell? ⟨gb361,0,none⟩=some (.slice (some ad363) l0_0.length c0_0)∧w'.cell? ⟨gb361,1,none⟩=some (.slice A0_1 l0_1.length c0_1)∧w'.cell? ⟨gb362,0,none⟩=some (.slice (some ad364) l1_0.length c1_0)∧w'.cell? ⟨gb362,1,none⟩=some (.slice A1_1 l1_1.length c1_1)∧w'.cell? (ad363.add (x5_2).toNat)=some (.int .i64 (rd l0_0 x5_2))∧w'.cell? (ad364.add (x5_2).toNat)=some (.int .i64 (rd l1_0 x5_2))) (ds:=[]) #[Z,Z,Z,Z,Z,Z,Z,Z,Z,Z,Z] (by kernel_rfl) rfl rfl ⟨(bc_ BK361.out 0).trans rfl,(bc_ BK361.out 1).trans rfl,(bc_ BK362.out 0).trans rfl,(bc_ BK362.out 1).trans rfl,((HB.out.cell (wb_ w _ hw363_0)).trans hw363_0),((HB.out.cell (wb_ w _ hw364_0)).trans hw364_0)⟩ (fun hHeld=>?_);refine with_tabW humusref08_Same.tab6 humusref08_Same.bits6 (fun HT_ HW_=>?_)
          generalize wr.drew=w23 at BK361 BK362 HB hx363_0 hx364_0 hHeld ⊢
          refine pu_ (i:=0) (N:=some 30) (v:=?_) (a':=?_) #[Y,Z,Z,Z,Z,Z,Z,Z,Z,Z,Z] rfl rfl HT_.out (by kernel_rfl) (fun _ _ _ h=>h) (by rfl) ?_ ?_ ?_;rotate_left;(intro w';go_simp;with_reducible rfl);rotate_left;(simp only [Act.put,q1_,q2_,q3_,i64_w,i32_w];rfl)
          refine pu_ (i:=2) (N:=some 32) (v:=?_) (a':=?_) #[Y,Z,Y,Z,Z,Z,Z,Z,Z,Z,Z] rfl rfl HT_.out (by kernel_rfl) (fun _ _ _ h=>h) (by rfl) ?_ ?_ ?_;rotate_left;(intro w';go_simp;with_reducible rfl);rotate_left;(simp only [Act.put,q1_,q2_,q3_,i64_w,i32_w];rfl)
          refine pu_ (i:=5) (N:=some 35) (v:=?_) (a':=?_) #[Y,Z,Y,Z,Z,Y,Z,Z,Z,Z,Z] rfl rfl HT_.out (by kernel_rfl) (fun _ _ _ h=>h) (by rfl) ?_ ?_ ?_;rotate_left;(intro w';go_simp;with_reducible rfl);rotate_left;(simp only [Act.put,q1_,q2_,q3_,i64_w,i32_w];rfl)
          refine pu_ (i:=7) (N:=some 37) (v:=?_) (a':=?_) #[Y,Z,Y,Z,Z,Y,Z,Y,Z,Z,Z] rfl rfl HT_.out (by kernel_rfl) (fun _ _ _ h=>h) (by rfl) ?_ ?_ ?_;rotate_left;(intro w';go_simp;with_reducible rfl);rotate_left;(simp only [Act.put,q1_,q2_,q3_,i64_w,i32_w];rfl)
          refine ta_ (i:=1) (N:=some 31) (v:=?_) (a':=?_) #[Y,Y,Y,Z,Z,Y,Z,Y,Z,Z,Z] rfl rfl HT_.out HW_.out (by kernel_rfl) (fun _ _ _ h=>h) (by rfl) ?_ hHeld ?_ ?_;rotate_left;(rintro w' ⟨s0,s1,s2,s3,s4,s5⟩;go_simp;with_reducible rfl);rotate_left;(simp only [Act.put,q1_,q2_,q3_,i64_w,i32_w];rfl)
          refine pu_ (i:=3) (N:=some 33) (v:=?_) (a':=?_) #[Y,Y,Y,Y,Z,Y,Z,Y,Z,Z,Z] rfl rfl HT_.out (by kernel_rfl) (fun _ _ _ h=>h) (by rfl) ?_ ?_ ?_;rotate_left;(intro w';go_simp;with_reducible rfl);rotate_left;(simp only [Act.put,q1_,q2_,q3_,i64_w,i32_w];rfl)
          refine ta_ (i:=4) (N:=some 34) (v:=?_) (a':=?_) #[Y,Y,Y,Y,Y,Y,Z,Y,Z,Z,Z] rfl rfl HT_.out HW_.out (by kernel_rfl) (fun _ _ _ h=>h) (by rfl) ?_ hHeld ?_ ?_;rotate_left;(rintro w' ⟨s0,s1,s2,s3,s4,s5⟩;go_simp;with_reducible rfl);rotate_left;(simp only [Act.put,q1_,q2_,q3_,i64_w,i32_w];rfl)
          refine ta_ (i:=6) (N:=some 36) (v:=?_) (a':=?_) #[Y,Y,Y,Y,Y,Y,Y,Y,Z,Z,Z] rfl rfl HT_.out HW_.out (by kernel_rfl) (fun _ _ _ h=>h) (by rfl) ?_ hHeld ?_ ?_;rotate_left;(rintro w' ⟨s0,s1,s2,s3,s4,s5⟩;go_simp;with_reducible rfl);rotate_left;(simp only [Act.put,q1_,q2_,q3_,i64_w,i32_w];rfl)
          refine pu_ (i:=8) (N:=some 38) (v:=?_) (a':=?_) #[Y,Y,Y,Y,Y,Y,Y,Y,Y,Z,Z] rfl rfl HT_.out (by kernel_rfl) (fun _ _ _ h=>h) (by rfl) ?_ ?_ ?_;rotate_left;(intro w';go_simp;with_reducible rfl);rotate_left;(simp only [Act.put,q1_,q2_,q3_,i64_w,i32_w];rfl)
          refine ta_ (i:=9) (N:=some 39) (v:=?_) (a':=?_) #[Y,Y,Y,Y,Y,Y,Y,Y,Y,Y,Z] rfl rfl HT_.out HW_.out (by kernel_rfl) (fun _ _ _ h=>h) (by rfl) ?_ hHeld ?_ ?_;rotate_left;(rintro w' ⟨s0,s1,s2,s3,s4,s5⟩;go_simp;with_reducible rfl);rotate_left;(simp only [Act.put,q1_,q2_,q3_,i64_w,i32_w];rfl)
          refine pu_ (i:=10) (N:=some 40) (v:=?_) (a':=?_) #[Y,Y,Y,Y,Y,Y,Y,Y,Y,Y,Y] rfl rfl HT_.out (by kernel_rfl) (fun _ _ _ h=>h) (by rfl) ?_ ?_ ?_;rotate_left;(intro w';go_simp;with_reducible rfl);rotate_left;(simp only [Act.put,q1_,q2_,q3_,i64_w,i32_w];rfl)
          refine done_ (done_of HT_.out (by kernel_rfl)) ?_
          try go_wp2
          go_ret
          exact ⟨by first|rfl|(simp [errW_none,errW_some] <;> rfl)|(simp [*,errW_none,errW_some] <;> rfl),by repeat (first|(with_reducible first|exact HB.out|apply ba_|apply bd_|apply be_|refine bs_ ?_ GE361.out|refine bs_ ?_ GE362.out)|exact HB.out)⟩
        ·rw [if_neg c16] at H
         exact absurd H (by simp)
       ·rw [if_neg c15] at H
        exact absurd H (by simp)
      ·rw [if_neg c14] at H
       have c14b0 : decide (x5_2<(l0_0.length : Int))=false:=df_ c14;clear c14;have H':=A_ H;clear H;have hnb24:=NB361_362.out;have hnc24:=NB362_361.out;have z25_0 : wr.cell? ⟨gb361,0,none⟩=some (.slice A0_0 l0_0.length c0_0):=(bc_ BK361.out 0).trans rfl;have z25_1 : wr.cell? ⟨gb361,1,none⟩=some (.slice A0_1 l0_1.length c0_1):=(bc_ BK361.out 1).trans rfl;have y25_0:=bf_ BK361.out 0;have y25_1:=bf_ BK361.out 1;go_wp2
       go_loopg [6] k2 (fun kq v6 w'=>∃ (x6_3 : Int),v6=.int .i64 x6_3∧Aside0 (humusref08_Same.l1 kq x6_3 l0_0 l0_1 l1_0 l1_1=some r)∧Aside0 (kq≤k2)∧Aside0 (w'.heap[gb361]?=some (.cells #[(.slice A0_0 l0_0.length c0_0),(.slice A0_1 l0_1.length c0_1)] 27 (0,0)))∧Aside0 (w'.heap[gb362]?=some (.cells #[(.slice A1_0 l1_0.length c1_0),(.slice A1_1 l1_1.length c1_1)] 27 (0,0)))∧Aside0 (Below w.heap.size w w'))
       case atStart=>exact ⟨(0),(by first|rfl|(simp;done)|(simp [*];done)),H',⟨Nat.le_refl _⟩,⟨by (with_reducible repeat (first|refine kd_ ?_ _|refine ke_ ?_|refine ka_ ?_ _));exact BK361.out⟩,⟨by (with_reducible repeat (first|refine kd_ ?_ _|refine ke_ ?_|refine ka_ ?_ _));exact BK362.out⟩,⟨by repeat (first|(with_reducible first|exact HB.out|apply ba_|apply bd_|apply be_|refine bs_ ?_ GE361.out|refine bs_ ?_ GE362.out)|exact HB.out)⟩⟩
       case round =>
        clear H';(try clear c1);(try clear c2);(try clear p2);(try clear p3);(try clear q3);(try clear hx3);(try clear c6);(try clear c6b0);(try clear c6b1);(try clear c6b2);(try clear p6);(try clear c7);(try clear c10);(try clear c11);(try clear c13);(try clear c14);(try clear c14b0);(try clear c15);(try clear c15b0);(try clear c16);(try clear c16b0);(try clear c17);(try clear c17b0);(try clear c17b1);(try clear c18);(try clear c21);(try clear c24);(try clear hx363_0);(try clear hx364_0);(try clear p2);(try clear p363);(try clear p364);(try clear q363);(try clear q364);(try clear z11_0 z11_1 z12_0 z12_1 z19_0 z19_1 z22_0 z22_1 z25_0 z25_1 z8_0 z8_1 z9_0 z9_1 y11_0 y11_1 y12_0 y12_1 y19_0 y19_1 y22_0 y22_1 y25_0 y25_1 y8_0 y8_1 y9_0 y9_1);obtain ⟨x6_3,rfl,HA,HK3,BK361,BK362,HB⟩:=hrel
        cases gk with
        | zero=>exact absurd HA.out (by simp [humusref08_Same.l1])
        | succ k3 =>
         have H:=HA.out;clear HA
         simp only [humusref08_Same.l1] at H
         by_cases c26 : x6_3<(l0_1.length : Int)
         ·rw [if_pos c26] at H
          have c26b0 : decide (x6_3<(l0_1.length : Int))=true:=dt_ c26;clear c26
          by_cases c27 : 0≤x6_3
          ·rw [if_pos c27] at H
           have c27b0 : decide (0≤x6_3)=true:=dt_ c27;clear c27
           by_cases c28 : x6_3<(l1_1.length : Int)
           ·rw [if_pos c28] at H
            have c28b0 : decide (x6_3<(l1_1.length : Int))=true:=dt_ c28;clear c28
            by_cases c29 : (strOfNums (rd_L2 l0_1 x6_3)).toList=(strOfNums (rd_L2 l1_1 x6_3)).toList
            ·rw [if_pos c29] at H
             have c29b0 : ((strOfNums (rd_L2 l0_1 x6_3)).toList == (strOfNums (rd_L2 l1_1 x6_3)).toList)=true:=beq_iff_eq.mpr c29;have c29b1 : ((strOfNums (rd_L2 l0_1 x6_3)).toList != (strOfNums (rd_L2 l1_1 x6_3)).toList)=false:=bne_eq_false_iff_eq.mpr c29;clear c29;have H':=A_ H;clear H;have hnb30:=NB361_362.out;have hnc30:=NB362_361.out;have z31_0 : wr.cell? ⟨gb361,0,none⟩=some (.slice A0_0 l0_0.length c0_0):=(bc_ BK361.out 0).trans rfl;have z31_1 : wr.cell? ⟨gb361,1,none⟩=some (.slice A0_1 l0_1.length c0_1):=(bc_ BK361.out 1).trans rfl;have y31_0:=bf_ BK361.out 0;have y31_1:=bf_ BK361.out 1
             try go_wp2
             have n0_:=A_ (ke_ BK361.out);have n1_:=A_ (ke_ BK362.out);have n2_:=A_ (be_ HB.out);clear BK361;clear BK362;clear HB;have BK361:=n0_;have BK362:=n1_;have HB:=n2_;clear n0_ n1_ n2_
             have p365 : 0≤(x6_3 : Int):=od_ (by first|(with_reducible assumption)|assumption)
             have q365 : x6_3<(l0_1.length : Int):=od_ (by first|(with_reducible assumption)|assumption)
             obtain ⟨ad365,A365_0,c365_0,e365,hx365_0,hl365_0,hi365_0⟩:=at_L2 HR0_1.out x6_3 p365 q365;have hw365_0:=hx365_0
             cases e365
             replace hx365_0:=(HB.out.cell (wb_ w _ hx365_0)).trans hx365_0;have HR365_0:=A_ hi365_0;have HC365_0:=A_ hl365_0;clear hi365_0 hl365_0;replace p365:=eq_true p365;replace q365:=eq_true q365
             have p366 : 0≤(x6_3 : Int):=od_ (by first|(with_reducible assumption)|assumption)
             have q366 : x6_3<(l1_1.length : Int):=od_ (by first|(with_reducible assumption)|assumption)
             obtain ⟨ad366,A366_0,c366_0,e366,hx366_0,hl366_0,hi366_0⟩:=at_L2 HR1_1.out x6_3 p366 q366;have hw366_0:=hx366_0
             cases e366
             replace hx366_0:=(HB.out.cell (wb_ w _ hx366_0)).trans hx366_0;have HR366_0:=A_ hi366_0;have HC366_0:=A_ hl366_0;clear hi366_0 hl366_0;replace p366:=eq_true p366;replace q366:=eq_true q366
             refine start_ (n:=13) (S:=fun w'=>w'.cell? ⟨gb361,0,none⟩=some (.slice A0_0 l0_0.length c0_0)∧w'.cell? ⟨gb361,1,none⟩=some (.slice (some ad365) l0_1.length c0_1)∧w'.cell? ⟨gb362,0,none⟩=some (.slice A1_0 l1_0.length c1_0)∧w'.cell? ⟨gb362,1,none⟩=some (.slice (some ad366) l1_1.length c1_1)∧w'.cell? (ad365.add (x6_3).toNat)=some (.slice A365_0 (rd_L2 l0_1 x6_3).length c365_0)∧(convert 22 9 (.slice A365_0 (rd_L2 l0_1 x6_3).length c365_0)).run Try.prog w'=.ok (.string (strOfNums (rd_L2 l0_1 x6_3))) w'∧w'.cell? (ad366.add (x6_3).toNat)=some (.slice A366_0 (rd_L2 l1_1 x6_3).length c366_0)∧(convert 22 9 (.slice A366_0 (rd_L2 l1_1 x6_3).length c366_0)).run Try.prog w'=.ok (.string (strOfNums (rd_L2 l1_1 x6_3))) w') (ds:=[]) #[Z,Z,Z,Z,Z,Z,Z,Z,Z,Z,Z,Z,Z] (by kernel_rfl) rfl rfl ⟨(bc_ BK361.out 0).trans rfl,(bc_ BK361.out 1).trans rfl,(bc_ BK362.out 0).trans rfl,(bc_ BK362.out 1).trans rfl,((HB.out.cell (wb_ w _ hw365_0)).trans hw365_0),Kd.C_string (P:=Try.prog) (A:=A365_0) (c:=c365_0) Try.underlying22 Try.underlying5 Try.underlying9 (Kd.C_below HR365_0.out HB.out),((HB.out.cell (wb_ w _ hw366_0)).trans hw366_0),Kd.C_string (P:=Try.prog) (A:=A366_0) (c:=c366_0) Try.underlying22 Try.underlying5 Try.underlying9 (Kd.C_below HR366_0.out HB.out)⟩ (fun hHeld=>?_);refine with_tabW humusref08_Same.tab11 humusref08_Same.bits11 (fun HT_ HW_=>?_)
             generalize wr.drew=w32 at BK361 BK362 HB HR365_0 HR366_0 hx365_0 hx366_0 hHeld ⊢
             refine pu_ (i:=0) (N:=some 48) (v:=?_) (a':=?_) #[Y,Z,Z,Z,Z,Z,Z,Z,Z,Z,Z,Z,Z] rfl rfl HT_.out (by kernel_rfl) (fun _ _ _ h=>h) (by rfl) ?_ ?_ ?_;rotate_left;(intro w';go_simp;with_reducible rfl);rotate_left;(simp only [Act.put,q1_,q2_,q3_,i64_w,i32_w];rfl)
             refine pu_ (i:=2) (N:=some 50) (v:=?_) (a':=?_) #[Y,Z,Y,Z,Z,Z,Z,Z,Z,Z,Z,Z,Z] rfl rfl HT_.out (by kernel_rfl) (fun _ _ _ h=>h) (by rfl) ?_ ?_ ?_;rotate_left;(intro w';go_simp;with_reducible rfl);rotate_left;(simp only [Act.put,q1_,q2_,q3_,i64_w,i32_w];rfl)
             refine pu_ (i:=6) (N:=some 54) (v:=?_) (a':=?_) #[Y,Z,Y,Z,Z,Z,Y,Z,Z,Z,Z,Z,Z] rfl rfl HT_.out (by kernel_rfl) (fun _ _ _ h=>h) (by rfl) ?_ ?_ ?_;rotate_left;(intro w';go_simp;with_reducible rfl);rotate_left;(simp only [Act.put,q1_,q2_,q3_,i64_w,i32_w];rfl)
             refine pu_ (i:=8) (N:=some 56) (v:=?_) (a':=?_) #[Y,Z,Y,Z,Z,Z,Y,Z,Y,Z,Z,Z,Z] rfl rfl HT_.out (by kernel_rfl) (fun _ _ _ h=>h) (by rfl) ?_ ?_ ?_;rotate_left;(intro w';go_simp;with_reducible rfl);rotate_left;(simp only [Act.put,q1_,q2_,q3_,i64_w,i32_w];rfl)
             refine ta_ (i:=1) (N:=some 49) (v:=?_) (a':=?_) #[Y,Y,Y,Z,Z,Z,Y,Z,Y,Z,Z,Z,Z] rfl rfl HT_.out HW_.out (by kernel_rfl) (fun _ _ _ h=>h) (by rfl) ?_ hHeld ?_ ?_;rotate_left;(rintro w' ⟨s0,s1,s2,s3,s4,s5,s6,s7⟩;go_simp;with_reducible rfl);rotate_left;(simp only [Act.put,q1_,q2_,q3_,i64_w,i32_w];rfl)
             refine pu_ (i:=3) (N:=some 51) (v:=?_) (a':=?_) #[Y,Y,Y,Y,Z,Z,Y,Z,Y,Z,Z,Z,Z] rfl rfl HT_.out (by kernel_rfl) (fun _ _ _ h=>h) (by rfl) ?_ ?_ ?_;rotate_left;(intro w';go_simp;with_reducible rfl);rotate_left;(simp only [Act.put,q1_,q2_,q3_,i64_w,i32_w];rfl)
             refine ta_ (i:=4) (N:=some 52) (v:=?_) (a':=?_) #[Y,Y,Y,Y,Y,Z,Y,Z,Y,Z,Z,Z,Z] rfl rfl HT_.out HW_.out (by kernel_rfl) (fun _ _ _ h=>h) (by rfl) ?_ hHeld ?_ ?_;rotate_left;(rintro w' ⟨s0,s1,s2,s3,s4,s5,s6,s7⟩;go_simp;with_reducible rfl);rotate_left;(simp only [Act.put,q1_,q2_,q3_,i64_w,i32_w];rfl)
             refine ta_ (i:=5) (N:=some 53) (v:=?_) (a':=?_) #[Y,Y,Y,Y,Y,Y,Y,Z,Y,Z,Z,Z,Z] rfl rfl HT_.out HW_.out (by kernel_rfl) (fun _ _ _ h=>h) (by rfl) ?_ hHeld ?_ ?_;rotate_left;(rintro w' ⟨s0,s1,s2,s3,s4,s5,s6,s7⟩;go_simp;with_reducible rfl);rotate_left;(simp only [Act.put,q1_,q2_,q3_,i64_w,i32_w];rfl)
             refine ta_ (i:=7) (N:=some 55) (v:=?_) (a':=?_) #[Y,Y,Y,Y,Y,Y,Y,Y,Y,Z,Z,Z,Z] rfl rfl HT_.out HW_.out (by kernel_rfl) (fun _ _ _ h=>h) (by rfl) ?_ hHeld ?_ ?_;rotate_left;(rintro w' ⟨s0,s1,s2,s3,s4,s5,s6,s7⟩;go_simp;with_reducible rfl);rotate_left;(simp only [Act.put,q1_,q2_,q3_,i64_w,i32_w];rfl)
             refine pu_ (i:=9) (N:=some 57) (v:=?_) (a':=?_) #[Y,Y,Y,Y,Y,Y,Y,Y,Y,Y,Z,Z,Z] rfl rfl HT_.out (by kernel_rfl) (fun _ _ _ h=>h) (by rfl) ?_ ?_ ?_;rotate_left;(intro w';go_simp;with_reducible rfl);rotate_left;(simp only [Act.put,q1_,q2_,q3_,i64_w,i32_w];rfl)
             refine ta_ (i:=10) (N:=some 58) (v:=?_) (a':=?_) #[Y,Y,Y,Y,Y,Y,Y,Y,Y,Y,Y,Z,Z] rfl rfl HT_.out HW_.out (by kernel_rfl) (fun _ _ _ h=>h) (by rfl) ?_ hHeld ?_ ?_;rotate_left;(rintro w' ⟨s0,s1,s2,s3,s4,s5,s6,s7⟩;go_simp;with_reducible rfl);rotate_left;(simp only [Act.put,q1_,q2_,q3_,i64_w,i32_w];rfl)
             refine ta_ (i:=11) (N:=some 59) (v:=?_) (a':=?_) #[Y,Y,Y,Y,Y,Y,Y,Y,Y,Y,Y,Y,Z] rfl rfl HT_.out HW_.out (by kernel_rfl) (fun _ _ _ h=>h) (by rfl) ?_ hHeld ?_ ?_;rotate_left;(rintro w' ⟨s0,s1,s2,s3,s4,s5,s6,s7⟩;go_simp;with_reducible rfl);rotate_left;(simp only [Act.put,q1_,q2_,q3_,i64_w,i32_w];rfl)
             refine pu_ (i:=12) (N:=some 60) (v:=?_) (a':=?_) #[Y,Y,Y,Y,Y,Y,Y,Y,Y,Y,Y,Y,Y] rfl rfl HT_.out (by kernel_rfl) (fun _ _ _ h=>h) (by rfl) ?_ ?_ ?_;rotate_left;(intro w';go_simp;with_reducible rfl);rotate_left;(simp only [Act.put,q1_,q2_,q3_,i64_w,i32_w];rfl)
             refine done_ (done_of HT_.out (by kernel_rfl)) ?_
             try go_wp2
             go_roundg k3
             case measure=>have:=HJ2.out;have:=HK2.out;have:=HK3.out;omega
             case rel=>exact ⟨(wrap64 (x6_3 + 1)),(by first|rfl|(simp;done)|(simp [*];done)),H',⟨by have:=HJ2.out;have:=HK2.out;have:=HK3.out;omega⟩,⟨by (with_reducible repeat (first|refine kd_ ?_ _|refine ke_ ?_|refine ka_ ?_ _));exact BK361.out⟩,⟨by (with_reducible repeat (first|refine kd_ ?_ _|refine ke_ ?_|refine ka_ ?_ _));exact BK362.out⟩,⟨by repeat (first|(with_reducible first|exact HB.out|apply ba_|apply bd_|apply be_|refine bs_ ?_ GE361.out|refine bs_ ?_ GE362.out)|exact HB.out)⟩⟩
            ·rw [if_neg c29] at H
             have c29b0 : ((strOfNums (rd_L2 l0_1 x6_3)).toList == (strOfNums (rd_L2 l1_1 x6_3)).toList)=false:=beq_eq_false_iff_ne.mpr c29;have c29b1 : ((strOfNums (rd_L2 l0_1 x6_3)).toList != (strOfNums (rd_L2 l1_1 x6_3)).toList)=true:=bne_iff_ne.mpr c29;obtain rfl:=Option.some.inj H;have hnb33:=NB361_362.out;have hnc33:=NB362_361.out;have z34_0 : wr.cell? ⟨gb361,0,none⟩=some (.slice A0_0 l0_0.length c0_0):=(bc_ BK361.out 0).trans rfl;have z34_1 : wr.cell? ⟨gb361,1,none⟩=some (.slice A0_1 l0_1.length c0_1):=(bc_ BK361.out 1).trans rfl;have y34_0:=bf_ BK361.out 0;have y34_1:=bf_ BK361.out 1
             try go_wp2
             have n0_:=A_ (ke_ BK361.out);have n1_:=A_ (ke_ BK362.out);have n2_:=A_ (be_ HB.out);clear BK361;clear BK362;clear HB;have BK361:=n0_;have BK362:=n1_;have HB:=n2_;clear n0_ n1_ n2_
             have p365 : 0≤(x6_3 : Int):=od_ (by first|(with_reducible assumption)|assumption)
             have q365 : x6_3<(l0_1.length : Int):=od_ (by first|(with_reducible assumption)|assumption)
             obtain ⟨ad365,A365_0,c365_0,e365,hx365_0,hl365_0,hi365_0⟩:=at_L2 HR0_1.out x6_3 p365 q365;have hw365_0:=hx365_0
             cases e365
             replace hx365_0:=(HB.out.cell (wb_ w _ hx365_0)).trans hx365_0;have HR365_0:=A_ hi365_0;have HC365_0:=A_ hl365_0;clear hi365_0 hl365_0;replace p365:=eq_true p365;replace q365:=eq_true q365
             have p366 : 0≤(x6_3 : Int):=od_ (by first|(with_reducible assumption)|assumption)
             have q366 : x6_3<(l1_1.length : Int):=od_ (by first|(with_reducible assumption)|assumption)
             obtain ⟨ad366,A366_0,c366_0,e366,hx366_0,hl366_0,hi366_0⟩:=at_L2 HR1_1.out x6_3 p366 q366;have hw366_0:=hx366_0
             cases e366
             replace hx366_0:=(HB.out.cell (wb_ w _ hx366_0)).trans hx366_0;have HR366_0:=A_ hi366_0;have HC366_0:=A_ hl366_0;clear hi366_0 hl366_0;replace p366:=eq_true p366;replace q366:=eq_true q366
             refine start_ (n:=13) (S:=fun w'=>w'.cell? ⟨gb361,0,none⟩=some (.slice A0_0 l0_0.length c0_0)∧w'.cell? ⟨gb361,1,none⟩=some (.slice (some ad365) l0_1.length c0_1)∧w'.cell? ⟨gb362,0,none⟩=some (.slice A1_0 l1_0.length c1_0)∧w'.cell? ⟨gb362,1,none⟩=some (.slice (some ad366) l1_1.length c1_1)∧w'.cell? (ad365.add (x6_3).toNat)=some (.slice A365_0 (rd_L2 l0_1 x6_3).length c365_0)∧(convert 22 9 (.slice A365_0 (rd_L2 l0_1 x6_3).length c365_0)).run Try.prog w'=.ok (.string (strOfNums (rd_L2 l0_1 x6_3))) w'∧w'.cell? (ad366.add (x6_3).toNat)=some (.slice A366_0 (rd_L2 l1_1 x6_3).length c366_0)∧(convert 22 9 (.slice A366_0 (rd_L2 l1_1 x6_3).length c366_0)).run Try.prog w'=.ok (.string (strOfNums (rd_L2 l1_1 x6_3))) w') (ds:=[]) #[Z,Z,Z,Z,Z,Z,Z,Z,Z,Z,Z,Z,Z] (by kernel_rfl) rfl rfl ⟨(bc_ BK361.out 0).trans rfl,(bc_ BK361.out 1).trans rfl,(bc_ BK362.out 0).trans rfl,(bc_ BK362.out 1).trans rfl,((HB.out.cell (wb_ w _ hw365_0)).trans hw365_0),Kd.C_string (P:=Try.prog) (A:=A365_0) (c:=c365_0) Try.underlying22 Try.underlying5 Try.underlying9 (Kd.C_below HR365_0.out HB.out),((HB.out.cell (wb_ w _ hw366_0)).trans hw366_0),Kd.C_string (P:=Try.prog) (A:=A366_0) (c:=c366_0) Try.underlying22 Try.underlying5 Try.underlying9 (Kd.C_below HR366_0.out HB.out)⟩ (fun hHeld=>?_);refine with_tabW humusref08_Same.tab11 humusref08_Same.bits11 (fun HT_ HW_=>?_)
             generalize wr.drew=w35 at BK361 BK362 HB HR365_0 HR366_0 hx365_0 hx366_0 hHeld ⊢
             refine pu_ (i:=0) (N:=some 48) (v:=?_) (a':=?_) #[Y,Z,Z,Z,Z,Z,Z,Z,Z,Z,Z,Z,Z] rfl rfl HT_.out (by kernel_rfl) (fun _ _ _ h=>h) (by rfl) ?_ ?_ ?_;rotate_left;(intro w';go_simp;with_reducible rfl);rotate_left;(simp only [Act.put,q1_,q2_,q3_,i64_w,i32_w];rfl)
             refine pu_ (i:=2) (N:=some 50) (v:=?_) (a':=?_) #[Y,Z,Y,Z,Z,Z,Z,Z,Z,Z,Z,Z,Z] rfl rfl HT_.out (by kernel_rfl) (fun _ _ _ h=>h) (by rfl) ?_ ?_ ?_;rotate_left;(intro w';go_simp;with_reducible rfl);rotate_left;(simp only [Act.put,q1_,q2_,q3_,i64_w,i32_w];rfl)
             refine pu_ (i:=6) (N:=some 54) (v:=?_) (a':=?_) #[Y,Z,Y,Z,Z,Z,Y,Z,Z,Z,Z,Z,Z] rfl rfl HT_.out (by kernel_rfl) (fun _ _ _ h=>h) (by rfl) ?_ ?_ ?_;rotate_left;(intro w';go_simp;with_reducible rfl);rotate_left;(simp only [Act.put,q1_,q2_,q3_,i64_w,i32_w];rfl)
             refine pu_ (i:=8) (N:=some 56) (v:=?_) (a':=?_) #[Y,Z,Y,Z,Z,Z,Y,Z,Y,Z,Z,Z,Z] rfl rfl HT_.out (by kernel_rfl) (fun _ _ _ h=>h) (by rfl) ?_ ?_ ?_;rotate_left;(intro w';go_simp;with_reducible rfl);rotate_left;(simp only [Act.put,q1_,q2_,q3_,i64_w,i32_w];rfl)
             refine ta_ (i:=1) (N:=some 49) (v:=?_) (a':=?_) #[Y,Y,Y,Z,Z,Z,Y,Z,Y,Z,Z,Z,Z] rfl rfl HT_.out HW_.out (by kernel_rfl) (fun _ _ _ h=>h) (by rfl) ?_ hHeld ?_ ?_;rotate_left;(rintro w' ⟨s0,s1,s2,s3,s4,s5,s6,s7⟩;go_simp;with_reducible rfl);rotate_left;(simp only [Act.put,q1_,q2_,q3_,i64_w,i32_w];rfl)
             refine pu_ (i:=3) (N:=some 51) (v:=?_) (a':=?_) #[Y,Y,Y,Y,Z,Z,Y,Z,Y,Z,Z,Z,Z] rfl rfl HT_.out (by kernel_rfl) (fun _ _ _ h=>h) (by rfl) ?_ ?_ ?_;rotate_left;(intro w';go_simp;with_reducible rfl);rotate_left;(simp only [Act.put,q1_,q2_,q3_,i64_w,i32_w];rfl)
             refine ta_ (i:=4) (N:=some 52) (v:=?_) (a':=?_) #[Y,Y,Y,Y,Y,Z,Y,Z,Y,Z,Z,Z,Z] rfl rfl HT_.out HW_.out (by kernel_rfl) (fun _ _ _ h=>h) (by rfl) ?_ hHeld ?_ ?_;rotate_left;(rintro w' ⟨s0,s1,s2,s3,s4,s5,s6,s7⟩;go_simp;with_reducible rfl);rotate_left;(simp only [Act.put,q1_,q2_,q3_,i64_w,i32_w];rfl)
             refine ta_ (i:=5) (N:=some 53) (v:=?_) (a':=?_) #[Y,Y,Y,Y,Y,Y,Y,Z,Y,Z,Z,Z,Z] rfl rfl HT_.out HW_.out (by kernel_rfl) (fun _ _ _ h=>h) (by rfl) ?_ hHeld ?_ ?_;rotate_left;(rintro w' ⟨s0,s1,s2,s3,s4,s5,s6,s7⟩;go_simp;with_reducible rfl);rotate_left;(simp only [Act.put,q1_,q2_,q3_,i64_w,i32_w];rfl)
             refine ta_ (i:=7) (N:=some 55) (v:=?_) (a':=?_) #[Y,Y,Y,Y,Y,Y,Y,Y,Y,Z,Z,Z,Z] rfl rfl HT_.out HW_.out (by kernel_rfl) (fun _ _ _ h=>h) (by rfl) ?_ hHeld ?_ ?_;rotate_left;(rintro w' ⟨s0,s1,s2,s3,s4,s5,s6,s7⟩;go_simp;with_reducible rfl);rotate_left;(simp only [Act.put,q1_,q2_,q3_,i64_w,i32_w];rfl)
             refine pu_ (i:=9) (N:=some 57) (v:=?_) (a':=?_) #[Y,Y,Y,Y,Y,Y,Y,Y,Y,Y,Z,Z,Z] rfl rfl HT_.out (by kernel_rfl) (fun _ _ _ h=>h) (by rfl) ?_ ?_ ?_;rotate_left;(intro w';go_simp;with_reducible rfl);rotate_left;(simp only [Act.put,q1_,q2_,q3_,i64_w,i32_w];rfl)
             refine ta_ (i:=10) (N:=some 58) (v:=?_) (a':=?_) #[Y,Y,Y,Y,Y,Y,Y,Y,Y,Y,Y,Z,Z] rfl rfl HT_.out HW_.out (by kernel_rfl) (fun _ _ _ h=>h) (by rfl) ?_ hHeld ?_ ?_;rotate_left;(rintro w' ⟨s0,s1,s2,s3,s4,s5,s6,s7⟩;go_simp;with_reducible rfl);rotate_left;(simp only [Act.put,q1_,q2_,q3_,i64_w,i32_w];rfl)
             refine ta_ (i:=11) (N:=some 59) (v:=?_) (a':=?_) #[Y,Y,Y,Y,Y,Y,Y,Y,Y,Y,Y,Y,Z] rfl rfl HT_.out HW_.out (by kernel_rfl) (fun _ _ _ h=>h) (by rfl) ?_ hHeld ?_ ?_;rotate_left;(rintro w' ⟨s0,s1,s2,s3,s4,s5,s6,s7⟩;go_simp;with_reducible rfl);rotate_left;(simp only [Act.put,q1_,q2_,q3_,i64_w,i32_w];rfl)
             refine pu_ (i:=12) (N:=some 60) (v:=?_) (a':=?_) #[Y,Y,Y,Y,Y,Y,Y,Y,Y,Y,Y,Y,Y] rfl rfl HT_.out (by kernel_rfl) (fun _ _ _ h=>h) (by rfl) ?_ ?_ ?_;rotate_left;(intro w';go_simp;with_reducible rfl);rotate_left;(simp only [Act.put,q1_,q2_,q3_,i64_w,i32_w];rfl)
             refine done_ (done_of HT_.out (by kernel_rfl)) ?_
             try go_wp2
             go_ret
             exact ⟨by first|rfl|(simp [errW_none,errW_some] <;> rfl)|(simp [*,errW_none,errW_some] <;> rfl),by repeat (first|(with_reducible first|exact HB.out|apply ba_|apply bd_|apply be_|refine bs_ ?_ GE361.out|refine bs_ ?_ GE362.out)|exact HB.out)⟩
           ·rw [if_neg c28] at H
            exact absurd H (by simp)
          ·rw [if_neg c27] at H
           exact absurd H (by simp)
         ·rw [if_neg c26] at H
          have c26b0 : decide (x6_3<(l0_1.length : Int))=false:=df_ c26;clear c26;obtain rfl:=Option.some.inj H;have hnb36:=NB361_362.out;have hnc36:=NB362_361.out;have z37_0 : wr.cell? ⟨gb361,0,none⟩=some (.slice A0_0 l0_0.length c0_0):=(bc_ BK361.out 0).trans rfl;have z37_1 : wr.cell? ⟨gb361,1,none⟩=some (.slice A0_1 l0_1.length c0_1):=(bc_ BK361.out 1).trans rfl;have y37_0:=bf_ BK361.out 0;have y37_1:=bf_ BK361.out 1;go_wp2;go_ret
          exact ⟨by first|rfl|(simp [errW_none,errW_some] <;> rfl)|(simp [*,errW_none,errW_some] <;> rfl),by repeat (first|(with_reducible first|exact HB.out|apply ba_|apply bd_|apply be_|refine bs_ ?_ GE361.out|refine bs_ ?_ GE362.out)|exact HB.out)⟩
mutual
def humuslaw08_Light.l0 : Nat→Int→List Int→List (List Int)→Option (Bool)
 | 0,_,_,_=>none
 | k + 1,x3,x368000,x368001=>if x3<(x368001.length : Int) then (humuslaw08_Light.j1 k x3 (decide (x3<80)) x368000 x368001) else (humuslaw08_Light.j1 k x3 false x368000 x368001)
def humuslaw08_Light.j1 : Nat→Int→Bool→List Int→List (List Int)→Option (Bool)
 | 0,_,_,_,_=>none
 | k + 1,x3,x12,x368000,x368001=>if x12=true then (if 0≤x3 then (if x3<(x368001.length : Int) then (if ((rd_L2 x368001 x3).length : Int) > 600 then (some false) else (humuslaw08_Light.l0 k (wrap64 (x3 + 1)) x368000 x368001)) else (none)) else (none)) else (if (x368001.length : Int)≤80 then (some (decide ((x368000.length : Int)≤20))) else (some false))
end
def humuslaw08_Light.f (k : Nat) (l0_0 : List Int) (l0_1 : List (List Int)) : Option (Bool):=humuslaw08_Light.l0 k 0 l0_0 l0_1
set_option maxHeartbeats 8000000 in
set_option maxRecDepth 100000 in
theorem humuslaw08_Light.calls (k : Nat) (A0_0 : Option Addr) (c0_0 : Nat) (l0_0 : List Int) (A0_1 : Option Addr) (c0_1 : Nat) (l0_1 : List (List Int)) (r : Bool) (w : World) (hr0_0 : Kd.C (Kd.int .i64) w A0_0 l0_0.length l0_0) (hc0_0 : l0_0.length≤c0_0) (hr0_1 : Kd.C (Kd.slice 5 (Kd.int .u8)) w A0_1 l0_1.length l0_1) (hc0_1 : l0_1.length≤c0_1) (h : humuslaw08_Light.f k l0_0 l0_1=some r) :
  Calls Try.prog 12 #[.agg #[.slice A0_0 l0_0.length c0_0,.slice A0_1 l0_1.length c0_1]] w fun e w'=>e=.returned (.bool r)∧Below w.heap.size w w':=by
 have hu27:=Try.underlying27;have HR0_0:=A_ hr0_0;have HC0_0:=A_ hc0_0;clear hr0_0 hc0_0;have HR0_1:=A_ hr0_1;have HC0_1:=A_ hc0_1;clear hr0_1 hc0_1;have HB:=A_ (Below.refl w.heap.size w);have H : (humuslaw08_Light.l0 k 0 l0_0 l0_1)=some r:=h;clear h;have H':=A_ H;clear H;go_enter Try.func12,Try.ntmps12
 go_wp2_with (first|((with_reducible refine gate_dst (N:=1) rfl ?_);(try (refine gate_guard (by rfl) ?_;dsimp only));refine box_event ?hg (N:=1) ?hd (cs:=#[.slice A0_0 l0_0.length c0_0,.slice A0_1 l0_1.length c0_1]) (t:=27) ?hr ?_;(case hd=>rfl);(case hg=>rfl);(case hr=>first|(go_simp;done)|(go_simp;rfl));intro gb367 hg w2 hbox hb;have n0_:=A_ (bp_ (by repeat (first|(with_reducible first|exact HB.out|apply ba_|apply bd_|apply be_)|exact HB.out)) hb);have n1_:=A_ (hbox);have n2_:=A_ ((by rw [hg];exact (bz_ (by repeat (first|(with_reducible first|exact HB.out|apply ba_|apply bd_|apply be_)|exact HB.out))) : w.heap.size≤gb367));have n3_:=n2_;clear HB;have HB:=n0_;have BK367:=n1_;have GW367:=n2_;have GE367:=n3_;clear n0_ n1_ n2_ n3_;clear hb hbox hg))
 go_loopg [3] k (fun kq v3 w'=>∃ (x3_1 : Int),v3=.int .i64 x3_1∧Aside0 (humuslaw08_Light.l0 kq x3_1 l0_0 l0_1=some r)∧Aside0 (kq≤k)∧Aside0 (w'.heap[gb367]?=some (.cells #[(.slice A0_0 l0_0.length c0_0),(.slice A0_1 l0_1.length c0_1)] 27 (0,0)))∧Aside0 (Below w.heap.size w w'))
 case atStart=>exact ⟨(0),(by first|rfl|(simp;done)|(simp [*];done)),H',⟨Nat.le_refl _⟩,⟨by (with_reducible repeat (first|refine kd_ ?_ _|refine ke_ ?_|refine ka_ ?_ _));exact BK367.out⟩,⟨by repeat (first|(with_reducible first|exact HB.out|apply ba_|apply bd_|apply be_|refine bs_ ?_ GE367.out)|exact HB.out)⟩⟩
 case round =>
  clear H';(try clear c1);(try clear p2);obtain ⟨x3_1,rfl,HA,HK1,BK367,HB⟩:=hrel
  cases gk with
  | zero=>exact absurd HA.out (by simp [humuslaw08_Light.l0])
  | succ k1 =>
   have H:=HA.out;clear HA
   simp only [humuslaw08_Light.l0] at H
   have HC3:=A_ H;clear H
   go_upto_region 2 with (fail)
   go_cut [12] (fun v12 wc=>∃ (kq : Nat) (x12_2 : Bool),v12=.bool x12_2∧Aside0 (humuslaw08_Light.j1 kq x3_1 x12_2 l0_0 l0_1=some r)∧Aside0 (kq≤k1)∧Aside0 (wc.heap[gb367]?=some (.cells #[(.slice A0_0 l0_0.length c0_0),(.slice A0_1 l0_1.length c0_1)] 27 (0,0)))∧Aside0 (Below w.heap.size w wc))
   case first =>
    have H:=HC3.out;clear HC3
    by_cases c4 : x3_1<(l0_1.length : Int)
    ·rw [if_pos c4] at H
     have c4b0 : decide (x3_1<(l0_1.length : Int))=true:=dt_ c4;clear c4;(first|rw [c4b0]|(simp only [i64_w,i32_w];rw [c4b0])|skip);have H':=A_ H;clear H;have z5_0 : wr.cell? ⟨gb367,0,none⟩=some (.slice A0_0 l0_0.length c0_0):=(bc_ BK367.out 0).trans rfl;have z5_1 : wr.cell? ⟨gb367,1,none⟩=some (.slice A0_1 l0_1.length c0_1):=(bc_ BK367.out 1).trans rfl;have y5_0:=bf_ BK367.out 0;have y5_1:=bf_ BK367.out 1;go_wp2;go_meet
     case rel=>exact ⟨_,(decide (x3_1<80)),(by first|rfl|(simp;done)|(simp [*];done)),H',⟨by have:=HK1.out;first|omega|exact Nat.le_refl _⟩,⟨by (with_reducible repeat (first|refine kd_ ?_ _|refine ke_ ?_|refine ka_ ?_ _));exact BK367.out⟩,⟨by repeat (first|(with_reducible first|exact HB.out|apply ba_|apply bd_|apply be_|refine bs_ ?_ GE367.out)|exact HB.out)⟩⟩
    ·rw [if_neg c4] at H
     have c4b0 : decide (x3_1<(l0_1.length : Int))=false:=df_ c4;clear c4;(first|rw [c4b0]|(simp only [i64_w,i32_w];rw [c4b0])|skip);have H':=A_ H;clear H;have z6_0 : wr.cell? ⟨gb367,0,none⟩=some (.slice A0_0 l0_0.length c0_0):=(bc_ BK367.out 0).trans rfl;have z6_1 : wr.cell? ⟨gb367,1,none⟩=some (.slice A0_1 l0_1.length c0_1):=(bc_ BK367.out 1).trans rfl;have y6_0:=bf_ BK367.out 0;have y6_1:=bf_ BK367.out 1;go_wp2;go_meet
     case rel=>exact ⟨_,false,rfl,H',⟨by have:=HK1.out;first|omega|exact Nat.le_refl _⟩,⟨by (with_reducible repeat (first|refine kd_ ?_ _|refine ke_ ?_|refine ka_ ?_ _));exact BK367.out⟩,⟨by repeat (first|(with_reducible first|exact HB.out|apply ba_|apply bd_|apply be_|refine bs_ ?_ GE367.out)|exact HB.out)⟩⟩
   case rest =>
    clear HC3;(try clear c1);(try clear p2);(try clear c4);(try clear c4b0);(try clear p2);(try clear z5_0 z5_1 z6_0 z6_1 y5_0 y5_1 y6_0 y6_1);obtain ⟨kq,x12_2,rfl,HA,HJ2,BK367,HB⟩:=hcut
    cases kq with
    | zero=>exact absurd HA.out (by simp [humuslaw08_Light.j1])
    | succ kj2 =>
     have H:=HA.out;clear HA
     simp only [humuslaw08_Light.j1] at H
     by_cases c7 : x12_2=true
     ·subst c7
      have H1 : (if 0≤x3_1 then (if x3_1<(l0_1.length : Int) then (if ((rd_L2 l0_1 x3_1).length : Int) > 600 then (some false) else (humuslaw08_Light.l0 kj2 (wrap64 (x3_1 + 1)) l0_0 l0_1)) else (none)) else (none))=some r:=by rw [if_pos rfl] at H;exact H
      clear H;have H:=H1;clear H1
      by_cases c8 : 0≤x3_1
      ·rw [if_pos c8] at H
       have c8b0 : decide (0≤x3_1)=true:=dt_ c8;clear c8
       by_cases c9 : x3_1<(l0_1.length : Int)
       ·rw [if_pos c9] at H
        have c9b0 : decide (x3_1<(l0_1.length : Int))=true:=dt_ c9;clear c9
        by_cases c10 : ((rd_L2 l0_1 x3_1).length : Int) > 600
        ·rw [if_pos c10] at H
         have c10b0 : decide (600<((rd_L2 l0_1 x3_1).length : Int))=true:=dt_ c10
         have c10b1 : decide (600<(rd_L2 l0_1 x3_1).length)=true:=dt_ (by omega)
         clear c10;obtain rfl:=Option.some.inj H;have z11_0 : wc.cell? ⟨gb367,0,none⟩=some (.slice A0_0 l0_0.length c0_0):=(bc_ BK367.out 0).trans rfl;have z11_1 : wc.cell? ⟨gb367,1,none⟩=some (.slice A0_1 l0_1.length c0_1):=(bc_ BK367.out 1).trans rfl;have y11_0:=bf_ BK367.out 0;have y11_1:=bf_ BK367.out 1
         have p368 : 0≤(x3_1 : Int):=od_ (by first|(with_reducible assumption)|assumption)
         have q368 : x3_1<(l0_1.length : Int):=od_ (by first|(with_reducible assumption)|assumption)
         obtain ⟨ad368,A368_0,c368_0,e368,hx368_0,hl368_0,hi368_0⟩:=at_L2 HR0_1.out x3_1 p368 q368
         cases e368
         replace hx368_0:=(HB.out.cell (wb_ w _ hx368_0)).trans hx368_0;have HR368_0:=A_ hi368_0;have HC368_0:=A_ hl368_0;clear hi368_0 hl368_0;replace p368:=eq_true p368;replace q368:=eq_true q368;go_wp2;go_ret
         exact ⟨by first|rfl|(simp [errW_none,errW_some] <;> rfl)|(simp [*,errW_none,errW_some] <;> rfl),by repeat (first|(with_reducible first|exact HB.out|apply ba_|apply bd_|apply be_|refine bs_ ?_ GE367.out)|exact HB.out)⟩
        ·rw [if_neg c10] at H
         have c10b0 : decide (600<((rd_L2 l0_1 x3_1).length : Int))=false:=df_ c10
         have c10b1 : decide (600<(rd_L2 l0_1 x3_1).length)=false:=df_ (by omega)
         clear c10;have H':=A_ H;clear H;have z12_0 : wc.cell? ⟨gb367,0,none⟩=some (.slice A0_0 l0_0.length c0_0):=(bc_ BK367.out 0).trans rfl;have z12_1 : wc.cell? ⟨gb367,1,none⟩=some (.slice A0_1 l0_1.length c0_1):=(bc_ BK367.out 1).trans rfl;have y12_0:=bf_ BK367.out 0;have y12_1:=bf_ BK367.out 1
         have p368 : 0≤(x3_1 : Int):=od_ (by first|(with_reducible assumption)|assumption)
         have q368 : x3_1<(l0_1.length : Int):=od_ (by first|(with_reducible assumption)|assumption)
         obtain ⟨ad368,A368_0,c368_0,e368,hx368_0,hl368_0,hi368_0⟩:=at_L2 HR0_1.out x3_1 p368 q368
         cases e368
         replace hx368_0:=(HB.out.cell (wb_ w _ hx368_0)).trans hx368_0;have HR368_0:=A_ hi368_0;have HC368_0:=A_ hl368_0;clear hi368_0 hl368_0;replace p368:=eq_true p368;replace q368:=eq_true q368;go_wp2;go_roundg kj2
         case measure=>have:=HK1.out;have:=HJ2.out;omega
         case rel=>exact ⟨(wrap64 (x3_1 + 1)),(by first|rfl|(simp;done)|(simp [*];done)),H',⟨by have:=HK1.out;have:=HJ2.out;omega⟩,⟨by (with_reducible repeat (first|refine kd_ ?_ _|refine ke_ ?_|refine ka_ ?_ _));exact BK367.out⟩,⟨by repeat (first|(with_reducible first|exact HB.out|apply ba_|apply bd_|apply be_|refine bs_ ?_ GE367.out)|exact HB.out)⟩⟩
       ·rw [if_neg c9] at H
        exact absurd H (by simp)
      ·rw [if_neg c8] at H
       exact absurd H (by simp)
     ·replace c7:=Bool.eq_false_iff.mpr c7
      subst c7
      have H1 : (if (l0_1.length : Int)≤80 then (some (decide ((l0_0.length : Int)≤20))) else (some false))=some r:=by rw [if_neg (show ¬ (false=true) by decide)] at H;exact H
      clear H;have H:=H1;clear H1
      by_cases c13 : (l0_1.length : Int)≤80
      ·rw [if_pos c13] at H
       have c13b0 : decide ((l0_1.length : Int)≤80)=true:=dt_ c13
       have c13b1 : decide (l0_1.length≤80)=true:=dt_ (by omega)
       clear c13;obtain rfl:=Option.some.inj H;have z14_0 : wc.cell? ⟨gb367,0,none⟩=some (.slice A0_0 l0_0.length c0_0):=(bc_ BK367.out 0).trans rfl;have z14_1 : wc.cell? ⟨gb367,1,none⟩=some (.slice A0_1 l0_1.length c0_1):=(bc_ BK367.out 1).trans rfl;have y14_0:=bf_ BK367.out 0;have y14_1:=bf_ BK367.out 1;go_wp2;go_ret
       exact ⟨by first|rfl|(simp [errW_none,errW_some] <;> rfl)|(simp [*,errW_none,errW_some] <;> rfl),by repeat (first|(with_reducible first|exact HB.out|apply ba_|apply bd_|apply be_|refine bs_ ?_ GE367.out)|exact HB.out)⟩
      ·rw [if_neg c13] at H
       have c13b0 : decide ((l0_1.length : Int)≤80)=false:=df_ c13
       have c13b1 : decide (l0_1.length≤80)=false:=df_ (by omega)
       clear c13;obtain rfl:=Option.some.inj H;have z15_0 : wc.cell? ⟨gb367,0,none⟩=some (.slice A0_0 l0_0.length c0_0):=(bc_ BK367.out 0).trans rfl;have z15_1 : wc.cell? ⟨gb367,1,none⟩=some (.slice A0_1 l0_1.length c0_1):=(bc_ BK367.out 1).trans rfl;have y15_0:=bf_ BK367.out 0;have y15_1:=bf_ BK367.out 1;go_wp2;go_ret
       exact ⟨by first|rfl|(simp [errW_none,errW_some] <;> rfl)|(simp [*,errW_none,errW_some] <;> rfl),by repeat (first|(with_reducible first|exact HB.out|apply ba_|apply bd_|apply be_|refine bs_ ?_ GE367.out)|exact HB.out)⟩
end Go.Proofs.Ytjigckhopkclgaa.P
namespace Go.Proofs.Ytjigckhopkclgaa.P
open Go.RowKit Ytjigckhopkclgaa Ytjigckhopkclgaa.Mem YtjigckhopkclgaaW.PrintWords YtjigckhopkclgaaW.PrintLast YtjigckhopkclgaaW.PrintMore
def slotsL : List (List Int)→Int
  | []=>0
  | s :: S=>1 + (s.length : Int) + slotsL S
def needL (S : List (List Int)) : Int:=18 + slotsL S
structure Small (S : List (List Int)) : Prop where
  len : S.length≤1000
  each : ∀ s ∈ S,s.length≤1000
theorem rdR_mem {S : List (List Int)} {i : Nat} (h : i<S.length) : rd_L2 S (i : Int) ∈ S:=List.mem_of_getElem? (rdR_at h)
theorem drop_rd {S : List (List Int)} {i : Nat} (h : i<S.length) : S.drop i=rd_L2 S (i : Int) :: S.drop (i + 1):=by
  rw [List.drop_eq_getElem_cons h];have:=rdR_at h;rw [List.getElem?_eq_getElem h] at this
  injection this with this
  rw [this]
theorem need_l0 {S : List (List Int)} (hs : Small S) : ∀ (d i k : Nat) (x : Int),d=S.length - i→i≤S.length→d + 1≤k→0≤x→x≤100 + 1001 * (i : Int)→leaf_need.l0 k x S (S.length : Int) (i : Int)=some (x + slotsL (S.drop i)):=by
  intro d
  induction d with
  | zero =>
    intro i k x hd hi hk h0 h1
    obtain ⟨k,rfl⟩ : ∃ m,k=m + 1:=⟨k - 1,by omega⟩
    rw [leaf_need.l0,if_neg (by omega),List.drop_eq_nil_of_le (by omega)]
    simp [slotsL]
  | succ d ih =>
    intro i k x hd hi hk h0 h1
    obtain ⟨k,rfl⟩ : ∃ m,k=m + 1:=⟨k - 1,by omega⟩
    have hlt : i<S.length:=by omega
    have hl:=hs.len;have he:=hs.each _ (rdR_mem hlt)
    have hw : wrap64 ((i : Int) + 1)=((i + 1 : Nat) : Int):=by unfold wrap64; omega
    have hw2 : wrap64 (x + wrap64 (1 + ((rd_L2 S (i : Int)).length : Int)))=x + (1 + ((rd_L2 S (i : Int)).length : Int)):=by unfold wrap64; omega
    rw [leaf_need.l0,if_pos (by omega),if_pos (by omega),if_pos (by omega),hw,hw2,ih (i + 1) k _ (by omega) (by omega) (by omega) (by omega) (by omega),drop_rd hlt]
    simp only [slotsL]
    congr 1; omega
theorem need_ev {k : Nat} {I : List Int} {S : List (List Int)} (hs : Small S) (hk : 1002≤k) : leaf_need.f k I S=some (needL S):=by
  have:=hs.len
  unfold leaf_need.f
  have h:=need_l0 hs S.length 0 k 18 (by omega) (by omega) (by omega) (by omega) (by omega)
  rw [List.drop_zero] at h;exact h
theorem Need_l0 {I : List Int} {S : List (List Int)} (hs : Small S) : ∀ (d i k : Nat) (x : Int),d=S.length - i→i≤S.length→d + 1≤k→0≤x→x≤100 + 1001 * (i : Int)→humusref08_Need.l0 k x (i : Int) I S=some (x + slotsL (S.drop i)):=by
  intro d
  induction d with
  | zero =>
    intro i k x hd hi hk h0 h1
    obtain ⟨k,rfl⟩ : ∃ m,k=m + 1:=⟨k - 1,by omega⟩
    rw [humusref08_Need.l0,if_neg (by omega),List.drop_eq_nil_of_le (by omega)]
    simp [slotsL]
  | succ d ih =>
    intro i k x hd hi hk h0 h1
    obtain ⟨k,rfl⟩ : ∃ m,k=m + 1:=⟨k - 1,by omega⟩
    have hlt : i<S.length:=by omega
    have hl:=hs.len;have he:=hs.each _ (rdR_mem hlt)
    have hw : wrap64 ((i : Int) + 1)=((i + 1 : Nat) : Int):=by unfold wrap64; omega
    have hw2 : wrap64 (wrap64 (x + 1) + ((rd_L2 S (i : Int)).length : Int))=x + (1 + ((rd_L2 S (i : Int)).length : Int)):=by unfold wrap64; omega
    rw [humusref08_Need.l0,if_pos (by omega),if_pos (by omega),hw,hw2,ih (i + 1) k _ (by omega) (by omega) (by omega) (by omega) (by omega),drop_rd hlt]
    simp only [slotsL]
    congr 1; omega
theorem Need_ev {k : Nat} {I : List Int} {S : List (List Int)} (hs : Small S) (hk : 1002≤k) : humusref08_Need.f k I S=some (needL S):=by
  have:=hs.len
  unfold humusref08_Need.f
  have h:=Need_l0 (I:=I) hs S.length 0 k 18 (by omega) (by omega) (by omega) (by omega) (by omega)
  rw [List.drop_zero] at h;exact h
def OkS (S : List (List Int)) : Prop:=S.length≤64∧(0<S.length→(rd_L2 S ((S.length - 1 : Nat) : Int)).length≠0)∧(∀ s ∈ S,s.length≤255)∧needL S≤508
def OkI (a b c d : Int) : Prop:=(0≤a∧a≤2147483647)∧(0≤b∧b≤2147483647)∧(0≤c∧c≤2147483647)∧(0≤d∧d≤2147483647)∧(0<b→b≠a)∧(0<c→c≠a∧c≠b)∧(0<d→d≠a∧d≠b∧d≠c)
def MayL (I : List Int) (S : List (List Int)) : Prop:=(∃ a b c d,I=[a,b,c,d]∧OkI a b c d)∧OkS S
theorem wsub {n : Nat} (h : 0<n) (h2 : n≤1000000) : wrap64 ((n : Int) - 1)=((n - 1 : Nat) : Int):=by unfold wrap64; omega
theorem any255 {S : List (List Int)} : (S.any fun e=>decide ((e.length : Int) > 255))=false ↔ ∀ s ∈ S,s.length≤255:=by
  rw [List.any_eq_false]
  constructor
  · intro h s hs
    have:=h s hs;rw [decide_eq_true_eq] at this;omega
  · intro h s hs
    have:=h s hs;rw [decide_eq_true_eq];omega
theorem Check_end {k : Nat} {I : List Int} {S : List (List Int)} (hs : Small S) (hk : 1010≤k) (n : Int) (x : Nat) (hx : ¬ (x : Int)<n) (J : List Int) : (((∀ s ∈ S,s.length≤255)∧needL S≤508)→leaf_Check.l0 k J n (x : Int) I S=some 0)∧(¬ ((∀ s ∈ S,s.length≤255)∧needL S≤508)→leaf_Check.l0 k J n (x : Int) I S=some 1):=by
  have hl:=hs.len
  obtain ⟨k,rfl⟩ : ∃ m,k=m + 2:=⟨k - 2,by omega⟩
  rw [leaf_Check.l0,if_neg hx]
  unfold containsFunc_leaf_Check_1.f
  rw [if_pos (by omega),Option.bind_some]
  cases hb : S.any fun e=>decide ((e.length : Int) > 255) with
  | true =>
    rw [if_pos rfl,leaf_Check.j3]
    have : ¬ ∀ s ∈ S,s.length≤255:=fun h=>by rw [any255.2 h] at hb; cases hb
    exact ⟨fun h=>absurd h.1 this,fun _=>rfl⟩
  | false =>
    have h5:=any255.1 hb
    rw [if_neg (by decide),need_ev hs (by omega),Option.bind_some]
    by_cases h : needL S > 508
    · rw [if_pos h,leaf_Check.j4]
      exact ⟨fun hh=>absurd hh.2 (by omega),fun _=>rfl⟩
    · rw [if_neg h]
      exact ⟨fun _=>rfl,fun hh=>absurd ⟨h5,by omega⟩ hh⟩
theorem Check_step {k : Nat} {I J : List Int} {S : List (List Int)} (n : Int) (x : Nat) (w : Int) (hI : I=J) (hl : J.length≤1000) (hn : (x : Int)<n) (hx : x<J.length) (hw : rd J (x : Int)=w) (hk : 1010≤k) :
    (0≤w∧w≤2147483647∧(0<w→∀ y ∈ J.take x,y≠w)→leaf_Check.l0 (k + 1) J n (x : Int) I S=leaf_Check.l0 k J n ((x + 1 : Nat) : Int) I S)∧(¬ (0≤w∧w≤2147483647∧(0<w→∀ y ∈ J.take x,y≠w))→leaf_Check.l0 (k + 1) J n (x : Int) I S=some 1):=by
  subst hI
  have hw1 : wrap64 ((x : Int) + 1)=((x + 1 : Nat) : Int):=by unfold wrap64; omega
  rw [leaf_Check.l0,if_pos hn,if_pos (by omega),if_pos (by omega),hw,hw1]
  by_cases h1 : w<0
  · rw [if_pos h1]; exact ⟨fun h=>by omega,fun _=>rfl⟩
  · rw [if_neg h1]
    by_cases h2 : w > 2147483647
    · rw [if_pos h2]; exact ⟨fun h=>by omega,fun _=>rfl⟩
    · rw [if_neg h2]
      by_cases h3 : w > 0
      · rw [if_pos h3,if_pos (by omega),Int.toNat_natCast,Contains_ev w (by rw [List.length_take]; omega) (by rw [List.length_take]; omega),Option.bind_some]
        cases hb : (I.take x).any fun y=>w == y with
        | true =>
          obtain ⟨k,rfl⟩ : ∃ m,k=m + 1:=⟨k - 1,by omega⟩
          rw [if_pos rfl,leaf_Check.j2];rw [List.any_eq_true] at hb;obtain ⟨y,hy,he⟩:=hb
          exact ⟨fun h=>absurd (beq_iff_eq.mp he).symm (h.2.2 (by omega) y hy),fun _=>rfl⟩
        | false =>
          rw [if_neg (by decide)]
          rw [List.any_eq_false] at hb
          exact ⟨fun _=>rfl,fun h=>absurd ⟨by omega,by omega,fun _ y hy he=>hb y hy (beq_iff_eq.mpr he.symm)⟩ h⟩
      · rw [if_neg h3]
        exact ⟨fun _=>rfl,fun h=>absurd ⟨by omega,by omega,fun hh=>absurd hh (by omega)⟩ h⟩
theorem Check_loop {k : Nat} {a b c d : Int} {S : List (List Int)} (hs : Small S) (hk : 1020≤k) : ((OkI a b c d∧(∀ s ∈ S,s.length≤255)∧needL S≤508)→leaf_Check.l0 k [a,b,c,d] 4 0 [a,b,c,d] S=some 0)∧(¬ (OkI a b c d∧(∀ s ∈ S,s.length≤255)∧needL S≤508)→leaf_Check.l0 k [a,b,c,d] 4 0 [a,b,c,d] S=some 1):=by
  obtain ⟨k,rfl⟩ : ∃ m,k=m + 4:=⟨k - 4,by omega⟩
  have s0:=@Check_step (k + 3) [a,b,c,d] [a,b,c,d] S 4 0 a rfl (by simp) (by decide) (by simp) rfl (by omega)
  have s1:=@Check_step (k + 2) [a,b,c,d] [a,b,c,d] S 4 1 b rfl (by simp) (by decide) (by simp) rfl (by omega)
  have s2:=@Check_step (k + 1) [a,b,c,d] [a,b,c,d] S 4 2 c rfl (by simp) (by decide) (by simp) rfl (by omega)
  have s3:=@Check_step k [a,b,c,d] [a,b,c,d] S 4 3 d rfl (by simp) (by decide) (by simp) rfl (by omega)
  have s4:=@Check_end k [a,b,c,d] S hs (by omega) 4 4 (by decide) [a,b,c,d]
  simp only [List.take_succ_cons,List.take_zero,List.mem_cons,List.not_mem_nil,or_false,forall_eq_or_imp,forall_eq,false_imp_iff,imp_true_iff,implies_true,Nat.zero_add,Nat.reduceAdd] at s0 s1 s2 s3 s4
  have e0 : ((0 : Nat) : Int)=0:=rfl;have e1 : ((1 : Nat) : Int)=1:=rfl;have e2 : ((2 : Nat) : Int)=2:=rfl;have e3 : ((3 : Nat) : Int)=3:=rfl;have e4 : ((4 : Nat) : Int)=4:=rfl
  simp only [e0,e1,e2,e3,e4] at s0 s1 s2 s3 s4
  unfold OkI
  by_cases h0 : 0≤a∧a≤2147483647
  · rw [s0.1 (by simpa using h0)]
    by_cases h1 : 0≤b∧b≤2147483647∧(0<b→a≠b)
    · rw [s1.1 h1]
      by_cases h2 : 0≤c∧c≤2147483647∧(0<c→a≠c∧b≠c)
      · rw [s2.1 h2]
        by_cases h3 : 0≤d∧d≤2147483647∧(0<d→a≠d∧b≠d∧c≠d)
        · rw [s3.1 h3]
          refine ⟨fun h=>s4.1 h.2,fun h=>s4.2 fun hh=>h ⟨⟨h0,⟨h1.1,h1.2.1⟩,⟨h2.1,h2.2.1⟩,⟨h3.1,h3.2.1⟩,fun p q=>h1.2.2 p q.symm,fun p=>⟨fun q=>(h2.2.2 p).1 q.symm,fun q=>(h2.2.2 p).2 q.symm⟩,fun p=>⟨fun q=>(h3.2.2 p).1 q.symm,fun q=>(h3.2.2 p).2.1 q.symm,fun q=>(h3.2.2 p).2.2 q.symm⟩⟩,hh⟩⟩
        · rw [s3.2 h3]
          refine ⟨fun h=>absurd ⟨h.1.2.2.2.1.1,h.1.2.2.2.1.2,fun p=>⟨fun q=>(h.1.2.2.2.2.2.2 p).1 q.symm,fun q=>(h.1.2.2.2.2.2.2 p).2.1 q.symm,fun q=>(h.1.2.2.2.2.2.2 p).2.2 q.symm⟩⟩ h3,fun _=>rfl⟩
      · rw [s2.2 h2]
        exact ⟨fun h=>absurd ⟨h.1.2.2.1.1,h.1.2.2.1.2,fun p=>⟨fun q=>(h.1.2.2.2.2.2.1 p).1 q.symm,fun q=>(h.1.2.2.2.2.2.1 p).2 q.symm⟩⟩ h2,fun _=>rfl⟩
    · rw [s1.2 h1]
      exact ⟨fun h=>absurd ⟨h.1.2.1.1,h.1.2.1.2,fun p q=>h.1.2.2.2.2.1 p q.symm⟩ h1,fun _=>rfl⟩
  · rw [s0.2 (by simpa using h0)]
    exact ⟨fun h=>absurd h.1.1 h0,fun _=>rfl⟩
theorem four {I : List Int} (h : I.length=4) : ∃ a b c d,I=[a,b,c,d]:=by
  match I,h with
  | [a,b,c,d],_=>exact ⟨a,b,c,d,rfl⟩
theorem Check_ev {k : Nat} {I : List Int} {S : List (List Int)} (hs : Small S) (hk : 1030≤k) : (MayL I S→leaf_Check.f k I S=some 0)∧(¬ MayL I S→leaf_Check.f k I S=some 1):=by
  have hl:=hs.len
  obtain ⟨k,rfl⟩ : ∃ m,k=m + 1:=⟨k - 1,by omega⟩
  unfold leaf_Check.f
  by_cases h4 : (I.length : Int)=4
  · rw [if_pos h4]
    obtain ⟨a,b,c,d,rfl⟩:=four (I:=I) (by omega)
    have hL:=Check_loop (k:=k) (a:=a) (b:=b) (c:=c) (d:=d) hs (by omega)
    have hM : MayL [a,b,c,d] S ↔ OkI a b c d∧OkS S:=⟨fun ⟨⟨a',b',c',d',he,ho⟩,h2⟩=>by
      injection he with e1 e2; injection e2 with e2 e3; injection e3 with e3 e4; injection e4 with e4 _
      subst e1 e2 e3 e4; exact ⟨ho,h2⟩,fun h=>⟨⟨a,b,c,d,rfl,h.1⟩,h.2⟩⟩
    rw [hM]
    by_cases h64 : (S.length : Int) > 64
    · rw [if_pos h64,leaf_Check.j0,if_pos rfl]
      exact ⟨fun h=>by have:=h.2.1; omega,fun _=>rfl⟩
    · rw [if_neg h64]
      by_cases h0 : (S.length : Int) > 0
      · rw [if_pos h0,wsub (by omega) (by omega),if_pos (by omega),if_pos (by omega),leaf_Check.j0]
        by_cases hz : (rd_L2 S ((S.length - 1 : Nat) : Int)).length=0
        · rw [if_pos (by rw [hz]; rfl)]
          exact ⟨fun h=>absurd hz (h.2.2.1 (by omega)),fun _=>rfl⟩
        · rw [if_neg (by rw [beq_iff_eq]; omega)]
          exact ⟨fun h=>hL.1 ⟨h.1,h.2.2.2⟩,fun h=>hL.2 fun hh=>h ⟨hh.1,by omega,fun _=>hz,hh.2⟩⟩
      · rw [if_neg h0,leaf_Check.j0,if_neg (by decide)]
        exact ⟨fun h=>hL.1 ⟨h.1,h.2.2.2⟩,fun h=>hL.2 fun hh=>h ⟨hh.1,by omega,fun q=>absurd q (by omega),hh.2⟩⟩
  · rw [if_neg h4,leaf_Check.j0,if_pos rfl]
    refine ⟨fun h=>?_,fun _=>rfl⟩
    obtain ⟨⟨a,b,c,d,rfl,_⟩,_⟩:=h;exact absurd rfl h4
theorem Same_l1 {I J : List Int} {S : List (List Int)} (hs : S.length≤1000) : ∀ (d i k : Nat),d=S.length - i→i≤S.length→d + 1≤k→humusref08_Same.l1 k (i : Int) I S J S=some true:=by
  intro d
  induction d with
  | zero =>
    intro i k hd hi hk
    obtain ⟨k,rfl⟩ : ∃ m,k=m + 1:=⟨k - 1,by omega⟩
    rw [humusref08_Same.l1,if_neg (by omega)]
  | succ d ih =>
    intro i k hd hi hk
    obtain ⟨k,rfl⟩ : ∃ m,k=m + 1:=⟨k - 1,by omega⟩
    have hw : wrap64 ((i : Int) + 1)=((i + 1 : Nat) : Int):=by unfold wrap64; omega
    rw [humusref08_Same.l1,if_pos (by omega),if_pos (by omega),if_pos (by omega),if_pos rfl,hw]
    exact ih (i + 1) k (by omega) (by omega) (by omega)
theorem Same_l0 {I : List Int} {S : List (List Int)} (hs : S.length≤1000) (hI : I.length≤1000) : ∀ (d i k : Nat),d=I.length - i→i≤I.length→d + 1005≤k→humusref08_Same.l0 k (i : Int) I S I S=some true:=by
  intro d
  induction d with
  | zero =>
    intro i k hd hi hk
    obtain ⟨k,rfl⟩ : ∃ m,k=m + 1:=⟨k - 1,by omega⟩
    rw [humusref08_Same.l0,if_neg (by omega)]
    exact Same_l1 hs S.length 0 k (by omega) (by omega) (by omega)
  | succ d ih =>
    intro i k hd hi hk
    obtain ⟨k,rfl⟩ : ∃ m,k=m + 1:=⟨k - 1,by omega⟩
    have hw : wrap64 ((i : Int) + 1)=((i + 1 : Nat) : Int):=by unfold wrap64; omega
    rw [humusref08_Same.l0,if_pos (by omega),if_pos (by omega),if_pos (by omega),if_pos rfl,hw]
    exact ih (i + 1) k (by omega) (by omega) (by omega)
theorem Same_refl {k : Nat} {I : List Int} {S : List (List Int)} (hs : S.length≤1000) (hI : I.length≤1000) (hk : 2010≤k) : humusref08_Same.f k I S I S=some true:=by
  obtain ⟨k,rfl⟩ : ∃ m,k=m + 1:=⟨k - 1,by omega⟩
  unfold humusref08_Same.f
  rw [if_pos rfl,bne_self_eq_false,humusref08_Same.j0,if_neg (by decide)]
  exact Same_l0 hs hI I.length 0 k (by omega) (by omega) (by omega)
open Go.RowKit YtjigckhopkclgaaW.PrintWords YtjigckhopkclgaaW.PrintLast YtjigckhopkclgaaW.PrintMore
attribute [local go_sem] max2_int min2_int max_two min_two max_three min_three max_four min_four   -- for this text's walks alone
attribute [local go_sem] run_store_float
def leaf_nought.f (l0 : List Int) : Option (Bool):=(containsFunc_leaf_nought_1.f l0).bind fun t112=>(some (!t112))
set_option maxHeartbeats 8000000 in
set_option maxRecDepth 100000 in
theorem leaf_nought.calls (A0 : Option Addr) (c0 : Nat) (l0 : List Int) (r : Bool) (w : World) (hr0 : Kd.C (Kd.int .u8) w A0 l0.length l0) (hc0 : l0.length≤c0) (h : leaf_nought.f l0=some r) :
  Calls Try.prog 25 #[.slice A0 l0.length c0] w fun e w'=>e=.returned (.bool r)∧Below w.heap.size w w':=by
 have HR0:=A_ hr0;have HC0:=A_ hc0;clear hr0 hc0;have HB:=A_ (Below.refl w.heap.size w)
 have H : ((containsFunc_leaf_nought_1.f l0).bind fun t112=>(some (!t112)))=some r:=h
 clear h;replace H:=Option.bind_eq_some_iff.mp H;obtain ⟨t112,A20,H⟩:=H;replace H : (some (!t112))=some r:=H;have A2:=A_ A20;clear A20;obtain rfl:=Option.some.inj H;go_enter Try.func25,Try.ntmps25
 go_wp2_with (first|((with_reducible refine gate_callee (f:=49) rfl ?_);refine goesL_ (some 4) rfl rfl Try.func49 (by kernel_rfl) rfl #[.slice A0 l0.length c0,.func (.func 50) #[] #[]] rfl (by (try simp only [List.map_toArray,List.map_cons,List.map_nil]);first|done|rfl|(simp only [List.length_drop,List.length_take];rfl)) ?_;(with_reducible refine (containsFunc_leaf_nought_1.calls _ _ l0 t112 _ ?side1 ?side2 A2.out).mono ?_);(case side1=>repeat (first|exact HR0.out|(with_reducible refine Kd.C_alloc ?_ _)|(with_reducible refine Kd.C_drewN ?_ _)|(with_reducible refine Kd.C_drew ?_)));(case side2=>exact HC0.out);rintro e w3 ⟨rfl,hb⟩;refine ⟨_,rfl,?_⟩;have n0_:=A_ (bp_ (by repeat (first|(with_reducible first|exact HB.out|apply ba_|apply bd_|apply be_)|exact HB.out)) hb);clear HB;have HB:=n0_;clear n0_;(try clear hb);(try clear hb2);(try clear hk);(try clear hi)))
 go_ret
 exact ⟨by first|rfl|(simp [errW_none,errW_some] <;> rfl)|(simp [*,errW_none,errW_some] <;> rfl),by repeat (first|(with_reducible first|exact HB.out|apply ba_|apply bd_|apply be_)|exact HB.out)⟩
end Go.Proofs.Ytjigckhopkclgaa.P
