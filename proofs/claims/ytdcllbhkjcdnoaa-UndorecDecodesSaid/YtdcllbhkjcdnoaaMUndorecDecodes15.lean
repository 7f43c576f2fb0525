/- by wip/prune.py -/
import Derived.Test.YtdcllbhkjcdnoaaMUndorecDecodes4
import Derived.Lib.ConvBytes
import Derived.Test.YtdcllbhkjcdnoaaMUndorecDecodes2
import Derived.Test.YtdcllbhkjcdnoaaMUndorecDecodes5
import Derived.Test.YtdcllbhkjcdnoaaMUndorecDecodes7
import Derived.Test.YtdcllbhkjcdnoaaMUndorecDecodes8
import Derived.Test.YtdcllbhkjcdnoaaMUndorecDecodes13
import Derived.Test.YtdcllbhkjcdnoaaMUndorecDecodes14
set_option linter.unusedSimpArgs false
set_option linter.unusedVariables false
namespace Go.Proofs.Ytdcllbhkjcdnoaa.P
open Go.RowKit YtdcllbhkjcdnoaaW.PrintWords YtdcllbhkjcdnoaaW.PrintLast YtdcllbhkjcdnoaaW.PrintMore
attribute [local go_sem] max2_int min2_int max_two min_two max_three min_three max_four min_four   -- for this text's walks alone
attribute [local go_sem] run_store_float
mutual
def humusref04_May.j0 : Nat → Bool → Nat → Bool → List Nat → Int → Int → Int → Option (Bool)
 | 0,_,_,_,_,_,_,_ => none
 | k + 1,x26,x203000,x203001,x203002,x203003,x203004,x203005 => if x26 = true then (some false) else (humusref04_May.l0 k 0 x203000 x203001 x203002 x203003 x203004 x203005)
def humusref04_May.l0 : Nat → Int → Nat → Bool → List Nat → Int → Int → Int → Option (Bool)
 | 0,_,_,_,_,_,_,_ => none
 | k + 1,x3,x203000,x203001,x203002,x203003,x203004,x203005 => if x3 < (x203002.length : Int) then (if 0 ≤ x3 then ((humusref01_Value.f (rdF x203002 x3)).bind fun t206 => (if (rdF x203002 x3 : Int) = t206 then (humusref04_May.l0 k (wrap64 (x3 + 1)) x203000 x203001 x203002 x203003 x203004 x203005) else (some false))) else (none)) else (if x203003 ≥ 0 then (if x203003 < 2147483648 then (if x203004 ≥ 0 then (if x203004 < 65536 then (if x203005 ≥ 0 then (if x203005 < 2147483648 then (if x203004 > 0 then (some true) else (some (x203005 == 0))) else (some false)) else (some false)) else (some false)) else (some false)) else (some false)) else (some false))
end
def humusref04_May.f (k : Nat) (a0_0 : Nat) (a0_1 : Bool) (l0_2 : List Nat) (a0_3 : Int) (a0_4 : Int) (a0_5 : Int) : Option (Bool):=(humusref01_Key.f a0_0).bind fun t203 => (if (a0_0 : Int) = t203 then (if (l0_2.length : Int) > 4 then (humusref04_May.j0 k true a0_0 a0_1 l0_2 a0_3 a0_4 a0_5) else (if a0_1 = true then (humusref04_May.j0 k (decide ((l0_2.length : Int) > 0)) a0_0 a0_1 l0_2 a0_3 a0_4 a0_5) else (humusref04_May.j0 k false a0_0 a0_1 l0_2 a0_3 a0_4 a0_5))) else (humusref04_May.j0 k true a0_0 a0_1 l0_2 a0_3 a0_4 a0_5))
def humusref04_May.T1 : Bool × List (List Nat × List Nat):=(true,[([],[]),([0],[0]),([1],[1]),([],[]),([3],[3]),([4,2],[4]),([2,5],[2,5]),([6,5],[6]),([7],[7]),([8,7],[7,8]),([9,7],[7,9]),([10,7],[7,10]),([7,11],[7,11]),([12,7],[12]),([13],[13]),([14,13],[13,14]),([15,13,13],[13,15]),([16],[16]),([17,16],[16,17]),([18,16],[16,18]),([19,16],[16,19]),([16,20,13],[13,16,20]),([13,21],[13,21])])
def humusref04_May.B1 : List Nat:=[0,1,3,0,8,31,63,127,255,511,1023,2047,4095,8191,16383,32767,65535,131071,262143,524287,1048575,2097151,4194303]
theorem humusref04_May.tab1 : rtab .any (opsOf Try.f34 1) = humusref04_May.T1:=by kernel_rfl
theorem humusref04_May.bits1 : waitsOk humusref04_May.T1.2 humusref04_May.B1 = true:=by kernel_rfl
def humusref04_May.T6 : Bool × List (List Nat × List Nat):=(true,[([],[]),([0],[0]),([],[]),([1,2],[1,2]),([3],[3]),([4],[4]),([],[]),([6],[6]),([],[]),([7,8],[7,8]),([9],[9]),([10,5],[10]),([5,11],[5,11])])
def humusref04_May.B6 : List Nat:=[0,1,0,7,15,31,0,64,0,448,960,2047,4095]
theorem humusref04_May.tab6 : rtab .any (opsOf Try.f34 6) = humusref04_May.T6:=by kernel_rfl
theorem humusref04_May.bits6 : waitsOk humusref04_May.T6.2 humusref04_May.B6 = true:=by kernel_rfl
set_option maxHeartbeats 8000000 in
set_option maxRecDepth 100000 in
theorem humusref04_May.calls (k : Nat) (a0_0 : Nat) (a0_1 : Bool) (A0_2 : Option Addr) (c0_2 : Nat) (l0_2 : List Nat) (a0_3 : Int) (a0_4 : Int) (a0_5 : Int) (r : Bool) (w : World) (hr0_2 : Kd.C Kd.f64 w A0_2 l0_2.length l0_2) (hc0_2 : l0_2.length ≤ c0_2) (h : humusref04_May.f k a0_0 a0_1 l0_2 a0_3 a0_4 a0_5 = some r) :
  Calls Try.prog 34 #[.agg #[.float .f64 a0_0,.bool a0_1,.slice A0_2 l0_2.length c0_2,.int .i64 a0_3,.int .i64 a0_4,.int .i64 a0_5]] w fun e w' => e = .returned (.bool r) ∧ Below w.heap.size w w':=by
 have hu30:=Try.underlying30;have HR0_2:=A_ hr0_2;have HC0_2:=A_ hc0_2;clear hr0_2 hc0_2;have HB:=A_ (Below.refl w.heap.size w)
 have H : ((humusref01_Key.f a0_0).bind fun t203 => (if (a0_0 : Int) = t203 then (if (l0_2.length : Int) > 4 then (humusref04_May.j0 k true a0_0 a0_1 l0_2 a0_3 a0_4 a0_5) else (if a0_1 = true then (humusref04_May.j0 k (decide ((l0_2.length : Int) > 0)) a0_0 a0_1 l0_2 a0_3 a0_4 a0_5) else (humusref04_May.j0 k false a0_0 a0_1 l0_2 a0_3 a0_4 a0_5))) else (humusref04_May.j0 k true a0_0 a0_1 l0_2 a0_3 a0_4 a0_5))) = some r:=h
 clear h;have HC2:=A_ H;clear H;go_enter Try.func34,Try.ntmps34
 go_upto_region 1 with (first | ((with_reducible refine gate_dst (N:=1) rfl ?_);(try (refine gate_guard (by rfl) ?_;dsimp only));refine box_event ?hg (N:=1) ?hd (cs:=#[.float .f64 a0_0,.bool a0_1,.slice A0_2 l0_2.length c0_2,.int .i64 a0_3,.int .i64 a0_4,.int .i64 a0_5]) (t:=30) ?hr ?_;(case hd => rfl);(case hg => rfl);(case hr => first | (go_simp;done) | (go_simp;rfl));intro gb202 hg w3 hbox hb;have n0_:=A_ (bp_ (by repeat (first | (with_reducible first | exact HB.out | apply ba_ | apply bd_ | apply be_) | exact HB.out)) hb);have n1_:=A_ (hbox);have n2_:=A_ ((by rw [hg];exact (bz_ (by repeat (first | (with_reducible first | exact HB.out | apply ba_ | apply bd_ | apply be_) | exact HB.out))) : w.heap.size ≤ gb202));have n3_:=n2_;clear HB;have HB:=n0_;have BK202:=n1_;have GW202:=n2_;have GE202:=n3_;clear n0_ n1_ n2_ n3_;clear hb hbox hg))
 (try simp only [Act.put,u1_,u2_,u3_])
 go_cut [26] (fun v26 wc => ∃ (kq : Nat) (x26_1 : Bool),v26 = .bool x26_1 ∧ Aside0 (humusref04_May.j0 kq x26_1 a0_0 a0_1 l0_2 a0_3 a0_4 a0_5 = some r) ∧ Aside0 (kq ≤ k) ∧ Aside0 (wc.heap[gb202]? = some (.cells #[.float .f64 a0_0,.bool a0_1,(.slice A0_2 l0_2.length c0_2),.int .i64 a0_3,.int .i64 a0_4,.int .i64 a0_5] 30 (0,0))) ∧ Aside0 (Below w.heap.size w wc))
 case first =>
  have H:=HC2.out;clear HC2;replace H:=Option.bind_eq_some_iff.mp H;obtain ⟨t203,A40,H⟩:=H
  replace H : (if (a0_0 : Int) = t203 then (if (l0_2.length : Int) > 4 then (humusref04_May.j0 k true a0_0 a0_1 l0_2 a0_3 a0_4 a0_5) else (if a0_1 = true then (humusref04_May.j0 k (decide ((l0_2.length : Int) > 0)) a0_0 a0_1 l0_2 a0_3 a0_4 a0_5) else (humusref04_May.j0 k false a0_0 a0_1 l0_2 a0_3 a0_4 a0_5))) else (humusref04_May.j0 k true a0_0 a0_1 l0_2 a0_3 a0_4 a0_5)) = some r:=H
  have A4:=A_ A40;clear A40
  by_cases c5 : (a0_0 : Int) = t203
  ·rw [if_pos c5] at H
   have c5b0 : ((a0_0 : Int) == t203) = true:=beq_iff_eq.mpr c5;have c5b1 : ((a0_0 : Int) != t203) = false:=bne_eq_false_iff_eq.mpr c5;clear c5;(first | rw [c5b0] | (simp only [i64_w,i32_w];rw [c5b0]) | skip)
   by_cases c6 : (l0_2.length : Int) > 4
   ·rw [if_pos c6] at H
    have c6b0 : decide (4 < (l0_2.length : Int)) = true:=dt_ c6
    have c6b1 : decide (4 < l0_2.length) = true:=dt_ (by omega)
    clear c6;have H':=A_ H;clear H
    try go_wp2
    have n0_:=A_ (ke_ BK202.out);have n1_:=A_ (be_ HB.out);clear BK202;clear HB;have BK202:=n0_;have HB:=n1_;clear n0_ n1_
    refine start_ (n:=23) (S:=fun w' => w'.cell? ⟨gb202,0,none⟩ = some (.float .f64 a0_0) ∧ w'.cell? ⟨gb202,1,none⟩ = some (.bool a0_1) ∧ w'.cell? ⟨gb202,2,none⟩ = some (.slice A0_2 l0_2.length c0_2) ∧ w'.cell? ⟨gb202,3,none⟩ = some (.int .i64 a0_3) ∧ w'.cell? ⟨gb202,4,none⟩ = some (.int .i64 a0_4) ∧ w'.cell? ⟨gb202,5,none⟩ = some (.int .i64 a0_5)) (ds:=[]) #[Z,Z,Z,Z,Z,Z,Z,Z,Z,Z,Z,Z,Z,Z,Z,Z,Z,Z,Z,Z,Z,Z,Z] (by kernel_rfl) rfl rfl ⟨(bc_ BK202.out 0).trans rfl,(bc_ BK202.out 1).trans rfl,(bc_ BK202.out 2).trans rfl,(bc_ BK202.out 3).trans rfl,(bc_ BK202.out 4).trans rfl,(bc_ BK202.out 5).trans rfl⟩ (fun hHeld => ?_);refine with_tabW humusref04_May.tab1 humusref04_May.bits1 (fun HT_ HW_ => ?_)
    generalize w3.drew = w7 at BK202 HB hHeld ⊢
    refine pu_ (i:=0) (N:=some 4) (v:=?_) (a':=?_) #[Y,Z,Z,Z,Z,Z,Z,Z,Z,Z,Z,Z,Z,Z,Z,Z,Z,Z,Z,Z,Z,Z,Z] rfl rfl HT_.out (by kernel_rfl) (fun _ _ _ h => h) (by rfl) ?_ ?_ ?_;rotate_left;(intro w';go_simp;with_reducible rfl);rotate_left;(simp only [Act.put,q1_,q2_,q3_,i64_w,i32_w];rfl)
    refine pu_ (i:=3) (N:=some 7) (v:=?_) (a':=?_) #[Y,Z,Z,Y,Z,Z,Z,Z,Z,Z,Z,Z,Z,Z,Z,Z,Z,Z,Z,Z,Z,Z,Z] rfl rfl HT_.out (by kernel_rfl) (fun _ _ _ h => h) (by rfl) ?_ ?_ ?_;rotate_left;(intro w';go_simp;with_reducible rfl);rotate_left;(simp only [Act.put,q1_,q2_,q3_,i64_w,i32_w];rfl)
    refine ta_ (i:=1) (N:=some 5) (v:=?_) (a':=?_) #[Y,Y,Z,Y,Z,Z,Z,Z,Z,Z,Z,Z,Z,Z,Z,Z,Z,Z,Z,Z,Z,Z,Z] rfl rfl HT_.out HW_.out (by kernel_rfl) (fun _ _ _ h => h) (by rfl) ?_ hHeld ?_ ?_;rotate_left;(rintro w' ⟨s0,s1,s2,s3,s4,s5⟩;go_simp;with_reducible rfl);rotate_left;(simp only [Act.put,q1_,q2_,q3_,i64_w,i32_w];rfl)
    refine ta_ (i:=4) (N:=some 8) (v:=?_) (a':=?_) #[Y,Y,Z,Y,Y,Z,Z,Z,Z,Z,Z,Z,Z,Z,Z,Z,Z,Z,Z,Z,Z,Z,Z] rfl rfl HT_.out HW_.out (by kernel_rfl) (fun _ _ _ h => h) (by rfl) ?_ hHeld ?_ ?_;rotate_left;(rintro w' ⟨s0,s1,s2,s3,s4,s5⟩;go_simp;with_reducible rfl);rotate_left;(simp only [Act.put,q1_,q2_,q3_,i64_w,i32_w];rfl)
    refine one_ (i:=2) (N:=some 6) #[Y,Y,Y,Y,Y,Z,Z,Z,Z,Z,Z,Z,Z,Z,Z,Z,Z,Z,Z,Z,Z,Z,Z] rfl rfl (one_of HT_.out (by kernel_rfl)) (by decide) (fun K hK => ?_)
    skip
    refine value_ (w1:=?_) (v:=?_) (by rfl) rfl ?_ ?_
    rotate_left 2
    ·go_simp
     constructor
     ·rfl
     ·rfl
    skip
    refine hK.out _ _ ⟨(bc_ BK202.out 0).trans rfl,(bc_ BK202.out 1).trans rfl,(bc_ BK202.out 2).trans rfl,(bc_ BK202.out 3).trans rfl,(bc_ BK202.out 4).trans rfl,(bc_ BK202.out 5).trans rfl⟩ (fun hHeld => ?_)
    clear hK K
    refine norm_ (a':=?_) ?_ ?_;rotate_left;(show Act.put _ (some 6) _ = _;simp only [Act.put,q1_,q2_,q3_,i64_w,i32_w];rfl)
    refine one_ (i:=5) (N:=some 9) #[Y,Y,Y,Y,Y,Y,Z,Z,Z,Z,Z,Z,Z,Z,Z,Z,Z,Z,Z,Z,Z,Z,Z] rfl rfl (one_of HT_.out (by kernel_rfl)) (by decide) (fun K hK => ?_)
    refine goes_ Try.func71 (by kernel_rfl) rfl #[.float .f64 a0_0] (by rfl) rfl rfl (by (try simp only [List.map_toArray,List.map_cons,List.map_nil]);first | done | rfl | (simp only [List.length_drop,List.length_take];rfl)) ?_
    with_reducible refine (humusref01_Key.calls a0_0 t203 _ A4.out).mono ?_
    rintro e w' ⟨rfl,⟨nd,rfl⟩⟩;refine ⟨_,rfl,?_⟩
    refine hK.out _ _ ⟨(bc_ BK202.out 0).trans rfl,(bc_ BK202.out 1).trans rfl,(bc_ BK202.out 2).trans rfl,(bc_ BK202.out 3).trans rfl,(bc_ BK202.out 4).trans rfl,(bc_ BK202.out 5).trans rfl⟩ (fun hHeld => ?_)
    clear hK K
    refine norm_ (a':=?_) ?_ ?_;rotate_left;(show Act.put _ (some 9) _ = _;simp only [Act.put,q1_,q2_,q3_,i64_w,i32_w];rfl)
    refine pu_ (i:=6) (N:=some 10) (v:=?_) (a':=?_) #[Y,Y,Y,Y,Y,Y,Y,Z,Z,Z,Z,Z,Z,Z,Z,Z,Z,Z,Z,Z,Z,Z,Z] rfl rfl HT_.out (by kernel_rfl) (fun _ _ _ h => h) (by rfl) ?_ ?_ ?_;rotate_left;(intro w';go_simp;with_reducible rfl);rotate_left;(simp only [Act.put,q1_,q2_,q3_,i64_w,i32_w];rfl)
    refine pu_ (i:=7) (N:=some 11) (v:=?_) (a':=?_) #[Y,Y,Y,Y,Y,Y,Y,Y,Z,Z,Z,Z,Z,Z,Z,Z,Z,Z,Z,Z,Z,Z,Z] rfl rfl HT_.out (by kernel_rfl) (fun _ _ _ h => h) (by rfl) ?_ ?_ ?_;rotate_left;(intro w';go_simp;with_reducible rfl);rotate_left;(simp only [Act.put,q1_,q2_,q3_,i64_w,i32_w];rfl)
    refine pu_ (i:=8) (N:=some 12) (v:=?_) (a':=?_) #[Y,Y,Y,Y,Y,Y,Y,Y,Y,Z,Z,Z,Z,Z,Z,Z,Z,Z,Z,Z,Z,Z,Z] rfl rfl HT_.out (by kernel_rfl) (fun _ _ _ h => h) (by rfl) ?_ ?_ ?_;rotate_left;(intro w';go_simp;with_reducible rfl);rotate_left;(simp only [Act.put,q1_,q2_,q3_,i64_w,i32_w];rfl)
    refine ta_ (i:=9) (N:=some 13) (v:=?_) (a':=?_) #[Y,Y,Y,Y,Y,Y,Y,Y,Y,Y,Z,Z,Z,Z,Z,Z,Z,Z,Z,Z,Z,Z,Z] rfl rfl HT_.out HW_.out (by kernel_rfl) (fun _ _ _ h => h) (by rfl) ?_ hHeld ?_ ?_;rotate_left;(rintro w' ⟨s0,s1,s2,s3,s4,s5⟩;go_simp;with_reducible rfl);rotate_left;(simp only [Act.put,q1_,q2_,q3_,i64_w,i32_w];rfl)
    refine pu_ (i:=10) (N:=some 14) (v:=?_) (a':=?_) #[Y,Y,Y,Y,Y,Y,Y,Y,Y,Y,Y,Z,Z,Z,Z,Z,Z,Z,Z,Z,Z,Z,Z] rfl rfl HT_.out (by kernel_rfl) (fun _ _ _ h => h) (by rfl) ?_ ?_ ?_;rotate_left;(intro w';go_simp;with_reducible rfl);rotate_left;(simp only [Act.put,q1_,q2_,q3_,i64_w,i32_w];rfl)
    refine pu_ (i:=11) (N:=some 15) (v:=?_) (a':=?_) #[Y,Y,Y,Y,Y,Y,Y,Y,Y,Y,Y,Y,Z,Z,Z,Z,Z,Z,Z,Z,Z,Z,Z] rfl rfl HT_.out (by kernel_rfl) (fun _ _ _ h => h) (by rfl) ?_ ?_ ?_;rotate_left;(intro w';go_simp;with_reducible rfl);rotate_left;(simp only [Act.put,q1_,q2_,q3_,i64_w,i32_w];rfl)
    refine pu_ (i:=12) (N:=some 16) (v:=?_) (a':=?_) #[Y,Y,Y,Y,Y,Y,Y,Y,Y,Y,Y,Y,Y,Z,Z,Z,Z,Z,Z,Z,Z,Z,Z] rfl rfl HT_.out (by kernel_rfl) (fun _ _ _ h => h) (by rfl) ?_ ?_ ?_;rotate_left;(intro w';go_simp;with_reducible rfl);rotate_left;(simp only [Act.put,q1_,q2_,q3_,i64_w,i32_w];rfl)
    refine pu_ (i:=13) (N:=some 17) (v:=?_) (a':=?_) #[Y,Y,Y,Y,Y,Y,Y,Y,Y,Y,Y,Y,Y,Y,Z,Z,Z,Z,Z,Z,Z,Z,Z] rfl rfl HT_.out (by kernel_rfl) (fun _ _ _ h => h) (by rfl) ?_ ?_ ?_;rotate_left;(intro w';go_simp;with_reducible rfl);rotate_left;(simp only [Act.put,q1_,q2_,q3_,i64_w,i32_w];rfl)
    refine pv_ (i:=14) (N:=some 18) (a':=?_) #[Y,Y,Y,Y,Y,Y,Y,Y,Y,Y,Y,Y,Y,Y,Y,Z,Z,Z,Z,Z,Z,Z,Z] rfl rfl HT_.out (by kernel_rfl) (fun _ _ _ h => h) (by rfl) ?_ ?_;rotate_left;(simp only [Act.put,q1_,q2_,q3_,i64_w,i32_w];rfl)
    refine pv_ (i:=15) (N:=some 19) (a':=?_) #[Y,Y,Y,Y,Y,Y,Y,Y,Y,Y,Y,Y,Y,Y,Y,Y,Z,Z,Z,Z,Z,Z,Z] rfl rfl HT_.out (by kernel_rfl) (fun _ _ _ h => h) (by rfl) ?_ ?_;rotate_left;(simp only [Act.put,q1_,q2_,q3_,i64_w,i32_w];rfl)
    refine pv_ (i:=16) (N:=some 20) (a':=?_) #[Y,Y,Y,Y,Y,Y,Y,Y,Y,Y,Y,Y,Y,Y,Y,Y,Y,Z,Z,Z,Z,Z,Z] rfl rfl HT_.out (by kernel_rfl) (fun _ _ _ h => h) (by rfl) ?_ ?_;rotate_left;(simp only [Act.put,q1_,q2_,q3_,i64_w,i32_w];rfl)
    refine pv_ (i:=17) (N:=some 21) (a':=?_) #[Y,Y,Y,Y,Y,Y,Y,Y,Y,Y,Y,Y,Y,Y,Y,Y,Y,Y,Z,Z,Z,Z,Z] rfl rfl HT_.out (by kernel_rfl) (fun _ _ _ h => h) (by rfl) ?_ ?_;rotate_left;(simp only [Act.put,q1_,q2_,q3_,i64_w,i32_w];rfl)
    refine pv_ (i:=18) (N:=some 22) (a':=?_) #[Y,Y,Y,Y,Y,Y,Y,Y,Y,Y,Y,Y,Y,Y,Y,Y,Y,Y,Y,Z,Z,Z,Z] rfl rfl HT_.out (by kernel_rfl) (fun _ _ _ h => h) (by rfl) ?_ ?_;rotate_left;(simp only [Act.put,q1_,q2_,q3_,i64_w,i32_w];rfl)
    refine pv_ (i:=19) (N:=some 23) (a':=?_) #[Y,Y,Y,Y,Y,Y,Y,Y,Y,Y,Y,Y,Y,Y,Y,Y,Y,Y,Y,Y,Z,Z,Z] rfl rfl HT_.out (by kernel_rfl) (fun _ _ _ h => h) (by rfl) ?_ ?_;rotate_left;(simp only [Act.put,q1_,q2_,q3_,i64_w,i32_w];rfl)
    refine pv_ (i:=20) (N:=some 24) (a':=?_) #[Y,Y,Y,Y,Y,Y,Y,Y,Y,Y,Y,Y,Y,Y,Y,Y,Y,Y,Y,Y,Y,Z,Z] rfl rfl HT_.out (by kernel_rfl) (fun _ _ _ h => h) (by rfl) ?_ ?_;rotate_left;(simp only [Act.put,q1_,q2_,q3_,i64_w,i32_w];rfl)
    refine pv_ (i:=21) (N:=some 25) (a':=?_) #[Y,Y,Y,Y,Y,Y,Y,Y,Y,Y,Y,Y,Y,Y,Y,Y,Y,Y,Y,Y,Y,Y,Z] rfl rfl HT_.out (by kernel_rfl) (fun _ _ _ h => h) (by rfl) ?_ ?_;rotate_left;(simp only [Act.put,q1_,q2_,q3_,i64_w,i32_w];rfl)
    refine pu_ (i:=22) (N:=some 26) (v:=?_) (a':=?_) #[Y,Y,Y,Y,Y,Y,Y,Y,Y,Y,Y,Y,Y,Y,Y,Y,Y,Y,Y,Y,Y,Y,Y] rfl rfl HT_.out (by kernel_rfl) (fun _ _ _ h => h) (by rfl) ?_ ?_ ?_;rotate_left;(intro w';go_simp;with_reducible rfl);rotate_left;(simp only [Act.put,q1_,q2_,q3_,i64_w,i32_w];rfl)
    refine done_ (done_of HT_.out (by kernel_rfl)) ?_
    try go_wp2
    go_meet
    case rel => exact ⟨_,true,rfl,H',⟨by first | omega | exact Nat.le_refl _⟩,⟨by (with_reducible repeat (first | refine kd_ ?_ _ | refine ke_ ?_ | refine ka_ ?_ _));exact BK202.out⟩,⟨by repeat (first | (with_reducible first | exact HB.out | apply ba_ | apply bd_ | apply be_ | refine bs_ ?_ GE202.out) | exact HB.out)⟩⟩
   ·rw [if_neg c6] at H
    have c6b0 : decide (4 < (l0_2.length : Int)) = false:=df_ c6
    have c6b1 : decide (4 < l0_2.length) = false:=df_ (by omega)
    clear c6
    by_cases c8 : a0_1 = true
    ·subst c8
     have H1 : (humusref04_May.j0 k (decide ((l0_2.length : Int) > 0)) a0_0 true l0_2 a0_3 a0_4 a0_5) = some r:=by rw [if_pos rfl] at H;exact H
     clear H;have H:=H1;clear H1;have H':=A_ H;clear H
     try go_wp2
     have n0_:=A_ (ke_ BK202.out);have n1_:=A_ (be_ HB.out);clear BK202;clear HB;have BK202:=n0_;have HB:=n1_;clear n0_ n1_
     refine start_ (n:=23) (S:=fun w' => w'.cell? ⟨gb202,0,none⟩ = some (.float .f64 a0_0) ∧ w'.cell? ⟨gb202,1,none⟩ = some (.bool true) ∧ w'.cell? ⟨gb202,2,none⟩ = some (.slice A0_2 l0_2.length c0_2) ∧ w'.cell? ⟨gb202,3,none⟩ = some (.int .i64 a0_3) ∧ w'.cell? ⟨gb202,4,none⟩ = some (.int .i64 a0_4) ∧ w'.cell? ⟨gb202,5,none⟩ = some (.int .i64 a0_5)) (ds:=[]) #[Z,Z,Z,Z,Z,Z,Z,Z,Z,Z,Z,Z,Z,Z,Z,Z,Z,Z,Z,Z,Z,Z,Z] (by kernel_rfl) rfl rfl ⟨(bc_ BK202.out 0).trans rfl,(bc_ BK202.out 1).trans rfl,(bc_ BK202.out 2).trans rfl,(bc_ BK202.out 3).trans rfl,(bc_ BK202.out 4).trans rfl,(bc_ BK202.out 5).trans rfl⟩ (fun hHeld => ?_);refine with_tabW humusref04_May.tab1 humusref04_May.bits1 (fun HT_ HW_ => ?_)
     generalize w3.drew = w9 at BK202 HB hHeld ⊢
     refine pu_ (i:=0) (N:=some 4) (v:=?_) (a':=?_) #[Y,Z,Z,Z,Z,Z,Z,Z,Z,Z,Z,Z,Z,Z,Z,Z,Z,Z,Z,Z,Z,Z,Z] rfl rfl HT_.out (by kernel_rfl) (fun _ _ _ h => h) (by rfl) ?_ ?_ ?_;rotate_left;(intro w';go_simp;with_reducible rfl);rotate_left;(simp only [Act.put,q1_,q2_,q3_,i64_w,i32_w];rfl)
     refine pu_ (i:=3) (N:=some 7) (v:=?_) (a':=?_) #[Y,Z,Z,Y,Z,Z,Z,Z,Z,Z,Z,Z,Z,Z,Z,Z,Z,Z,Z,Z,Z,Z,Z] rfl rfl HT_.out (by kernel_rfl) (fun _ _ _ h => h) (by rfl) ?_ ?_ ?_;rotate_left;(intro w';go_simp;with_reducible rfl);rotate_left;(simp only [Act.put,q1_,q2_,q3_,i64_w,i32_w];rfl)
     refine ta_ (i:=1) (N:=some 5) (v:=?_) (a':=?_) #[Y,Y,Z,Y,Z,Z,Z,Z,Z,Z,Z,Z,Z,Z,Z,Z,Z,Z,Z,Z,Z,Z,Z] rfl rfl HT_.out HW_.out (by kernel_rfl) (fun _ _ _ h => h) (by rfl) ?_ hHeld ?_ ?_;rotate_left;(rintro w' ⟨s0,s1,s2,s3,s4,s5⟩;go_simp;with_reducible rfl);rotate_left;(simp only [Act.put,q1_,q2_,q3_,i64_w,i32_w];rfl)
     refine ta_ (i:=4) (N:=some 8) (v:=?_) (a':=?_) #[Y,Y,Z,Y,Y,Z,Z,Z,Z,Z,Z,Z,Z,Z,Z,Z,Z,Z,Z,Z,Z,Z,Z] rfl rfl HT_.out HW_.out (by kernel_rfl) (fun _ _ _ h => h) (by rfl) ?_ hHeld ?_ ?_;rotate_left;(rintro w' ⟨s0,s1,s2,s3,s4,s5⟩;go_simp;with_reducible rfl);rotate_left;(simp only [Act.put,q1_,q2_,q3_,i64_w,i32_w];rfl)
     refine one_ (i:=2) (N:=some 6) #[Y,Y,Y,Y,Y,Z,Z,Z,Z,Z,Z,Z,Z,Z,Z,Z,Z,Z,Z,Z,Z,Z,Z] rfl rfl (one_of HT_.out (by kernel_rfl)) (by decide) (fun K hK => ?_)
     skip
     refine value_ (w1:=?_) (v:=?_) (by rfl) rfl ?_ ?_
     rotate_left 2
     ·go_simp
      constructor
      ·rfl
      ·rfl
     skip
     refine hK.out _ _ ⟨(bc_ BK202.out 0).trans rfl,(bc_ BK202.out 1).trans rfl,(bc_ BK202.out 2).trans rfl,(bc_ BK202.out 3).trans rfl,(bc_ BK202.out 4).trans rfl,(bc_ BK202.out 5).trans rfl⟩ (fun hHeld => ?_)
     clear hK K
     refine norm_ (a':=?_) ?_ ?_;rotate_left;(show Act.put _ (some 6) _ = _;simp only [Act.put,q1_,q2_,q3_,i64_w,i32_w];rfl)
     refine one_ (i:=5) (N:=some 9) #[Y,Y,Y,Y,Y,Y,Z,Z,Z,Z,Z,Z,Z,Z,Z,Z,Z,Z,Z,Z,Z,Z,Z] rfl rfl (one_of HT_.out (by kernel_rfl)) (by decide) (fun K hK => ?_)
     refine goes_ Try.func71 (by kernel_rfl) rfl #[.float .f64 a0_0] (by rfl) rfl rfl (by (try simp only [List.map_toArray,List.map_cons,List.map_nil]);first | done | rfl | (simp only [List.length_drop,List.length_take];rfl)) ?_
     with_reducible refine (humusref01_Key.calls a0_0 t203 _ A4.out).mono ?_
     rintro e w' ⟨rfl,⟨nd,rfl⟩⟩;refine ⟨_,rfl,?_⟩
     refine hK.out _ _ ⟨(bc_ BK202.out 0).trans rfl,(bc_ BK202.out 1).trans rfl,(bc_ BK202.out 2).trans rfl,(bc_ BK202.out 3).trans rfl,(bc_ BK202.out 4).trans rfl,(bc_ BK202.out 5).trans rfl⟩ (fun hHeld => ?_)
     clear hK K
     refine norm_ (a':=?_) ?_ ?_;rotate_left;(show Act.put _ (some 9) _ = _;simp only [Act.put,q1_,q2_,q3_,i64_w,i32_w];rfl)
     refine pu_ (i:=6) (N:=some 10) (v:=?_) (a':=?_) #[Y,Y,Y,Y,Y,Y,Y,Z,Z,Z,Z,Z,Z,Z,Z,Z,Z,Z,Z,Z,Z,Z,Z] rfl rfl HT_.out (by kernel_rfl) (fun _ _ _ h => h) (by rfl) ?_ ?_ ?_;rotate_left;(intro w';go_simp;with_reducible rfl);rotate_left;(simp only [Act.put,q1_,q2_,q3_,i64_w,i32_w];rfl)
     refine pu_ (i:=7) (N:=some 11) (v:=?_) (a':=?_) #[Y,Y,Y,Y,Y,Y,Y,Y,Z,Z,Z,Z,Z,Z,Z,Z,Z,Z,Z,Z,Z,Z,Z] rfl rfl HT_.out (by kernel_rfl) (fun _ _ _ h => h) (by rfl) ?_ ?_ ?_;rotate_left;(intro w';go_simp;with_reducible rfl);rotate_left;(simp only [Act.put,q1_,q2_,q3_,i64_w,i32_w];rfl)
     refine pu_ (i:=8) (N:=some 12) (v:=?_) (a':=?_) #[Y,Y,Y,Y,Y,Y,Y,Y,Y,Z,Z,Z,Z,Z,Z,Z,Z,Z,Z,Z,Z,Z,Z] rfl rfl HT_.out (by kernel_rfl) (fun _ _ _ h => h) (by rfl) ?_ ?_ ?_;rotate_left;(intro w';go_simp;with_reducible rfl);rotate_left;(simp only [Act.put,q1_,q2_,q3_,i64_w,i32_w];rfl)
     refine ta_ (i:=9) (N:=some 13) (v:=?_) (a':=?_) #[Y,Y,Y,Y,Y,Y,Y,Y,Y,Y,Z,Z,Z,Z,Z,Z,Z,Z,Z,Z,Z,Z,Z] rfl rfl HT_.out HW_.out (by kernel_rfl) (fun _ _ _ h => h) (by rfl) ?_ hHeld ?_ ?_;rotate_left;(rintro w' ⟨s0,s1,s2,s3,s4,s5⟩;go_simp;with_reducible rfl);rotate_left;(simp only [Act.put,q1_,q2_,q3_,i64_w,i32_w];rfl)
     refine pu_ (i:=10) (N:=some 14) (v:=?_) (a':=?_) #[Y,Y,Y,Y,Y,Y,Y,Y,Y,Y,Y,Z,Z,Z,Z,Z,Z,Z,Z,Z,Z,Z,Z] rfl rfl HT_.out (by kernel_rfl) (fun _ _ _ h => h) (by rfl) ?_ ?_ ?_;rotate_left;(intro w';go_simp;with_reducible rfl);rotate_left;(simp only [Act.put,q1_,q2_,q3_,i64_w,i32_w];rfl)
     refine pu_ (i:=11) (N:=some 15) (v:=?_) (a':=?_) #[Y,Y,Y,Y,Y,Y,Y,Y,Y,Y,Y,Y,Z,Z,Z,Z,Z,Z,Z,Z,Z,Z,Z] rfl rfl HT_.out (by kernel_rfl) (fun _ _ _ h => h) (by rfl) ?_ ?_ ?_;rotate_left;(intro w';go_simp;with_reducible rfl);rotate_left;(simp only [Act.put,q1_,q2_,q3_,i64_w,i32_w];rfl)
     refine pu_ (i:=12) (N:=some 16) (v:=?_) (a':=?_) #[Y,Y,Y,Y,Y,Y,Y,Y,Y,Y,Y,Y,Y,Z,Z,Z,Z,Z,Z,Z,Z,Z,Z] rfl rfl HT_.out (by kernel_rfl) (fun _ _ _ h => h) (by rfl) ?_ ?_ ?_;rotate_left;(intro w';go_simp;with_reducible rfl);rotate_left;(simp only [Act.put,q1_,q2_,q3_,i64_w,i32_w];rfl)
     refine pu_ (i:=13) (N:=some 17) (v:=?_) (a':=?_) #[Y,Y,Y,Y,Y,Y,Y,Y,Y,Y,Y,Y,Y,Y,Z,Z,Z,Z,Z,Z,Z,Z,Z] rfl rfl HT_.out (by kernel_rfl) (fun _ _ _ h => h) (by rfl) ?_ ?_ ?_;rotate_left;(intro w';go_simp;with_reducible rfl);rotate_left;(simp only [Act.put,q1_,q2_,q3_,i64_w,i32_w];rfl)
     refine pu_ (i:=14) (N:=some 18) (v:=?_) (a':=?_) #[Y,Y,Y,Y,Y,Y,Y,Y,Y,Y,Y,Y,Y,Y,Y,Z,Z,Z,Z,Z,Z,Z,Z] rfl rfl HT_.out (by kernel_rfl) (fun _ _ _ h => h) (by rfl) ?_ ?_ ?_;rotate_left;(intro w';go_simp;with_reducible rfl);rotate_left;(simp only [Act.put,q1_,q2_,q3_,i64_w,i32_w];rfl)
     refine ta_ (i:=15) (N:=some 19) (v:=?_) (a':=?_) #[Y,Y,Y,Y,Y,Y,Y,Y,Y,Y,Y,Y,Y,Y,Y,Y,Z,Z,Z,Z,Z,Z,Z] rfl rfl HT_.out HW_.out (by kernel_rfl) (fun _ _ _ h => h) (by rfl) ?_ hHeld ?_ ?_;rotate_left;(rintro w' ⟨s0,s1,s2,s3,s4,s5⟩;go_simp;with_reducible rfl);rotate_left;(simp only [Act.put,q1_,q2_,q3_,i64_w,i32_w];rfl)
     refine pu_ (i:=16) (N:=some 20) (v:=?_) (a':=?_) #[Y,Y,Y,Y,Y,Y,Y,Y,Y,Y,Y,Y,Y,Y,Y,Y,Y,Z,Z,Z,Z,Z,Z] rfl rfl HT_.out (by kernel_rfl) (fun _ _ _ h => h) (by rfl) ?_ ?_ ?_;rotate_left;(intro w';go_simp;with_reducible rfl);rotate_left;(simp only [Act.put,q1_,q2_,q3_,i64_w,i32_w];rfl)
     refine pu_ (i:=17) (N:=some 21) (v:=?_) (a':=?_) #[Y,Y,Y,Y,Y,Y,Y,Y,Y,Y,Y,Y,Y,Y,Y,Y,Y,Y,Z,Z,Z,Z,Z] rfl rfl HT_.out (by kernel_rfl) (fun _ _ _ h => h) (by rfl) ?_ ?_ ?_;rotate_left;(intro w';go_simp;with_reducible rfl);rotate_left;(simp only [Act.put,q1_,q2_,q3_,i64_w,i32_w];rfl)
     refine ta_ (i:=18) (N:=some 22) (v:=?_) (a':=?_) #[Y,Y,Y,Y,Y,Y,Y,Y,Y,Y,Y,Y,Y,Y,Y,Y,Y,Y,Y,Z,Z,Z,Z] rfl rfl HT_.out HW_.out (by kernel_rfl) (fun _ _ _ h => h) (by rfl) ?_ hHeld ?_ ?_;rotate_left;(rintro w' ⟨s0,s1,s2,s3,s4,s5⟩;go_simp;with_reducible rfl);rotate_left;(simp only [Act.put,q1_,q2_,q3_,i64_w,i32_w];rfl)
     refine pu_ (i:=19) (N:=some 23) (v:=?_) (a':=?_) #[Y,Y,Y,Y,Y,Y,Y,Y,Y,Y,Y,Y,Y,Y,Y,Y,Y,Y,Y,Y,Z,Z,Z] rfl rfl HT_.out (by kernel_rfl) (fun _ _ _ h => h) (by rfl) ?_ ?_ ?_;rotate_left;(intro w';go_simp;with_reducible rfl);rotate_left;(simp only [Act.put,q1_,q2_,q3_,i64_w,i32_w];rfl)
     refine pu_ (i:=20) (N:=some 24) (v:=?_) (a':=?_) #[Y,Y,Y,Y,Y,Y,Y,Y,Y,Y,Y,Y,Y,Y,Y,Y,Y,Y,Y,Y,Y,Z,Z] rfl rfl HT_.out (by kernel_rfl) (fun _ _ _ h => h) (by rfl) ?_ ?_ ?_;rotate_left;(intro w';go_simp;with_reducible rfl);rotate_left;(simp only [Act.put,q1_,q2_,q3_,i64_w,i32_w];rfl)
     refine pu_ (i:=21) (N:=some 25) (v:=?_) (a':=?_) #[Y,Y,Y,Y,Y,Y,Y,Y,Y,Y,Y,Y,Y,Y,Y,Y,Y,Y,Y,Y,Y,Y,Z] rfl rfl HT_.out (by kernel_rfl) (fun _ _ _ h => h) (by rfl) ?_ ?_ ?_;rotate_left;(intro w';go_simp;with_reducible rfl);rotate_left;(simp only [Act.put,q1_,q2_,q3_,i64_w,i32_w];rfl)
     refine pu_ (i:=22) (N:=some 26) (v:=?_) (a':=?_) #[Y,Y,Y,Y,Y,Y,Y,Y,Y,Y,Y,Y,Y,Y,Y,Y,Y,Y,Y,Y,Y,Y,Y] rfl rfl HT_.out (by kernel_rfl) (fun _ _ _ h => h) (by rfl) ?_ ?_ ?_;rotate_left;(intro w';go_simp;with_reducible rfl);rotate_left;(simp only [Act.put,q1_,q2_,q3_,i64_w,i32_w];rfl)
     refine done_ (done_of HT_.out (by kernel_rfl)) ?_
     try go_wp2
     go_meet
     case rel => exact ⟨_,(decide ((l0_2.length : Int) > 0)),(by first | rfl | (simp;done) | (simp [*];done)),H',⟨by first | omega | exact Nat.le_refl _⟩,⟨by (with_reducible repeat (first | refine kd_ ?_ _ | refine ke_ ?_ | refine ka_ ?_ _));exact BK202.out⟩,⟨by repeat (first | (with_reducible first | exact HB.out | apply ba_ | apply bd_ | apply be_ | refine bs_ ?_ GE202.out) | exact HB.out)⟩⟩
    ·replace c8:=Bool.eq_false_iff.mpr c8
     subst c8
     have H1 : (humusref04_May.j0 k false a0_0 false l0_2 a0_3 a0_4 a0_5) = some r:=by rw [if_neg (show ¬ (false = true) by decide)] at H;exact H
     clear H;have H:=H1;clear H1;have H':=A_ H;clear H
     try go_wp2
     have n0_:=A_ (ke_ BK202.out);have n1_:=A_ (be_ HB.out);clear BK202;clear HB;have BK202:=n0_;have HB:=n1_;clear n0_ n1_
     refine start_ (n:=23) (S:=fun w' => w'.cell? ⟨gb202,0,none⟩ = some (.float .f64 a0_0) ∧ w'.cell? ⟨gb202,1,none⟩ = some (.bool false) ∧ w'.cell? ⟨gb202,2,none⟩ = some (.slice A0_2 l0_2.length c0_2) ∧ w'.cell? ⟨gb202,3,none⟩ = some (.int .i64 a0_3) ∧ w'.cell? ⟨gb202,4,none⟩ = some (.int .i64 a0_4) ∧ w'.cell? ⟨gb202,5,none⟩ = some (.int .i64 a0_5)) (ds:=[]) #[Z,Z,Z,Z,Z,Z,Z,Z,Z,Z,Z,Z,Z,Z,Z,Z,Z,Z,Z,Z,Z,Z,Z] (by kernel_rfl) rfl rfl ⟨(bc_ BK202.out 0).trans rfl,(bc_ BK202.out 1).trans rfl,(bc_ BK202.out 2).trans rfl,(bc_ BK202.out 3).trans rfl,(bc_ BK202.out 4).trans rfl,(bc_ BK202.out 5).trans rfl⟩ (fun hHeld => ?_);refine with_tabW humusref04_May.tab1 humusref04_May.bits1 (fun HT_ HW_ => ?_)
     generalize w3.drew = w10 at BK202 HB hHeld ⊢
     refine pu_ (i:=0) (N:=some 4) (v:=?_) (a':=?_) #[Y,Z,Z,Z,Z,Z,Z,Z,Z,Z,Z,Z,Z,Z,Z,Z,Z,Z,Z,Z,Z,Z,Z] rfl rfl HT_.out (by kernel_rfl) (fun _ _ _ h => h) (by rfl) ?_ ?_ ?_;rotate_left;(intro w';go_simp;with_reducible rfl);rotate_left;(simp only [Act.put,q1_,q2_,q3_,i64_w,i32_w];rfl)
     refine pu_ (i:=3) (N:=some 7) (v:=?_) (a':=?_) #[Y,Z,Z,Y,Z,Z,Z,Z,Z,Z,Z,Z,Z,Z,Z,Z,Z,Z,Z,Z,Z,Z,Z] rfl rfl HT_.out (by kernel_rfl) (fun _ _ _ h => h) (by rfl) ?_ ?_ ?_;rotate_left;(intro w';go_simp;with_reducible rfl);rotate_left;(simp only [Act.put,q1_,q2_,q3_,i64_w,i32_w];rfl)
     refine ta_ (i:=1) (N:=some 5) (v:=?_) (a':=?_) #[Y,Y,Z,Y,Z,Z,Z,Z,Z,Z,Z,Z,Z,Z,Z,Z,Z,Z,Z,Z,Z,Z,Z] rfl rfl HT_.out HW_.out (by kernel_rfl) (fun _ _ _ h => h) (by rfl) ?_ hHeld ?_ ?_;rotate_left;(rintro w' ⟨s0,s1,s2,s3,s4,s5⟩;go_simp;with_reducible rfl);rotate_left;(simp only [Act.put,q1_,q2_,q3_,i64_w,i32_w];rfl)
     refine ta_ (i:=4) (N:=some 8) (v:=?_) (a':=?_) #[Y,Y,Z,Y,Y,Z,Z,Z,Z,Z,Z,Z,Z,Z,Z,Z,Z,Z,Z,Z,Z,Z,Z] rfl rfl HT_.out HW_.out (by kernel_rfl) (fun _ _ _ h => h) (by rfl) ?_ hHeld ?_ ?_;rotate_left;(rintro w' ⟨s0,s1,s2,s3,s4,s5⟩;go_simp;with_reducible rfl);rotate_left;(simp only [Act.put,q1_,q2_,q3_,i64_w,i32_w];rfl)
     refine one_ (i:=2) (N:=some 6) #[Y,Y,Y,Y,Y,Z,Z,Z,Z,Z,Z,Z,Z,Z,Z,Z,Z,Z,Z,Z,Z,Z,Z] rfl rfl (one_of HT_.out (by kernel_rfl)) (by decide) (fun K hK => ?_)
     skip
     refine value_ (w1:=?_) (v:=?_) (by rfl) rfl ?_ ?_
     rotate_left 2
     ·go_simp
      constructor
      ·rfl
      ·rfl
     skip
     refine hK.out _ _ ⟨(bc_ BK202.out 0).trans rfl,(bc_ BK202.out 1).trans rfl,(bc_ BK202.out 2).trans rfl,(bc_ BK202.out 3).trans rfl,(bc_ BK202.out 4).trans rfl,(bc_ BK202.out 5).trans rfl⟩ (fun hHeld => ?_)
     clear hK K
     refine norm_ (a':=?_) ?_ ?_;rotate_left;(show Act.put _ (some 6) _ = _;simp only [Act.put,q1_,q2_,q3_,i64_w,i32_w];rfl)
     refine one_ (i:=5) (N:=some 9) #[Y,Y,Y,Y,Y,Y,Z,Z,Z,Z,Z,Z,Z,Z,Z,Z,Z,Z,Z,Z,Z,Z,Z] rfl rfl (one_of HT_.out (by kernel_rfl)) (by decide) (fun K hK => ?_)
     refine goes_ Try.func71 (by kernel_rfl) rfl #[.float .f64 a0_0] (by rfl) rfl rfl (by (try simp only [List.map_toArray,List.map_cons,List.map_nil]);first | done | rfl | (simp only [List.length_drop,List.length_take];rfl)) ?_
     with_reducible refine (humusref01_Key.calls a0_0 t203 _ A4.out).mono ?_
     rintro e w' ⟨rfl,⟨nd,rfl⟩⟩;refine ⟨_,rfl,?_⟩
     refine hK.out _ _ ⟨(bc_ BK202.out 0).trans rfl,(bc_ BK202.out 1).trans rfl,(bc_ BK202.out 2).trans rfl,(bc_ BK202.out 3).trans rfl,(bc_ BK202.out 4).trans rfl,(bc_ BK202.out 5).trans rfl⟩ (fun hHeld => ?_)
     clear hK K
     refine norm_ (a':=?_) ?_ ?_;rotate_left;(show Act.put _ (some 9) _ = _;simp only [Act.put,q1_,q2_,q3_,i64_w,i32_w];rfl)
     refine pu_ (i:=6) (N:=some 10) (v:=?_) (a':=?_) #[Y,Y,Y,Y,Y,Y,Y,Z,Z,Z,Z,Z,Z,Z,Z,Z,Z,Z,Z,Z,Z,Z,Z] rfl rfl HT_.out (by kernel_rfl) (fun _ _ _ h => h) (by rfl) ?_ ?_ ?_;rotate_left;(intro w';go_simp;with_reducible rfl);rotate_left;(simp only [Act.put,q1_,q2_,q3_,i64_w,i32_w];rfl)
     refine pu_ (i:=7) (N:=some 11) (v:=?_) (a':=?_) #[Y,Y,Y,Y,Y,Y,Y,Y,Z,Z,Z,Z,Z,Z,Z,Z,Z,Z,Z,Z,Z,Z,Z] rfl rfl HT_.out (by kernel_rfl) (fun _ _ _ h => h) (by rfl) ?_ ?_ ?_;rotate_left;(intro w';go_simp;with_reducible rfl);rotate_left;(simp only [Act.put,q1_,q2_,q3_,i64_w,i32_w];rfl)
     refine pu_ (i:=8) (N:=some 12) (v:=?_) (a':=?_) #[Y,Y,Y,Y,Y,Y,Y,Y,Y,Z,Z,Z,Z,Z,Z,Z,Z,Z,Z,Z,Z,Z,Z] rfl rfl HT_.out (by kernel_rfl) (fun _ _ _ h => h) (by rfl) ?_ ?_ ?_;rotate_left;(intro w';go_simp;with_reducible rfl);rotate_left;(simp only [Act.put,q1_,q2_,q3_,i64_w,i32_w];rfl)
     refine ta_ (i:=9) (N:=some 13) (v:=?_) (a':=?_) #[Y,Y,Y,Y,Y,Y,Y,Y,Y,Y,Z,Z,Z,Z,Z,Z,Z,Z,Z,Z,Z,Z,Z] rfl rfl HT_.out HW_.out (by kernel_rfl) (fun _ _ _ h => h) (by rfl) ?_ hHeld ?_ ?_;rotate_left;(rintro w' ⟨s0,s1,s2,s3,s4,s5⟩;go_simp;with_reducible rfl);rotate_left;(simp only [Act.put,q1_,q2_,q3_,i64_w,i32_w];rfl)
     refine pu_ (i:=10) (N:=some 14) (v:=?_) (a':=?_) #[Y,Y,Y,Y,Y,Y,Y,Y,Y,Y,Y,Z,Z,Z,Z,Z,Z,Z,Z,Z,Z,Z,Z] rfl rfl HT_.out (by kernel_rfl) (fun _ _ _ h => h) (by rfl) ?_ ?_ ?_;rotate_left;(intro w';go_simp;with_reducible rfl);rotate_left;(simp only [Act.put,q1_,q2_,q3_,i64_w,i32_w];rfl)
     refine pu_ (i:=11) (N:=some 15) (v:=?_) (a':=?_) #[Y,Y,Y,Y,Y,Y,Y,Y,Y,Y,Y,Y,Z,Z,Z,Z,Z,Z,Z,Z,Z,Z,Z] rfl rfl HT_.out (by kernel_rfl) (fun _ _ _ h => h) (by rfl) ?_ ?_ ?_;rotate_left;(intro w';go_simp;with_reducible rfl);rotate_left;(simp only [Act.put,q1_,q2_,q3_,i64_w,i32_w];rfl)
     refine pu_ (i:=12) (N:=some 16) (v:=?_) (a':=?_) #[Y,Y,Y,Y,Y,Y,Y,Y,Y,Y,Y,Y,Y,Z,Z,Z,Z,Z,Z,Z,Z,Z,Z] rfl rfl HT_.out (by kernel_rfl) (fun _ _ _ h => h) (by rfl) ?_ ?_ ?_;rotate_left;(intro w';go_simp;with_reducible rfl);rotate_left;(simp only [Act.put,q1_,q2_,q3_,i64_w,i32_w];rfl)
     refine pu_ (i:=13) (N:=some 17) (v:=?_) (a':=?_) #[Y,Y,Y,Y,Y,Y,Y,Y,Y,Y,Y,Y,Y,Y,Z,Z,Z,Z,Z,Z,Z,Z,Z] rfl rfl HT_.out (by kernel_rfl) (fun _ _ _ h => h) (by rfl) ?_ ?_ ?_;rotate_left;(intro w';go_simp;with_reducible rfl);rotate_left;(simp only [Act.put,q1_,q2_,q3_,i64_w,i32_w];rfl)
     refine pu_ (i:=14) (N:=some 18) (v:=?_) (a':=?_) #[Y,Y,Y,Y,Y,Y,Y,Y,Y,Y,Y,Y,Y,Y,Y,Z,Z,Z,Z,Z,Z,Z,Z] rfl rfl HT_.out (by kernel_rfl) (fun _ _ _ h => h) (by rfl) ?_ ?_ ?_;rotate_left;(intro w';go_simp;with_reducible rfl);rotate_left;(simp only [Act.put,q1_,q2_,q3_,i64_w,i32_w];rfl)
     refine ta_ (i:=15) (N:=some 19) (v:=?_) (a':=?_) #[Y,Y,Y,Y,Y,Y,Y,Y,Y,Y,Y,Y,Y,Y,Y,Y,Z,Z,Z,Z,Z,Z,Z] rfl rfl HT_.out HW_.out (by kernel_rfl) (fun _ _ _ h => h) (by rfl) ?_ hHeld ?_ ?_;rotate_left;(rintro w' ⟨s0,s1,s2,s3,s4,s5⟩;go_simp;with_reducible rfl);rotate_left;(simp only [Act.put,q1_,q2_,q3_,i64_w,i32_w];rfl)
     refine pu_ (i:=16) (N:=some 20) (v:=?_) (a':=?_) #[Y,Y,Y,Y,Y,Y,Y,Y,Y,Y,Y,Y,Y,Y,Y,Y,Y,Z,Z,Z,Z,Z,Z] rfl rfl HT_.out (by kernel_rfl) (fun _ _ _ h => h) (by rfl) ?_ ?_ ?_;rotate_left;(intro w';go_simp;with_reducible rfl);rotate_left;(simp only [Act.put,q1_,q2_,q3_,i64_w,i32_w];rfl)
     refine pv_ (i:=17) (N:=some 21) (a':=?_) #[Y,Y,Y,Y,Y,Y,Y,Y,Y,Y,Y,Y,Y,Y,Y,Y,Y,Y,Z,Z,Z,Z,Z] rfl rfl HT_.out (by kernel_rfl) (fun _ _ _ h => h) (by rfl) ?_ ?_;rotate_left;(simp only [Act.put,q1_,q2_,q3_,i64_w,i32_w];rfl)
     refine pv_ (i:=18) (N:=some 22) (a':=?_) #[Y,Y,Y,Y,Y,Y,Y,Y,Y,Y,Y,Y,Y,Y,Y,Y,Y,Y,Y,Z,Z,Z,Z] rfl rfl HT_.out (by kernel_rfl) (fun _ _ _ h => h) (by rfl) ?_ ?_;rotate_left;(simp only [Act.put,q1_,q2_,q3_,i64_w,i32_w];rfl)
     refine pv_ (i:=19) (N:=some 23) (a':=?_) #[Y,Y,Y,Y,Y,Y,Y,Y,Y,Y,Y,Y,Y,Y,Y,Y,Y,Y,Y,Y,Z,Z,Z] rfl rfl HT_.out (by kernel_rfl) (fun _ _ _ h => h) (by rfl) ?_ ?_;rotate_left;(simp only [Act.put,q1_,q2_,q3_,i64_w,i32_w];rfl)
     refine pv_ (i:=20) (N:=some 24) (a':=?_) #[Y,Y,Y,Y,Y,Y,Y,Y,Y,Y,Y,Y,Y,Y,Y,Y,Y,Y,Y,Y,Y,Z,Z] rfl rfl HT_.out (by kernel_rfl) (fun _ _ _ h => h) (by rfl) ?_ ?_;rotate_left;(simp only [Act.put,q1_,q2_,q3_,i64_w,i32_w];rfl)
     refine pu_ (i:=21) (N:=some 25) (v:=?_) (a':=?_) #[Y,Y,Y,Y,Y,Y,Y,Y,Y,Y,Y,Y,Y,Y,Y,Y,Y,Y,Y,Y,Y,Y,Z] rfl rfl HT_.out (by kernel_rfl) (fun _ _ _ h => h) (by rfl) ?_ ?_ ?_;rotate_left;(intro w';go_simp;with_reducible rfl);rotate_left;(simp only [Act.put,q1_,q2_,q3_,i64_w,i32_w];rfl)
     refine pu_ (i:=22) (N:=some 26) (v:=?_) (a':=?_) #[Y,Y,Y,Y,Y,Y,Y,Y,Y,Y,Y,Y,Y,Y,Y,Y,Y,Y,Y,Y,Y,Y,Y] rfl rfl HT_.out (by kernel_rfl) (fun _ _ _ h => h) (by rfl) ?_ ?_ ?_;rotate_left;(intro w';go_simp;with_reducible rfl);rotate_left;(simp only [Act.put,q1_,q2_,q3_,i64_w,i32_w];rfl)
     refine done_ (done_of HT_.out (by kernel_rfl)) ?_
     try go_wp2
     go_meet
     case rel => exact ⟨_,false,rfl,H',⟨by first | omega | exact Nat.le_refl _⟩,⟨by (with_reducible repeat (first | refine kd_ ?_ _ | refine ke_ ?_ | refine ka_ ?_ _));exact BK202.out⟩,⟨by repeat (first | (with_reducible first | exact HB.out | apply ba_ | apply bd_ | apply be_ | refine bs_ ?_ GE202.out) | exact HB.out)⟩⟩
  ·rw [if_neg c5] at H
   have c5b0 : ((a0_0 : Int) == t203) = false:=beq_eq_false_iff_ne.mpr c5;have c5b1 : ((a0_0 : Int) != t203) = true:=bne_iff_ne.mpr c5;(first | rw [c5b0] | (simp only [i64_w,i32_w];rw [c5b0]) | skip);have H':=A_ H;clear H
   try go_wp2
   have n0_:=A_ (ke_ BK202.out);have n1_:=A_ (be_ HB.out);clear BK202;clear HB;have BK202:=n0_;have HB:=n1_;clear n0_ n1_
   refine start_ (n:=23) (S:=fun w' => w'.cell? ⟨gb202,0,none⟩ = some (.float .f64 a0_0) ∧ w'.cell? ⟨gb202,1,none⟩ = some (.bool a0_1) ∧ w'.cell? ⟨gb202,2,none⟩ = some (.slice A0_2 l0_2.length c0_2) ∧ w'.cell? ⟨gb202,3,none⟩ = some (.int .i64 a0_3) ∧ w'.cell? ⟨gb202,4,none⟩ = some (.int .i64 a0_4) ∧ w'.cell? ⟨gb202,5,none⟩ = some (.int .i64 a0_5)) (ds:=[5]) #[Z,Z,Z,Z,Z,Z,Z,Z,Z,Z,Z,Z,Z,Z,Z,Z,Z,Z,Z,Z,Z,Z,Z] (by kernel_rfl) rfl rfl ⟨(bc_ BK202.out 0).trans rfl,(bc_ BK202.out 1).trans rfl,(bc_ BK202.out 2).trans rfl,(bc_ BK202.out 3).trans rfl,(bc_ BK202.out 4).trans rfl,(bc_ BK202.out 5).trans rfl⟩ (fun hHeld => ?_);refine with_tabW humusref04_May.tab1 humusref04_May.bits1 (fun HT_ HW_ => ?_)
   generalize w3.drew = w11 at BK202 HB hHeld ⊢
   refine pu_ (i:=0) (N:=some 4) (v:=?_) (a':=?_) #[Y,Z,Z,Z,Z,Z,Z,Z,Z,Z,Z,Z,Z,Z,Z,Z,Z,Z,Z,Z,Z,Z,Z] rfl rfl HT_.out (by kernel_rfl) (fun _ _ _ h => h) (by rfl) ?_ ?_ ?_;rotate_left;(intro w';go_simp;with_reducible rfl);rotate_left;(simp only [Act.put,q1_,q2_,q3_,i64_w,i32_w];rfl)
   refine pu_ (i:=3) (N:=some 7) (v:=?_) (a':=?_) #[Y,Z,Z,Y,Z,Z,Z,Z,Z,Z,Z,Z,Z,Z,Z,Z,Z,Z,Z,Z,Z,Z,Z] rfl rfl HT_.out (by kernel_rfl) (fun _ _ _ h => h) (by rfl) ?_ ?_ ?_;rotate_left;(intro w';go_simp;with_reducible rfl);rotate_left;(simp only [Act.put,q1_,q2_,q3_,i64_w,i32_w];rfl)
   refine ta_ (i:=1) (N:=some 5) (v:=?_) (a':=?_) #[Y,Y,Z,Y,Z,Z,Z,Z,Z,Z,Z,Z,Z,Z,Z,Z,Z,Z,Z,Z,Z,Z,Z] rfl rfl HT_.out HW_.out (by kernel_rfl) (fun _ _ _ h => h) (by rfl) ?_ hHeld ?_ ?_;rotate_left;(rintro w' ⟨s0,s1,s2,s3,s4,s5⟩;go_simp;with_reducible rfl);rotate_left;(simp only [Act.put,q1_,q2_,q3_,i64_w,i32_w];rfl)
   refine ta_ (i:=4) (N:=some 8) (v:=?_) (a':=?_) #[Y,Y,Z,Y,Y,Z,Z,Z,Z,Z,Z,Z,Z,Z,Z,Z,Z,Z,Z,Z,Z,Z,Z] rfl rfl HT_.out HW_.out (by kernel_rfl) (fun _ _ _ h => h) (by rfl) ?_ hHeld ?_ ?_;rotate_left;(rintro w' ⟨s0,s1,s2,s3,s4,s5⟩;go_simp;with_reducible rfl);rotate_left;(simp only [Act.put,q1_,q2_,q3_,i64_w,i32_w];rfl)
   refine one_ (i:=2) (N:=some 6) #[Y,Y,Y,Y,Y,Z,Z,Z,Z,Z,Z,Z,Z,Z,Z,Z,Z,Z,Z,Z,Z,Z,Z] rfl rfl (one_of HT_.out (by kernel_rfl)) (by decide) (fun K hK => ?_)
   skip
   refine value_ (w1:=?_) (v:=?_) (by rfl) rfl ?_ ?_
   rotate_left 2
   ·go_simp
    constructor
    ·rfl
    ·rfl
   skip
   refine hK.out _ _ ⟨(bc_ BK202.out 0).trans rfl,(bc_ BK202.out 1).trans rfl,(bc_ BK202.out 2).trans rfl,(bc_ BK202.out 3).trans rfl,(bc_ BK202.out 4).trans rfl,(bc_ BK202.out 5).trans rfl⟩ (fun hHeld => ?_)
   clear hK K
   refine norm_ (a':=?_) ?_ ?_;rotate_left;(show Act.put _ (some 6) _ = _;simp only [Act.put,q1_,q2_,q3_,i64_w,i32_w];rfl)
   refine last_ (i:=5) (N:=some 9) #[Y,Y,Y,Y,Y,Y,Z,Z,Z,Z,Z,Z,Z,Z,Z,Z,Z,Z,Z,Z,Z,Z,Z] rfl rfl (one_of HT_.out (by kernel_rfl)) (by decide) (fun K hK => ?_)
   refine goes_ Try.func71 (by kernel_rfl) rfl #[.float .f64 a0_0] (by rfl) rfl rfl (by (try simp only [List.map_toArray,List.map_cons,List.map_nil]);first | done | rfl | (simp only [List.length_drop,List.length_take];rfl)) ?_
   with_reducible refine (humusref01_Key.calls a0_0 t203 _ A4.out).mono ?_
   rintro e w' ⟨rfl,⟨nd,rfl⟩⟩;refine ⟨_,rfl,?_⟩;refine hK.out _ _ ?_;clear hK K
   refine norm_ (a':=?_) ?_ ?_;rotate_left;(show Act.put _ (some 9) _ = _;simp only [Act.put,q1_,q2_,q3_,i64_w,i32_w];rfl)
   refine pu_ (i:=6) (N:=some 10) (v:=?_) (a':=?_) #[Y,Y,Y,Y,Y,Y,Y,Z,Z,Z,Z,Z,Z,Z,Z,Z,Z,Z,Z,Z,Z,Z,Z] rfl rfl HT_.out (by kernel_rfl) (fun _ _ _ h => h) (by rfl) ?_ ?_ ?_;rotate_left;(intro w';go_simp;with_reducible rfl);rotate_left;(simp only [Act.put,q1_,q2_,q3_,i64_w,i32_w];rfl)
   refine pu_ (i:=7) (N:=some 11) (v:=?_) (a':=?_) #[Y,Y,Y,Y,Y,Y,Y,Y,Z,Z,Z,Z,Z,Z,Z,Z,Z,Z,Z,Z,Z,Z,Z] rfl rfl HT_.out (by kernel_rfl) (fun _ _ _ h => h) (by rfl) ?_ ?_ ?_;rotate_left;(intro w';go_simp;with_reducible rfl);rotate_left;(simp only [Act.put,q1_,q2_,q3_,i64_w,i32_w];rfl)
   refine pv_ (i:=8) (N:=some 12) (a':=?_) #[Y,Y,Y,Y,Y,Y,Y,Y,Y,Z,Z,Z,Z,Z,Z,Z,Z,Z,Z,Z,Z,Z,Z] rfl rfl HT_.out (by kernel_rfl) (fun _ _ _ h => h) (by rfl) ?_ ?_;rotate_left;(simp only [Act.put,q1_,q2_,q3_,i64_w,i32_w];rfl)
   refine pv_ (i:=9) (N:=some 13) (a':=?_) #[Y,Y,Y,Y,Y,Y,Y,Y,Y,Y,Z,Z,Z,Z,Z,Z,Z,Z,Z,Z,Z,Z,Z] rfl rfl HT_.out (by kernel_rfl) (fun _ _ _ h => h) (by rfl) ?_ ?_;rotate_left;(simp only [Act.put,q1_,q2_,q3_,i64_w,i32_w];rfl)
   refine pv_ (i:=10) (N:=some 14) (a':=?_) #[Y,Y,Y,Y,Y,Y,Y,Y,Y,Y,Y,Z,Z,Z,Z,Z,Z,Z,Z,Z,Z,Z,Z] rfl rfl HT_.out (by kernel_rfl) (fun _ _ _ h => h) (by rfl) ?_ ?_;rotate_left;(simp only [Act.put,q1_,q2_,q3_,i64_w,i32_w];rfl)
   refine pv_ (i:=11) (N:=some 15) (a':=?_) #[Y,Y,Y,Y,Y,Y,Y,Y,Y,Y,Y,Y,Z,Z,Z,Z,Z,Z,Z,Z,Z,Z,Z] rfl rfl HT_.out (by kernel_rfl) (fun _ _ _ h => h) (by rfl) ?_ ?_;rotate_left;(simp only [Act.put,q1_,q2_,q3_,i64_w,i32_w];rfl)
   refine pu_ (i:=12) (N:=some 16) (v:=?_) (a':=?_) #[Y,Y,Y,Y,Y,Y,Y,Y,Y,Y,Y,Y,Y,Z,Z,Z,Z,Z,Z,Z,Z,Z,Z] rfl rfl HT_.out (by kernel_rfl) (fun _ _ _ h => h) (by rfl) ?_ ?_ ?_;rotate_left;(intro w';go_simp;with_reducible rfl);rotate_left;(simp only [Act.put,q1_,q2_,q3_,i64_w,i32_w];rfl)
   refine pu_ (i:=13) (N:=some 17) (v:=?_) (a':=?_) #[Y,Y,Y,Y,Y,Y,Y,Y,Y,Y,Y,Y,Y,Y,Z,Z,Z,Z,Z,Z,Z,Z,Z] rfl rfl HT_.out (by kernel_rfl) (fun _ _ _ h => h) (by rfl) ?_ ?_ ?_;rotate_left;(intro w';go_simp;with_reducible rfl);rotate_left;(simp only [Act.put,q1_,q2_,q3_,i64_w,i32_w];rfl)
   refine pv_ (i:=14) (N:=some 18) (a':=?_) #[Y,Y,Y,Y,Y,Y,Y,Y,Y,Y,Y,Y,Y,Y,Y,Z,Z,Z,Z,Z,Z,Z,Z] rfl rfl HT_.out (by kernel_rfl) (fun _ _ _ h => h) (by rfl) ?_ ?_;rotate_left;(simp only [Act.put,q1_,q2_,q3_,i64_w,i32_w];rfl)
   refine pv_ (i:=15) (N:=some 19) (a':=?_) #[Y,Y,Y,Y,Y,Y,Y,Y,Y,Y,Y,Y,Y,Y,Y,Y,Z,Z,Z,Z,Z,Z,Z] rfl rfl HT_.out (by kernel_rfl) (fun _ _ _ h => h) (by rfl) ?_ ?_;rotate_left;(simp only [Act.put,q1_,q2_,q3_,i64_w,i32_w];rfl)
   refine pv_ (i:=16) (N:=some 20) (a':=?_) #[Y,Y,Y,Y,Y,Y,Y,Y,Y,Y,Y,Y,Y,Y,Y,Y,Y,Z,Z,Z,Z,Z,Z] rfl rfl HT_.out (by kernel_rfl) (fun _ _ _ h => h) (by rfl) ?_ ?_;rotate_left;(simp only [Act.put,q1_,q2_,q3_,i64_w,i32_w];rfl)
   refine pv_ (i:=17) (N:=some 21) (a':=?_) #[Y,Y,Y,Y,Y,Y,Y,Y,Y,Y,Y,Y,Y,Y,Y,Y,Y,Y,Z,Z,Z,Z,Z] rfl rfl HT_.out (by kernel_rfl) (fun _ _ _ h => h) (by rfl) ?_ ?_;rotate_left;(simp only [Act.put,q1_,q2_,q3_,i64_w,i32_w];rfl)
   refine pv_ (i:=18) (N:=some 22) (a':=?_) #[Y,Y,Y,Y,Y,Y,Y,Y,Y,Y,Y,Y,Y,Y,Y,Y,Y,Y,Y,Z,Z,Z,Z] rfl rfl HT_.out (by kernel_rfl) (fun _ _ _ h => h) (by rfl) ?_ ?_;rotate_left;(simp only [Act.put,q1_,q2_,q3_,i64_w,i32_w];rfl)
   refine pv_ (i:=19) (N:=some 23) (a':=?_) #[Y,Y,Y,Y,Y,Y,Y,Y,Y,Y,Y,Y,Y,Y,Y,Y,Y,Y,Y,Y,Z,Z,Z] rfl rfl HT_.out (by kernel_rfl) (fun _ _ _ h => h) (by rfl) ?_ ?_;rotate_left;(simp only [Act.put,q1_,q2_,q3_,i64_w,i32_w];rfl)
   refine pv_ (i:=20) (N:=some 24) (a':=?_) #[Y,Y,Y,Y,Y,Y,Y,Y,Y,Y,Y,Y,Y,Y,Y,Y,Y,Y,Y,Y,Y,Z,Z] rfl rfl HT_.out (by kernel_rfl) (fun _ _ _ h => h) (by rfl) ?_ ?_;rotate_left;(simp only [Act.put,q1_,q2_,q3_,i64_w,i32_w];rfl)
   refine pv_ (i:=21) (N:=some 25) (a':=?_) #[Y,Y,Y,Y,Y,Y,Y,Y,Y,Y,Y,Y,Y,Y,Y,Y,Y,Y,Y,Y,Y,Y,Z] rfl rfl HT_.out (by kernel_rfl) (fun _ _ _ h => h) (by rfl) ?_ ?_;rotate_left;(simp only [Act.put,q1_,q2_,q3_,i64_w,i32_w];rfl)
   refine pu_ (i:=22) (N:=some 26) (v:=?_) (a':=?_) #[Y,Y,Y,Y,Y,Y,Y,Y,Y,Y,Y,Y,Y,Y,Y,Y,Y,Y,Y,Y,Y,Y,Y] rfl rfl HT_.out (by kernel_rfl) (fun _ _ _ h => h) (by rfl) ?_ ?_ ?_;rotate_left;(intro w';go_simp;with_reducible rfl);rotate_left;(simp only [Act.put,q1_,q2_,q3_,i64_w,i32_w];rfl)
   refine done_ (done_of HT_.out (by kernel_rfl)) ?_
   try go_wp2
   go_meet
   case rel => exact ⟨_,true,rfl,H',⟨by first | omega | exact Nat.le_refl _⟩,⟨by (with_reducible repeat (first | refine kd_ ?_ _ | refine ke_ ?_ | refine ka_ ?_ _));exact BK202.out⟩,⟨by repeat (first | (with_reducible first | exact HB.out | apply ba_ | apply bd_ | apply be_ | refine bs_ ?_ GE202.out) | exact HB.out)⟩⟩
 case rest =>
  clear HC2;(try clear p2);(try clear c5);(try clear c5b0);(try clear c5b1);(try clear c6);(try clear c6b0);(try clear c6b1);(try clear c7);(try clear c8);obtain ⟨kq,x26_1,rfl,HA,HJ1,BK202,HB⟩:=hcut
  cases kq with
  | zero => exact absurd HA.out (by simp [humusref04_May.j0])
  | succ kj1 =>
   have H:=HA.out;clear HA
   simp only [humusref04_May.j0] at H
   by_cases c12 : x26_1 = true
   ·subst c12
    have H1 : (some false) = some r:=by rw [if_pos rfl] at H;exact H
    clear H;have H:=H1;clear H1;obtain rfl:=Option.some.inj H;go_wp2;go_ret
    exact ⟨by first | rfl | (simp [errW_none,errW_some] <;> rfl) | (simp [*,errW_none,errW_some] <;> rfl),by repeat (first | (with_reducible first | exact HB.out | apply ba_ | apply bd_ | apply be_ | refine bs_ ?_ GE202.out) | exact HB.out)⟩
   ·replace c12:=Bool.eq_false_iff.mpr c12
    subst c12
    have H1 : (humusref04_May.l0 kj1 0 a0_0 a0_1 l0_2 a0_3 a0_4 a0_5) = some r:=by rw [if_neg (show ¬ (false = true) by decide)] at H;exact H
    clear H;have H:=H1;clear H1;have H':=A_ H;clear H;go_wp2
    go_loopg [3] kj1 (fun kq v3 w' => ∃ (x3_2 : Int),v3 = .int .i64 x3_2 ∧ Aside0 (humusref04_May.l0 kq x3_2 a0_0 a0_1 l0_2 a0_3 a0_4 a0_5 = some r) ∧ Aside0 (kq ≤ kj1) ∧ Aside0 (w'.heap[gb202]? = some (.cells #[.float .f64 a0_0,.bool a0_1,(.slice A0_2 l0_2.length c0_2),.int .i64 a0_3,.int .i64 a0_4,.int .i64 a0_5] 30 (0,0))) ∧ Aside0 (Below w.heap.size w w'))
    case atStart => exact ⟨(0),(by first | rfl | (simp;done) | (simp [*];done)),H',⟨Nat.le_refl _⟩,⟨by (with_reducible repeat (first | refine kd_ ?_ _ | refine ke_ ?_ | refine ka_ ?_ _));exact BK202.out⟩,⟨by repeat (first | (with_reducible first | exact HB.out | apply ba_ | apply bd_ | apply be_ | refine bs_ ?_ GE202.out) | exact HB.out)⟩⟩
    case round =>
     clear H';(try clear c1);(try clear p2);(try clear c5);(try clear c5b0);(try clear c5b1);(try clear c6);(try clear c6b0);(try clear c6b1);(try clear c7);(try clear c8);(try clear c12);(try clear p2);obtain ⟨x3_2,rfl,HA,HK2,BK202,HB⟩:=hrel
     cases gk with
     | zero => exact absurd HA.out (by simp [humusref04_May.l0])
     | succ k2 =>
      have H:=HA.out;clear HA
      simp only [humusref04_May.l0] at H
      by_cases c13 : x3_2 < (l0_2.length : Int)
      ·rw [if_pos c13] at H
       have c13b0 : decide (x3_2 < (l0_2.length : Int)) = true:=dt_ c13;clear c13
       by_cases c14 : 0 ≤ x3_2
       ·rw [if_pos c14] at H
        have c14b0 : decide (0 ≤ x3_2) = true:=dt_ c14;clear c14;replace H:=Option.bind_eq_some_iff.mp H;obtain ⟨t206,A150,H⟩:=H
        replace H : (if (rdF l0_2 x3_2 : Int) = t206 then (humusref04_May.l0 k2 (wrap64 (x3_2 + 1)) a0_0 a0_1 l0_2 a0_3 a0_4 a0_5) else (some false)) = some r:=H
        have A15:=A_ A150;clear A150
        by_cases c16 : (rdF l0_2 x3_2 : Int) = t206
        ·rw [if_pos c16] at H
         have c16b0 : ((rdF l0_2 x3_2 : Int) == t206) = true:=beq_iff_eq.mpr c16;have c16b1 : ((rdF l0_2 x3_2 : Int) != t206) = false:=bne_eq_false_iff_eq.mpr c16;clear c16;have H':=A_ H;clear H;obtain ⟨z17_0,z17_1,z17_2,z17_3,z17_4,z17_5⟩:=blkc_6 BK202.out;obtain ⟨y17_0,y17_1,y17_2,y17_3,y17_4,y17_5⟩:=blkz_6 BK202.out
         try go_wp2
         have n0_:=A_ (ke_ BK202.out);have n1_:=A_ (be_ HB.out);clear BK202;clear HB;have BK202:=n0_;have HB:=n1_;clear n0_ n1_
         have p204 : 0 ≤ (x3_2 : Int):=od_ (by first | (with_reducible assumption) | assumption)
         have q204 : x3_2 < (l0_2.length : Int):=od_ (by first | (with_reducible assumption) | assumption)
         obtain ⟨ad204,e204,hx204_0⟩:=Kd.at_f64 HR0_2.out x3_2 p204 q204;have hw204_0:=hx204_0
         cases e204
         replace hx204_0:=(HB.out.cell (wb_ w _ hx204_0)).trans hx204_0;replace p204:=eq_true p204;replace q204:=eq_true q204
         have p205 : 0 ≤ (x3_2 : Int):=od_ (by first | (with_reducible assumption) | assumption)
         have q205 : x3_2 < (l0_2.length : Int):=od_ (by first | (with_reducible assumption) | assumption)
         obtain ⟨ad205,e205,hx205_0⟩:=Kd.at_f64 HR0_2.out x3_2 p205 q205;have hw205_0:=hx205_0
         obtain rfl : ad204 = ad205:=(by injection e205)
         replace hx205_0:=(HB.out.cell (wb_ w _ hx205_0)).trans hx205_0;replace p205:=eq_true p205;replace q205:=eq_true q205
         refine start_ (n:=13) (S:=fun w' => w'.cell? ⟨gb202,0,none⟩ = some (.float .f64 a0_0) ∧ w'.cell? ⟨gb202,1,none⟩ = some (.bool a0_1) ∧ w'.cell? ⟨gb202,2,none⟩ = some (.slice (some ad204) l0_2.length c0_2) ∧ w'.cell? ⟨gb202,3,none⟩ = some (.int .i64 a0_3) ∧ w'.cell? ⟨gb202,4,none⟩ = some (.int .i64 a0_4) ∧ w'.cell? ⟨gb202,5,none⟩ = some (.int .i64 a0_5) ∧ w'.cell? (ad204.add (x3_2).toNat) = some (.float .f64 (rdF l0_2 x3_2)) ∧ w'.cell? (ad204.add (x3_2).toNat) = some (.float .f64 (rdF l0_2 x3_2))) (ds:=[11]) #[Z,Z,Z,Z,Z,Z,Z,Z,Z,Z,Z,Z,Z] (by kernel_rfl) rfl rfl ⟨(bc_ BK202.out 0).trans rfl,(bc_ BK202.out 1).trans rfl,(bc_ BK202.out 2).trans rfl,(bc_ BK202.out 3).trans rfl,(bc_ BK202.out 4).trans rfl,(bc_ BK202.out 5).trans rfl,((HB.out.cell (wb_ w _ hw204_0)).trans hw204_0),((HB.out.cell (wb_ w _ hw205_0)).trans hw205_0)⟩ (fun hHeld => ?_);refine with_tabW humusref04_May.tab6 humusref04_May.bits6 (fun HT_ HW_ => ?_)
         generalize wr.drew = w18 at BK202 HB hx204_0 hx205_0 hHeld ⊢
         refine pu_ (i:=0) (N:=some 34) (v:=?_) (a':=?_) #[Y,Z,Z,Z,Z,Z,Z,Z,Z,Z,Z,Z,Z] rfl rfl HT_.out (by kernel_rfl) (fun _ _ _ h => h) (by rfl) ?_ ?_ ?_;rotate_left;(intro w';go_simp;with_reducible rfl);rotate_left;(simp only [Act.put,q1_,q2_,q3_,i64_w,i32_w];rfl)
         refine pu_ (i:=2) (N:=some 36) (v:=?_) (a':=?_) #[Y,Z,Y,Z,Z,Z,Z,Z,Z,Z,Z,Z,Z] rfl rfl HT_.out (by kernel_rfl) (fun _ _ _ h => h) (by rfl) ?_ ?_ ?_;rotate_left;(intro w';go_simp;with_reducible rfl);rotate_left;(simp only [Act.put,q1_,q2_,q3_,i64_w,i32_w];rfl)
         refine pu_ (i:=6) (N:=some 40) (v:=?_) (a':=?_) #[Y,Z,Y,Z,Z,Z,Y,Z,Z,Z,Z,Z,Z] rfl rfl HT_.out (by kernel_rfl) (fun _ _ _ h => h) (by rfl) ?_ ?_ ?_;rotate_left;(intro w';go_simp;with_reducible rfl);rotate_left;(simp only [Act.put,q1_,q2_,q3_,i64_w,i32_w];rfl)
         refine pu_ (i:=8) (N:=some 42) (v:=?_) (a':=?_) #[Y,Z,Y,Z,Z,Z,Y,Z,Y,Z,Z,Z,Z] rfl rfl HT_.out (by kernel_rfl) (fun _ _ _ h => h) (by rfl) ?_ ?_ ?_;rotate_left;(intro w';go_simp;with_reducible rfl);rotate_left;(simp only [Act.put,q1_,q2_,q3_,i64_w,i32_w];rfl)
         refine ta_ (i:=1) (N:=some 35) (v:=?_) (a':=?_) #[Y,Y,Y,Z,Z,Z,Y,Z,Y,Z,Z,Z,Z] rfl rfl HT_.out HW_.out (by kernel_rfl) (fun _ _ _ h => h) (by rfl) ?_ hHeld ?_ ?_;rotate_left;(rintro w' ⟨s0,s1,s2,s3,s4,s5,s6,s7⟩;go_simp;with_reducible rfl);rotate_left;(simp only [Act.put,q1_,q2_,q3_,i64_w,i32_w];rfl)
         refine pu_ (i:=3) (N:=some 37) (v:=?_) (a':=?_) #[Y,Y,Y,Y,Z,Z,Y,Z,Y,Z,Z,Z,Z] rfl rfl HT_.out (by kernel_rfl) (fun _ _ _ h => h) (by rfl) ?_ ?_ ?_;rotate_left;(intro w';go_simp;with_reducible rfl);rotate_left;(simp only [Act.put,q1_,q2_,q3_,i64_w,i32_w];rfl)
         refine ta_ (i:=4) (N:=some 38) (v:=?_) (a':=?_) #[Y,Y,Y,Y,Y,Z,Y,Z,Y,Z,Z,Z,Z] rfl rfl HT_.out HW_.out (by kernel_rfl) (fun _ _ _ h => h) (by rfl) ?_ hHeld ?_ ?_;rotate_left;(rintro w' ⟨s0,s1,s2,s3,s4,s5,s6,s7⟩;go_simp;with_reducible rfl);rotate_left;(simp only [Act.put,q1_,q2_,q3_,i64_w,i32_w];rfl)
         refine ta_ (i:=7) (N:=some 41) (v:=?_) (a':=?_) #[Y,Y,Y,Y,Y,Z,Y,Y,Y,Z,Z,Z,Z] rfl rfl HT_.out HW_.out (by kernel_rfl) (fun _ _ _ h => h) (by rfl) ?_ hHeld ?_ ?_;rotate_left;(rintro w' ⟨s0,s1,s2,s3,s4,s5,s6,s7⟩;go_simp;with_reducible rfl);rotate_left;(simp only [Act.put,q1_,q2_,q3_,i64_w,i32_w];rfl)
         refine pu_ (i:=9) (N:=some 43) (v:=?_) (a':=?_) #[Y,Y,Y,Y,Y,Z,Y,Y,Y,Y,Z,Z,Z] rfl rfl HT_.out (by kernel_rfl) (fun _ _ _ h => h) (by rfl) ?_ ?_ ?_;rotate_left;(intro w';go_simp;with_reducible rfl);rotate_left;(simp only [Act.put,q1_,q2_,q3_,i64_w,i32_w];rfl)
         refine ta_ (i:=10) (N:=some 44) (v:=?_) (a':=?_) #[Y,Y,Y,Y,Y,Z,Y,Y,Y,Y,Y,Z,Z] rfl rfl HT_.out HW_.out (by kernel_rfl) (fun _ _ _ h => h) (by rfl) ?_ hHeld ?_ ?_;rotate_left;(rintro w' ⟨s0,s1,s2,s3,s4,s5,s6,s7⟩;go_simp;with_reducible rfl);rotate_left;(simp only [Act.put,q1_,q2_,q3_,i64_w,i32_w];rfl)
         refine one_ (i:=5) (N:=some 39) #[Y,Y,Y,Y,Y,Y,Y,Y,Y,Y,Y,Z,Z] rfl rfl (one_of HT_.out (by kernel_rfl)) (by decide) (fun K hK => ?_)
         skip
         refine value_ (w1:=?_) (v:=?_) (by rfl) rfl ?_ ?_
         rotate_left 2
         ·go_simp
          constructor
          ·rfl
          ·rfl
         skip
         refine hK.out _ _ ⟨(bc_ BK202.out 0).trans rfl,(bc_ BK202.out 1).trans rfl,(bc_ BK202.out 2).trans rfl,(bc_ BK202.out 3).trans rfl,(bc_ BK202.out 4).trans rfl,(bc_ BK202.out 5).trans rfl,((HB.out.cell (wb_ w _ hw204_0)).trans hw204_0),((HB.out.cell (wb_ w _ hw205_0)).trans hw205_0)⟩ (fun hHeld => ?_)
         clear hK K
         refine norm_ (a':=?_) ?_ ?_;rotate_left;(show Act.put _ (some 39) _ = _;simp only [Act.put,q1_,q2_,q3_,i64_w,i32_w];rfl)
         refine last_ (i:=11) (N:=some 45) #[Y,Y,Y,Y,Y,Y,Y,Y,Y,Y,Y,Y,Z] rfl rfl (one_of HT_.out (by kernel_rfl)) (by decide) (fun K hK => ?_)
         refine goes_ Try.func72 (by kernel_rfl) rfl #[.float .f64 (rdF l0_2 x3_2)] (by rfl) rfl rfl (by (try simp only [List.map_toArray,List.map_cons,List.map_nil]);first | done | rfl | (simp only [List.length_drop,List.length_take];rfl)) ?_
         with_reducible refine (humusref01_Value.calls (rdF l0_2 x3_2) t206 _ A15.out).mono ?_
         rintro e w' ⟨rfl,⟨nd,rfl⟩⟩;refine ⟨_,rfl,?_⟩;refine hK.out _ _ ?_;clear hK K
         refine norm_ (a':=?_) ?_ ?_;rotate_left;(show Act.put _ (some 45) _ = _;simp only [Act.put,q1_,q2_,q3_,i64_w,i32_w];rfl)
         refine pu_ (i:=12) (N:=some 46) (v:=?_) (a':=?_) #[Y,Y,Y,Y,Y,Y,Y,Y,Y,Y,Y,Y,Y] rfl rfl HT_.out (by kernel_rfl) (fun _ _ _ h => h) (by rfl) ?_ ?_ ?_;rotate_left;(intro w';go_simp;with_reducible rfl);rotate_left;(simp only [Act.put,q1_,q2_,q3_,i64_w,i32_w];rfl)
         refine done_ (done_of HT_.out (by kernel_rfl)) ?_
         try go_wp2
         go_roundg k2
         case measure => have:=HJ1.out;have:=HK2.out;omega
         case rel => exact ⟨(wrap64 (x3_2 + 1)),(by first | rfl | (simp;done) | (simp [*];done)),H',⟨by have:=HJ1.out;have:=HK2.out;omega⟩,⟨by (with_reducible repeat (first | refine kd_ ?_ _ | refine ke_ ?_ | refine ka_ ?_ _));exact BK202.out⟩,⟨by repeat (first | (with_reducible first | exact HB.out | apply ba_ | apply bd_ | apply be_ | refine bs_ ?_ GE202.out) | exact HB.out)⟩⟩
        ·rw [if_neg c16] at H
         have c16b0 : ((rdF l0_2 x3_2 : Int) == t206) = false:=beq_eq_false_iff_ne.mpr c16;have c16b1 : ((rdF l0_2 x3_2 : Int) != t206) = true:=bne_iff_ne.mpr c16;obtain rfl:=Option.some.inj H;obtain ⟨z19_0,z19_1,z19_2,z19_3,z19_4,z19_5⟩:=blkc_6 BK202.out;obtain ⟨y19_0,y19_1,y19_2,y19_3,y19_4,y19_5⟩:=blkz_6 BK202.out
         try go_wp2
         have n0_:=A_ (ke_ BK202.out);have n1_:=A_ (be_ HB.out);clear BK202;clear HB;have BK202:=n0_;have HB:=n1_;clear n0_ n1_
         have p204 : 0 ≤ (x3_2 : Int):=od_ (by first | (with_reducible assumption) | assumption)
         have q204 : x3_2 < (l0_2.length : Int):=od_ (by first | (with_reducible assumption) | assumption)
         obtain ⟨ad204,e204,hx204_0⟩:=Kd.at_f64 HR0_2.out x3_2 p204 q204;have hw204_0:=hx204_0
         cases e204
         replace hx204_0:=(HB.out.cell (wb_ w _ hx204_0)).trans hx204_0;replace p204:=eq_true p204;replace q204:=eq_true q204
         have p205 : 0 ≤ (x3_2 : Int):=od_ (by first | (with_reducible assumption) | assumption)
         have q205 : x3_2 < (l0_2.length : Int):=od_ (by first | (with_reducible assumption) | assumption)
         obtain ⟨ad205,e205,hx205_0⟩:=Kd.at_f64 HR0_2.out x3_2 p205 q205;have hw205_0:=hx205_0
         obtain rfl : ad204 = ad205:=(by injection e205)
         replace hx205_0:=(HB.out.cell (wb_ w _ hx205_0)).trans hx205_0;replace p205:=eq_true p205;replace q205:=eq_true q205
         refine start_ (n:=13) (S:=fun w' => w'.cell? ⟨gb202,0,none⟩ = some (.float .f64 a0_0) ∧ w'.cell? ⟨gb202,1,none⟩ = some (.bool a0_1) ∧ w'.cell? ⟨gb202,2,none⟩ = some (.slice (some ad204) l0_2.length c0_2) ∧ w'.cell? ⟨gb202,3,none⟩ = some (.int .i64 a0_3) ∧ w'.cell? ⟨gb202,4,none⟩ = some (.int .i64 a0_4) ∧ w'.cell? ⟨gb202,5,none⟩ = some (.int .i64 a0_5) ∧ w'.cell? (ad204.add (x3_2).toNat) = some (.float .f64 (rdF l0_2 x3_2)) ∧ w'.cell? (ad204.add (x3_2).toNat) = some (.float .f64 (rdF l0_2 x3_2))) (ds:=[11]) #[Z,Z,Z,Z,Z,Z,Z,Z,Z,Z,Z,Z,Z] (by kernel_rfl) rfl rfl ⟨(bc_ BK202.out 0).trans rfl,(bc_ BK202.out 1).trans rfl,(bc_ BK202.out 2).trans rfl,(bc_ BK202.out 3).trans rfl,(bc_ BK202.out 4).trans rfl,(bc_ BK202.out 5).trans rfl,((HB.out.cell (wb_ w _ hw204_0)).trans hw204_0),((HB.out.cell (wb_ w _ hw205_0)).trans hw205_0)⟩ (fun hHeld => ?_);refine with_tabW humusref04_May.tab6 humusref04_May.bits6 (fun HT_ HW_ => ?_)
         generalize wr.drew = w20 at BK202 HB hx204_0 hx205_0 hHeld ⊢
         refine pu_ (i:=0) (N:=some 34) (v:=?_) (a':=?_) #[Y,Z,Z,Z,Z,Z,Z,Z,Z,Z,Z,Z,Z] rfl rfl HT_.out (by kernel_rfl) (fun _ _ _ h => h) (by rfl) ?_ ?_ ?_;rotate_left;(intro w';go_simp;with_reducible rfl);rotate_left;(simp only [Act.put,q1_,q2_,q3_,i64_w,i32_w];rfl)
         refine pu_ (i:=2) (N:=some 36) (v:=?_) (a':=?_) #[Y,Z,Y,Z,Z,Z,Z,Z,Z,Z,Z,Z,Z] rfl rfl HT_.out (by kernel_rfl) (fun _ _ _ h => h) (by rfl) ?_ ?_ ?_;rotate_left;(intro w';go_simp;with_reducible rfl);rotate_left;(simp only [Act.put,q1_,q2_,q3_,i64_w,i32_w];rfl)
         refine pu_ (i:=6) (N:=some 40) (v:=?_) (a':=?_) #[Y,Z,Y,Z,Z,Z,Y,Z,Z,Z,Z,Z,Z] rfl rfl HT_.out (by kernel_rfl) (fun _ _ _ h => h) (by rfl) ?_ ?_ ?_;rotate_left;(intro w';go_simp;with_reducible rfl);rotate_left;(simp only [Act.put,q1_,q2_,q3_,i64_w,i32_w];rfl)
         refine pu_ (i:=8) (N:=some 42) (v:=?_) (a':=?_) #[Y,Z,Y,Z,Z,Z,Y,Z,Y,Z,Z,Z,Z] rfl rfl HT_.out (by kernel_rfl) (fun _ _ _ h => h) (by rfl) ?_ ?_ ?_;rotate_left;(intro w';go_simp;with_reducible rfl);rotate_left;(simp only [Act.put,q1_,q2_,q3_,i64_w,i32_w];rfl)
         refine ta_ (i:=1) (N:=some 35) (v:=?_) (a':=?_) #[Y,Y,Y,Z,Z,Z,Y,Z,Y,Z,Z,Z,Z] rfl rfl HT_.out HW_.out (by kernel_rfl) (fun _ _ _ h => h) (by rfl) ?_ hHeld ?_ ?_;rotate_left;(rintro w' ⟨s0,s1,s2,s3,s4,s5,s6,s7⟩;go_simp;with_reducible rfl);rotate_left;(simp only [Act.put,q1_,q2_,q3_,i64_w,i32_w];rfl)
         refine pu_ (i:=3) (N:=some 37) (v:=?_) (a':=?_) #[Y,Y,Y,Y,Z,Z,Y,Z,Y,Z,Z,Z,Z] rfl rfl HT_.out (by kernel_rfl) (fun _ _ _ h => h) (by rfl) ?_ ?_ ?_;rotate_left;(intro w';go_simp;with_reducible rfl);rotate_left;(simp only [Act.put,q1_,q2_,q3_,i64_w,i32_w];rfl)
         refine ta_ (i:=4) (N:=some 38) (v:=?_) (a':=?_) #[Y,Y,Y,Y,Y,Z,Y,Z,Y,Z,Z,Z,Z] rfl rfl HT_.out HW_.out (by kernel_rfl) (fun _ _ _ h => h) (by rfl) ?_ hHeld ?_ ?_;rotate_left;(rintro w' ⟨s0,s1,s2,s3,s4,s5,s6,s7⟩;go_simp;with_reducible rfl);rotate_left;(simp only [Act.put,q1_,q2_,q3_,i64_w,i32_w];rfl)
         refine ta_ (i:=7) (N:=some 41) (v:=?_) (a':=?_) #[Y,Y,Y,Y,Y,Z,Y,Y,Y,Z,Z,Z,Z] rfl rfl HT_.out HW_.out (by kernel_rfl) (fun _ _ _ h => h) (by rfl) ?_ hHeld ?_ ?_;rotate_left;(rintro w' ⟨s0,s1,s2,s3,s4,s5,s6,s7⟩;go_simp;with_reducible rfl);rotate_left;(simp only [Act.put,q1_,q2_,q3_,i64_w,i32_w];rfl)
         refine pu_ (i:=9) (N:=some 43) (v:=?_) (a':=?_) #[Y,Y,Y,Y,Y,Z,Y,Y,Y,Y,Z,Z,Z] rfl rfl HT_.out (by kernel_rfl) (fun _ _ _ h => h) (by rfl) ?_ ?_ ?_;rotate_left;(intro w';go_simp;with_reducible rfl);rotate_left;(simp only [Act.put,q1_,q2_,q3_,i64_w,i32_w];rfl)
         refine ta_ (i:=10) (N:=some 44) (v:=?_) (a':=?_) #[Y,Y,Y,Y,Y,Z,Y,Y,Y,Y,Y,Z,Z] rfl rfl HT_.out HW_.out (by kernel_rfl) (fun _ _ _ h => h) (by rfl) ?_ hHeld ?_ ?_;rotate_left;(rintro w' ⟨s0,s1,s2,s3,s4,s5,s6,s7⟩;go_simp;with_reducible rfl);rotate_left;(simp only [Act.put,q1_,q2_,q3_,i64_w,i32_w];rfl)
         refine one_ (i:=5) (N:=some 39) #[Y,Y,Y,Y,Y,Y,Y,Y,Y,Y,Y,Z,Z] rfl rfl (one_of HT_.out (by kernel_rfl)) (by decide) (fun K hK => ?_)
         skip
         refine value_ (w1:=?_) (v:=?_) (by rfl) rfl ?_ ?_
         rotate_left 2
         ·go_simp
          constructor
          ·rfl
          ·rfl
         skip
         refine hK.out _ _ ⟨(bc_ BK202.out 0).trans rfl,(bc_ BK202.out 1).trans rfl,(bc_ BK202.out 2).trans rfl,(bc_ BK202.out 3).trans rfl,(bc_ BK202.out 4).trans rfl,(bc_ BK202.out 5).trans rfl,((HB.out.cell (wb_ w _ hw204_0)).trans hw204_0),((HB.out.cell (wb_ w _ hw205_0)).trans hw205_0)⟩ (fun hHeld => ?_)
         clear hK K
         refine norm_ (a':=?_) ?_ ?_;rotate_left;(show Act.put _ (some 39) _ = _;simp only [Act.put,q1_,q2_,q3_,i64_w,i32_w];rfl)
         refine last_ (i:=11) (N:=some 45) #[Y,Y,Y,Y,Y,Y,Y,Y,Y,Y,Y,Y,Z] rfl rfl (one_of HT_.out (by kernel_rfl)) (by decide) (fun K hK => ?_)
         refine goes_ Try.func72 (by kernel_rfl) rfl #[.float .f64 (rdF l0_2 x3_2)] (by rfl) rfl rfl (by (try simp only [List.map_toArray,List.map_cons,List.map_nil]);first | done | rfl | (simp only [List.length_drop,List.length_take];rfl)) ?_
         with_reducible refine (humusref01_Value.calls (rdF l0_2 x3_2) t206 _ A15.out).mono ?_
         rintro e w' ⟨rfl,⟨nd,rfl⟩⟩;refine ⟨_,rfl,?_⟩;refine hK.out _ _ ?_;clear hK K
         refine norm_ (a':=?_) ?_ ?_;rotate_left;(show Act.put _ (some 45) _ = _;simp only [Act.put,q1_,q2_,q3_,i64_w,i32_w];rfl)
         refine pu_ (i:=12) (N:=some 46) (v:=?_) (a':=?_) #[Y,Y,Y,Y,Y,Y,Y,Y,Y,Y,Y,Y,Y] rfl rfl HT_.out (by kernel_rfl) (fun _ _ _ h => h) (by rfl) ?_ ?_ ?_;rotate_left;(intro w';go_simp;with_reducible rfl);rotate_left;(simp only [Act.put,q1_,q2_,q3_,i64_w,i32_w];rfl)
         refine done_ (done_of HT_.out (by kernel_rfl)) ?_
         try go_wp2
         go_ret
         exact ⟨by first | rfl | (simp [errW_none,errW_some] <;> rfl) | (simp [*,errW_none,errW_some] <;> rfl),by repeat (first | (with_reducible first | exact HB.out | apply ba_ | apply bd_ | apply be_ | refine bs_ ?_ GE202.out) | exact HB.out)⟩
       ·rw [if_neg c14] at H
        exact absurd H (by simp)
      ·rw [if_neg c13] at H
       have c13b0 : decide (x3_2 < (l0_2.length : Int)) = false:=df_ c13;clear c13
       by_cases c21 : a0_3 ≥ 0
       ·rw [if_pos c21] at H
        have c21b0 : decide (0 ≤ a0_3) = true:=dt_ c21;clear c21
        by_cases c22 : a0_3 < 2147483648
        ·rw [if_pos c22] at H
         have c22b0 : decide (a0_3 < 2147483648) = true:=dt_ c22;clear c22
         by_cases c23 : a0_4 ≥ 0
         ·rw [if_pos c23] at H
          have c23b0 : decide (0 ≤ a0_4) = true:=dt_ c23;clear c23
          by_cases c24 : a0_4 < 65536
          ·rw [if_pos c24] at H
           have c24b0 : decide (a0_4 < 65536) = true:=dt_ c24;clear c24
           by_cases c25 : a0_5 ≥ 0
           ·rw [if_pos c25] at H
            have c25b0 : decide (0 ≤ a0_5) = true:=dt_ c25;clear c25
            by_cases c26 : a0_5 < 2147483648
            ·rw [if_pos c26] at H
             have c26b0 : decide (a0_5 < 2147483648) = true:=dt_ c26;clear c26
             by_cases c27 : a0_4 > 0
             ·rw [if_pos c27] at H
              have c27b0 : decide (0 < a0_4) = true:=dt_ c27;clear c27;obtain rfl:=Option.some.inj H;obtain ⟨z28_0,z28_1,z28_2,z28_3,z28_4,z28_5⟩:=blkc_6 BK202.out;obtain ⟨y28_0,y28_1,y28_2,y28_3,y28_4,y28_5⟩:=blkz_6 BK202.out;go_wp2;go_ret
              exact ⟨by first | rfl | (simp [errW_none,errW_some] <;> rfl) | (simp [*,errW_none,errW_some] <;> rfl),by repeat (first | (with_reducible first | exact HB.out | apply ba_ | apply bd_ | apply be_ | refine bs_ ?_ GE202.out) | exact HB.out)⟩
             ·rw [if_neg c27] at H
              have c27b0 : decide (0 < a0_4) = false:=df_ c27;clear c27;obtain rfl:=Option.some.inj H;obtain ⟨z29_0,z29_1,z29_2,z29_3,z29_4,z29_5⟩:=blkc_6 BK202.out;obtain ⟨y29_0,y29_1,y29_2,y29_3,y29_4,y29_5⟩:=blkz_6 BK202.out;go_wp2;go_ret
              exact ⟨by first | rfl | (simp [errW_none,errW_some] <;> rfl) | (simp [*,errW_none,errW_some] <;> rfl),by repeat (first | (with_reducible first | exact HB.out | apply ba_ | apply bd_ | apply be_ | refine bs_ ?_ GE202.out) | exact HB.out)⟩
            ·rw [if_neg c26] at H
             have c26b0 : decide (a0_5 < 2147483648) = false:=df_ c26;clear c26;obtain rfl:=Option.some.inj H;obtain ⟨z30_0,z30_1,z30_2,z30_3,z30_4,z30_5⟩:=blkc_6 BK202.out;obtain ⟨y30_0,y30_1,y30_2,y30_3,y30_4,y30_5⟩:=blkz_6 BK202.out;go_wp2;go_ret
             exact ⟨by first | rfl | (simp [errW_none,errW_some] <;> rfl) | (simp [*,errW_none,errW_some] <;> rfl),by repeat (first | (with_reducible first | exact HB.out | apply ba_ | apply bd_ | apply be_ | refine bs_ ?_ GE202.out) | exact HB.out)⟩
           ·rw [if_neg c25] at H
            have c25b0 : decide (0 ≤ a0_5) = false:=df_ c25;clear c25;obtain rfl:=Option.some.inj H;obtain ⟨z31_0,z31_1,z31_2,z31_3,z31_4,z31_5⟩:=blkc_6 BK202.out;obtain ⟨y31_0,y31_1,y31_2,y31_3,y31_4,y31_5⟩:=blkz_6 BK202.out;go_wp2;go_ret
            exact ⟨by first | rfl | (simp [errW_none,errW_some] <;> rfl) | (simp [*,errW_none,errW_some] <;> rfl),by repeat (first | (with_reducible first | exact HB.out | apply ba_ | apply bd_ | apply be_ | refine bs_ ?_ GE202.out) | exact HB.out)⟩
          ·rw [if_neg c24] at H
           have c24b0 : decide (a0_4 < 65536) = false:=df_ c24;clear c24;obtain rfl:=Option.some.inj H;obtain ⟨z32_0,z32_1,z32_2,z32_3,z32_4,z32_5⟩:=blkc_6 BK202.out;obtain ⟨y32_0,y32_1,y32_2,y32_3,y32_4,y32_5⟩:=blkz_6 BK202.out;go_wp2;go_ret
           exact ⟨by first | rfl | (simp [errW_none,errW_some] <;> rfl) | (simp [*,errW_none,errW_some] <;> rfl),by repeat (first | (with_reducible first | exact HB.out | apply ba_ | apply bd_ | apply be_ | refine bs_ ?_ GE202.out) | exact HB.out)⟩
         ·rw [if_neg c23] at H
          have c23b0 : decide (0 ≤ a0_4) = false:=df_ c23;clear c23;obtain rfl:=Option.some.inj H;obtain ⟨z33_0,z33_1,z33_2,z33_3,z33_4,z33_5⟩:=blkc_6 BK202.out;obtain ⟨y33_0,y33_1,y33_2,y33_3,y33_4,y33_5⟩:=blkz_6 BK202.out;go_wp2;go_ret
          exact ⟨by first | rfl | (simp [errW_none,errW_some] <;> rfl) | (simp [*,errW_none,errW_some] <;> rfl),by repeat (first | (with_reducible first | exact HB.out | apply ba_ | apply bd_ | apply be_ | refine bs_ ?_ GE202.out) | exact HB.out)⟩
        ·rw [if_neg c22] at H
         have c22b0 : decide (a0_3 < 2147483648) = false:=df_ c22;clear c22;obtain rfl:=Option.some.inj H;obtain ⟨z34_0,z34_1,z34_2,z34_3,z34_4,z34_5⟩:=blkc_6 BK202.out;obtain ⟨y34_0,y34_1,y34_2,y34_3,y34_4,y34_5⟩:=blkz_6 BK202.out;go_wp2;go_ret
         exact ⟨by first | rfl | (simp [errW_none,errW_some] <;> rfl) | (simp [*,errW_none,errW_some] <;> rfl),by repeat (first | (with_reducible first | exact HB.out | apply ba_ | apply bd_ | apply be_ | refine bs_ ?_ GE202.out) | exact HB.out)⟩
       ·rw [if_neg c21] at H
        have c21b0 : decide (0 ≤ a0_3) = false:=df_ c21;clear c21;obtain rfl:=Option.some.inj H;obtain ⟨z35_0,z35_1,z35_2,z35_3,z35_4,z35_5⟩:=blkc_6 BK202.out;obtain ⟨y35_0,y35_1,y35_2,y35_3,y35_4,y35_5⟩:=blkz_6 BK202.out;go_wp2;go_ret
        exact ⟨by first | rfl | (simp [errW_none,errW_some] <;> rfl) | (simp [*,errW_none,errW_some] <;> rfl),by repeat (first | (with_reducible first | exact HB.out | apply ba_ | apply bd_ | apply be_ | refine bs_ ?_ GE202.out) | exact HB.out)⟩
mutual
def humusref04_Bytes.j0 : Nat → Int → Nat → Bool → List Nat → Int → Int → Int → Option (List Int)
 | 0,_,_,_,_,_,_,_ => none
 | k + 1,x3,x208000,x208001,x208002,x208003,x208004,x208005 => humusref04_Bytes.l0 k (([(⟨1,x3,0,(⟨#[]⟩ : ByteArray)⟩ : S86),(⟨4,0,x208000,(⟨#[]⟩ : ByteArray)⟩ : S86),(⟨3,x208003,0,(⟨#[]⟩ : ByteArray)⟩ : S86),(⟨2,x208004,0,(⟨#[]⟩ : ByteArray)⟩ : S86),(⟨3,x208005,0,(⟨#[]⟩ : ByteArray)⟩ : S86),(⟨1,(x208002.length : Int),0,(⟨#[]⟩ : ByteArray)⟩ : S86)] : List (S86))) 0 x208000 x208001 x208002 x208003 x208004 x208005
def humusref04_Bytes.l0 : Nat → List (S86) → Int → Nat → Bool → List Nat → Int → Int → Int → Option (List Int)
 | 0,_,_,_,_,_,_,_,_ => none
 | k + 1,x4,x5,x208000,x208001,x208002,x208003,x208004,x208005 => if x5 < (x208002.length : Int) then (if 0 ≤ x5 then (if x4.length < 3518437208883 then (humusref04_Bytes.l0 k (x4 ++ [(⟨4,0,rdF x208002 x5,(⟨#[]⟩ : ByteArray)⟩ : S86)]) (wrap64 (x5 + 1)) x208000 x208001 x208002 x208003 x208004 x208005) else (none)) else (none)) else ((humusref03_Put.f x4).bind fun bt215 => (some bt215.1))
end
def humusref04_Bytes.f (k : Nat) (a0_0 : Nat) (a0_1 : Bool) (l0_2 : List Nat) (a0_3 : Int) (a0_4 : Int) (a0_5 : Int) : Option (List Int):=if a0_1 = true then (humusref04_Bytes.j0 k 1 a0_0 a0_1 l0_2 a0_3 a0_4 a0_5) else (humusref04_Bytes.j0 k 0 a0_0 a0_1 l0_2 a0_3 a0_4 a0_5)
set_option maxHeartbeats 8000000 in
set_option maxRecDepth 100000 in
theorem humusref04_Bytes.calls (k : Nat) (a0_0 : Nat) (a0_1 : Bool) (A0_2 : Option Addr) (c0_2 : Nat) (l0_2 : List Nat) (a0_3 : Int) (a0_4 : Int) (a0_5 : Int) (r : List Int) (w : World) (hr0_2 : Kd.C Kd.f64 w A0_2 l0_2.length l0_2) (hc0_2 : l0_2.length ≤ c0_2) (h : humusref04_Bytes.f k a0_0 a0_1 l0_2 a0_3 a0_4 a0_5 = some r) :
  Calls Try.prog 36 #[.agg #[.float .f64 a0_0,.bool a0_1,.slice A0_2 l0_2.length c0_2,.int .i64 a0_3,.int .i64 a0_4,.int .i64 a0_5]] w fun e w' => ∃ v0_ : Value,e = .returned (v0_) ∧ Kd.R (Kd.int .u8) 5 w' w.heap.size (fun _ => True) v0_ r ∧ Below w.heap.size w w':=by
 have hu30:=Try.underlying30;have hu86:=Try.underlying86;have HR0_2:=A_ hr0_2;have HC0_2:=A_ hc0_2;clear hr0_2 hc0_2;have HB:=A_ (Below.refl w.heap.size w)
 have H : (if a0_1 = true then (humusref04_Bytes.j0 k 1 a0_0 a0_1 l0_2 a0_3 a0_4 a0_5) else (humusref04_Bytes.j0 k 0 a0_0 a0_1 l0_2 a0_3 a0_4 a0_5)) = some r:=h
 clear h;have HC2:=A_ H;clear H;go_enter Try.func36,Try.ntmps36
 go_upto_if 9 with (first | ((with_reducible refine gate_dst (N:=1) rfl ?_);refine box_event ?hg (N:=1) ?hd (cs:=#[.float .f64 a0_0,.bool a0_1,.slice A0_2 l0_2.length c0_2,.int .i64 a0_3,.int .i64 a0_4,.int .i64 a0_5]) (t:=30) ?hr ?_;(case hd => rfl);(case hg => rfl);(case hr => first | (go_simp;done) | (go_simp;rfl));intro gb207 hg w3 hbox hb;have n0_:=A_ (bp_ (by repeat (first | (with_reducible first | exact HB.out | apply ba_ | apply bd_ | apply be_) | exact HB.out)) hb);have n1_:=A_ (hbox);have n2_:=A_ ((by rw [hg];exact (bz_ (by repeat (first | (with_reducible first | exact HB.out | apply ba_ | apply bd_ | apply be_) | exact HB.out))) : w.heap.size ≤ gb207));have n3_:=n2_;clear HB;have HB:=n0_;have BK207:=n1_;have GW207:=n2_;have GE207:=n3_;clear n0_ n1_ n2_ n3_;clear hb hbox hg;obtain ⟨z4_0,z4_1,z4_2,z4_3,z4_4,z4_5⟩:=blkc_6 BK207.out;obtain ⟨y4_0,y4_1,y4_2,y4_3,y4_4⟩:=blkz_5 BK207.out;have y4_5:=bf_ BK207.out 5))
 (try simp only [Act.put,u1_,u2_,u3_])
 go_cut [3] (fun v3 wc => ∃ (kq : Nat) (x3_1 : Int),v3 = .int .i64 x3_1 ∧ Aside0 (humusref04_Bytes.j0 kq x3_1 a0_0 a0_1 l0_2 a0_3 a0_4 a0_5 = some r) ∧ Aside0 (kq ≤ k) ∧ Aside0 (wc.heap[gb207]? = some (.cells #[.float .f64 a0_0,.bool a0_1,(.slice A0_2 l0_2.length c0_2),.int .i64 a0_3,.int .i64 a0_4,.int .i64 a0_5] 30 (0,0))) ∧ Aside0 (Below w.heap.size w wc))
 case first =>
  have H:=HC2.out;clear HC2
  by_cases c5 : a0_1 = true
  ·subst c5
   have H1 : (humusref04_Bytes.j0 k 1 a0_0 true l0_2 a0_3 a0_4 a0_5) = some r:=by rw [if_pos rfl] at H;exact H
   clear H;have H:=H1;clear H1;have H':=A_ H;clear H;go_wp2;go_meet
   case rel => exact ⟨_,(1),(by first | rfl | (simp;done) | (simp [*];done)),H',⟨by first | omega | exact Nat.le_refl _⟩,⟨by (with_reducible repeat (first | refine kd_ ?_ _ | refine ke_ ?_ | refine ka_ ?_ _));exact BK207.out⟩,⟨by repeat (first | (with_reducible first | exact HB.out | apply ba_ | apply bd_ | apply be_ | refine bs_ ?_ GE207.out) | exact HB.out)⟩⟩
  ·replace c5:=Bool.eq_false_iff.mpr c5
   subst c5
   have H1 : (humusref04_Bytes.j0 k 0 a0_0 false l0_2 a0_3 a0_4 a0_5) = some r:=by rw [if_neg (show ¬ (false = true) by decide)] at H;exact H
   clear H;have H:=H1;clear H1;have H':=A_ H;clear H;go_wp2;go_meet
   case rel => exact ⟨_,(0),(by first | rfl | (simp;done) | (simp [*];done)),H',⟨by first | omega | exact Nat.le_refl _⟩,⟨by (with_reducible repeat (first | refine kd_ ?_ _ | refine ke_ ?_ | refine ka_ ?_ _));exact BK207.out⟩,⟨by repeat (first | (with_reducible first | exact HB.out | apply ba_ | apply bd_ | apply be_ | refine bs_ ?_ GE207.out) | exact HB.out)⟩⟩
 case rest =>
  clear HC2;(try clear p2);(try clear c3);(try clear c5);(try clear z4_0 z4_1 z4_2 z4_3 z4_4 z4_5 y4_0 y4_1 y4_2 y4_3 y4_4 y4_5);obtain ⟨kq,x3_1,rfl,HA,HJ1,BK207,HB⟩:=hcut
  cases kq with
  | zero => exact absurd HA.out (by simp [humusref04_Bytes.j0])
  | succ kj1 =>
   have H:=HA.out;clear HA
   simp only [humusref04_Bytes.j0] at H
   obtain ⟨y208,hy208⟩ : ∃ y_ : List (S86),y_ = (([(⟨1,x3_1,0,(⟨#[]⟩ : ByteArray)⟩ : S86),(⟨4,0,a0_0,(⟨#[]⟩ : ByteArray)⟩ : S86),(⟨3,a0_3,0,(⟨#[]⟩ : ByteArray)⟩ : S86),(⟨2,a0_4,0,(⟨#[]⟩ : ByteArray)⟩ : S86),(⟨3,a0_5,0,(⟨#[]⟩ : ByteArray)⟩ : S86),(⟨1,(l0_2.length : Int),0,(⟨#[]⟩ : ByteArray)⟩ : S86)] : List (S86))):=⟨_,rfl⟩
   replace H : (humusref04_Bytes.l0 kj1 y208 0 a0_0 a0_1 l0_2 a0_3 a0_4 a0_5) = some r:=by first | (rw [hy208];with_reducible exact H) | (have H2_:=(Option.bind_some _ _).symm.trans H;rw [hy208];with_reducible exact H2_) | (have H2_:=(Option.bind_some _ _).symm.trans H;with_reducible exact H2_) | with_reducible exact H | (rw [hy208];exact H) | exact H
   have Ny208:=A_ hy208;clear hy208;have H':=A_ H;clear H;obtain ⟨z6_0,z6_1,z6_2,z6_3,z6_4,z6_5⟩:=blkc_6 BK207.out;obtain ⟨y6_0,y6_1,y6_2,y6_3,y6_4,y6_5⟩:=blkz_6 BK207.out
   go_wp2_with (first | ((with_reducible refine gate_dst (N:=30) rfl ?_);refine Kd.R_lit k86 _ 86 ?hg (N:=30) ?hd (xs:=([(⟨1,x3_1,0,(⟨#[]⟩ : ByteArray)⟩ : S86),(⟨4,0,a0_0,(⟨#[]⟩ : ByteArray)⟩ : S86),(⟨3,a0_3,0,(⟨#[]⟩ : ByteArray)⟩ : S86),(⟨2,a0_4,0,(⟨#[]⟩ : ByteArray)⟩ : S86),(⟨3,a0_5,0,(⟨#[]⟩ : ByteArray)⟩ : S86),(⟨1,(l0_2.length : Int),0,(⟨#[]⟩ : ByteArray)⟩ : S86)] : List (S86))) (inner:=[.int .i64 1,.int .i64 x3_1,.float .f64 0,.string (⟨#[]⟩ : ByteArray),.int .i64 4,.int .i64 0,.float .f64 a0_0,.string (⟨#[]⟩ : ByteArray),.int .i64 3,.int .i64 a0_3,.float .f64 0,.string (⟨#[]⟩ : ByteArray),.int .i64 2,.int .i64 a0_4,.float .f64 0,.string (⟨#[]⟩ : ByteArray),.int .i64 3,.int .i64 a0_5,.float .f64 0,.string (⟨#[]⟩ : ByteArray),.int .i64 1,.int .i64 (l0_2.length : Int),.float .f64 0,.string (⟨#[]⟩ : ByteArray)]) (ok:=fun _ => True) (okp:=fun _ => True) ?hr ?hp (fun _ hk => hk) trivial (Below.refl _ _) (Nat.le_refl _) (by simp) ?_;(case hd => rfl);(case hg => rfl);(case hr => first | (go_simp;done) | (go_simp;rfl));(case hp => exact (Reps.c4 (show Kd.M k86 _ _ _ (⟨1,x3_1,0,(⟨#[]⟩ : ByteArray)⟩ : S86) [.int .i64 1,.int .i64 x3_1,.float .f64 0,.string (⟨#[]⟩ : ByteArray)] from (k86_mkM _ _ _ (⟨1,x3_1,0,(⟨#[]⟩ : ByteArray)⟩ : S86) )) (Reps.c4 (show Kd.M k86 _ _ _ (⟨4,0,a0_0,(⟨#[]⟩ : ByteArray)⟩ : S86) [.int .i64 4,.int .i64 0,.float .f64 a0_0,.string (⟨#[]⟩ : ByteArray)] from (k86_mkM _ _ _ (⟨4,0,a0_0,(⟨#[]⟩ : ByteArray)⟩ : S86) )) (Reps.c4 (show Kd.M k86 _ _ _ (⟨3,a0_3,0,(⟨#[]⟩ : ByteArray)⟩ : S86) [.int .i64 3,.int .i64 a0_3,.float .f64 0,.string (⟨#[]⟩ : ByteArray)] from (k86_mkM _ _ _ (⟨3,a0_3,0,(⟨#[]⟩ : ByteArray)⟩ : S86) )) (Reps.c4 (show Kd.M k86 _ _ _ (⟨2,a0_4,0,(⟨#[]⟩ : ByteArray)⟩ : S86) [.int .i64 2,.int .i64 a0_4,.float .f64 0,.string (⟨#[]⟩ : ByteArray)] from (k86_mkM _ _ _ (⟨2,a0_4,0,(⟨#[]⟩ : ByteArray)⟩ : S86) )) (Reps.c4 (show Kd.M k86 _ _ _ (⟨3,a0_5,0,(⟨#[]⟩ : ByteArray)⟩ : S86) [.int .i64 3,.int .i64 a0_5,.float .f64 0,.string (⟨#[]⟩ : ByteArray)] from (k86_mkM _ _ _ (⟨3,a0_5,0,(⟨#[]⟩ : ByteArray)⟩ : S86) )) (Reps.c4 (show Kd.M k86 _ _ _ (⟨1,(l0_2.length : Int),0,(⟨#[]⟩ : ByteArray)⟩ : S86) [.int .i64 1,.int .i64 (l0_2.length : Int),.float .f64 0,.string (⟨#[]⟩ : ByteArray)] from (k86_mkM _ _ _ (⟨1,(l0_2.length : Int),0,(⟨#[]⟩ : ByteArray)⟩ : S86) )) (Reps.none _ _))))))));intro v209 w7 ho8 hb hg_ hnew_;clear hg_ hnew_;(first | rw [← Ny208.out] at ho8 | (simp only [Int.reduceToNat] at ho8;rw [← Ny208.out] at ho8));have n0_:=A_ (Kd.R_lower ho8 (bz_ (by repeat (first | (with_reducible first | exact HB.out | apply ba_ | apply bd_ | apply be_ | refine bs_ ?_ GE207.out) | exact HB.out))));have n1_:=A_ (bx_ BK207.out (by intro h_;(with_reducible repeat (first | refine kd_ ?_ _ | refine ke_ ?_ | refine ka_ ?_ _));exact h_) hb);have n2_:=A_ (bp_ (by repeat (first | (with_reducible first | exact HB.out | apply ba_ | apply bd_ | apply be_ | refine bs_ ?_ GE207.out) | exact HB.out)) hb);clear BK207;clear HB;have HO210:=n0_;have BK207:=n1_;have HB:=n2_;clear n0_ n1_ n2_;clear hb ho8))
   go_loopg [4,5] kj1 (fun kq v4 v5 w' => ∃ (x4_2 : List (S86)) (x5_2 : Int),v5 = .int .i64 x5_2 ∧ Aside0 (humusref04_Bytes.l0 kq x4_2 x5_2 a0_0 a0_1 l0_2 a0_3 a0_4 a0_5 = some r) ∧ Aside0 (kq ≤ kj1) ∧ Aside0 (Kd.R k86 86 w' w.heap.size (fun _ => True) v4 x4_2) ∧ Aside0 (w'.heap[gb207]? = some (.cells #[.float .f64 a0_0,.bool a0_1,(.slice A0_2 l0_2.length c0_2),.int .i64 a0_3,.int .i64 a0_4,.int .i64 a0_5] 30 (0,0))) ∧ Aside0 (Below w.heap.size w w'))
   case atStart => exact ⟨(y208),(0),(by first | rfl | (simp;done) | (simp [*];done)),H',⟨Nat.le_refl _⟩,⟨by (with_reducible repeat (first | apply ra_ | apply rn_ | apply re_));exact HO210.out⟩,⟨by (with_reducible repeat (first | refine kd_ ?_ _ | refine ke_ ?_ | refine ka_ ?_ _));exact BK207.out⟩,⟨by repeat (first | (with_reducible first | exact HB.out | apply ba_ | apply bd_ | apply be_ | refine bs_ ?_ GE207.out) | exact HB.out)⟩⟩
   case round =>
    clear H';(try clear p2);(try clear c3);(try clear c4);(try clear c5);(try clear p2);(try clear z4_0 z4_1 z4_2 z4_3 z4_4 z4_5 z6_0 z6_1 z6_2 z6_3 z6_4 z6_5 y4_0 y4_1 y4_2 y4_3 y4_4 y4_5 y6_0 y6_1 y6_2 y6_3 y6_4 y6_5);obtain ⟨x4_2,x5_2,rfl,HA,HK2,HO_4,BK207,HB⟩:=hrel
    cases gk with
    | zero => exact absurd HA.out (by simp [humusref04_Bytes.l0])
    | succ k2 =>
     have H:=HA.out;clear HA
     simp only [humusref04_Bytes.l0] at H
     by_cases c9 : x5_2 < (l0_2.length : Int)
     ·rw [if_pos c9] at H
      have c9b0 : decide (x5_2 < (l0_2.length : Int)) = true:=dt_ c9;clear c9
      by_cases c10 : 0 ≤ x5_2
      ·rw [if_pos c10] at H
       have c10b0 : decide (0 ≤ x5_2) = true:=dt_ c10;clear c10
       by_cases c11 : x4_2.length < 3518437208883
       ·rw [if_pos c11] at H
        have LMc11:=A_ c11;clear c11
        obtain ⟨y212,hy212⟩ : ∃ y_ : List (S86),y_ = (x4_2 ++ [(⟨4,0,rdF l0_2 x5_2,(⟨#[]⟩ : ByteArray)⟩ : S86)]):=⟨_,rfl⟩
        replace H : (humusref04_Bytes.l0 k2 y212 (wrap64 (x5_2 + 1)) a0_0 a0_1 l0_2 a0_3 a0_4 a0_5) = some r:=by first | (rw [hy212];with_reducible exact H) | (have H2_:=(Option.bind_some _ _).symm.trans H;rw [hy212];with_reducible exact H2_) | (have H2_:=(Option.bind_some _ _).symm.trans H;with_reducible exact H2_) | with_reducible exact H | (rw [hy212];exact H) | exact H
        have Ny212:=A_ hy212;clear hy212;have H':=A_ H;clear H;obtain ⟨z12_0,z12_1,z12_2,z12_3,z12_4,z12_5⟩:=blkc_6 BK207.out;obtain ⟨y12_0,y12_1,y12_2,y12_3,y12_4,y12_5⟩:=blkz_6 BK207.out
        have p211 : 0 ≤ (x5_2 : Int):=od_ (by first | (with_reducible assumption) | assumption)
        have q211 : x5_2 < (l0_2.length : Int):=od_ (by first | (with_reducible assumption) | assumption)
        obtain ⟨ad211,e211,hx211_0⟩:=Kd.at_f64 HR0_2.out x5_2 p211 q211
        cases e211
        replace hx211_0:=(HB.out.cell (wb_ w _ hx211_0)).trans hx211_0;replace p211:=eq_true p211;replace q211:=eq_true q211
        go_wp2_with (first | ((with_reducible refine gate_builtin (b:=.append) (xs:=#[.tmp 38,.tmp 45]) rfl ?_);at_builtin;refine Kd.R_append k86 (w0:=w) w.heap.size rfl (.tmp 38) (.tmp 45) 87 86 (.agg #[(.int .i64 0),(.int .i64 0),(.float .f64 0),(.string ⟨#[]⟩)]) 40 rfl Try.underlying87 info86 rfl (by decide) (by omega) u4 x4_2 (⟨4,0,rdF l0_2 x5_2,(⟨#[]⟩ : ByteArray)⟩ : S86) [.int .i64 4,.int .i64 0,.float .f64 (rdF l0_2 x5_2),.string (⟨#[]⟩ : ByteArray)] (fun _ => True) (fun _ => False) rfl rfl ?aP (fun _ hk => hk.elim) ?aF ?aO ?aB ?aS ?aL ?_;(case aP => exact k86_mkM _ _ _ (⟨4,0,rdF l0_2 x5_2,(⟨#[]⟩ : ByteArray)⟩ : S86));(case aB => exact (by repeat (first | (with_reducible first | exact HB.out | apply ba_ | apply bd_ | apply be_ | refine bs_ ?_ GE207.out) | exact HB.out)));(case aF => exact (fun _ _ => trivial));(case aO => exact (by (with_reducible repeat (first | apply ra_ | apply rn_ | apply re_));exact HO_4.out));(case aS => exact (bz_ (by repeat (first | (with_reducible first | exact HB.out | apply ba_ | apply bd_ | apply be_ | refine bs_ ?_ GE207.out) | exact HB.out))));(case aL => have:=LMc11.out;omega);intro v213 w13 ho hb hg hat;rw [← Ny212.out] at ho;have n0_:=A_ (blk_grown (g:=gb207) (o:=.cells #[.float .f64 a0_0,.bool a0_1,.slice (some ad211) l0_2.length c0_2,.int .i64 a0_3,.int .i64 a0_4,.int .i64 a0_5] 30 (0,0)) (by (with_reducible repeat (first | refine kd_ ?_ _ | refine ke_ ?_ | refine ka_ ?_ _));exact BK207.out) hg (Kd.R_ne HO_4.out BK207.out (by decide)));have n1_:=A_ (hb);have n2_:=A_ (ho);clear BK207;clear HB;clear HO_4;have BK207:=n0_;have HB:=n1_;have HO214:=n2_;clear n0_ n1_ n2_;clear ho hb hg hat))
        go_roundg k2
        case measure => have:=HJ1.out;have:=HK2.out;omega
        case rel => exact ⟨(y212),(wrap64 (x5_2 + 1)),(by first | rfl | (simp;done) | (simp [*];done)),H',⟨by have:=HJ1.out;have:=HK2.out;omega⟩,⟨by (with_reducible repeat (first | apply ra_ | apply rn_ | apply re_));exact HO214.out⟩,⟨by (with_reducible repeat (first | refine kd_ ?_ _ | refine ke_ ?_ | refine ka_ ?_ _));exact BK207.out⟩,⟨by repeat (first | (with_reducible first | exact HB.out | apply ba_ | apply bd_ | apply be_ | refine bs_ ?_ GE207.out) | exact HB.out)⟩⟩
       ·rw [if_neg c11] at H
        exact absurd H (by simp)
      ·rw [if_neg c10] at H
       exact absurd H (by simp)
     ·rw [if_neg c9] at H
      have c9b0 : decide (x5_2 < (l0_2.length : Int)) = false:=df_ c9;clear c9;replace H:=Option.bind_eq_some_iff.mp H;obtain ⟨⟨t215,t216⟩,A140,H⟩:=H;replace H : (some t215) = some r:=H;have A14:=A_ A140;clear A140;obtain rfl:=Option.some.inj H;obtain ⟨z15_0,z15_1,z15_2,z15_3,z15_4,z15_5⟩:=blkc_6 BK207.out;obtain ⟨y15_0,y15_1,y15_2,y15_3,y15_4,y15_5⟩:=blkz_6 BK207.out;obtain ⟨Ao16,co16,eo16⟩:=Kd.R_slice HO_4.out;subst eo16
      go_wp2_with (first | ((with_reducible refine gate_callee (f:=75) rfl ?_);refine goesL_ (some 49) rfl rfl Try.func75 (by kernel_rfl) rfl #[.slice Ao16 x4_2.length co16] rfl (by (try simp only [List.map_toArray,List.map_cons,List.map_nil]);first | done | rfl | (simp only [List.length_drop,List.length_take];rfl)) ?_;(with_reducible refine (humusref03_Put.calls _ _ x4_2 t215 t216 _ ?side1 ?side2 A14.out).mono ?_);(case side1 => repeat (first | exact (Kd.R_reads' HO_4.out).2.2 | (with_reducible refine Kd.C_alloc ?_ _) | (with_reducible refine Kd.C_drewN ?_ _) | (with_reducible refine Kd.C_drew ?_)));(case side2 => exact (Kd.R_reads' HO_4.out).2.1);rintro e w17 ⟨v217,rfl,ho0,hb⟩;refine ⟨_,rfl,?_⟩;have n0_:=A_ (Kd.R_below (by (with_reducible repeat (first | apply ra_ | apply rn_ | apply re_));exact HO_4.out) hb);have n1_:=A_ (Kd.R_lower ho0 (bz_ (by repeat (first | (with_reducible first | exact HB.out | apply ba_ | apply bd_ | apply be_ | refine bs_ ?_ GE207.out) | exact HB.out))));have n2_:=A_ (bx_ BK207.out (by intro h_;(with_reducible repeat (first | refine kd_ ?_ _ | refine ke_ ?_ | refine ka_ ?_ _));exact h_) hb);have n3_:=A_ (bp_ (by repeat (first | (with_reducible first | exact HB.out | apply ba_ | apply bd_ | apply be_ | refine bs_ ?_ GE207.out) | exact HB.out)) hb);clear HO_4;clear BK207;clear HB;have HO_4:=n0_;have HO218:=n1_;have BK207:=n2_;have HB:=n3_;clear n0_ n1_ n2_ n3_;(try clear hb);(try clear hb2);(try clear hk);(try clear hi);(try clear ho0)))
      go_ret
      exact ⟨_,by first | rfl | (simp [errW_none,errW_some] <;> rfl) | (simp [*,errW_none,errW_some] <;> rfl),by (with_reducible repeat (first | apply ra_ | apply rn_ | apply re_));exact HO218.out,by repeat (first | (with_reducible first | exact HB.out | apply ba_ | apply bd_ | apply be_ | refine bs_ ?_ GE207.out) | exact HB.out)⟩
mutual
def humusref04_Decode.j0 : Nat → List Int → Bool → Option (Nat × Bool × List Nat × Int × Int × Int × Bool)
 | 0,_,_ => none
 | k + 1,x0,x19 => if x19 = true then (some (0,false,([] : List Nat),0,0,0,false)) else (humusref04_Decode.l0 k x0 (([1,4,3,2,3,1] : List Int)) 0)
def humusref04_Decode.l0 : Nat → List Int → List Int → Int → Option (Nat × Bool × List Nat × Int × Int × Int × Bool)
 | 0,_,_,_ => none
 | k + 1,x0,x4,x5 => if 19 < (x0.length : Int) then (if x5 < (wrap64 (rd x0 19)) then (if x4.length < 17592186044416 then (humusref04_Decode.l0 k x0 (x4 ++ [4]) (wrap64 (x5 + 1))) else (none)) else ((humusref03_Take.f x0 x4).bind fun bt260 => (if bt260.2.2 = 0 then (if 0 < (bt260.1.length : Int) then (if 1 < (bt260.1.length : Int) then (if 2 < (bt260.1.length : Int) then (if 3 < (bt260.1.length : Int) then (if 4 < (bt260.1.length : Int) then (humusref04_Decode.l1 k x0 bt260.1 6 ((rd_T86 bt260.1 1).f2) (((rd_T86 bt260.1 0).f1) == 1) ([] : List Nat) ((rd_T86 bt260.1 2).f1) ((rd_T86 bt260.1 3).f1) ((rd_T86 bt260.1 4).f1)) else (none)) else (none)) else (none)) else (none)) else (none)) else (some (0,false,([] : List Nat),0,0,0,false))))) else (none)
def humusref04_Decode.l1 : Nat → List Int → List (S86) → Int → Nat → Bool → List Nat → Int → Int → Int → Option (Nat × Bool × List Nat × Int × Int × Int × Bool)
 | 0,_,_,_,_,_,_,_,_,_ => none
 | k + 1,x0,x6,x10,x271000,x271001,x271002,x271003,x271004,x271005 => if x10 < (x6.length : Int) then (if 0 ≤ x10 then (if x271002.length < 17592186044416 then (humusref04_Decode.l1 k x0 x6 (wrap64 (x10 + 1)) x271000 x271001 (x271002 ++ [(rd_T86 x6 x10).f2]) x271003 x271004 x271005) else (none)) else (none)) else ((humusref04_May.f k x271000 x271001 x271002 x271003 x271004 x271005).bind fun t275 => (if t275 = true then ((humusref04_Bytes.f k x271000 x271001 x271002 x271003 x271004 x271005).bind fun t276 => (if (strOfNums t276).toList = (strOfNums x0).toList then (some (x271000,x271001,x271002,x271003,x271004,x271005,true)) else (some (0,false,([] : List Nat),0,0,0,false)))) else (some (0,false,([] : List Nat),0,0,0,false))))
end
def humusref04_Decode.f (k : Nat) (l0 : List Int) : Option (Nat × Bool × List Nat × Int × Int × Int × Bool):=if (l0.length : Int) < 20 then (humusref04_Decode.j0 k l0 true) else (if 19 < (l0.length : Int) then (humusref04_Decode.j0 k l0 (decide ((rd l0 19) > 4))) else (none))
def humusref04_Decode.T11 : Bool × List (List Nat × List Nat):=(true,[([],[]),([0],[0]),([1],[1]),([2],[2]),([3],[3]),([],[]),([5],[5]),([6],[6]),([7],[7]),([],[]),([9],[9]),([10],[10]),([11],[11]),([],[]),([13],[13]),([14],[14]),([15],[15]),([],[]),([17],[17]),([18],[18]),([19],[19]),([16,20],[16,20]),([4,8,12,21],[4,8,12,21]),([],[]),([23,22,0,1,2,3,4,5,6,7,8,9,10,11,12,13,14,15,16,17,18,19,20,21,22,23],[22,23])])
def humusref04_Decode.B11 : List Nat:=[0,1,3,7,15,0,32,96,224,0,512,1536,3584,0,8192,24576,57344,0,131072,393216,917504,2088960,4194303,0,16777215]
theorem humusref04_Decode.tab11 : rtab .any (opsOf Try.f38 11) = humusref04_Decode.T11:=by kernel_rfl
theorem humusref04_Decode.bits11 : waitsOk humusref04_Decode.T11.2 humusref04_Decode.B11 = true:=by kernel_rfl
def humusref04_Decode.T15 : Bool × List (List Nat × List Nat):=(true,[([],[]),([0],[0]),([],[]),([],[]),([2,3],[2,3]),([4],[4]),([5],[5]),([6],[6]),([1,7],[1,7]),([0,1,2,3,4,5,6,7,8],[]),([9,8,8,0,1,2,3,4,5,6,7,8],[8,9])])
def humusref04_Decode.B15 : List Nat:=[0,1,0,0,12,28,60,124,255,511,1023]
theorem humusref04_Decode.tab15 : rtab .any (opsOf Try.f38 15) = humusref04_Decode.T15:=by kernel_rfl
theorem humusref04_Decode.bits15 : waitsOk humusref04_Decode.T15.2 humusref04_Decode.B15 = true:=by kernel_rfl
def humusref04_Decode.T16 : Bool × List (List Nat × List Nat):=(true,[([],[]),([0],[0]),([1],[1]),([2,1],[2]),([3],[3]),([4,3,3],[3,4]),([5,3],[3,5]),([3],[3]),([7,3],[3,7]),([6,8,3],[3,6,8]),([3,9],[3,9])])
def humusref04_Decode.B16 : List Nat:=[0,1,3,7,15,31,63,15,143,511,1023]
theorem humusref04_Decode.tab16 : rtab .any (opsOf Try.f38 16) = humusref04_Decode.T16:=by kernel_rfl
theorem humusref04_Decode.bits16 : waitsOk humusref04_Decode.T16.2 humusref04_Decode.B16 = true:=by kernel_rfl
set_option maxHeartbeats 8000000 in
set_option maxRecDepth 100000 in
theorem humusref04_Decode.calls (k : Nat) (A0 : Option Addr) (c0 : Nat) (l0 : List Int) (r1 : Nat) (r2 : Bool) (r3 : List Nat) (r4 : Int) (r5 : Int) (r6 : Int) (r7 : Bool) (w : World) (hr0 : Kd.C (Kd.int .u8) w A0 l0.length l0) (hc0 : l0.length ≤ c0) (h : humusref04_Decode.f k l0 = some (r1,r2,r3,r4,r5,r6,r7)) :
  Calls Try.prog 38 #[.slice A0 l0.length c0] w fun e w' => ∃ v2_ : Value,e = .returned (.tuple #[.agg #[.float .f64 r1,.bool r2,v2_,.int .i64 r4,.int .i64 r5,.int .i64 r6],.bool r7]) ∧ Kd.R Kd.f64 25 w' w.heap.size (fun _ => True) v2_ r3 ∧ Below w.heap.size w w':=by
 have hu30:=Try.underlying30;have hu28:=Try.underlying28;have HR0:=A_ hr0;have HC0:=A_ hc0;clear hr0 hc0;have HB:=A_ (Below.refl w.heap.size w)
 have H : (if (l0.length : Int) < 20 then (humusref04_Decode.j0 k l0 true) else (if 19 < (l0.length : Int) then (humusref04_Decode.j0 k l0 (decide ((rd l0 19) > 4))) else (none))) = some (r1,r2,r3,r4,r5,r6,r7):=h
 clear h;have HC2:=A_ H;clear H;go_enter Try.func38,Try.ntmps38
 go_upto_region 1 with (first | ((with_reducible refine gate_dst (N:=2) rfl ?_);refine box_event ?hg (N:=2) ?hd (cs:=#[.float .f64 0,.bool false,.slice none 0 0,.int .i64 0,.int .i64 0,.int .i64 0]) (t:=30) ?hr ?_;(case hd => rfl);(case hg => rfl);(case hr => first | (go_simp;done) | (go_simp;rfl));intro gb251 hg w3 hbox hb;have n0_:=A_ (bp_ (by repeat (first | (with_reducible first | exact HB.out | apply ba_ | apply bd_ | apply be_) | exact HB.out)) hb);have n1_:=A_ (hbox);have n2_:=A_ ((by rw [hg];exact (bz_ (by repeat (first | (with_reducible first | exact HB.out | apply ba_ | apply bd_ | apply be_) | exact HB.out))) : w.heap.size ≤ gb251));have n3_:=n2_;clear HB;have HB:=n0_;have BK251:=n1_;have GW251:=n2_;have GE251:=n3_;clear n0_ n1_ n2_ n3_;clear hb hbox hg))
 (try simp only [Act.put,u1_,u2_,u3_])
 go_cut [19] (fun v19 wc => ∃ (kq : Nat) (x19_1 : Bool),v19 = .bool x19_1 ∧ Aside0 (humusref04_Decode.j0 kq l0 x19_1 = some (r1,r2,r3,r4,r5,r6,r7)) ∧ Aside0 (kq ≤ k) ∧ Aside0 (wc.heap[gb251]? = some (.cells #[.float .f64 0,.bool false,(.slice none 0 0),.int .i64 0,.int .i64 0,.int .i64 0] 30 (0,0))) ∧ Aside0 (Below w.heap.size w wc))
 case first =>
  have H:=HC2.out;clear HC2
  by_cases c4 : (l0.length : Int) < 20
  ·rw [if_pos c4] at H
   have c4b0 : decide ((l0.length : Int) < 20) = true:=dt_ c4
   have c4b1 : decide (l0.length < 20) = true:=dt_ (by omega)
   clear c4;(first | rw [c4b0] | (simp only [i64_w,i32_w];rw [c4b0]) | skip);have H':=A_ H;clear H;go_wp2;go_meet
   case rel => exact ⟨_,true,rfl,H',⟨by first | omega | exact Nat.le_refl _⟩,⟨by (with_reducible repeat (first | refine kd_ ?_ _ | refine ke_ ?_ | refine ka_ ?_ _));exact BK251.out⟩,⟨by repeat (first | (with_reducible first | exact HB.out | apply ba_ | apply bd_ | apply be_ | refine bs_ ?_ GE251.out) | exact HB.out)⟩⟩
  ·rw [if_neg c4] at H
   have c4b0 : decide ((l0.length : Int) < 20) = false:=df_ c4
   have c4b1 : decide (l0.length < 20) = false:=df_ (by omega)
   clear c4;(first | rw [c4b0] | (simp only [i64_w,i32_w];rw [c4b0]) | skip)
   by_cases c5 : 19 < (l0.length : Int)
   ·rw [if_pos c5] at H
    have c5b0 : decide (19 < (l0.length : Int)) = true:=dt_ c5
    have c5b1 : decide (19 < l0.length) = true:=dt_ (by omega)
    clear c5;have H':=A_ H;clear H
    have p252 : 0 ≤ (19 : Int):=(by omega)
    have q252 : 19 < (l0.length : Int):=od_ (by first | (with_reducible assumption) | assumption)
    obtain ⟨ad252,e252,hx252_0⟩:=Kd.at_int HR0.out 19 p252 q252
    cases e252
    (try simp only [N19_,Nat.reduceMul,Nat.reduceEqDiff,Go.Addr.add,↓reduceIte] at hx252_0)
    have qi252 : (19 < l0.length) = True:=eq_true (by omega)
    replace hx252_0:=(HB.out.cell (wb_ w _ hx252_0)).trans hx252_0;replace p252:=eq_true p252;replace q252:=eq_true q252;go_wp2;go_meet
    case rel => exact ⟨_,(decide ((rd l0 19) > 4)),(by first | rfl | (simp;done) | (simp [*];done)),H',⟨by first | omega | exact Nat.le_refl _⟩,⟨by (with_reducible repeat (first | refine kd_ ?_ _ | refine ke_ ?_ | refine ka_ ?_ _));exact BK251.out⟩,⟨by repeat (first | (with_reducible first | exact HB.out | apply ba_ | apply bd_ | apply be_ | refine bs_ ?_ GE251.out) | exact HB.out)⟩⟩
   ·rw [if_neg c5] at H
    exact absurd H (by simp)
 case rest =>
  clear HC2;(try clear p2);(try clear q2);(try clear hx2);(try clear qi2);(try clear c3);(try clear c4);(try clear c4b0);(try clear c4b1);(try clear c5);(try clear c5b0);(try clear c5b1);(try clear hx252_0);(try clear p252);(try clear q252);obtain ⟨kq,x19_1,rfl,HA,HJ1,BK251,HB⟩:=hcut
  cases kq with
  | zero => exact absurd HA.out (by simp [humusref04_Decode.j0])
  | succ kj1 =>
   have H:=HA.out;clear HA
   simp only [humusref04_Decode.j0] at H
   by_cases c6 : x19_1 = true
   ·subst c6
    have H1 : (some (0,false,([] : List Nat),0,0,0,false)) = some (r1,r2,r3,r4,r5,r6,r7):=by rw [if_pos rfl] at H;exact H
    clear H;have H:=H1;clear H1
    simp only [Option.some.injEq,Prod.mk.injEq] at H
    obtain ⟨rfl,rfl,rfl,rfl,rfl,rfl,rfl⟩:=H;obtain ⟨z7_0,z7_1,z7_2,z7_3,z7_4,z7_5⟩:=blkc_6 BK251.out;obtain ⟨y7_0,y7_1,y7_2,y7_3,y7_4,y7_5⟩:=blkz_6 BK251.out;go_wp2
    refine bodyPost_ret (results_ct rfl _ _ gb251 30 #[.float .f64 0,.bool false,.slice none 0 0,.int .i64 0,.int .i64 0,.int .i64 0] (0,0) _ rfl (by (with_reducible repeat (first | refine kd_ ?_ _ | refine ke_ ?_ | refine ka_ ?_ _));apply blkf_6_0_5;(with_reducible repeat (first | refine kd_ ?_ _ | refine ke_ ?_ | refine ka_ ?_ _));exact BK251.out) Try.underlying30 rfl (by kernel_rfl)) rfl ?_
    exact ⟨_,by first | rfl | (simp [errW_none,errW_some] <;> rfl) | (simp [*,errW_none,errW_some] <;> rfl),by first | exact Kd.R_nil _ _ _ _ _ | exact Kd.N_nil _ _ _ _ _ | exact Kd.V_nil _ _ _ _ _ | exact Kd.Q_nil _ _ _ _ _ | exact Kd.S_nil _ _ _ _ _,by repeat (first | (with_reducible first | exact HB.out | apply ba_ | apply bd_ | apply be_ | refine bs_ ?_ GE251.out) | exact HB.out)⟩
   ·replace c6:=Bool.eq_false_iff.mpr c6
    subst c6
    have H1 : (humusref04_Decode.l0 kj1 l0 (([1,4,3,2,3,1] : List Int)) 0) = some (r1,r2,r3,r4,r5,r6,r7):=by rw [if_neg (show ¬ (false = true) by decide)] at H;exact H
    clear H;have H:=H1;clear H1
    obtain ⟨y253,hy253⟩ : ∃ y_ : List Int,y_ = (([1,4,3,2,3,1] : List Int)):=⟨_,rfl⟩
    replace H : (humusref04_Decode.l0 kj1 l0 y253 0) = some (r1,r2,r3,r4,r5,r6,r7):=by first | (rw [hy253];with_reducible exact H) | (have H2_:=(Option.bind_some _ _).symm.trans H;rw [hy253];with_reducible exact H2_) | (have H2_:=(Option.bind_some _ _).symm.trans H;with_reducible exact H2_) | with_reducible exact H | (rw [hy253];exact H) | exact H
    have Ny253:=A_ hy253;clear hy253;have H':=A_ H;clear H
    go_wp2_with (first | ((with_reducible refine gate_dst (N:=21) rfl ?_);refine Kd.R_lit (Kd.int .i64) _ 3 ?hg (N:=21) ?hd (xs:=([1,4,3,2,3,1] : List Int)) (inner:=[.int .i64 1,.int .i64 4,.int .i64 3,.int .i64 2,.int .i64 3,.int .i64 1]) (ok:=fun _ => True) (okp:=fun _ => True) ?hr ?hp (fun _ hk => hk) trivial (Below.refl _ _) (Nat.le_refl _) (by simp) ?_;(case hd => rfl);(case hg => rfl);(case hr => first | (go_simp;done) | (go_simp;rfl));(case hp => exact (Reps.one (show Kd.M (Kd.int .i64) _ _ _ 1 [.int .i64 1] from rfl) (Reps.one (show Kd.M (Kd.int .i64) _ _ _ 4 [.int .i64 4] from rfl) (Reps.one (show Kd.M (Kd.int .i64) _ _ _ 3 [.int .i64 3] from rfl) (Reps.one (show Kd.M (Kd.int .i64) _ _ _ 2 [.int .i64 2] from rfl) (Reps.one (show Kd.M (Kd.int .i64) _ _ _ 3 [.int .i64 3] from rfl) (Reps.one (show Kd.M (Kd.int .i64) _ _ _ 1 [.int .i64 1] from rfl) (Reps.none _ _))))))));intro v254 w8 ho9 hb hg_ hnew_;clear hg_ hnew_;(first | rw [← Ny253.out] at ho9 | (simp only [Int.reduceToNat] at ho9;rw [← Ny253.out] at ho9));have n0_:=A_ (Kd.R_lower ho9 (bz_ (by repeat (first | (with_reducible first | exact HB.out | apply ba_ | apply bd_ | apply be_ | refine bs_ ?_ GE251.out) | exact HB.out))));have n1_:=A_ (bx_ BK251.out (by intro h_;(with_reducible repeat (first | refine kd_ ?_ _ | refine ke_ ?_ | refine ka_ ?_ _));exact h_) hb);have n2_:=A_ (bp_ (by repeat (first | (with_reducible first | exact HB.out | apply ba_ | apply bd_ | apply be_ | refine bs_ ?_ GE251.out) | exact HB.out)) hb);clear BK251;clear HB;have HO255:=n0_;have BK251:=n1_;have HB:=n2_;clear n0_ n1_ n2_;clear hb ho9))
    go_loopg [4,5] kj1 (fun kq v4 v5 w' => ∃ (x4_2 : List Int) (x5_2 : Int),v5 = .int .i64 x5_2 ∧ Aside0 (humusref04_Decode.l0 kq l0 x4_2 x5_2 = some (r1,r2,r3,r4,r5,r6,r7)) ∧ Aside0 (kq ≤ kj1) ∧ Aside0 (Kd.R (Kd.int .i64) 3 w' w.heap.size (fun _ => True) v4 x4_2) ∧ Aside0 (w'.heap[gb251]? = some (.cells #[.float .f64 0,.bool false,(.slice none 0 0),.int .i64 0,.int .i64 0,.int .i64 0] 30 (0,0))) ∧ Aside0 (Below w.heap.size w w'))
    case atStart => exact ⟨(y253),(0),(by first | rfl | (simp;done) | (simp [*];done)),H',⟨Nat.le_refl _⟩,⟨by (with_reducible repeat (first | apply ra_ | apply rn_ | apply re_));exact HO255.out⟩,⟨by (with_reducible repeat (first | refine kd_ ?_ _ | refine ke_ ?_ | refine ka_ ?_ _));exact BK251.out⟩,⟨by repeat (first | (with_reducible first | exact HB.out | apply ba_ | apply bd_ | apply be_ | refine bs_ ?_ GE251.out) | exact HB.out)⟩⟩
    case round =>
     clear H';(try clear p2);(try clear q2);(try clear hx2);(try clear qi2);(try clear c3);(try clear c4);(try clear c4b0);(try clear c4b1);(try clear c5);(try clear c5b0);(try clear c5b1);(try clear c6);(try clear hx252_0);(try clear p2);(try clear p252);(try clear q2);(try clear q252);(try clear z7_0 z7_1 z7_2 z7_3 z7_4 z7_5 y7_0 y7_1 y7_2 y7_3 y7_4 y7_5);obtain ⟨x4_2,x5_2,rfl,HA,HK2,HO_4,BK251,HB⟩:=hrel
     cases gk with
     | zero => exact absurd HA.out (by simp [humusref04_Decode.l0])
     | succ k2 =>
      have H:=HA.out;clear HA
      simp only [humusref04_Decode.l0] at H
      by_cases c10 : 19 < (l0.length : Int)
      ·rw [if_pos c10] at H
       have c10b0 : decide (19 < (l0.length : Int)) = true:=dt_ c10
       have c10b1 : decide (19 < l0.length) = true:=dt_ (by omega)
       clear c10
       by_cases c11 : x5_2 < (wrap64 (rd l0 19))
       ·rw [if_pos c11] at H
        have c11b0 : decide (x5_2 < (wrap64 (rd l0 19))) = true:=dt_ c11;clear c11
        by_cases c12 : x4_2.length < 17592186044416
        ·rw [if_pos c12] at H
         have LMc12:=A_ c12;clear c12
         obtain ⟨y257,hy257⟩ : ∃ y_ : List Int,y_ = (x4_2 ++ [4]):=⟨_,rfl⟩
         replace H : (humusref04_Decode.l0 k2 l0 y257 (wrap64 (x5_2 + 1))) = some (r1,r2,r3,r4,r5,r6,r7):=by first | (rw [hy257];with_reducible exact H) | (have H2_:=(Option.bind_some _ _).symm.trans H;rw [hy257];with_reducible exact H2_) | (have H2_:=(Option.bind_some _ _).symm.trans H;with_reducible exact H2_) | with_reducible exact H | (rw [hy257];exact H) | exact H
         have Ny257:=A_ hy257;clear hy257;have H':=A_ H;clear H
         have p256 : 0 ≤ (19 : Int):=(by omega)
         have q256 : 19 < (l0.length : Int):=od_ (by first | (with_reducible assumption) | assumption)
         obtain ⟨ad256,e256,hx256_0⟩:=Kd.at_int HR0.out 19 p256 q256
         cases e256
         (try simp only [N19_,Nat.reduceMul,Nat.reduceEqDiff,Go.Addr.add,↓reduceIte] at hx256_0)
         have qi256 : (19 < l0.length) = True:=eq_true (by omega)
         replace hx256_0:=(HB.out.cell (wb_ w _ hx256_0)).trans hx256_0;replace p256:=eq_true p256;replace q256:=eq_true q256
         go_wp2_with (first | ((with_reducible refine gate_builtin (b:=.append) (xs:=#[.tmp 30,.tmp 31]) rfl ?_);at_builtin;refine Kd.R_append (Kd.int .i64) (w0:=w) w.heap.size rfl (.tmp 30) (.tmp 31) 88 3 (.int .i64 0) 8 rfl Try.underlying88 info3 rfl (by decide) (by omega) u4 x4_2 4 [.int .i64 4] (fun _ => True) (fun _ => False) rfl rfl ?aP (fun _ hk => hk.elim) ?aF ?aO ?aB ?aS ?aL ?_;(case aP => exact rfl);(case aB => exact (by repeat (first | (with_reducible first | exact HB.out | apply ba_ | apply bd_ | apply be_ | refine bs_ ?_ GE251.out) | exact HB.out)));(case aF => exact (fun _ _ => trivial));(case aO => exact (by (with_reducible repeat (first | apply ra_ | apply rn_ | apply re_));exact HO_4.out));(case aS => exact (bz_ (by repeat (first | (with_reducible first | exact HB.out | apply ba_ | apply bd_ | apply be_ | refine bs_ ?_ GE251.out) | exact HB.out))));(case aL => have:=LMc12.out;omega);intro v258 w13 ho hb hg hat;rw [← Ny257.out] at ho;have n0_:=A_ (blk_grown (g:=gb251) (o:=.cells #[.float .f64 0,.bool false,.slice none 0 0,.int .i64 0,.int .i64 0,.int .i64 0] 30 (0,0)) (by (with_reducible repeat (first | refine kd_ ?_ _ | refine ke_ ?_ | refine ka_ ?_ _));exact BK251.out) hg (Kd.R_ne HO_4.out BK251.out (by decide)));have n1_:=A_ (hb);have n2_:=A_ (ho);clear BK251;clear HB;clear HO_4;have BK251:=n0_;have HB:=n1_;have HO259:=n2_;clear n0_ n1_ n2_;clear ho hb hg hat))
         go_roundg k2
         case measure => have:=HJ1.out;have:=HK2.out;omega
         case rel => exact ⟨(y257),(wrap64 (x5_2 + 1)),(by first | rfl | (simp;done) | (simp [*];done)),H',⟨by have:=HJ1.out;have:=HK2.out;omega⟩,⟨by (with_reducible repeat (first | apply ra_ | apply rn_ | apply re_));exact HO259.out⟩,⟨by (with_reducible repeat (first | refine kd_ ?_ _ | refine ke_ ?_ | refine ka_ ?_ _));exact BK251.out⟩,⟨by repeat (first | (with_reducible first | exact HB.out | apply ba_ | apply bd_ | apply be_ | refine bs_ ?_ GE251.out) | exact HB.out)⟩⟩
        ·rw [if_neg c12] at H
         exact absurd H (by simp)
       ·rw [if_neg c11] at H
        have c11b0 : decide (x5_2 < (wrap64 (rd l0 19))) = false:=df_ c11;clear c11;replace H:=Option.bind_eq_some_iff.mp H;obtain ⟨⟨t260,t261,t262⟩,A140,H⟩:=H
        replace H : (if t262 = 0 then (if 0 < (t260.length : Int) then (if 1 < (t260.length : Int) then (if 2 < (t260.length : Int) then (if 3 < (t260.length : Int) then (if 4 < (t260.length : Int) then (humusref04_Decode.l1 k2 l0 t260 6 ((rd_T86 t260 1).f2) (((rd_T86 t260 0).f1) == 1) ([] : List Nat) ((rd_T86 t260 2).f1) ((rd_T86 t260 3).f1) ((rd_T86 t260 4).f1)) else (none)) else (none)) else (none)) else (none)) else (none)) else (some (0,false,([] : List Nat),0,0,0,false))) = some (r1,r2,r3,r4,r5,r6,r7):=H
        have A14:=A_ A140;clear A140
        by_cases c15 : t262 = 0
        ·rw [if_pos c15] at H
         have c15b0 : (t262 == 0) = true:=beq_iff_eq.mpr c15;have c15b1 : (t262 != 0) = false:=bne_eq_false_iff_eq.mpr c15;clear c15
         by_cases c16 : 0 < (t260.length : Int)
         ·rw [if_pos c16] at H
          have c16b0 : decide (0 < (t260.length : Int)) = true:=dt_ c16
          have c16b1 : decide (0 < t260.length) = true:=dt_ (by omega)
          clear c16
          by_cases c17 : 1 < (t260.length : Int)
          ·rw [if_pos c17] at H
           have c17b0 : decide (1 < (t260.length : Int)) = true:=dt_ c17
           have c17b1 : decide (1 < t260.length) = true:=dt_ (by omega)
           clear c17
           by_cases c18 : 2 < (t260.length : Int)
           ·rw [if_pos c18] at H
            have c18b0 : decide (2 < (t260.length : Int)) = true:=dt_ c18
            have c18b1 : decide (2 < t260.length) = true:=dt_ (by omega)
            clear c18
            by_cases c19 : 3 < (t260.length : Int)
            ·rw [if_pos c19] at H
             have c19b0 : decide (3 < (t260.length : Int)) = true:=dt_ c19
             have c19b1 : decide (3 < t260.length) = true:=dt_ (by omega)
             clear c19
             by_cases c20 : 4 < (t260.length : Int)
             ·rw [if_pos c20] at H
              have c20b0 : decide (4 < (t260.length : Int)) = true:=dt_ c20
              have c20b1 : decide (4 < t260.length) = true:=dt_ (by omega)
              clear c20;have H':=A_ H;clear H
              have p256 : 0 ≤ (19 : Int):=(by omega)
              have q256 : 19 < (l0.length : Int):=od_ (by first | (with_reducible assumption) | assumption)
              obtain ⟨ad256,e256,hx256_0⟩:=Kd.at_int HR0.out 19 p256 q256
              cases e256
              (try simp only [N19_,Nat.reduceMul,Nat.reduceEqDiff,Go.Addr.add,↓reduceIte] at hx256_0)
              have qi256 : (19 < l0.length) = True:=eq_true (by omega)
              replace hx256_0:=(HB.out.cell (wb_ w _ hx256_0)).trans hx256_0;replace p256:=eq_true p256;replace q256:=eq_true q256;obtain ⟨Ao21,co21,eo21⟩:=Kd.R_slice HO_4.out;subst eo21
              try go_wp2_with (first | ((with_reducible refine gate_callee (f:=77) rfl ?_);refine goesL_ (some 36) rfl rfl Try.func77 (by kernel_rfl) rfl #[.slice (some ad256) l0.length c0,.slice Ao21 x4_2.length co21] rfl (by (try simp only [List.map_toArray,List.map_cons,List.map_nil]);first | done | rfl | (simp only [List.length_drop,List.length_take];rfl)) ?_;(with_reducible refine (humusref03_Take.calls _ _ l0 _ _ x4_2 t260 t261 t262 _ ?side1 ?side2 ?side3 ?side4 A14.out).mono ?_);(case side1 => repeat (first | exact (Kd.C_below HR0.out HB.out) | (with_reducible refine Kd.C_alloc ?_ _) | (with_reducible refine Kd.C_drewN ?_ _) | (with_reducible refine Kd.C_drew ?_)));(case side2 => exact HC0.out);(case side3 => repeat (first | exact (Kd.R_reads' HO_4.out).2.2 | (with_reducible refine Kd.C_alloc ?_ _) | (with_reducible refine Kd.C_drewN ?_ _) | (with_reducible refine Kd.C_drew ?_)));(case side4 => exact (Kd.R_reads' HO_4.out).2.1);rintro e w22 ⟨v263,rfl,ho0,hb⟩;refine ⟨_,rfl,?_⟩;have n0_:=A_ (Kd.R_below (by (with_reducible repeat (first | apply ra_ | apply rn_ | apply re_));exact HO_4.out) hb);have n1_:=A_ (Kd.R_lower ho0 (bz_ (by repeat (first | (with_reducible first | exact HB.out | apply ba_ | apply bd_ | apply be_ | refine bs_ ?_ GE251.out) | exact HB.out))));have n2_:=A_ (bx_ BK251.out (by intro h_;(with_reducible repeat (first | refine kd_ ?_ _ | refine ke_ ?_ | refine ka_ ?_ _));exact h_) hb);have n3_:=A_ (bp_ (by repeat (first | (with_reducible first | exact HB.out | apply ba_ | apply bd_ | apply be_ | refine bs_ ?_ GE251.out) | exact HB.out)) hb);clear HO_4;clear BK251;clear HB;have HO_4:=n0_;have HO264:=n1_;have BK251:=n2_;have HB:=n3_;clear n0_ n1_ n2_ n3_;(try clear hb);(try clear hb2);(try clear hk);(try clear hi);(try clear ho0)))
              have n0_:=A_ (re_ HO_4.out);have n1_:=A_ (re_ HO264.out);have n2_:=A_ (ke_ BK251.out);have n3_:=A_ (be_ HB.out);clear HO_4;clear HO264;clear BK251;clear HB;have HO_4:=n0_;have HO264:=n1_;have BK251:=n2_;have HB:=n3_;clear n0_ n1_ n2_ n3_;obtain ⟨Ao24,co24,eo24⟩:=Kd.R_slice HO264.out
              (first | subst eo24 | (injection eo24 with f1_ f2_ f3_;have f4_:=f1_.symm;have f5_:=f3_.symm;clear f1_ f2_ f3_;subst f4_;subst f5_))
              have p265 : 0 ≤ (0 : Int):=(by omega)
              have q265 : 0 < (t260.length : Int):=od_ (by first | (with_reducible assumption) | assumption)
              obtain ⟨ad265,e265,hx265_0,hx265_1,hx265_2,hx265_3⟩:=at_T86 (Kd.R_reads' HO264.out).2.2 0 p265 q265
              cases e265
              have qi265 : (0 < t260.length) = True:=eq_true (by omega)
              (try rw [N0_] at hx265_0)
              (try rw [show 0 * 4 = 0 from rfl] at hx265_0)
              (try rw [Addr.add_zero'] at hx265_0);(try rw [N0_] at hx265_1)
              (try rw [show 0 * 4 = 0 from rfl] at hx265_1)
              (try rw [Addr.add_zero'] at hx265_1);(try rw [N0_] at hx265_2)
              (try rw [show 0 * 4 = 0 from rfl] at hx265_2)
              (try rw [Addr.add_zero'] at hx265_2);(try rw [N0_] at hx265_3)
              (try rw [show 0 * 4 = 0 from rfl] at hx265_3)
              (try rw [Addr.add_zero'] at hx265_3);replace p265:=eq_true p265;replace q265:=eq_true q265
              have p266 : 0 ≤ (1 : Int):=(by omega)
              have q266 : 1 < (t260.length : Int):=od_ (by first | (with_reducible assumption) | assumption)
              obtain ⟨ad266,e266,hx266_0,hx266_1,hx266_2,hx266_3⟩:=at_T86 (Kd.R_reads' HO264.out).2.2 1 p266 q266
              obtain rfl : ad265 = ad266:=(by injection e266)
              (try simp only [N1_,Nat.reduceMul,Nat.reduceEqDiff,Go.Addr.add,↓reduceIte] at hx266_0 hx266_1 hx266_2 hx266_3)
              have qi266 : (1 < t260.length) = True:=eq_true (by omega)
              replace p266:=eq_true p266;replace q266:=eq_true q266
              have p267 : 0 ≤ (2 : Int):=(by omega)
              have q267 : 2 < (t260.length : Int):=od_ (by first | (with_reducible assumption) | assumption)
              obtain ⟨ad267,e267,hx267_0,hx267_1,hx267_2,hx267_3⟩:=at_T86 (Kd.R_reads' HO264.out).2.2 2 p267 q267
              obtain rfl : ad265 = ad267:=(by injection e267)
              (try simp only [N2_,Nat.reduceMul,Nat.reduceEqDiff,Go.Addr.add,↓reduceIte] at hx267_0 hx267_1 hx267_2 hx267_3)
              have qi267 : (2 < t260.length) = True:=eq_true (by omega)
              replace p267:=eq_true p267;replace q267:=eq_true q267
              have p268 : 0 ≤ (3 : Int):=(by omega)
              have q268 : 3 < (t260.length : Int):=od_ (by first | (with_reducible assumption) | assumption)
              obtain ⟨ad268,e268,hx268_0,hx268_1,hx268_2,hx268_3⟩:=at_T86 (Kd.R_reads' HO264.out).2.2 3 p268 q268
              obtain rfl : ad265 = ad268:=(by injection e268)
              (try simp only [N3_,Nat.reduceMul,Nat.reduceEqDiff,Go.Addr.add,↓reduceIte] at hx268_0 hx268_1 hx268_2 hx268_3)
              have qi268 : (3 < t260.length) = True:=eq_true (by omega)
              replace p268:=eq_true p268;replace q268:=eq_true q268
              have p269 : 0 ≤ (4 : Int):=(by omega)
              have q269 : 4 < (t260.length : Int):=od_ (by first | (with_reducible assumption) | assumption)
              obtain ⟨ad269,e269,hx269_0,hx269_1,hx269_2,hx269_3⟩:=at_T86 (Kd.R_reads' HO264.out).2.2 4 p269 q269
              obtain rfl : ad265 = ad269:=(by injection e269)
              (try simp only [N4_,Nat.reduceMul,Nat.reduceEqDiff,Go.Addr.add,↓reduceIte] at hx269_0 hx269_1 hx269_2 hx269_3)
              have qi269 : (4 < t260.length) = True:=eq_true (by omega)
              replace p269:=eq_true p269;replace q269:=eq_true q269
              refine start_ (n:=25) (S:=fun w' => w'.cell? ad265 = some (.int .i64 ((rd_T86 t260 0).f0)) ∧ w'.cell? ⟨ad265.block,ad265.off + 1,none⟩ = some (.int .i64 ((rd_T86 t260 0).f1)) ∧ w'.cell? ⟨ad265.block,ad265.off + 2,none⟩ = some (.float .f64 ((rd_T86 t260 0).f2)) ∧ w'.cell? ⟨ad265.block,ad265.off + 3,none⟩ = some (.string ((rd_T86 t260 0).f3)) ∧ w'.cell? ⟨ad265.block,ad265.off + 4,none⟩ = some (.int .i64 ((rd_T86 t260 1).f0)) ∧ w'.cell? ⟨ad265.block,ad265.off + 4 + 1,none⟩ = some (.int .i64 ((rd_T86 t260 1).f1)) ∧ w'.cell? ⟨ad265.block,ad265.off + 4 + 2,none⟩ = some (.float .f64 ((rd_T86 t260 1).f2)) ∧ w'.cell? ⟨ad265.block,ad265.off + 4 + 3,none⟩ = some (.string ((rd_T86 t260 1).f3)) ∧ w'.cell? ⟨ad265.block,ad265.off + 8,none⟩ = some (.int .i64 ((rd_T86 t260 2).f0)) ∧ w'.cell? ⟨ad265.block,ad265.off + 8 + 1,none⟩ = some (.int .i64 ((rd_T86 t260 2).f1)) ∧ w'.cell? ⟨ad265.block,ad265.off + 8 + 2,none⟩ = some (.float .f64 ((rd_T86 t260 2).f2)) ∧ w'.cell? ⟨ad265.block,ad265.off + 8 + 3,none⟩ = some (.string ((rd_T86 t260 2).f3)) ∧ w'.cell? ⟨ad265.block,ad265.off + 12,none⟩ = some (.int .i64 ((rd_T86 t260 3).f0)) ∧ w'.cell? ⟨ad265.block,ad265.off + 12 + 1,none⟩ = some (.int .i64 ((rd_T86 t260 3).f1)) ∧ w'.cell? ⟨ad265.block,ad265.off + 12 + 2,none⟩ = some (.float .f64 ((rd_T86 t260 3).f2)) ∧ w'.cell? ⟨ad265.block,ad265.off + 12 + 3,none⟩ = some (.string ((rd_T86 t260 3).f3)) ∧ w'.cell? ⟨ad265.block,ad265.off + 16,none⟩ = some (.int .i64 ((rd_T86 t260 4).f0)) ∧ w'.cell? ⟨ad265.block,ad265.off + 16 + 1,none⟩ = some (.int .i64 ((rd_T86 t260 4).f1)) ∧ w'.cell? ⟨ad265.block,ad265.off + 16 + 2,none⟩ = some (.float .f64 ((rd_T86 t260 4).f2)) ∧ w'.cell? ⟨ad265.block,ad265.off + 16 + 3,none⟩ = some (.string ((rd_T86 t260 4).f3))) (ds:=[24]) #[Z,Z,Z,Z,Z,Z,Z,Z,Z,Z,Z,Z,Z,Z,Z,Z,Z,Z,Z,Z,Z,Z,Z,Z,Z] (by kernel_rfl) rfl rfl ⟨hx265_0,hx265_1,hx265_2,hx265_3,hx266_0,hx266_1,hx266_2,hx266_3,hx267_0,hx267_1,hx267_2,hx267_3,hx268_0,hx268_1,hx268_2,hx268_3,hx269_0,hx269_1,hx269_2,hx269_3⟩ (fun hHeld => ?_);refine with_tabW humusref04_Decode.tab11 humusref04_Decode.bits11 (fun HT_ HW_ => ?_)
              generalize w22.drew = w23 at HO_4 HO264 BK251 HB hx265_0 hx265_1 hx265_2 hx265_3 hx266_0 hx266_1 hx266_2 hx266_3 hx267_0 hx267_1 hx267_2 hx267_3 hx268_0 hx268_1 hx268_2 hx268_3 hx269_0 hx269_1 hx269_2 hx269_3 hHeld ⊢
              refine pu_ (i:=0) (N:=some 43) (v:=?_) (a':=?_) #[Y,Z,Z,Z,Z,Z,Z,Z,Z,Z,Z,Z,Z,Z,Z,Z,Z,Z,Z,Z,Z,Z,Z,Z,Z] rfl rfl HT_.out (by kernel_rfl) (fun _ _ _ h => h) (by rfl) ?_ ?_ ?_;rotate_left;(intro w';go_simp;with_reducible rfl);rotate_left;(simp only [Act.put,q1_,q2_,q3_,i64_w,i32_w];rfl)
              refine pu_ (i:=1) (N:=some 44) (v:=?_) (a':=?_) #[Y,Y,Z,Z,Z,Z,Z,Z,Z,Z,Z,Z,Z,Z,Z,Z,Z,Z,Z,Z,Z,Z,Z,Z,Z] rfl rfl HT_.out (by kernel_rfl) (fun _ _ _ h => h) (by rfl) ?_ ?_ ?_;rotate_left;(intro w';go_simp;with_reducible rfl);rotate_left;(simp only [Act.put,q1_,q2_,q3_,i64_w,i32_w];rfl)
              refine pu_ (i:=2) (N:=some 45) (v:=?_) (a':=?_) #[Y,Y,Y,Z,Z,Z,Z,Z,Z,Z,Z,Z,Z,Z,Z,Z,Z,Z,Z,Z,Z,Z,Z,Z,Z] rfl rfl HT_.out (by kernel_rfl) (fun _ _ _ h => h) (by rfl) ?_ ?_ ?_;rotate_left;(intro w';go_simp;with_reducible rfl);rotate_left;(simp only [Act.put,q1_,q2_,q3_,i64_w,i32_w];rfl)
              refine pu_ (i:=5) (N:=some 48) (v:=?_) (a':=?_) #[Y,Y,Y,Z,Z,Y,Z,Z,Z,Z,Z,Z,Z,Z,Z,Z,Z,Z,Z,Z,Z,Z,Z,Z,Z] rfl rfl HT_.out (by kernel_rfl) (fun _ _ _ h => h) (by rfl) ?_ ?_ ?_;rotate_left;(intro w';go_simp;with_reducible rfl);rotate_left;(simp only [Act.put,q1_,q2_,q3_,i64_w,i32_w];rfl)
              refine pu_ (i:=6) (N:=some 49) (v:=?_) (a':=?_) #[Y,Y,Y,Z,Z,Y,Y,Z,Z,Z,Z,Z,Z,Z,Z,Z,Z,Z,Z,Z,Z,Z,Z,Z,Z] rfl rfl HT_.out (by kernel_rfl) (fun _ _ _ h => h) (by rfl) ?_ ?_ ?_;rotate_left;(intro w';go_simp;with_reducible rfl);rotate_left;(simp only [Act.put,q1_,q2_,q3_,i64_w,i32_w];rfl)
              refine pu_ (i:=7) (N:=some 50) (v:=?_) (a':=?_) #[Y,Y,Y,Z,Z,Y,Y,Y,Z,Z,Z,Z,Z,Z,Z,Z,Z,Z,Z,Z,Z,Z,Z,Z,Z] rfl rfl HT_.out (by kernel_rfl) (fun _ _ _ h => h) (by rfl) ?_ ?_ ?_;rotate_left;(intro w';go_simp;with_reducible rfl);rotate_left;(simp only [Act.put,q1_,q2_,q3_,i64_w,i32_w];rfl)
              refine pu_ (i:=9) (N:=some 52) (v:=?_) (a':=?_) #[Y,Y,Y,Z,Z,Y,Y,Y,Z,Y,Z,Z,Z,Z,Z,Z,Z,Z,Z,Z,Z,Z,Z,Z,Z] rfl rfl HT_.out (by kernel_rfl) (fun _ _ _ h => h) (by rfl) ?_ ?_ ?_;rotate_left;(intro w';go_simp;with_reducible rfl);rotate_left;(simp only [Act.put,q1_,q2_,q3_,i64_w,i32_w];rfl)
              refine pu_ (i:=10) (N:=some 53) (v:=?_) (a':=?_) #[Y,Y,Y,Z,Z,Y,Y,Y,Z,Y,Y,Z,Z,Z,Z,Z,Z,Z,Z,Z,Z,Z,Z,Z,Z] rfl rfl HT_.out (by kernel_rfl) (fun _ _ _ h => h) (by rfl) ?_ ?_ ?_;rotate_left;(intro w';go_simp;with_reducible rfl);rotate_left;(simp only [Act.put,q1_,q2_,q3_,i64_w,i32_w];rfl)
              refine pu_ (i:=11) (N:=some 54) (v:=?_) (a':=?_) #[Y,Y,Y,Z,Z,Y,Y,Y,Z,Y,Y,Y,Z,Z,Z,Z,Z,Z,Z,Z,Z,Z,Z,Z,Z] rfl rfl HT_.out (by kernel_rfl) (fun _ _ _ h => h) (by rfl) ?_ ?_ ?_;rotate_left;(intro w';go_simp;with_reducible rfl);rotate_left;(simp only [Act.put,q1_,q2_,q3_,i64_w,i32_w];rfl)
              refine pu_ (i:=13) (N:=some 56) (v:=?_) (a':=?_) #[Y,Y,Y,Z,Z,Y,Y,Y,Z,Y,Y,Y,Z,Y,Z,Z,Z,Z,Z,Z,Z,Z,Z,Z,Z] rfl rfl HT_.out (by kernel_rfl) (fun _ _ _ h => h) (by rfl) ?_ ?_ ?_;rotate_left;(intro w';go_simp;with_reducible rfl);rotate_left;(simp only [Act.put,q1_,q2_,q3_,i64_w,i32_w];rfl)
              refine pu_ (i:=14) (N:=some 57) (v:=?_) (a':=?_) #[Y,Y,Y,Z,Z,Y,Y,Y,Z,Y,Y,Y,Z,Y,Y,Z,Z,Z,Z,Z,Z,Z,Z,Z,Z] rfl rfl HT_.out (by kernel_rfl) (fun _ _ _ h => h) (by rfl) ?_ ?_ ?_;rotate_left;(intro w';go_simp;with_reducible rfl);rotate_left;(simp only [Act.put,q1_,q2_,q3_,i64_w,i32_w];rfl)
              refine pu_ (i:=15) (N:=some 58) (v:=?_) (a':=?_) #[Y,Y,Y,Z,Z,Y,Y,Y,Z,Y,Y,Y,Z,Y,Y,Y,Z,Z,Z,Z,Z,Z,Z,Z,Z] rfl rfl HT_.out (by kernel_rfl) (fun _ _ _ h => h) (by rfl) ?_ ?_ ?_;rotate_left;(intro w';go_simp;with_reducible rfl);rotate_left;(simp only [Act.put,q1_,q2_,q3_,i64_w,i32_w];rfl)
              refine pu_ (i:=17) (N:=some 60) (v:=?_) (a':=?_) #[Y,Y,Y,Z,Z,Y,Y,Y,Z,Y,Y,Y,Z,Y,Y,Y,Z,Y,Z,Z,Z,Z,Z,Z,Z] rfl rfl HT_.out (by kernel_rfl) (fun _ _ _ h => h) (by rfl) ?_ ?_ ?_;rotate_left;(intro w';go_simp;with_reducible rfl);rotate_left;(simp only [Act.put,q1_,q2_,q3_,i64_w,i32_w];rfl)
              refine pu_ (i:=18) (N:=some 61) (v:=?_) (a':=?_) #[Y,Y,Y,Z,Z,Y,Y,Y,Z,Y,Y,Y,Z,Y,Y,Y,Z,Y,Y,Z,Z,Z,Z,Z,Z] rfl rfl HT_.out (by kernel_rfl) (fun _ _ _ h => h) (by rfl) ?_ ?_ ?_;rotate_left;(intro w';go_simp;with_reducible rfl);rotate_left;(simp only [Act.put,q1_,q2_,q3_,i64_w,i32_w];rfl)
              refine pu_ (i:=19) (N:=some 62) (v:=?_) (a':=?_) #[Y,Y,Y,Z,Z,Y,Y,Y,Z,Y,Y,Y,Z,Y,Y,Y,Z,Y,Y,Y,Z,Z,Z,Z,Z] rfl rfl HT_.out (by kernel_rfl) (fun _ _ _ h => h) (by rfl) ?_ ?_ ?_;rotate_left;(intro w';go_simp;with_reducible rfl);rotate_left;(simp only [Act.put,q1_,q2_,q3_,i64_w,i32_w];rfl)
              refine ta_ (i:=3) (N:=some 46) (v:=?_) (a':=?_) #[Y,Y,Y,Y,Z,Y,Y,Y,Z,Y,Y,Y,Z,Y,Y,Y,Z,Y,Y,Y,Z,Z,Z,Z,Z] rfl rfl HT_.out HW_.out (by kernel_rfl) (fun _ _ _ h => h) (by rfl) ?_ hHeld ?_ ?_;rotate_left;(rintro w' ⟨s0,s1,s2,s3,s4,s5,s6,s7,s8,s9,s10,s11,s12,s13,s14,s15,s16,s17,s18,s19⟩;go_simp;with_reducible rfl);rotate_left;(simp only [Act.put,q1_,q2_,q3_,i64_w,i32_w];rfl)
              refine pu_ (i:=4) (N:=some 47) (v:=?_) (a':=?_) #[Y,Y,Y,Y,Y,Y,Y,Y,Z,Y,Y,Y,Z,Y,Y,Y,Z,Y,Y,Y,Z,Z,Z,Z,Z] rfl rfl HT_.out (by kernel_rfl) (fun _ _ _ h => h) (by rfl) ?_ ?_ ?_;rotate_left;(intro w';go_simp;with_reducible rfl);rotate_left;(simp only [Act.put,q1_,q2_,q3_,i64_w,i32_w];rfl)
              refine ta_ (i:=8) (N:=some 51) (v:=?_) (a':=?_) #[Y,Y,Y,Y,Y,Y,Y,Y,Y,Y,Y,Y,Z,Y,Y,Y,Z,Y,Y,Y,Z,Z,Z,Z,Z] rfl rfl HT_.out HW_.out (by kernel_rfl) (fun _ _ _ h => h) (by rfl) ?_ hHeld ?_ ?_;rotate_left;(rintro w' ⟨s0,s1,s2,s3,s4,s5,s6,s7,s8,s9,s10,s11,s12,s13,s14,s15,s16,s17,s18,s19⟩;go_simp;with_reducible rfl);rotate_left;(simp only [Act.put,q1_,q2_,q3_,i64_w,i32_w];rfl)
              refine ta_ (i:=12) (N:=some 55) (v:=?_) (a':=?_) #[Y,Y,Y,Y,Y,Y,Y,Y,Y,Y,Y,Y,Y,Y,Y,Y,Z,Y,Y,Y,Z,Z,Z,Z,Z] rfl rfl HT_.out HW_.out (by kernel_rfl) (fun _ _ _ h => h) (by rfl) ?_ hHeld ?_ ?_;rotate_left;(rintro w' ⟨s0,s1,s2,s3,s4,s5,s6,s7,s8,s9,s10,s11,s12,s13,s14,s15,s16,s17,s18,s19⟩;go_simp;with_reducible rfl);rotate_left;(simp only [Act.put,q1_,q2_,q3_,i64_w,i32_w];rfl)
              refine ta_ (i:=16) (N:=some 59) (v:=?_) (a':=?_) #[Y,Y,Y,Y,Y,Y,Y,Y,Y,Y,Y,Y,Y,Y,Y,Y,Y,Y,Y,Y,Z,Z,Z,Z,Z] rfl rfl HT_.out HW_.out (by kernel_rfl) (fun _ _ _ h => h) (by rfl) ?_ hHeld ?_ ?_;rotate_left;(rintro w' ⟨s0,s1,s2,s3,s4,s5,s6,s7,s8,s9,s10,s11,s12,s13,s14,s15,s16,s17,s18,s19⟩;go_simp;with_reducible rfl);rotate_left;(simp only [Act.put,q1_,q2_,q3_,i64_w,i32_w];rfl)
              refine ta_ (i:=20) (N:=some 63) (v:=?_) (a':=?_) #[Y,Y,Y,Y,Y,Y,Y,Y,Y,Y,Y,Y,Y,Y,Y,Y,Y,Y,Y,Y,Y,Z,Z,Z,Z] rfl rfl HT_.out HW_.out (by kernel_rfl) (fun _ _ _ h => h) (by rfl) ?_ hHeld ?_ ?_;rotate_left;(rintro w' ⟨s0,s1,s2,s3,s4,s5,s6,s7,s8,s9,s10,s11,s12,s13,s14,s15,s16,s17,s18,s19⟩;go_simp;with_reducible rfl);rotate_left;(simp only [Act.put,q1_,q2_,q3_,i64_w,i32_w];rfl)
              refine pu_ (i:=21) (N:=some 64) (v:=?_) (a':=?_) #[Y,Y,Y,Y,Y,Y,Y,Y,Y,Y,Y,Y,Y,Y,Y,Y,Y,Y,Y,Y,Y,Y,Z,Z,Z] rfl rfl HT_.out (by kernel_rfl) (fun _ _ _ h => h) (by rfl) ?_ ?_ ?_;rotate_left;(intro w';go_simp;with_reducible rfl);rotate_left;(simp only [Act.put,q1_,q2_,q3_,i64_w,i32_w];rfl)
              refine pu_ (i:=22) (N:=some 65) (v:=?_) (a':=?_) #[Y,Y,Y,Y,Y,Y,Y,Y,Y,Y,Y,Y,Y,Y,Y,Y,Y,Y,Y,Y,Y,Y,Y,Z,Z] rfl rfl HT_.out (by kernel_rfl) (fun _ _ _ h => h) (by rfl) ?_ ?_ ?_;rotate_left;(intro w';go_simp;with_reducible rfl);rotate_left;(simp only [Act.put,q1_,q2_,q3_,i64_w,i32_w];rfl)
              refine one_ (i:=23) (N:=some 9) #[Y,Y,Y,Y,Y,Y,Y,Y,Y,Y,Y,Y,Y,Y,Y,Y,Y,Y,Y,Y,Y,Y,Y,Y,Z] rfl rfl (one_of HT_.out (by kernel_rfl)) (by decide) (fun K hK => ?_)
              refine box_step ?hg (N:=9) ?hd (cs:=#[.float .f64 0,.bool false,.slice none 0 0,.int .i64 0,.int .i64 0,.int .i64 0]) (t:=30) ?hr ?_;(case hd => rfl);(case hg => rfl);(case hr => first | (go_simp;done) | (go_simp;rfl))
              intro gb270 hg w25 hbox hb;have HS0_:=(hb.cell (wb_ _ _ (hHeld.1))).trans (hHeld.1);have HS1_:=(hb.cell (wb_ _ _ (hHeld.2.1))).trans (hHeld.2.1);have HS2_:=(hb.cell (wb_ _ _ (hHeld.2.2.1))).trans (hHeld.2.2.1);have HS3_:=(hb.cell (wb_ _ _ (hHeld.2.2.2.1))).trans (hHeld.2.2.2.1);have HS4_:=(hb.cell (wb_ _ _ (hHeld.2.2.2.2.1))).trans (hHeld.2.2.2.2.1);have HS5_:=(hb.cell (wb_ _ _ (hHeld.2.2.2.2.2.1))).trans (hHeld.2.2.2.2.2.1);have HS6_:=(hb.cell (wb_ _ _ (hHeld.2.2.2.2.2.2.1))).trans (hHeld.2.2.2.2.2.2.1);have HS7_:=(hb.cell (wb_ _ _ (hHeld.2.2.2.2.2.2.2.1))).trans (hHeld.2.2.2.2.2.2.2.1);have HS8_:=(hb.cell (wb_ _ _ (hHeld.2.2.2.2.2.2.2.2.1))).trans (hHeld.2.2.2.2.2.2.2.2.1);have HS9_:=(hb.cell (wb_ _ _ (hHeld.2.2.2.2.2.2.2.2.2.1))).trans (hHeld.2.2.2.2.2.2.2.2.2.1);have HS10_:=(hb.cell (wb_ _ _ (hHeld.2.2.2.2.2.2.2.2.2.2.1))).trans (hHeld.2.2.2.2.2.2.2.2.2.2.1);have HS11_:=(hb.cell (wb_ _ _ (hHeld.2.2.2.2.2.2.2.2.2.2.2.1))).trans (hHeld.2.2.2.2.2.2.2.2.2.2.2.1);have HS12_:=(hb.cell (wb_ _ _ (hHeld.2.2.2.2.2.2.2.2.2.2.2.2.1))).trans (hHeld.2.2.2.2.2.2.2.2.2.2.2.2.1);have HS13_:=(hb.cell (wb_ _ _ (hHeld.2.2.2.2.2.2.2.2.2.2.2.2.2.1))).trans (hHeld.2.2.2.2.2.2.2.2.2.2.2.2.2.1);have HS14_:=(hb.cell (wb_ _ _ (hHeld.2.2.2.2.2.2.2.2.2.2.2.2.2.2.1))).trans (hHeld.2.2.2.2.2.2.2.2.2.2.2.2.2.2.1);have HS15_:=(hb.cell (wb_ _ _ (hHeld.2.2.2.2.2.2.2.2.2.2.2.2.2.2.2.1))).trans (hHeld.2.2.2.2.2.2.2.2.2.2.2.2.2.2.2.1);have HS16_:=(hb.cell (wb_ _ _ (hHeld.2.2.2.2.2.2.2.2.2.2.2.2.2.2.2.2.1))).trans (hHeld.2.2.2.2.2.2.2.2.2.2.2.2.2.2.2.2.1)
              have HS17_:=(hb.cell (wb_ _ _ (hHeld.2.2.2.2.2.2.2.2.2.2.2.2.2.2.2.2.2.1))).trans (hHeld.2.2.2.2.2.2.2.2.2.2.2.2.2.2.2.2.2.1);have HS18_:=(hb.cell (wb_ _ _ (hHeld.2.2.2.2.2.2.2.2.2.2.2.2.2.2.2.2.2.2.1))).trans (hHeld.2.2.2.2.2.2.2.2.2.2.2.2.2.2.2.2.2.2.1);have HS19_:=(hb.cell (wb_ _ _ (hHeld.2.2.2.2.2.2.2.2.2.2.2.2.2.2.2.2.2.2.2))).trans (hHeld.2.2.2.2.2.2.2.2.2.2.2.2.2.2.2.2.2.2.2)
              have n0_:=A_ (Kd.R_below (by (with_reducible repeat (first | apply ra_ | apply rn_ | apply re_));exact HO_4.out) hb)
              have n1_:=A_ (Kd.R_below (by (with_reducible repeat (first | apply ra_ | apply rn_ | apply re_));exact HO264.out) hb)
              have n2_:=A_ (bx_ BK251.out (by intro h_;(with_reducible repeat (first | refine kd_ ?_ _ | refine ke_ ?_ | refine ka_ ?_ _));exact h_) hb)
              have n3_:=A_ (bp_ (by repeat (first | (with_reducible first | exact HB.out | apply ba_ | apply bd_ | apply be_ | refine bs_ ?_ GE251.out) | exact HB.out)) hb)
              have n4_:=A_ (hbox)
              have n5_:=A_ ((by rw [hg];exact (bz_ (by repeat (first | (with_reducible first | exact HB.out | apply ba_ | apply bd_ | apply be_ | refine bs_ ?_ GE251.out) | exact HB.out))) : w.heap.size ≤ gb270))
              have n6_:=n5_
              have n7_:=A_ ((by rw [hg];exact Nat.ne_of_lt (bl_ BK251.out (by intro h_;(with_reducible repeat (first | refine kd_ ?_ _ | refine ke_ ?_ | refine ka_ ?_ _));exact h_)) : gb251 ≠ gb270))
              have n8_:=A_ (Ne.symm n7_.out);clear HO_4;clear HO264;clear BK251;clear HB;have HO_4:=n0_;have HO264:=n1_;have BK251:=n2_;have HB:=n3_;have BK270:=n4_;have GW270:=n5_;have GE270:=n6_;have NB251_270:=n7_;have NB270_251:=n8_;clear n0_ n1_ n2_ n3_ n4_ n5_ n6_ n7_ n8_;clear hb hbox hg
              refine hK.out _ _ ⟨HS0_,HS1_,HS2_,HS3_,HS4_,HS5_,HS6_,HS7_,HS8_,HS9_,HS10_,HS11_,HS12_,HS13_,HS14_,HS15_,HS16_,HS17_,HS18_,HS19_⟩ (fun hHeld => ?_)
              clear hK K
              refine norm_ (a':=?_) ?_ ?_;rotate_left;(show Act.put _ (some 9) _ = _;simp only [Act.put,q1_,q2_,q3_,i64_w,i32_w];rfl)
              refine last_ (i:=24) (N:=none) #[Y,Y,Y,Y,Y,Y,Y,Y,Y,Y,Y,Y,Y,Y,Y,Y,Y,Y,Y,Y,Y,Y,Y,Y,Y] rfl rfl (one_of HT_.out (by kernel_rfl)) (by decide) (fun K hK => ?_)
              have hs26 : w25.cell? ⟨gb270,0,none⟩ = some (.float .f64 0):=(bc_ BK270.out 0).trans rfl;have hfs26:=bf_ BK270.out 0;have hns26_0:=NB251_270.out;have hms26_0:=NB270_251.out;have hs27 : w25.cell? ⟨gb270,1,none⟩ = some (.bool false):=(bc_ BK270.out 1).trans rfl;have hfs27:=bf_ BK270.out 1;have hns27_0:=NB251_270.out;have hms27_0:=NB270_251.out;have hs28 : w25.cell? ⟨gb270,2,none⟩ = some (.slice none 0 0):=(bc_ BK270.out 2).trans rfl;have hfs28:=bf_ BK270.out 2;have hns28_0:=NB251_270.out;have hms28_0:=NB270_251.out;have hs29 : w25.cell? ⟨gb270,3,none⟩ = some (.int .i64 0):=(bc_ BK270.out 3).trans rfl;have hfs29:=bf_ BK270.out 3;have hns29_0:=NB251_270.out;have hms29_0:=NB270_251.out;have hs30 : w25.cell? ⟨gb270,4,none⟩ = some (.int .i64 0):=(bc_ BK270.out 4).trans rfl;have hfs30:=bf_ BK270.out 4;have hns30_0:=NB251_270.out;have hms30_0:=NB270_251.out;have hs31 : w25.cell? ⟨gb270,5,none⟩ = some (.int .i64 0):=(bc_ BK270.out 5).trans rfl;have hfs31:=bf_ BK270.out 5;have hns31_0:=NB251_270.out;have hms31_0:=NB270_251.out
              refine skip_ (w1:=?_) (by rfl) rfl ?_ ?_
              rotate_left
              ·go_simp
               rfl
              refine hK.out _ _ ?_;clear hK K;refine done_ (done_of HT_.out (by kernel_rfl)) ?_
              try go_wp2
              go_loopg [10] k2 (fun kq v10 w' => ∃ (x10_3 : Int) (x271002_3 : List Nat) (u271002 : Value),v10 = .int .i64 x10_3 ∧ Aside0 (humusref04_Decode.l1 kq l0 t260 x10_3 ((rd_T86 t260 1).f2) (((rd_T86 t260 0).f1) == 1) x271002_3 ((rd_T86 t260 2).f1) ((rd_T86 t260 3).f1) ((rd_T86 t260 4).f1) = some (r1,r2,r3,r4,r5,r6,r7)) ∧ Aside0 (kq ≤ k2) ∧ Aside0 (Kd.R k86 86 w' w.heap.size (fun _ => True) (.slice (some ad265) t260.length co24) t260) ∧ Aside0 (Kd.R Kd.f64 25 w' w.heap.size (fun _ => True) u271002 x271002_3) ∧ Aside0 (w'.heap[gb251]? = some (.cells #[.float .f64 0,.bool false,(.slice none 0 0),.int .i64 0,.int .i64 0,.int .i64 0] 30 (0,0))) ∧ Aside0 (w'.heap[gb270]? = some (.cells #[.float .f64 ((rd_T86 t260 1).f2),.bool (((rd_T86 t260 0).f1) == 1),u271002,.int .i64 ((rd_T86 t260 2).f1),.int .i64 ((rd_T86 t260 3).f1),.int .i64 ((rd_T86 t260 4).f1)] 30 (0,0))) ∧ Aside0 (Below w.heap.size w w'))
              case atStart => exact ⟨(6),(([] : List Nat)),(.slice none 0 0),(by first | rfl | (simp;done) | (simp [*];done)),H',⟨Nat.le_refl _⟩,⟨by (with_reducible repeat (first | apply ra_ | apply rn_ | apply re_));exact Kd.R_mono (rf_ (p:=⟨gb270,5,none⟩) (rf_ (p:=⟨gb270,4,none⟩) (rf_ (p:=⟨gb270,3,none⟩) (rf_ (p:=⟨gb270,2,none⟩) (rf_ (p:=⟨gb270,1,none⟩) (rf_ (p:=⟨gb270,0,none⟩) (Kd.R_types HO264.out BK270.out (by decide)) (fun _ hk => hk.2) (.float .f64 ((rd_T86 t260 1).f2))) (fun _ hk => hk.2) (.bool (((rd_T86 t260 0).f1) == 1))) (fun _ hk => hk.2) (.slice none 0 0)) (fun _ hk => hk.2) (.int .i64 ((rd_T86 t260 2).f1))) (fun _ hk => hk.2) (.int .i64 ((rd_T86 t260 3).f1))) (fun _ hk => hk.2) (.int .i64 ((rd_T86 t260 4).f1))) (fun _ hk => trivial)⟩,⟨by first | exact Kd.R_nil _ _ _ _ _ | exact Kd.N_nil _ _ _ _ _ | exact Kd.V_nil _ _ _ _ _ | exact Kd.Q_nil _ _ _ _ _ | exact Kd.S_nil _ _ _ _ _⟩,⟨by (with_reducible repeat (first | refine kd_ ?_ _ | refine ke_ ?_ | refine ka_ ?_ _));refine blk_far ?_ NB251_270.out _;(with_reducible repeat (first | refine kd_ ?_ _ | refine ke_ ?_ | refine ka_ ?_ _));refine blk_far ?_ NB251_270.out _;(with_reducible repeat (first | refine kd_ ?_ _ | refine ke_ ?_ | refine ka_ ?_ _));refine blk_far ?_ NB251_270.out _;(with_reducible repeat (first | refine kd_ ?_ _ | refine ke_ ?_ | refine ka_ ?_ _));refine blk_far ?_ NB251_270.out _;(with_reducible repeat (first | refine kd_ ?_ _ | refine ke_ ?_ | refine ka_ ?_ _));refine blk_far ?_ NB251_270.out _;(with_reducible repeat (first | refine kd_ ?_ _ | refine ke_ ?_ | refine ka_ ?_ _));refine blk_far ?_ NB251_270.out _;(with_reducible repeat (first | refine kd_ ?_ _ | refine ke_ ?_ | refine ka_ ?_ _));exact BK251.out⟩,⟨by (with_reducible repeat (first | refine kd_ ?_ _ | refine ke_ ?_ | refine ka_ ?_ _));apply blkf_6_0_5;(with_reducible repeat (first | refine kd_ ?_ _ | refine ke_ ?_ | refine ka_ ?_ _));exact BK270.out⟩,⟨by repeat (first | (with_reducible first | exact HB.out | apply ba_ | apply bd_ | apply be_ | refine bs_ ?_ GE251.out | refine bs_ ?_ GE270.out) | exact HB.out)⟩⟩
              case round =>
               clear H';(try clear c1);(try clear c2);(try clear p2);(try clear q2);(try clear hx2);(try clear qi2);(try clear c3);(try clear c4);(try clear c4b0);(try clear c4b1);(try clear c5);(try clear c5b0);(try clear c5b1);(try clear c6);(try clear p6);(try clear c7);(try clear c10);(try clear c10b0);(try clear c10b1);(try clear c11);(try clear c11b0);(try clear c12);(try clear c15);(try clear c15b0);(try clear c15b1);(try clear c16);(try clear c16b0);(try clear c16b1);(try clear c17);(try clear c17b0);(try clear c17b1);(try clear c18);(try clear c18b0);(try clear c18b1);(try clear c19);(try clear c19b0);(try clear c19b1);(try clear c20);(try clear c20b0);(try clear c20b1);(try clear p25);(try clear q25);(try clear hx25);(try clear qi25);(try clear p26);(try clear q26);(try clear hx26);(try clear qi26);(try clear hx252_0);(try clear hx256_0);(try clear hx265_0);(try clear hx265_1);(try clear hx265_2);(try clear hx265_3);(try clear hx266_0);(try clear hx266_1);(try clear hx266_2);(try clear hx266_3);(try clear hx267_0);(try clear hx267_1);(try clear hx267_2);(try clear hx267_3);(try clear hx268_0);(try clear hx268_1);(try clear hx268_2);(try clear hx268_3);(try clear hx269_0);(try clear hx269_1);(try clear hx269_2);(try clear hx269_3);(try clear p2);(try clear p252);(try clear p256);(try clear p265);(try clear p266);(try clear p267);(try clear p268);(try clear p269);(try clear q2);(try clear q252);(try clear q256);(try clear q265);(try clear q266);(try clear q267);(try clear q268);(try clear q269);(try clear z7_0 z7_1 z7_2 z7_3 z7_4 z7_5 y7_0 y7_1 y7_2 y7_3 y7_4 y7_5)
               obtain ⟨x10_3,x271002_3,u271002,rfl,HA,HK3,HO_6,HO_271002,BK251,BK270,HB⟩:=hrel
               cases gk with
               | zero => exact absurd HA.out (by simp [humusref04_Decode.l1])
               | succ k3 =>
                have H:=HA.out;clear HA
                simp only [humusref04_Decode.l1] at H
                by_cases c32 : x10_3 < (t260.length : Int)
                ·rw [if_pos c32] at H
                 have c32b0 : decide (x10_3 < (t260.length : Int)) = true:=dt_ c32;clear c32
                 by_cases c33 : 0 ≤ x10_3
                 ·rw [if_pos c33] at H
                  have c33b0 : decide (0 ≤ x10_3) = true:=dt_ c33;clear c33
                  by_cases c34 : x271002_3.length < 17592186044416
                  ·rw [if_pos c34] at H
                   have LMc34:=A_ c34;clear c34
                   obtain ⟨y272,hy272⟩ : ∃ y_ : List Nat,y_ = (x271002_3 ++ [(rd_T86 t260 x10_3).f2]):=⟨_,rfl⟩
                   replace H : (humusref04_Decode.l1 k3 l0 t260 (wrap64 (x10_3 + 1)) ((rd_T86 t260 1).f2) (((rd_T86 t260 0).f1) == 1) y272 ((rd_T86 t260 2).f1) ((rd_T86 t260 3).f1) ((rd_T86 t260 4).f1)) = some (r1,r2,r3,r4,r5,r6,r7):=by first | (rw [hy272];with_reducible exact H) | (have H2_:=(Option.bind_some _ _).symm.trans H;rw [hy272];with_reducible exact H2_) | (have H2_:=(Option.bind_some _ _).symm.trans H;with_reducible exact H2_) | with_reducible exact H | (rw [hy272];exact H) | exact H
                   have Ny272:=A_ hy272;clear hy272;have H':=A_ H;clear H
                   try go_wp2
                   have n0_:=A_ (re_ HO_6.out);have n1_:=A_ (re_ HO_271002.out);have n2_:=A_ (ke_ BK251.out);have n3_:=A_ (ke_ BK270.out);have n4_:=A_ (be_ HB.out);clear HO_6;clear HO_271002;clear BK251;clear BK270;clear HB;have HO_6:=n0_;have HO_271002:=n1_;have BK251:=n2_;have BK270:=n3_;have HB:=n4_;clear n0_ n1_ n2_ n3_ n4_
                   have p271 : 0 ≤ (x10_3 : Int):=od_ (by first | (with_reducible assumption) | assumption)
                   have q271 : x10_3 < (t260.length : Int):=od_ (by first | (with_reducible assumption) | assumption)
                   obtain ⟨ad271,e271,hx271_0,hx271_1,hx271_2,hx271_3⟩:=at_T86 (Kd.R_reads' HO_6.out).2.2 x10_3 p271 q271
                   obtain rfl : ad265 = ad271:=(by injection e271)
                   replace p271:=eq_true p271;replace q271:=eq_true q271
                   refine start_ (n:=11) (S:=fun w' => w'.cell? ⟨gb270,0,none⟩ = some (.float .f64 ((rd_T86 t260 1).f2)) ∧ w'.cell? ⟨gb270,1,none⟩ = some (.bool (((rd_T86 t260 0).f1) == 1)) ∧ w'.cell? ⟨gb270,2,none⟩ = some (u271002) ∧ w'.cell? ⟨gb270,3,none⟩ = some (.int .i64 ((rd_T86 t260 2).f1)) ∧ w'.cell? ⟨gb270,4,none⟩ = some (.int .i64 ((rd_T86 t260 3).f1)) ∧ w'.cell? ⟨gb270,5,none⟩ = some (.int .i64 ((rd_T86 t260 4).f1)) ∧ w'.cell? (ad265.add ((x10_3).toNat * 4)) = some (.int .i64 ((rd_T86 t260 x10_3).f0)) ∧ w'.cell? ⟨(ad265.add ((x10_3).toNat * 4)).block,(ad265.add ((x10_3).toNat * 4)).off + 1,none⟩ = some (.int .i64 ((rd_T86 t260 x10_3).f1)) ∧ w'.cell? ⟨(ad265.add ((x10_3).toNat * 4)).block,(ad265.add ((x10_3).toNat * 4)).off + 2,none⟩ = some (.float .f64 ((rd_T86 t260 x10_3).f2)) ∧ w'.cell? ⟨(ad265.add ((x10_3).toNat * 4)).block,(ad265.add ((x10_3).toNat * 4)).off + 3,none⟩ = some (.string ((rd_T86 t260 x10_3).f3))) (ds:=[8,10]) #[Z,Z,Z,Z,Z,Z,Z,Z,Z,Z,Z] (by kernel_rfl) rfl rfl ⟨(bc_ BK270.out 0).trans rfl,(bc_ BK270.out 1).trans rfl,(bc_ BK270.out 2).trans rfl,(bc_ BK270.out 3).trans rfl,(bc_ BK270.out 4).trans rfl,(bc_ BK270.out 5).trans rfl,hx271_0,hx271_1,hx271_2,hx271_3⟩ (fun hHeld => ?_);refine with_tabW humusref04_Decode.tab15 humusref04_Decode.bits15 (fun HT_ HW_ => ?_)
                   generalize wr.drew = w35 at HO_6 HO_271002 BK251 BK270 HB hx271_0 hx271_1 hx271_2 hx271_3 hHeld ⊢
                   refine pu_ (i:=0) (N:=some 72) (v:=?_) (a':=?_) #[Y,Z,Z,Z,Z,Z,Z,Z,Z,Z,Z] rfl rfl HT_.out (by kernel_rfl) (fun _ _ _ h => h) (by rfl) ?_ ?_ ?_;rotate_left;(intro w';go_simp;with_reducible rfl);rotate_left;(simp only [Act.put,q1_,q2_,q3_,i64_w,i32_w];rfl)
                   refine pu_ (i:=2) (N:=some 74) (v:=?_) (a':=?_) #[Y,Z,Y,Z,Z,Z,Z,Z,Z,Z,Z] rfl rfl HT_.out (by kernel_rfl) (fun _ _ _ h => h) (by rfl) ?_ ?_ ?_;rotate_left;(intro w';go_simp;with_reducible rfl);rotate_left;(simp only [Act.put,q1_,q2_,q3_,i64_w,i32_w];rfl)
                   refine pu_ (i:=3) (N:=some 75) (v:=?_) (a':=?_) #[Y,Z,Y,Y,Z,Z,Z,Z,Z,Z,Z] rfl rfl HT_.out (by kernel_rfl) (fun _ _ _ h => h) (by rfl) ?_ ?_ ?_;rotate_left;(intro w';go_simp;with_reducible rfl);rotate_left;(simp only [Act.put,q1_,q2_,q3_,i64_w,i32_w];rfl)
                   refine pu_ (i:=4) (N:=some 76) (v:=?_) (a':=?_) #[Y,Z,Y,Y,Y,Z,Z,Z,Z,Z,Z] rfl rfl HT_.out (by kernel_rfl) (fun _ _ _ h => h) (by rfl) ?_ ?_ ?_;rotate_left;(intro w';go_simp;with_reducible rfl);rotate_left;(simp only [Act.put,q1_,q2_,q3_,i64_w,i32_w];rfl)
                   refine pu_ (i:=5) (N:=some 77) (v:=?_) (a':=?_) #[Y,Z,Y,Y,Y,Y,Z,Z,Z,Z,Z] rfl rfl HT_.out (by kernel_rfl) (fun _ _ _ h => h) (by rfl) ?_ ?_ ?_;rotate_left;(intro w';go_simp;with_reducible rfl);rotate_left;(simp only [Act.put,q1_,q2_,q3_,i64_w,i32_w];rfl)
                   refine ta_ (i:=1) (N:=some 73) (v:=?_) (a':=?_) #[Y,Y,Y,Y,Y,Y,Z,Z,Z,Z,Z] rfl rfl HT_.out HW_.out (by kernel_rfl) (fun _ _ _ h => h) (by rfl) ?_ hHeld ?_ ?_;rotate_left;(rintro w' ⟨s0,s1,s2,s3,s4,s5,s6,s7,s8,s9⟩;go_simp;with_reducible rfl);rotate_left;(simp only [Act.put,q1_,q2_,q3_,i64_w,i32_w];rfl)
                   refine ta_ (i:=6) (N:=some 78) (v:=?_) (a':=?_) #[Y,Y,Y,Y,Y,Y,Y,Z,Z,Z,Z] rfl rfl HT_.out HW_.out (by kernel_rfl) (fun _ _ _ h => h) (by rfl) ?_ hHeld ?_ ?_;rotate_left;(rintro w' ⟨s0,s1,s2,s3,s4,s5,s6,s7,s8,s9⟩;go_simp;with_reducible rfl);rotate_left;(simp only [Act.put,q1_,q2_,q3_,i64_w,i32_w];rfl)
                   refine one_ (i:=7) (N:=some 79) #[Y,Y,Y,Y,Y,Y,Y,Y,Z,Z,Z] rfl rfl (one_of HT_.out (by kernel_rfl)) (by decide) (fun K hK => ?_)
                   refine value_ (w1:=?_) (v:=?_) (by rfl) rfl ?_ ?_
                   rotate_left 2
                   ·go_simp
                    constructor
                    ·rfl
                    ·rfl
                   refine hK.out _ _ ⟨(bc_ (ka_ BK270.out _) 0).trans rfl,(bc_ (ka_ BK270.out _) 1).trans rfl,(bc_ (ka_ BK270.out _) 2).trans rfl,(bc_ (ka_ BK270.out _) 3).trans rfl,(bc_ (ka_ BK270.out _) 4).trans rfl,(bc_ (ka_ BK270.out _) 5).trans rfl,(World.cell?_alloc_lt _ _ _ (wb_ _ _ (hHeld.2.2.2.2.2.2.1))).trans (hHeld.2.2.2.2.2.2.1),(World.cell?_alloc_lt _ _ _ (wb_ _ _ (hHeld.2.2.2.2.2.2.2.1))).trans (hHeld.2.2.2.2.2.2.2.1),(World.cell?_alloc_lt _ _ _ (wb_ _ _ (hHeld.2.2.2.2.2.2.2.2.1))).trans (hHeld.2.2.2.2.2.2.2.2.1),(World.cell?_alloc_lt _ _ _ (wb_ _ _ (hHeld.2.2.2.2.2.2.2.2.2))).trans (hHeld.2.2.2.2.2.2.2.2.2)⟩ (fun hHeld => ?_)
                   clear hK K
                   refine norm_ (a':=?_) ?_ ?_;rotate_left;(show Act.put _ (some 79) _ = _;simp only [Act.put,q1_,q2_,q3_,i64_w,i32_w];rfl)
                   refine last_ (i:=8) (N:=some 80) #[Y,Y,Y,Y,Y,Y,Y,Y,Y,Z,Z] rfl rfl (one_of HT_.out (by kernel_rfl)) (by decide) (fun K hK => ?_)
                   refine Kd.R_append_step Kd.f64 (w0:=w) w.heap.size (by rfl) (.tmp 73) (.tmp 79) 26 25 (.float .f64 0) 8 rfl Try.underlying26 info25 rfl (by decide) (by omega) u271002 x271002_3 ((rd_T86 t260 x10_3).f2) [.float .f64 ((rd_T86 t260 x10_3).f2)] (fun _ => True) (fun _ => False) rfl rfl ?aP (fun _ hk => hk.elim) ?aF ?aO ?aB ?aS ?aL ?_
                   (case aP => exact rfl)
                   (case aB => exact (by repeat (first | (with_reducible first | exact HB.out | apply ba_ | apply bd_ | apply be_ | refine bs_ ?_ GE251.out | refine bs_ ?_ GE270.out) | exact HB.out)))
                   (case aF => exact (fun _ _ => trivial))
                   (case aO => exact (by (with_reducible repeat (first | apply ra_ | apply rn_ | apply re_));exact HO_271002.out))
                   (case aS => exact (bz_ (by repeat (first | (with_reducible first | exact HB.out | apply ba_ | apply bd_ | apply be_ | refine bs_ ?_ GE251.out | refine bs_ ?_ GE270.out) | exact HB.out))))
                   (case aL => have:=LMc34.out;omega)
                   intro v273 w36 ho hb hg hat;rw [← Ny272.out] at ho
                   have n0_:=A_ (Kd.R_over' (by (with_reducible repeat (first | apply ra_ | apply rn_ | apply re_));exact HO_6.out) (Kd.R_typed (by (with_reducible repeat (first | apply ra_ | apply rn_ | apply re_));exact HO_271002.out)) (by decide) hg)
                   have n1_:=A_ (blk_grown (g:=gb251) (o:=.cells #[.float .f64 0,.bool false,.slice none 0 0,.int .i64 0,.int .i64 0,.int .i64 0] 30 (0,0)) (by (with_reducible repeat (first | refine kd_ ?_ _ | refine ke_ ?_ | refine ka_ ?_ _));exact BK251.out) hg (Kd.R_ne HO_271002.out BK251.out (by decide)))
                   have n2_:=A_ (blk_grown (g:=gb270) (o:=.cells #[.float .f64 ((rd_T86 t260 1).f2),.bool (((rd_T86 t260 0).f1) == 1),u271002,.int .i64 ((rd_T86 t260 2).f1),.int .i64 ((rd_T86 t260 3).f1),.int .i64 ((rd_T86 t260 4).f1)] 30 (0,0)) (by (with_reducible repeat (first | refine kd_ ?_ _ | refine ke_ ?_ | refine ka_ ?_ _));exact BK270.out) hg (Kd.R_ne HO_271002.out BK270.out (by decide)))
                   have n3_:=A_ (hb);have n4_:=A_ (ho);clear HO_6;clear BK251;clear BK270;clear HB;clear HO_271002;have HO_6:=n0_;have BK251:=n1_;have BK270:=n2_;have HB:=n3_;have HO274:=n4_;clear n0_ n1_ n2_ n3_ n4_;clear ho hb hg hat;obtain ⟨Ao37,co37,eo37⟩:=Kd.R_slice HO274.out
                   (first | subst eo37 | (injection eo37 with f1_ f2_ f3_;have f4_:=f1_.symm;have f5_:=f3_.symm;clear f1_ f2_ f3_;subst f4_;subst f5_))
                   refine hK.out _ _ ?_;clear hK K
                   refine norm_ (a':=?_) ?_ ?_;rotate_left;(show Act.put _ (some 80) _ = _;simp only [Act.put,q1_,q2_,q3_,i64_w,i32_w];rfl)
                   refine pu_ (i:=9) (N:=some 81) (v:=?_) (a':=?_) #[Y,Y,Y,Y,Y,Y,Y,Y,Y,Y,Z] rfl rfl HT_.out (by kernel_rfl) (fun _ _ _ h => h) (by rfl) ?_ ?_ ?_;rotate_left;(intro w';go_simp;with_reducible rfl);rotate_left;(simp only [Act.put,q1_,q2_,q3_,i64_w,i32_w];rfl)
                   refine last_ (i:=10) (N:=none) #[Y,Y,Y,Y,Y,Y,Y,Y,Y,Y,Y] rfl rfl (one_of HT_.out (by kernel_rfl)) (by decide) (fun K hK => ?_)
                   have hs38 : w36.cell? ⟨gb270,2,none⟩ = some (u271002):=(bc_ BK270.out 2).trans rfl;have hfs38:=bf_ BK270.out 2;have hns38_0:=NB251_270.out;have hms38_0:=NB270_251.out
                   refine skip_ (w1:=?_) (by rfl) rfl ?_ ?_
                   rotate_left
                   ·go_simp
                    rfl
                   refine hK.out _ _ ?_;clear hK K;refine done_ (done_of HT_.out (by kernel_rfl)) ?_
                   try go_wp2
                   go_roundg k3
                   case measure => have:=HJ1.out;have:=HK2.out;have:=HK3.out;omega
                   case rel => exact ⟨(wrap64 (x10_3 + 1)),(y272),(.slice Ao37 y272.length co37),(by first | rfl | (simp;done) | (simp [*];done)),H',⟨by have:=HJ1.out;have:=HK2.out;have:=HK3.out;omega⟩,⟨by (with_reducible repeat (first | apply ra_ | apply rn_ | apply re_));exact Kd.R_mono (rf_ (p:=⟨gb270,2,none⟩) (Kd.R_types HO_6.out BK270.out (by decide)) (fun _ hk => hk.2) (.slice Ao37 y272.length co37)) (fun _ hk => trivial)⟩,⟨by (with_reducible repeat (first | apply ra_ | apply rn_ | apply re_));exact Kd.R_mono (rf_ (p:=⟨gb270,2,none⟩) (Kd.R_types HO274.out BK270.out (by decide)) (fun _ hk => hk.2) (.slice Ao37 y272.length co37)) (fun _ hk => trivial)⟩,⟨by (with_reducible repeat (first | refine kd_ ?_ _ | refine ke_ ?_ | refine ka_ ?_ _));refine blk_far ?_ NB251_270.out _;(with_reducible repeat (first | refine kd_ ?_ _ | refine ke_ ?_ | refine ka_ ?_ _));exact BK251.out⟩,⟨by (with_reducible repeat (first | refine kd_ ?_ _ | refine ke_ ?_ | refine ka_ ?_ _));refine blk_put (cs:=#[.float .f64 ((rd_T86 t260 1).f2),.bool (((rd_T86 t260 0).f1) == 1),u271002,.int .i64 ((rd_T86 t260 2).f1),.int .i64 ((rd_T86 t260 3).f1),.int .i64 ((rd_T86 t260 4).f1)]) ?_ 2 _ rfl;(with_reducible repeat (first | refine kd_ ?_ _ | refine ke_ ?_ | refine ka_ ?_ _));exact BK270.out⟩,⟨by repeat (first | (with_reducible first | exact HB.out | apply ba_ | apply bd_ | apply be_ | refine bs_ ?_ GE251.out | refine bs_ ?_ GE270.out) | exact HB.out)⟩⟩
                  ·rw [if_neg c34] at H
                   exact absurd H (by simp)
                 ·rw [if_neg c33] at H
                  exact absurd H (by simp)
                ·rw [if_neg c32] at H
                 have c32b0 : decide (x10_3 < (t260.length : Int)) = false:=df_ c32;clear c32;replace H:=Option.bind_eq_some_iff.mp H;obtain ⟨t275,A390,H⟩:=H
                 replace H : (if t275 = true then ((humusref04_Bytes.f k3 ((rd_T86 t260 1).f2) (((rd_T86 t260 0).f1) == 1) x271002_3 ((rd_T86 t260 2).f1) ((rd_T86 t260 3).f1) ((rd_T86 t260 4).f1)).bind fun t276 => (if (strOfNums t276).toList = (strOfNums l0).toList then (some (((rd_T86 t260 1).f2),(((rd_T86 t260 0).f1) == 1),x271002_3,((rd_T86 t260 2).f1),((rd_T86 t260 3).f1),((rd_T86 t260 4).f1),true)) else (some (0,false,([] : List Nat),0,0,0,false)))) else (some (0,false,([] : List Nat),0,0,0,false))) = some (r1,r2,r3,r4,r5,r6,r7):=H
                 have A39:=A_ A390;clear A390
                 by_cases c40 : t275 = true
                 ·subst c40
                  have H1 : ((humusref04_Bytes.f k3 ((rd_T86 t260 1).f2) (((rd_T86 t260 0).f1) == 1) x271002_3 ((rd_T86 t260 2).f1) ((rd_T86 t260 3).f1) ((rd_T86 t260 4).f1)).bind fun t276 => (if (strOfNums t276).toList = (strOfNums l0).toList then (some (((rd_T86 t260 1).f2),(((rd_T86 t260 0).f1) == 1),x271002_3,((rd_T86 t260 2).f1),((rd_T86 t260 3).f1),((rd_T86 t260 4).f1),true)) else (some (0,false,([] : List Nat),0,0,0,false)))) = some (r1,r2,r3,r4,r5,r6,r7):=by rw [if_pos rfl] at H;exact H
                  clear H;have H:=H1;clear H1;replace H:=Option.bind_eq_some_iff.mp H;obtain ⟨t276,A410,H⟩:=H
                  replace H : (if (strOfNums t276).toList = (strOfNums l0).toList then (some (((rd_T86 t260 1).f2),(((rd_T86 t260 0).f1) == 1),x271002_3,((rd_T86 t260 2).f1),((rd_T86 t260 3).f1),((rd_T86 t260 4).f1),true)) else (some (0,false,([] : List Nat),0,0,0,false))) = some (r1,r2,r3,r4,r5,r6,r7):=H
                  have A41:=A_ A410;clear A410
                  by_cases c42 : (strOfNums t276).toList = (strOfNums l0).toList
                  ·rw [if_pos c42] at H
                   have c42b0 : ((strOfNums t276).toList == (strOfNums l0).toList) = true:=beq_iff_eq.mpr c42;have c42b1 : ((strOfNums t276).toList != (strOfNums l0).toList) = false:=bne_eq_false_iff_eq.mpr c42;clear c42
                   simp only [Option.some.injEq,Prod.mk.injEq] at H
                   obtain ⟨rfl,rfl,rfl,rfl,rfl,rfl,rfl⟩:=H
                   try go_wp2
                   have n0_:=A_ (re_ HO_6.out);have n1_:=A_ (re_ HO_271002.out);have n2_:=A_ (ke_ BK251.out);have n3_:=A_ (ke_ BK270.out);have n4_:=A_ (be_ HB.out);clear HO_6;clear HO_271002;clear BK251;clear BK270;clear HB;have HO_6:=n0_;have HO_271002:=n1_;have BK251:=n2_;have BK270:=n3_;have HB:=n4_;clear n0_ n1_ n2_ n3_ n4_;obtain ⟨Ao44,co44,eo44⟩:=Kd.R_slice HO_271002.out
                   (first | subst eo44 | (injection eo44 with f1_ f2_ f3_;have f4_:=f1_.symm;have f5_:=f3_.symm;clear f1_ f2_ f3_;subst f4_;subst f5_))
                   refine start_ (n:=11) (S:=fun w' => w'.cell? ⟨gb270,0,none⟩ = some (.float .f64 ((rd_T86 t260 1).f2)) ∧ w'.cell? ⟨gb270,1,none⟩ = some (.bool (((rd_T86 t260 0).f1) == 1)) ∧ w'.cell? ⟨gb270,2,none⟩ = some (.slice Ao44 x271002_3.length co44) ∧ w'.cell? ⟨gb270,3,none⟩ = some (.int .i64 ((rd_T86 t260 2).f1)) ∧ w'.cell? ⟨gb270,4,none⟩ = some (.int .i64 ((rd_T86 t260 3).f1)) ∧ w'.cell? ⟨gb270,5,none⟩ = some (.int .i64 ((rd_T86 t260 4).f1)) ∧ (convert 23 9 (.slice (some ad256) l0.length c0)).run Try.prog w' = .ok (.string (strOfNums l0)) w') (ds:=[]) #[Z,Z,Z,Z,Z,Z,Z,Z,Z,Z,Z] (by kernel_rfl) rfl rfl ⟨(bc_ BK270.out 0).trans rfl,(bc_ BK270.out 1).trans rfl,(bc_ BK270.out 2).trans rfl,(bc_ BK270.out 3).trans rfl,(bc_ BK270.out 4).trans rfl,(bc_ BK270.out 5).trans rfl,Kd.C_string (P:=Try.prog) (A:=(some ad256)) (c:=c0) Try.underlying23 Try.underlying5 Try.underlying9 (Kd.C_below HR0.out HB.out)⟩ (fun hHeld => ?_);refine with_tabW humusref04_Decode.tab16 humusref04_Decode.bits16 (fun HT_ HW_ => ?_)
                   generalize wr.drew = w43 at HO_6 HO_271002 BK251 BK270 HB hHeld ⊢
                   refine ta_ (i:=0) (N:=some 82) (v:=?_) (a':=?_) #[Y,Z,Z,Z,Z,Z,Z,Z,Z,Z,Z] rfl rfl HT_.out HW_.out (by kernel_rfl) (fun _ _ _ h => h) (by rfl) ?_ hHeld ?_ ?_;rotate_left;(rintro w' ⟨s0,s1,s2,s3,s4,s5,s6⟩;go_simp;with_reducible rfl);rotate_left;(simp only [Act.put,q1_,q2_,q3_,i64_w,i32_w];rfl)
                   refine one_ (i:=1) (N:=some 83) #[Y,Y,Z,Z,Z,Z,Z,Z,Z,Z,Z] rfl rfl (one_of HT_.out (by kernel_rfl)) (by decide) (fun K hK => ?_)
                   refine goes_ Try.func34 (by kernel_rfl) rfl #[.agg #[.float .f64 ((rd_T86 t260 1).f2),.bool (((rd_T86 t260 0).f1) == 1),.slice Ao44 x271002_3.length co44,.int .i64 ((rd_T86 t260 2).f1),.int .i64 ((rd_T86 t260 3).f1),.int .i64 ((rd_T86 t260 4).f1)]] (by rfl) rfl rfl (by (try simp only [List.map_toArray,List.map_cons,List.map_nil]);first | done | rfl | (simp only [List.length_drop,List.length_take];rfl)) ?_
                   with_reducible refine (humusref04_May.calls k3 ((rd_T86 t260 1).f2) (((rd_T86 t260 0).f1) == 1) _ _ x271002_3 ((rd_T86 t260 2).f1) ((rd_T86 t260 3).f1) ((rd_T86 t260 4).f1) true _ ?side1 ?side2 A39.out).mono ?_
                   (case side1 => repeat (first | exact (Kd.R_reads' HO_271002.out).2.2 | (with_reducible refine Kd.C_alloc ?_ _) | (with_reducible refine Kd.C_drewN ?_ _) | (with_reducible refine Kd.C_drew ?_)))
                   (case side2 => exact (Kd.R_reads' HO_271002.out).2.1)
                   rintro e w45 ⟨rfl,hb⟩;refine ⟨_,rfl,?_⟩
                   have n0_:=A_ (Kd.R_below (by (with_reducible repeat (first | apply ra_ | apply rn_ | apply re_));exact HO_6.out) hb)
                   have n1_:=A_ (Kd.R_below (by (with_reducible repeat (first | apply ra_ | apply rn_ | apply re_));exact HO_271002.out) hb)
                   have n2_:=A_ (bx_ BK251.out (by intro h_;(with_reducible repeat (first | refine kd_ ?_ _ | refine ke_ ?_ | refine ka_ ?_ _));exact h_) hb)
                   have n3_:=A_ (bx_ BK270.out (by intro h_;(with_reducible repeat (first | refine kd_ ?_ _ | refine ke_ ?_ | refine ka_ ?_ _));exact h_) hb)
                   have n4_:=A_ (bp_ (by repeat (first | (with_reducible first | exact HB.out | apply ba_ | apply bd_ | apply be_ | refine bs_ ?_ GE251.out | refine bs_ ?_ GE270.out) | exact HB.out)) hb)
                   clear HO_6;clear HO_271002;clear BK251;clear BK270;clear HB;have HO_6:=n0_;have HO_271002:=n1_;have BK251:=n2_;have BK270:=n3_;have HB:=n4_;clear n0_ n1_ n2_ n3_ n4_;(try clear hb);(try clear hb2);(try clear hk);(try clear hi)
                   refine hK.out _ _ ⟨(bc_ BK270.out 0).trans rfl,(bc_ BK270.out 1).trans rfl,(bc_ BK270.out 2).trans rfl,(bc_ BK270.out 3).trans rfl,(bc_ BK270.out 4).trans rfl,(bc_ BK270.out 5).trans rfl,Kd.C_string (P:=Try.prog) (A:=(some ad256)) (c:=c0) Try.underlying23 Try.underlying5 Try.underlying9 (Kd.C_below HR0.out HB.out)⟩ (fun hHeld => ?_)
                   clear hK K
                   refine norm_ (a':=?_) ?_ ?_;rotate_left;(show Act.put _ (some 83) _ = _;simp only [Act.put,q1_,q2_,q3_,i64_w,i32_w];rfl)
                   refine pu_ (i:=2) (N:=some 84) (v:=?_) (a':=?_) #[Y,Y,Y,Z,Z,Z,Z,Z,Z,Z,Z] rfl rfl HT_.out (by kernel_rfl) (fun _ _ _ h => h) (by rfl) ?_ ?_ ?_;rotate_left;(intro w';go_simp;with_reducible rfl);rotate_left;(simp only [Act.put,q1_,q2_,q3_,i64_w,i32_w];rfl)
                   refine pu_ (i:=3) (N:=some 85) (v:=?_) (a':=?_) #[Y,Y,Y,Y,Z,Z,Z,Z,Z,Z,Z] rfl rfl HT_.out (by kernel_rfl) (fun _ _ _ h => h) (by rfl) ?_ ?_ ?_;rotate_left;(intro w';go_simp;with_reducible rfl);rotate_left;(simp only [Act.put,q1_,q2_,q3_,i64_w,i32_w];rfl)
                   refine pu_ (i:=7) (N:=some 89) (v:=?_) (a':=?_) #[Y,Y,Y,Y,Z,Z,Z,Y,Z,Z,Z] rfl rfl HT_.out (by kernel_rfl) (fun _ _ _ h => h) (by rfl) ?_ ?_ ?_;rotate_left;(intro w';go_simp;with_reducible rfl);rotate_left;(simp only [Act.put,q1_,q2_,q3_,i64_w,i32_w];rfl)
                   refine ta_ (i:=4) (N:=some 86) (v:=?_) (a':=?_) #[Y,Y,Y,Y,Y,Z,Z,Y,Z,Z,Z] rfl rfl HT_.out HW_.out (by kernel_rfl) (fun _ _ _ h => h) (by rfl) ?_ hHeld ?_ ?_;rotate_left;(rintro w' ⟨s0,s1,s2,s3,s4,s5,s6⟩;go_simp;with_reducible rfl);rotate_left;(simp only [Act.put,q1_,q2_,q3_,i64_w,i32_w];rfl)
                   refine ta_ (i:=8) (N:=some 90) (v:=?_) (a':=?_) #[Y,Y,Y,Y,Y,Z,Z,Y,Y,Z,Z] rfl rfl HT_.out HW_.out (by kernel_rfl) (fun _ _ _ h => h) (by rfl) ?_ hHeld ?_ ?_;rotate_left;(rintro w' ⟨s0,s1,s2,s3,s4,s5,s6⟩;go_simp;with_reducible rfl);rotate_left;(simp only [Act.put,q1_,q2_,q3_,i64_w,i32_w];rfl)
                   refine one_ (i:=5) (N:=some 87) #[Y,Y,Y,Y,Y,Y,Z,Y,Y,Z,Z] rfl rfl (one_of HT_.out (by kernel_rfl)) (by decide) (fun K hK => ?_)
                   refine goes_ Try.func36 (by kernel_rfl) rfl #[.agg #[.float .f64 ((rd_T86 t260 1).f2),.bool (((rd_T86 t260 0).f1) == 1),.slice Ao44 x271002_3.length co44,.int .i64 ((rd_T86 t260 2).f1),.int .i64 ((rd_T86 t260 3).f1),.int .i64 ((rd_T86 t260 4).f1)]] (by rfl) rfl rfl (by (try simp only [List.map_toArray,List.map_cons,List.map_nil]);first | done | rfl | (simp only [List.length_drop,List.length_take];rfl)) ?_
                   with_reducible refine (humusref04_Bytes.calls k3 ((rd_T86 t260 1).f2) (((rd_T86 t260 0).f1) == 1) _ _ x271002_3 ((rd_T86 t260 2).f1) ((rd_T86 t260 3).f1) ((rd_T86 t260 4).f1) t276 _ ?side1 ?side2 A41.out).mono ?_
                   (case side1 => repeat (first | exact (Kd.R_reads' HO_271002.out).2.2 | (with_reducible refine Kd.C_alloc ?_ _) | (with_reducible refine Kd.C_drewN ?_ _) | (with_reducible refine Kd.C_drew ?_)))
                   (case side2 => exact (Kd.R_reads' HO_271002.out).2.1)
                   rintro e w46 ⟨v277,rfl,ho0,hb⟩;refine ⟨_,rfl,?_⟩
                   have n0_:=A_ (Kd.R_below (by (with_reducible repeat (first | apply ra_ | apply rn_ | apply re_));exact HO_6.out) hb)
                   have n1_:=A_ (Kd.R_below (by (with_reducible repeat (first | apply ra_ | apply rn_ | apply re_));exact HO_271002.out) hb)
                   have n2_:=A_ (Kd.R_lower ho0 (bz_ (by repeat (first | (with_reducible first | exact HB.out | apply ba_ | apply bd_ | apply be_ | refine bs_ ?_ GE251.out | refine bs_ ?_ GE270.out) | exact HB.out))))
                   have n3_:=A_ (bx_ BK251.out (by intro h_;(with_reducible repeat (first | refine kd_ ?_ _ | refine ke_ ?_ | refine ka_ ?_ _));exact h_) hb)
                   have n4_:=A_ (bx_ BK270.out (by intro h_;(with_reducible repeat (first | refine kd_ ?_ _ | refine ke_ ?_ | refine ka_ ?_ _));exact h_) hb)
                   have n5_:=A_ (bp_ (by repeat (first | (with_reducible first | exact HB.out | apply ba_ | apply bd_ | apply be_ | refine bs_ ?_ GE251.out | refine bs_ ?_ GE270.out) | exact HB.out)) hb)
                   clear HO_6;clear HO_271002;clear BK251;clear BK270;clear HB;have HO_6:=n0_;have HO_271002:=n1_;have HO278:=n2_;have BK251:=n3_;have BK270:=n4_;have HB:=n5_;clear n0_ n1_ n2_ n3_ n4_ n5_;(try clear hb);(try clear hb2);(try clear hk);(try clear hi);(try clear ho0)
                   refine hK.out _ _ ⟨(bc_ BK270.out 0).trans rfl,(bc_ BK270.out 1).trans rfl,(bc_ BK270.out 2).trans rfl,(bc_ BK270.out 3).trans rfl,(bc_ BK270.out 4).trans rfl,(bc_ BK270.out 5).trans rfl,Kd.C_string (P:=Try.prog) (A:=(some ad256)) (c:=c0) Try.underlying23 Try.underlying5 Try.underlying9 (Kd.C_below HR0.out HB.out)⟩ (fun hHeld => ?_)
                   clear hK K
                   refine norm_ (a':=?_) ?_ ?_;rotate_left;(show Act.put _ (some 87) _ = _;simp only [Act.put,q1_,q2_,q3_,i64_w,i32_w];rfl)
                   refine one_ (i:=6) (N:=some 88) #[Y,Y,Y,Y,Y,Y,Y,Y,Y,Z,Z] rfl rfl (one_of HT_.out (by kernel_rfl)) (by decide) (fun K hK => ?_)
                   have hcv47:=own_string (P:=Try.prog) Try.underlying23 Try.underlying5 Try.underlying9 (Kd.own_of_R HO278.out)
                   refine value_ (w1:=?_) (v:=?_) (by rfl) rfl ?_ ?_
                   rotate_left 2
                   ·go_simp
                    constructor
                    ·rfl
                    ·rfl
                   clear hcv47
                   refine hK.out _ _ ⟨(bc_ BK270.out 0).trans rfl,(bc_ BK270.out 1).trans rfl,(bc_ BK270.out 2).trans rfl,(bc_ BK270.out 3).trans rfl,(bc_ BK270.out 4).trans rfl,(bc_ BK270.out 5).trans rfl,Kd.C_string (P:=Try.prog) (A:=(some ad256)) (c:=c0) Try.underlying23 Try.underlying5 Try.underlying9 (Kd.C_below HR0.out HB.out)⟩ (fun hHeld => ?_)
                   clear hK K
                   refine norm_ (a':=?_) ?_ ?_;rotate_left;(show Act.put _ (some 88) _ = _;simp only [Act.put,q1_,q2_,q3_,i64_w,i32_w];rfl)
                   refine pu_ (i:=9) (N:=some 91) (v:=?_) (a':=?_) #[Y,Y,Y,Y,Y,Y,Y,Y,Y,Y,Z] rfl rfl HT_.out (by kernel_rfl) (fun _ _ _ h => h) (by rfl) ?_ ?_ ?_;rotate_left;(intro w';go_simp;with_reducible rfl);rotate_left;(simp only [Act.put,q1_,q2_,q3_,i64_w,i32_w];rfl)
                   refine pu_ (i:=10) (N:=some 92) (v:=?_) (a':=?_) #[Y,Y,Y,Y,Y,Y,Y,Y,Y,Y,Y] rfl rfl HT_.out (by kernel_rfl) (fun _ _ _ h => h) (by rfl) ?_ ?_ ?_;rotate_left;(intro w';go_simp;with_reducible rfl);rotate_left;(simp only [Act.put,q1_,q2_,q3_,i64_w,i32_w];rfl)
                   refine done_ (done_of HT_.out (by kernel_rfl)) ?_;have hnb48:=NB270_251.out;have hnc48:=NB251_270.out;obtain ⟨z49_0,z49_1,z49_2,z49_3,z49_4,z49_5⟩:=blkc_6 BK270.out;obtain ⟨y49_0,y49_1,y49_2,y49_3,y49_4,y49_5⟩:=blkz_6 BK270.out;obtain ⟨z50_0,z50_1,z50_2,z50_3,z50_4,z50_5⟩:=blkc_6 BK251.out;obtain ⟨y50_0,y50_1,y50_2,y50_3,y50_4,y50_5⟩:=blkz_6 BK251.out
                   try go_wp2
                   refine bodyPost_ret (results_ct rfl _ _ gb251 30 #[.float .f64 ((rd_T86 t260 1).f2),.bool (((rd_T86 t260 0).f1) == 1),.slice Ao44 x271002_3.length co44,.int .i64 ((rd_T86 t260 2).f1),.int .i64 ((rd_T86 t260 3).f1),.int .i64 ((rd_T86 t260 4).f1)] (0,0) _ rfl (by (with_reducible repeat (first | refine kd_ ?_ _ | refine ke_ ?_ | refine ka_ ?_ _));apply blkf_6_0_5;(with_reducible repeat (first | refine kd_ ?_ _ | refine ke_ ?_ | refine ka_ ?_ _));exact BK251.out) Try.underlying30 rfl (by kernel_rfl)) rfl ?_
                   exact ⟨_,by first | rfl | (simp [errW_none,errW_some] <;> rfl) | (simp [*,errW_none,errW_some] <;> rfl),by (with_reducible repeat (first | apply ra_ | apply rn_ | apply re_));exact Kd.R_mono (rf_ (p:=⟨gb251,5,none⟩) (rf_ (p:=⟨gb251,4,none⟩) (rf_ (p:=⟨gb251,3,none⟩) (rf_ (p:=⟨gb251,2,none⟩) (rf_ (p:=⟨gb251,1,none⟩) (rf_ (p:=⟨gb251,0,none⟩) (Kd.R_types HO_271002.out BK251.out (by decide)) (fun _ hk => hk.2) (.float .f64 ((rd_T86 t260 1).f2))) (fun _ hk => hk.2) (.bool (((rd_T86 t260 0).f1) == 1))) (fun _ hk => hk.2) (.slice Ao44 x271002_3.length co44)) (fun _ hk => hk.2) (.int .i64 ((rd_T86 t260 2).f1))) (fun _ hk => hk.2) (.int .i64 ((rd_T86 t260 3).f1))) (fun _ hk => hk.2) (.int .i64 ((rd_T86 t260 4).f1))) (fun _ hk => trivial),by repeat (first | (with_reducible first | exact HB.out | apply ba_ | apply bd_ | apply be_ | refine bs_ ?_ GE251.out | refine bs_ ?_ GE270.out) | exact HB.out)⟩
                  ·rw [if_neg c42] at H
                   have c42b0 : ((strOfNums t276).toList == (strOfNums l0).toList) = false:=beq_eq_false_iff_ne.mpr c42;have c42b1 : ((strOfNums t276).toList != (strOfNums l0).toList) = true:=bne_iff_ne.mpr c42
                   simp only [Option.some.injEq,Prod.mk.injEq] at H
                   obtain ⟨rfl,rfl,rfl,rfl,rfl,rfl,rfl⟩:=H
                   try go_wp2
                   have n0_:=A_ (re_ HO_6.out);have n1_:=A_ (re_ HO_271002.out);have n2_:=A_ (ke_ BK251.out);have n3_:=A_ (ke_ BK270.out);have n4_:=A_ (be_ HB.out);clear HO_6;clear HO_271002;clear BK251;clear BK270;clear HB;have HO_6:=n0_;have HO_271002:=n1_;have BK251:=n2_;have BK270:=n3_;have HB:=n4_;clear n0_ n1_ n2_ n3_ n4_;obtain ⟨Ao52,co52,eo52⟩:=Kd.R_slice HO_271002.out
                   (first | subst eo52 | (injection eo52 with f1_ f2_ f3_;have f4_:=f1_.symm;have f5_:=f3_.symm;clear f1_ f2_ f3_;subst f4_;subst f5_))
                   refine start_ (n:=11) (S:=fun w' => w'.cell? ⟨gb270,0,none⟩ = some (.float .f64 ((rd_T86 t260 1).f2)) ∧ w'.cell? ⟨gb270,1,none⟩ = some (.bool (((rd_T86 t260 0).f1) == 1)) ∧ w'.cell? ⟨gb270,2,none⟩ = some (.slice Ao52 x271002_3.length co52) ∧ w'.cell? ⟨gb270,3,none⟩ = some (.int .i64 ((rd_T86 t260 2).f1)) ∧ w'.cell? ⟨gb270,4,none⟩ = some (.int .i64 ((rd_T86 t260 3).f1)) ∧ w'.cell? ⟨gb270,5,none⟩ = some (.int .i64 ((rd_T86 t260 4).f1)) ∧ (convert 23 9 (.slice (some ad256) l0.length c0)).run Try.prog w' = .ok (.string (strOfNums l0)) w') (ds:=[]) #[Z,Z,Z,Z,Z,Z,Z,Z,Z,Z,Z] (by kernel_rfl) rfl rfl ⟨(bc_ BK270.out 0).trans rfl,(bc_ BK270.out 1).trans rfl,(bc_ BK270.out 2).trans rfl,(bc_ BK270.out 3).trans rfl,(bc_ BK270.out 4).trans rfl,(bc_ BK270.out 5).trans rfl,Kd.C_string (P:=Try.prog) (A:=(some ad256)) (c:=c0) Try.underlying23 Try.underlying5 Try.underlying9 (Kd.C_below HR0.out HB.out)⟩ (fun hHeld => ?_);refine with_tabW humusref04_Decode.tab16 humusref04_Decode.bits16 (fun HT_ HW_ => ?_)
                   generalize wr.drew = w51 at HO_6 HO_271002 BK251 BK270 HB hHeld ⊢
                   refine ta_ (i:=0) (N:=some 82) (v:=?_) (a':=?_) #[Y,Z,Z,Z,Z,Z,Z,Z,Z,Z,Z] rfl rfl HT_.out HW_.out (by kernel_rfl) (fun _ _ _ h => h) (by rfl) ?_ hHeld ?_ ?_;rotate_left;(rintro w' ⟨s0,s1,s2,s3,s4,s5,s6⟩;go_simp;with_reducible rfl);rotate_left;(simp only [Act.put,q1_,q2_,q3_,i64_w,i32_w];rfl)
                   refine one_ (i:=1) (N:=some 83) #[Y,Y,Z,Z,Z,Z,Z,Z,Z,Z,Z] rfl rfl (one_of HT_.out (by kernel_rfl)) (by decide) (fun K hK => ?_)
                   refine goes_ Try.func34 (by kernel_rfl) rfl #[.agg #[.float .f64 ((rd_T86 t260 1).f2),.bool (((rd_T86 t260 0).f1) == 1),.slice Ao52 x271002_3.length co52,.int .i64 ((rd_T86 t260 2).f1),.int .i64 ((rd_T86 t260 3).f1),.int .i64 ((rd_T86 t260 4).f1)]] (by rfl) rfl rfl (by (try simp only [List.map_toArray,List.map_cons,List.map_nil]);first | done | rfl | (simp only [List.length_drop,List.length_take];rfl)) ?_
                   with_reducible refine (humusref04_May.calls k3 ((rd_T86 t260 1).f2) (((rd_T86 t260 0).f1) == 1) _ _ x271002_3 ((rd_T86 t260 2).f1) ((rd_T86 t260 3).f1) ((rd_T86 t260 4).f1) true _ ?side1 ?side2 A39.out).mono ?_
                   (case side1 => repeat (first | exact (Kd.R_reads' HO_271002.out).2.2 | (with_reducible refine Kd.C_alloc ?_ _) | (with_reducible refine Kd.C_drewN ?_ _) | (with_reducible refine Kd.C_drew ?_)))
                   (case side2 => exact (Kd.R_reads' HO_271002.out).2.1)
                   rintro e w53 ⟨rfl,hb⟩;refine ⟨_,rfl,?_⟩
                   have n0_:=A_ (Kd.R_below (by (with_reducible repeat (first | apply ra_ | apply rn_ | apply re_));exact HO_6.out) hb)
                   have n1_:=A_ (Kd.R_below (by (with_reducible repeat (first | apply ra_ | apply rn_ | apply re_));exact HO_271002.out) hb)
                   have n2_:=A_ (bx_ BK251.out (by intro h_;(with_reducible repeat (first | refine kd_ ?_ _ | refine ke_ ?_ | refine ka_ ?_ _));exact h_) hb)
                   have n3_:=A_ (bx_ BK270.out (by intro h_;(with_reducible repeat (first | refine kd_ ?_ _ | refine ke_ ?_ | refine ka_ ?_ _));exact h_) hb)
                   have n4_:=A_ (bp_ (by repeat (first | (with_reducible first | exact HB.out | apply ba_ | apply bd_ | apply be_ | refine bs_ ?_ GE251.out | refine bs_ ?_ GE270.out) | exact HB.out)) hb)
                   clear HO_6;clear HO_271002;clear BK251;clear BK270;clear HB;have HO_6:=n0_;have HO_271002:=n1_;have BK251:=n2_;have BK270:=n3_;have HB:=n4_;clear n0_ n1_ n2_ n3_ n4_;(try clear hb);(try clear hb2);(try clear hk);(try clear hi)
                   refine hK.out _ _ ⟨(bc_ BK270.out 0).trans rfl,(bc_ BK270.out 1).trans rfl,(bc_ BK270.out 2).trans rfl,(bc_ BK270.out 3).trans rfl,(bc_ BK270.out 4).trans rfl,(bc_ BK270.out 5).trans rfl,Kd.C_string (P:=Try.prog) (A:=(some ad256)) (c:=c0) Try.underlying23 Try.underlying5 Try.underlying9 (Kd.C_below HR0.out HB.out)⟩ (fun hHeld => ?_)
                   clear hK K
                   refine norm_ (a':=?_) ?_ ?_;rotate_left;(show Act.put _ (some 83) _ = _;simp only [Act.put,q1_,q2_,q3_,i64_w,i32_w];rfl)
                   refine pu_ (i:=2) (N:=some 84) (v:=?_) (a':=?_) #[Y,Y,Y,Z,Z,Z,Z,Z,Z,Z,Z] rfl rfl HT_.out (by kernel_rfl) (fun _ _ _ h => h) (by rfl) ?_ ?_ ?_;rotate_left;(intro w';go_simp;with_reducible rfl);rotate_left;(simp only [Act.put,q1_,q2_,q3_,i64_w,i32_w];rfl)
                   refine pu_ (i:=3) (N:=some 85) (v:=?_) (a':=?_) #[Y,Y,Y,Y,Z,Z,Z,Z,Z,Z,Z] rfl rfl HT_.out (by kernel_rfl) (fun _ _ _ h => h) (by rfl) ?_ ?_ ?_;rotate_left;(intro w';go_simp;with_reducible rfl);rotate_left;(simp only [Act.put,q1_,q2_,q3_,i64_w,i32_w];rfl)
                   refine pu_ (i:=7) (N:=some 89) (v:=?_) (a':=?_) #[Y,Y,Y,Y,Z,Z,Z,Y,Z,Z,Z] rfl rfl HT_.out (by kernel_rfl) (fun _ _ _ h => h) (by rfl) ?_ ?_ ?_;rotate_left;(intro w';go_simp;with_reducible rfl);rotate_left;(simp only [Act.put,q1_,q2_,q3_,i64_w,i32_w];rfl)
                   refine ta_ (i:=4) (N:=some 86) (v:=?_) (a':=?_) #[Y,Y,Y,Y,Y,Z,Z,Y,Z,Z,Z] rfl rfl HT_.out HW_.out (by kernel_rfl) (fun _ _ _ h => h) (by rfl) ?_ hHeld ?_ ?_;rotate_left;(rintro w' ⟨s0,s1,s2,s3,s4,s5,s6⟩;go_simp;with_reducible rfl);rotate_left;(simp only [Act.put,q1_,q2_,q3_,i64_w,i32_w];rfl)
                   refine ta_ (i:=8) (N:=some 90) (v:=?_) (a':=?_) #[Y,Y,Y,Y,Y,Z,Z,Y,Y,Z,Z] rfl rfl HT_.out HW_.out (by kernel_rfl) (fun _ _ _ h => h) (by rfl) ?_ hHeld ?_ ?_;rotate_left;(rintro w' ⟨s0,s1,s2,s3,s4,s5,s6⟩;go_simp;with_reducible rfl);rotate_left;(simp only [Act.put,q1_,q2_,q3_,i64_w,i32_w];rfl)
                   refine one_ (i:=5) (N:=some 87) #[Y,Y,Y,Y,Y,Y,Z,Y,Y,Z,Z] rfl rfl (one_of HT_.out (by kernel_rfl)) (by decide) (fun K hK => ?_)
                   refine goes_ Try.func36 (by kernel_rfl) rfl #[.agg #[.float .f64 ((rd_T86 t260 1).f2),.bool (((rd_T86 t260 0).f1) == 1),.slice Ao52 x271002_3.length co52,.int .i64 ((rd_T86 t260 2).f1),.int .i64 ((rd_T86 t260 3).f1),.int .i64 ((rd_T86 t260 4).f1)]] (by rfl) rfl rfl (by (try simp only [List.map_toArray,List.map_cons,List.map_nil]);first | done | rfl | (simp only [List.length_drop,List.length_take];rfl)) ?_
                   with_reducible refine (humusref04_Bytes.calls k3 ((rd_T86 t260 1).f2) (((rd_T86 t260 0).f1) == 1) _ _ x271002_3 ((rd_T86 t260 2).f1) ((rd_T86 t260 3).f1) ((rd_T86 t260 4).f1) t276 _ ?side1 ?side2 A41.out).mono ?_
                   (case side1 => repeat (first | exact (Kd.R_reads' HO_271002.out).2.2 | (with_reducible refine Kd.C_alloc ?_ _) | (with_reducible refine Kd.C_drewN ?_ _) | (with_reducible refine Kd.C_drew ?_)))
                   (case side2 => exact (Kd.R_reads' HO_271002.out).2.1)
                   rintro e w54 ⟨v277,rfl,ho0,hb⟩;refine ⟨_,rfl,?_⟩
                   have n0_:=A_ (Kd.R_below (by (with_reducible repeat (first | apply ra_ | apply rn_ | apply re_));exact HO_6.out) hb)
                   have n1_:=A_ (Kd.R_below (by (with_reducible repeat (first | apply ra_ | apply rn_ | apply re_));exact HO_271002.out) hb)
                   have n2_:=A_ (Kd.R_lower ho0 (bz_ (by repeat (first | (with_reducible first | exact HB.out | apply ba_ | apply bd_ | apply be_ | refine bs_ ?_ GE251.out | refine bs_ ?_ GE270.out) | exact HB.out))))
                   have n3_:=A_ (bx_ BK251.out (by intro h_;(with_reducible repeat (first | refine kd_ ?_ _ | refine ke_ ?_ | refine ka_ ?_ _));exact h_) hb)
                   have n4_:=A_ (bx_ BK270.out (by intro h_;(with_reducible repeat (first | refine kd_ ?_ _ | refine ke_ ?_ | refine ka_ ?_ _));exact h_) hb)
                   have n5_:=A_ (bp_ (by repeat (first | (with_reducible first | exact HB.out | apply ba_ | apply bd_ | apply be_ | refine bs_ ?_ GE251.out | refine bs_ ?_ GE270.out) | exact HB.out)) hb)
                   clear HO_6;clear HO_271002;clear BK251;clear BK270;clear HB;have HO_6:=n0_;have HO_271002:=n1_;have HO278:=n2_;have BK251:=n3_;have BK270:=n4_;have HB:=n5_;clear n0_ n1_ n2_ n3_ n4_ n5_;(try clear hb);(try clear hb2);(try clear hk);(try clear hi);(try clear ho0)
                   refine hK.out _ _ ⟨(bc_ BK270.out 0).trans rfl,(bc_ BK270.out 1).trans rfl,(bc_ BK270.out 2).trans rfl,(bc_ BK270.out 3).trans rfl,(bc_ BK270.out 4).trans rfl,(bc_ BK270.out 5).trans rfl,Kd.C_string (P:=Try.prog) (A:=(some ad256)) (c:=c0) Try.underlying23 Try.underlying5 Try.underlying9 (Kd.C_below HR0.out HB.out)⟩ (fun hHeld => ?_)
                   clear hK K
                   refine norm_ (a':=?_) ?_ ?_;rotate_left;(show Act.put _ (some 87) _ = _;simp only [Act.put,q1_,q2_,q3_,i64_w,i32_w];rfl)
                   refine one_ (i:=6) (N:=some 88) #[Y,Y,Y,Y,Y,Y,Y,Y,Y,Z,Z] rfl rfl (one_of HT_.out (by kernel_rfl)) (by decide) (fun K hK => ?_)
                   have hcv55:=own_string (P:=Try.prog) Try.underlying23 Try.underlying5 Try.underlying9 (Kd.own_of_R HO278.out)
                   refine value_ (w1:=?_) (v:=?_) (by rfl) rfl ?_ ?_
                   rotate_left 2
                   ·go_simp
                    constructor
                    ·rfl
                    ·rfl
                   clear hcv55
                   refine hK.out _ _ ⟨(bc_ BK270.out 0).trans rfl,(bc_ BK270.out 1).trans rfl,(bc_ BK270.out 2).trans rfl,(bc_ BK270.out 3).trans rfl,(bc_ BK270.out 4).trans rfl,(bc_ BK270.out 5).trans rfl,Kd.C_string (P:=Try.prog) (A:=(some ad256)) (c:=c0) Try.underlying23 Try.underlying5 Try.underlying9 (Kd.C_below HR0.out HB.out)⟩ (fun hHeld => ?_)
                   clear hK K
                   refine norm_ (a':=?_) ?_ ?_;rotate_left;(show Act.put _ (some 88) _ = _;simp only [Act.put,q1_,q2_,q3_,i64_w,i32_w];rfl)
                   refine pu_ (i:=9) (N:=some 91) (v:=?_) (a':=?_) #[Y,Y,Y,Y,Y,Y,Y,Y,Y,Y,Z] rfl rfl HT_.out (by kernel_rfl) (fun _ _ _ h => h) (by rfl) ?_ ?_ ?_;rotate_left;(intro w';go_simp;with_reducible rfl);rotate_left;(simp only [Act.put,q1_,q2_,q3_,i64_w,i32_w];rfl)
                   refine pu_ (i:=10) (N:=some 92) (v:=?_) (a':=?_) #[Y,Y,Y,Y,Y,Y,Y,Y,Y,Y,Y] rfl rfl HT_.out (by kernel_rfl) (fun _ _ _ h => h) (by rfl) ?_ ?_ ?_;rotate_left;(intro w';go_simp;with_reducible rfl);rotate_left;(simp only [Act.put,q1_,q2_,q3_,i64_w,i32_w];rfl)
                   refine done_ (done_of HT_.out (by kernel_rfl)) ?_;have hnb56:=NB251_270.out;have hnc56:=NB270_251.out;obtain ⟨z57_0,z57_1,z57_2,z57_3,z57_4,z57_5⟩:=blkc_6 BK251.out;obtain ⟨y57_0,y57_1,y57_2,y57_3,y57_4,y57_5⟩:=blkz_6 BK251.out
                   try go_wp2
                   refine bodyPost_ret (results_ct rfl _ _ gb251 30 #[.float .f64 0,.bool false,.slice none 0 0,.int .i64 0,.int .i64 0,.int .i64 0] (0,0) _ rfl (by (with_reducible repeat (first | refine kd_ ?_ _ | refine ke_ ?_ | refine ka_ ?_ _));apply blkf_6_0_5;(with_reducible repeat (first | refine kd_ ?_ _ | refine ke_ ?_ | refine ka_ ?_ _));exact BK251.out) Try.underlying30 rfl (by kernel_rfl)) rfl ?_
                   exact ⟨_,by first | rfl | (simp [errW_none,errW_some] <;> rfl) | (simp [*,errW_none,errW_some] <;> rfl),by first | exact Kd.R_nil _ _ _ _ _ | exact Kd.N_nil _ _ _ _ _ | exact Kd.V_nil _ _ _ _ _ | exact Kd.Q_nil _ _ _ _ _ | exact Kd.S_nil _ _ _ _ _,by repeat (first | (with_reducible first | exact HB.out | apply ba_ | apply bd_ | apply be_ | refine bs_ ?_ GE251.out | refine bs_ ?_ GE270.out) | exact HB.out)⟩
                 ·replace c40:=Bool.eq_false_iff.mpr c40
                  subst c40
                  have H1 : (some (0,false,([] : List Nat),0,0,0,false)) = some (r1,r2,r3,r4,r5,r6,r7):=by rw [if_neg (show ¬ (false = true) by decide)] at H;exact H
                  clear H;have H:=H1;clear H1
                  simp only [Option.some.injEq,Prod.mk.injEq] at H
                  obtain ⟨rfl,rfl,rfl,rfl,rfl,rfl,rfl⟩:=H
                  try go_wp2
                  have n0_:=A_ (re_ HO_6.out);have n1_:=A_ (re_ HO_271002.out);have n2_:=A_ (ke_ BK251.out);have n3_:=A_ (ke_ BK270.out);have n4_:=A_ (be_ HB.out);clear HO_6;clear HO_271002;clear BK251;clear BK270;clear HB;have HO_6:=n0_;have HO_271002:=n1_;have BK251:=n2_;have BK270:=n3_;have HB:=n4_;clear n0_ n1_ n2_ n3_ n4_;obtain ⟨Ao59,co59,eo59⟩:=Kd.R_slice HO_271002.out
                  (first | subst eo59 | (injection eo59 with f1_ f2_ f3_;have f4_:=f1_.symm;have f5_:=f3_.symm;clear f1_ f2_ f3_;subst f4_;subst f5_))
                  refine start_ (n:=11) (S:=fun w' => w'.cell? ⟨gb270,0,none⟩ = some (.float .f64 ((rd_T86 t260 1).f2)) ∧ w'.cell? ⟨gb270,1,none⟩ = some (.bool (((rd_T86 t260 0).f1) == 1)) ∧ w'.cell? ⟨gb270,2,none⟩ = some (.slice Ao59 x271002_3.length co59) ∧ w'.cell? ⟨gb270,3,none⟩ = some (.int .i64 ((rd_T86 t260 2).f1)) ∧ w'.cell? ⟨gb270,4,none⟩ = some (.int .i64 ((rd_T86 t260 3).f1)) ∧ w'.cell? ⟨gb270,5,none⟩ = some (.int .i64 ((rd_T86 t260 4).f1))) (ds:=[1]) #[Z,Z,Z,Z,Z,Z,Z,Z,Z,Z,Z] (by kernel_rfl) rfl rfl ⟨(bc_ BK270.out 0).trans rfl,(bc_ BK270.out 1).trans rfl,(bc_ BK270.out 2).trans rfl,(bc_ BK270.out 3).trans rfl,(bc_ BK270.out 4).trans rfl,(bc_ BK270.out 5).trans rfl⟩ (fun hHeld => ?_);refine with_tabW humusref04_Decode.tab16 humusref04_Decode.bits16 (fun HT_ HW_ => ?_)
                  generalize wr.drew = w58 at HO_6 HO_271002 BK251 BK270 HB hHeld ⊢
                  refine ta_ (i:=0) (N:=some 82) (v:=?_) (a':=?_) #[Y,Z,Z,Z,Z,Z,Z,Z,Z,Z,Z] rfl rfl HT_.out HW_.out (by kernel_rfl) (fun _ _ _ h => h) (by rfl) ?_ hHeld ?_ ?_;rotate_left;(rintro w' ⟨s0,s1,s2,s3,s4,s5⟩;go_simp;with_reducible rfl);rotate_left;(simp only [Act.put,q1_,q2_,q3_,i64_w,i32_w];rfl)
                  refine last_ (i:=1) (N:=some 83) #[Y,Y,Z,Z,Z,Z,Z,Z,Z,Z,Z] rfl rfl (one_of HT_.out (by kernel_rfl)) (by decide) (fun K hK => ?_)
                  refine goes_ Try.func34 (by kernel_rfl) rfl #[.agg #[.float .f64 ((rd_T86 t260 1).f2),.bool (((rd_T86 t260 0).f1) == 1),.slice Ao59 x271002_3.length co59,.int .i64 ((rd_T86 t260 2).f1),.int .i64 ((rd_T86 t260 3).f1),.int .i64 ((rd_T86 t260 4).f1)]] (by rfl) rfl rfl (by (try simp only [List.map_toArray,List.map_cons,List.map_nil]);first | done | rfl | (simp only [List.length_drop,List.length_take];rfl)) ?_
                  with_reducible refine (humusref04_May.calls k3 ((rd_T86 t260 1).f2) (((rd_T86 t260 0).f1) == 1) _ _ x271002_3 ((rd_T86 t260 2).f1) ((rd_T86 t260 3).f1) ((rd_T86 t260 4).f1) false _ ?side1 ?side2 A39.out).mono ?_
                  (case side1 => repeat (first | exact (Kd.R_reads' HO_271002.out).2.2 | (with_reducible refine Kd.C_alloc ?_ _) | (with_reducible refine Kd.C_drewN ?_ _) | (with_reducible refine Kd.C_drew ?_)))
                  (case side2 => exact (Kd.R_reads' HO_271002.out).2.1)
                  rintro e w60 ⟨rfl,hb⟩;refine ⟨_,rfl,?_⟩
                  have n0_:=A_ (Kd.R_below (by (with_reducible repeat (first | apply ra_ | apply rn_ | apply re_));exact HO_6.out) hb)
                  have n1_:=A_ (Kd.R_below (by (with_reducible repeat (first | apply ra_ | apply rn_ | apply re_));exact HO_271002.out) hb)
                  have n2_:=A_ (bx_ BK251.out (by intro h_;(with_reducible repeat (first | refine kd_ ?_ _ | refine ke_ ?_ | refine ka_ ?_ _));exact h_) hb)
                  have n3_:=A_ (bx_ BK270.out (by intro h_;(with_reducible repeat (first | refine kd_ ?_ _ | refine ke_ ?_ | refine ka_ ?_ _));exact h_) hb)
                  have n4_:=A_ (bp_ (by repeat (first | (with_reducible first | exact HB.out | apply ba_ | apply bd_ | apply be_ | refine bs_ ?_ GE251.out | refine bs_ ?_ GE270.out) | exact HB.out)) hb)
                  clear HO_6;clear HO_271002;clear BK251;clear BK270;clear HB;have HO_6:=n0_;have HO_271002:=n1_;have BK251:=n2_;have BK270:=n3_;have HB:=n4_;clear n0_ n1_ n2_ n3_ n4_;(try clear hb);(try clear hb2);(try clear hk);(try clear hi);refine hK.out _ _ ?_;clear hK K
                  refine norm_ (a':=?_) ?_ ?_;rotate_left;(show Act.put _ (some 83) _ = _;simp only [Act.put,q1_,q2_,q3_,i64_w,i32_w];rfl)
                  refine pu_ (i:=2) (N:=some 84) (v:=?_) (a':=?_) #[Y,Y,Y,Z,Z,Z,Z,Z,Z,Z,Z] rfl rfl HT_.out (by kernel_rfl) (fun _ _ _ h => h) (by rfl) ?_ ?_ ?_;rotate_left;(intro w';go_simp;with_reducible rfl);rotate_left;(simp only [Act.put,q1_,q2_,q3_,i64_w,i32_w];rfl)
                  refine pu_ (i:=3) (N:=some 85) (v:=?_) (a':=?_) #[Y,Y,Y,Y,Z,Z,Z,Z,Z,Z,Z] rfl rfl HT_.out (by kernel_rfl) (fun _ _ _ h => h) (by rfl) ?_ ?_ ?_;rotate_left;(intro w';go_simp;with_reducible rfl);rotate_left;(simp only [Act.put,q1_,q2_,q3_,i64_w,i32_w];rfl)
                  refine pv_ (i:=4) (N:=some 86) (a':=?_) #[Y,Y,Y,Y,Y,Z,Z,Z,Z,Z,Z] rfl rfl HT_.out (by kernel_rfl) (fun _ _ _ h => h) (by rfl) ?_ ?_;rotate_left;(simp only [Act.put,q1_,q2_,q3_,i64_w,i32_w];rfl)
                  refine pv_ (i:=5) (N:=some 87) (a':=?_) #[Y,Y,Y,Y,Y,Y,Z,Z,Z,Z,Z] rfl rfl HT_.out (by kernel_rfl) (fun _ _ _ h => h) (by rfl) ?_ ?_;rotate_left;(simp only [Act.put,q1_,q2_,q3_,i64_w,i32_w];rfl)
                  refine pv_ (i:=6) (N:=some 88) (a':=?_) #[Y,Y,Y,Y,Y,Y,Y,Z,Z,Z,Z] rfl rfl HT_.out (by kernel_rfl) (fun _ _ _ h => h) (by rfl) ?_ ?_;rotate_left;(simp only [Act.put,q1_,q2_,q3_,i64_w,i32_w];rfl)
                  refine pv_ (i:=7) (N:=some 89) (a':=?_) #[Y,Y,Y,Y,Y,Y,Y,Y,Z,Z,Z] rfl rfl HT_.out (by kernel_rfl) (fun _ _ _ h => h) (by rfl) ?_ ?_;rotate_left;(simp only [Act.put,q1_,q2_,q3_,i64_w,i32_w];rfl)
                  refine pv_ (i:=8) (N:=some 90) (a':=?_) #[Y,Y,Y,Y,Y,Y,Y,Y,Y,Z,Z] rfl rfl HT_.out (by kernel_rfl) (fun _ _ _ h => h) (by rfl) ?_ ?_;rotate_left;(simp only [Act.put,q1_,q2_,q3_,i64_w,i32_w];rfl)
                  refine pv_ (i:=9) (N:=some 91) (a':=?_) #[Y,Y,Y,Y,Y,Y,Y,Y,Y,Y,Z] rfl rfl HT_.out (by kernel_rfl) (fun _ _ _ h => h) (by rfl) ?_ ?_;rotate_left;(simp only [Act.put,q1_,q2_,q3_,i64_w,i32_w];rfl)
                  refine pu_ (i:=10) (N:=some 92) (v:=?_) (a':=?_) #[Y,Y,Y,Y,Y,Y,Y,Y,Y,Y,Y] rfl rfl HT_.out (by kernel_rfl) (fun _ _ _ h => h) (by rfl) ?_ ?_ ?_;rotate_left;(intro w';go_simp;with_reducible rfl);rotate_left;(simp only [Act.put,q1_,q2_,q3_,i64_w,i32_w];rfl)
                  refine done_ (done_of HT_.out (by kernel_rfl)) ?_;have hnb61:=NB251_270.out;have hnc61:=NB270_251.out;obtain ⟨z62_0,z62_1,z62_2,z62_3,z62_4,z62_5⟩:=blkc_6 BK251.out;obtain ⟨y62_0,y62_1,y62_2,y62_3,y62_4,y62_5⟩:=blkz_6 BK251.out
                  try go_wp2
                  refine bodyPost_ret (results_ct rfl _ _ gb251 30 #[.float .f64 0,.bool false,.slice none 0 0,.int .i64 0,.int .i64 0,.int .i64 0] (0,0) _ rfl (by (with_reducible repeat (first | refine kd_ ?_ _ | refine ke_ ?_ | refine ka_ ?_ _));apply blkf_6_0_5;(with_reducible repeat (first | refine kd_ ?_ _ | refine ke_ ?_ | refine ka_ ?_ _));exact BK251.out) Try.underlying30 rfl (by kernel_rfl)) rfl ?_
                  exact ⟨_,by first | rfl | (simp [errW_none,errW_some] <;> rfl) | (simp [*,errW_none,errW_some] <;> rfl),by first | exact Kd.R_nil _ _ _ _ _ | exact Kd.N_nil _ _ _ _ _ | exact Kd.V_nil _ _ _ _ _ | exact Kd.Q_nil _ _ _ _ _ | exact Kd.S_nil _ _ _ _ _,by repeat (first | (with_reducible first | exact HB.out | apply ba_ | apply bd_ | apply be_ | refine bs_ ?_ GE251.out | refine bs_ ?_ GE270.out) | exact HB.out)⟩
             ·rw [if_neg c20] at H
              exact absurd H (by simp)
            ·rw [if_neg c19] at H
             exact absurd H (by simp)
           ·rw [if_neg c18] at H
            exact absurd H (by simp)
          ·rw [if_neg c17] at H
           exact absurd H (by simp)
         ·rw [if_neg c16] at H
          exact absurd H (by simp)
        ·rw [if_neg c15] at H
         have c15b0 : (t262 == 0) = false:=beq_eq_false_iff_ne.mpr c15;have c15b1 : (t262 != 0) = true:=bne_iff_ne.mpr c15
         simp only [Option.some.injEq,Prod.mk.injEq] at H
         obtain ⟨rfl,rfl,rfl,rfl,rfl,rfl,rfl⟩:=H
         have p256 : 0 ≤ (19 : Int):=(by omega)
         have q256 : 19 < (l0.length : Int):=od_ (by first | (with_reducible assumption) | assumption)
         obtain ⟨ad256,e256,hx256_0⟩:=Kd.at_int HR0.out 19 p256 q256
         cases e256
         (try simp only [N19_,Nat.reduceMul,Nat.reduceEqDiff,Go.Addr.add,↓reduceIte] at hx256_0)
         have qi256 : (19 < l0.length) = True:=eq_true (by omega)
         replace hx256_0:=(HB.out.cell (wb_ w _ hx256_0)).trans hx256_0;replace p256:=eq_true p256;replace q256:=eq_true q256;obtain ⟨Ao63,co63,eo63⟩:=Kd.R_slice HO_4.out;subst eo63
         go_wp2_with (first | ((with_reducible refine gate_callee (f:=77) rfl ?_);refine goesL_ (some 36) rfl rfl Try.func77 (by kernel_rfl) rfl #[.slice (some ad256) l0.length c0,.slice Ao63 x4_2.length co63] rfl (by (try simp only [List.map_toArray,List.map_cons,List.map_nil]);first | done | rfl | (simp only [List.length_drop,List.length_take];rfl)) ?_;(with_reducible refine (humusref03_Take.calls _ _ l0 _ _ x4_2 t260 t261 t262 _ ?side1 ?side2 ?side3 ?side4 A14.out).mono ?_);(case side1 => repeat (first | exact (Kd.C_below HR0.out HB.out) | (with_reducible refine Kd.C_alloc ?_ _) | (with_reducible refine Kd.C_drewN ?_ _) | (with_reducible refine Kd.C_drew ?_)));(case side2 => exact HC0.out);(case side3 => repeat (first | exact (Kd.R_reads' HO_4.out).2.2 | (with_reducible refine Kd.C_alloc ?_ _) | (with_reducible refine Kd.C_drewN ?_ _) | (with_reducible refine Kd.C_drew ?_)));(case side4 => exact (Kd.R_reads' HO_4.out).2.1);rintro e w64 ⟨v263,rfl,ho0,hb⟩;refine ⟨_,rfl,?_⟩;have n0_:=A_ (Kd.R_below (by (with_reducible repeat (first | apply ra_ | apply rn_ | apply re_));exact HO_4.out) hb);have n1_:=A_ (Kd.R_lower ho0 (bz_ (by repeat (first | (with_reducible first | exact HB.out | apply ba_ | apply bd_ | apply be_ | refine bs_ ?_ GE251.out) | exact HB.out))));have n2_:=A_ (bx_ BK251.out (by intro h_;(with_reducible repeat (first | refine kd_ ?_ _ | refine ke_ ?_ | refine ka_ ?_ _));exact h_) hb);have n3_:=A_ (bp_ (by repeat (first | (with_reducible first | exact HB.out | apply ba_ | apply bd_ | apply be_ | refine bs_ ?_ GE251.out) | exact HB.out)) hb);clear HO_4;clear BK251;clear HB;have HO_4:=n0_;have HO264:=n1_;have BK251:=n2_;have HB:=n3_;clear n0_ n1_ n2_ n3_;(try clear hb);(try clear hb2);(try clear hk);(try clear hi);(try clear ho0);obtain ⟨z65_0,z65_1,z65_2,z65_3,z65_4,z65_5⟩:=blkc_6 BK251.out;obtain ⟨y65_0,y65_1,y65_2,y65_3,y65_4⟩:=blkz_5 BK251.out;have y65_5:=bf_ BK251.out 5))
         refine bodyPost_ret (results_ct rfl _ _ gb251 30 #[.float .f64 0,.bool false,.slice none 0 0,.int .i64 0,.int .i64 0,.int .i64 0] (0,0) _ rfl (by (with_reducible repeat (first | refine kd_ ?_ _ | refine ke_ ?_ | refine ka_ ?_ _));apply blkf_6_0_5;(with_reducible repeat (first | refine kd_ ?_ _ | refine ke_ ?_ | refine ka_ ?_ _));exact BK251.out) Try.underlying30 rfl (by kernel_rfl)) rfl ?_
         exact ⟨_,by first | rfl | (simp [errW_none,errW_some] <;> rfl) | (simp [*,errW_none,errW_some] <;> rfl),by first | exact Kd.R_nil _ _ _ _ _ | exact Kd.N_nil _ _ _ _ _ | exact Kd.V_nil _ _ _ _ _ | exact Kd.Q_nil _ _ _ _ _ | exact Kd.S_nil _ _ _ _ _,by repeat (first | (with_reducible first | exact HB.out | apply ba_ | apply bd_ | apply be_ | refine bs_ ?_ GE251.out) | exact HB.out)⟩
      ·rw [if_neg c10] at H
       exact absurd H (by simp)
end Go.Proofs.Ytdcllbhkjcdnoaa.P
namespace Go.Proofs.Ytdcllbhkjcdnoaa.P
open Go.RowKit Ytdcllbhkjcdnoaa Ytdcllbhkjcdnoaa.Mem YtdcllbhkjcdnoaaW.PrintWords YtdcllbhkjcdnoaaW.PrintLast YtdcllbhkjcdnoaaW.PrintMore
theorem str_nil (l : List UInt8) : (l == []) = l.isEmpty := by cases l <;> rfl
def bytesObj (W : World) (s : ByteArray) : Obj := .cells (Lib.bytesCells W 5 s) 5 ((Lib.bytesCells W 5 s).size, (Lib.bytesCells W 5 s).size + 1)
theorem bytes_world (W : World) (s : ByteArray) : Lib.bytesWorld W 5 s = (W.drew).alloc (bytesObj W s) := by
  unfold Lib.bytesWorld bytesObj
  simp only [World.freeze, World.alloc, World.drew]
  rw [if_neg (by decide)]
  congr 1
  apply Array.ext
  · simp
  · intro i h1 h2
    simp [Array.getElem_modify, Array.getElem_push]
    by_cases hi : i < W.heap.size
    · rw [if_neg (by omega)]; simp [hi]
    · have h3 : i < W.heap.size + 1 := by simpa using h2
      obtain rfl : i = W.heap.size := by omega
      simp
theorem bytes_conv (s : ByteArray) (W : World) : (convert 9 23 (.string s)).run Try.prog W = .ok (.slice (some ⟨W.heap.size, 0, none⟩) s.size (grownCap W s.size 0 5)) ((W.drew).alloc (bytesObj W s)) := by
  rw [← bytes_world];exact print_bytes 9 23 5 Try.underlying9 Try.underlying23 Try.underlying5 s W
theorem drew_alloc (W : World) (o : Obj) : (W.alloc o).drew = (W.drew).alloc o := rfl
theorem bytes_C (s : ByteArray) (W : World) (h : s.size ≤ 1000000) : Kd.C (Kd.int .u8) ((W.alloc (bytesObj W s)).drew) (some ⟨W.heap.size, 0, none⟩) s.size (bytesOf s) := by
  rw [drew_alloc, ← bytes_world]
  exact Kd.C_of_reads (enc := Value.int .u8) (d := (0 : Int)) (h1 := fun _ => rfl) (bytes_reads W 5 s (by omega))
def row_Decode_b.f (k : Nat) (a0 : ByteArray) : Option (Nat × Bool × List Nat × Int × Int × Int × Int) := if a0.size ≤ 1000000 then row_Decode.f k (bytesOf a0) else none
theorem row_Decode_b.calls (k : Nat) (a0 : ByteArray) (r1 : Nat) (r2 : Bool) (r3 : List Nat) (r4 r5 r6 r7 : Int) (W : World) (h : row_Decode_b.f k a0 = some (r1, r2, r3, r4, r5, r6, r7)) {g : Nat} (hg : g = W.heap.size := by first | rfl | (simp only [World.size_setCell]; done) | (simp; done)) :
    Calls Try.prog 35 #[.slice (some ⟨g, 0, none⟩) a0.size (grownCap W a0.size 0 5)] ((W.alloc (bytesObj W a0)).drew) fun e w' => ∃ v2_ : Value, e = .returned (.tuple #[.agg #[.float .f64 r1, .bool r2, v2_, .int .i64 r4, .int .i64 r5, .int .i64 r6], .int .i64 r7]) ∧ Kd.R Kd.f64 25 w' ((W.alloc (bytesObj W a0)).drew).heap.size (fun _ => True) v2_ r3 ∧ Below ((W.alloc (bytesObj W a0)).drew).heap.size ((W.alloc (bytesObj W a0)).drew) w' := by
  unfold row_Decode_b.f at h
  subst hg
  split at h
  · rename_i hx
    have := row_Decode.calls k (some ⟨W.heap.size, 0, none⟩) (grownCap W a0.size 0 5) (bytesOf a0) r1 r2 r3 r4 r5 r6 r7 ((W.alloc (bytesObj W a0)).drew) (by rw [bytesOf_length]; exact bytes_C a0 W hx) (by rw [bytesOf_length]; exact grownCap_ge _ _ _ _) h
    rw [bytesOf_length] at this;exact this
  · cases h
def humusref04_Decode_b.f (k : Nat) (a0 : ByteArray) : Option (Nat × Bool × List Nat × Int × Int × Int × Bool) := if a0.size ≤ 1000000 then humusref04_Decode.f k (bytesOf a0) else none
theorem humusref04_Decode_b.calls (k : Nat) (a0 : ByteArray) (r1 : Nat) (r2 : Bool) (r3 : List Nat) (r4 r5 r6 : Int) (r7 : Bool) (W : World) (h : humusref04_Decode_b.f k a0 = some (r1, r2, r3, r4, r5, r6, r7)) {g : Nat} (hg : g = W.heap.size := by first | rfl | (simp only [World.size_setCell]; done) | (simp; done)) :
    Calls Try.prog 38 #[.slice (some ⟨g, 0, none⟩) a0.size (grownCap W a0.size 0 5)] ((W.alloc (bytesObj W a0)).drew) fun e w' => ∃ v2_ : Value, e = .returned (.tuple #[.agg #[.float .f64 r1, .bool r2, v2_, .int .i64 r4, .int .i64 r5, .int .i64 r6], .bool r7]) ∧ Kd.R Kd.f64 25 w' ((W.alloc (bytesObj W a0)).drew).heap.size (fun _ => True) v2_ r3 ∧ Below ((W.alloc (bytesObj W a0)).drew).heap.size ((W.alloc (bytesObj W a0)).drew) w' := by
  unfold humusref04_Decode_b.f at h
  subst hg
  split at h
  · rename_i hx
    have := humusref04_Decode.calls k (some ⟨W.heap.size, 0, none⟩) (grownCap W a0.size 0 5) (bytesOf a0) r1 r2 r3 r4 r5 r6 r7 ((W.alloc (bytesObj W a0)).drew) (by rw [bytesOf_length]; exact bytes_C a0 W hx) (by rw [bytesOf_length]; exact grownCap_ge _ _ _ _) h
    rw [bytesOf_length] at this;exact this
  · cases h
end Go.Proofs.Ytdcllbhkjcdnoaa.P
