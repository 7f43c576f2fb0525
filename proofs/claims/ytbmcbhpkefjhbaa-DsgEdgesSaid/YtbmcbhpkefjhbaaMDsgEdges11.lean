/- Put together by wip/prune.py out of this claim's texts. -/
import Derived.Test.YtbmcbhpkefjhbaaMDsgEdges4
import Derived.Test.YtbmcbhpkefjhbaaMDsgEdges10
namespace Go.Proofs.Ytbmcbhpkefjhbaa.P
open Go.RowKit Go.Proofs.YtbmcbhpkefjhbaaW.PrintWords Go.Proofs.YtbmcbhpkefjhbaaW.PrintLast Go.Proofs.YtbmcbhpkefjhbaaW.PrintMore
attribute [local go_sem] max2_int min2_int max_two min_two max_three min_three max_four min_four   -- for this text's walks alone
attribute [local go_sem] run_store_float
set_option linter.unusedVariables false
set_option linter.unusedSimpArgs false
mutual
def humusref26_Ahead.j0 : Nat → Int → Int → Int → Int → Int → List (S89) → List (S124) → List Int → Int → Int → List (S89) → List (S124) → List Int → Option (Bool)
 | 0,_,_,_,_,_,_,_,_,_,_,_,_,_ => none
 | k + 1,x9,x10,x11,x169000,x169001,x169002,x169003,x169004,x170000,x170001,x170002,x170003,x170004 => humusref26_Ahead.l0 k x9 x10 x11 x169000 x169001 x169002 x169003 x169004 x170000 x170001 x170002 x170003 x170004
def humusref26_Ahead.l0 : Nat → Int → Int → Int → Int → Int → List (S89) → List (S124) → List Int → Int → Int → List (S89) → List (S124) → List Int → Option (Bool)
 | 0,_,_,_,_,_,_,_,_,_,_,_,_,_ => none
 | k + 1,x9,x10,x11,x169000,x169001,x169002,x169003,x169004,x170000,x170001,x170002,x170003,x170004 => if x11 < (x169003.length : Int) then (if 0 ≤ x11 then (humusref26_Ahead.l1 k x9 x10 x11 ((rd_T124 x169003 x11).f0) 0 x169000 x169001 x169002 x169003 x169004 x170000 x170001 x170002 x170003 x170004) else (none)) else (humusref26_Ahead.l2 k x10 0 x169000 x169001 x169002 x169003 x169004 x170000 x170001 x170002 x170003 x170004)
def humusref26_Ahead.l1 : Nat → Int → Int → Int → Nat → Int → Int → Int → List (S89) → List (S124) → List Int → Int → Int → List (S89) → List (S124) → List Int → Option (Bool)
 | 0,_,_,_,_,_,_,_,_,_,_,_,_,_,_,_ => none
 | k + 1,x9,x10,x11,x12,x13,x169000,x169001,x169002,x169003,x169004,x170000,x170001,x170002,x170003,x170004 => if x13 < (x170003.length : Int) then (if 0 ≤ x13 then ((humusref01_Alike.f x12 ((rd_T124 x170003 x13).f0)).bind fun t174 => (if t174 = true then (if x9 < x10 then (humusref26_Ahead.j3 k true) else (humusref26_Ahead.l1 k x9 x10 x11 x12 (wrap64 (x13 + 1)) x169000 x169001 x169002 x169003 x169004 x170000 x170001 x170002 x170003 x170004)) else (humusref26_Ahead.l1 k x9 x10 x11 x12 (wrap64 (x13 + 1)) x169000 x169001 x169002 x169003 x169004 x170000 x170001 x170002 x170003 x170004))) else (none)) else (if x9 < x170001 then ((humusref26_Reads.f k x170000 x170001 x170002 x170003 x170004 x12).bind fun t175 => (if t175 = true then (humusref26_Ahead.j4 k true) else (humusref26_Ahead.l0 k x9 x10 (wrap64 (x11 + 1)) x169000 x169001 x169002 x169003 x169004 x170000 x170001 x170002 x170003 x170004))) else (humusref26_Ahead.l0 k x9 x10 (wrap64 (x11 + 1)) x169000 x169001 x169002 x169003 x169004 x170000 x170001 x170002 x170003 x170004))
def humusref26_Ahead.j3 : Nat → Bool → Option (Bool)
 | 0,_ => none
 | k + 1,x6 => some x6
def humusref26_Ahead.j4 : Nat → Bool → Option (Bool)
 | 0,_ => none
 | k + 1,x6 => some x6
def humusref26_Ahead.l2 : Nat → Int → Int → Int → Int → List (S89) → List (S124) → List Int → Int → Int → List (S89) → List (S124) → List Int → Option (Bool)
 | 0,_,_,_,_,_,_,_,_,_,_,_,_ => none
 | k + 1,x10,x14,x169000,x169001,x169002,x169003,x169004,x170000,x170001,x170002,x170003,x170004 => if x14 < (x170003.length : Int) then (if x10 ≥ x169001 then (if 0 ≤ x14 then ((humusref26_Reads.f k x169000 x169001 x169002 x169003 x169004 ((rd_T124 x170003 x14).f0)).bind fun t177 => (if t177 = true then (humusref26_Ahead.j6 k true) else (humusref26_Ahead.l2 k x10 (wrap64 (x14 + 1)) x169000 x169001 x169002 x169003 x169004 x170000 x170001 x170002 x170003 x170004))) else (none)) else (humusref26_Ahead.l2 k x10 (wrap64 (x14 + 1)) x169000 x169001 x169002 x169003 x169004 x170000 x170001 x170002 x170003 x170004)) else (some false)
def humusref26_Ahead.j6 : Nat → Bool → Option (Bool)
 | 0,_ => none
 | k + 1,x6 => some x6
end
def humusref26_Ahead.f (k : Nat) (l0 : List (S43)) (a1 : Int) (a2 : Int) : Option (Bool):=if 0 ≤ a1 then (if a1 < (l0.length : Int) then (if 0 ≤ a2 then (if a2 < (l0.length : Int) then ((humusref26_Place.f k l0 a1).bind fun t170 => ((humusref26_Place.f k l0 a2).bind fun t171 => (humusref26_Ahead.j0 k t170 t171 0 ((rd_T43 l0 a1).f0) ((rd_T43 l0 a1).f1) ((rd_T43 l0 a1).f2) ((rd_T43 l0 a1).f3) ((rd_T43 l0 a1).f4) ((rd_T43 l0 a2).f0) ((rd_T43 l0 a2).f1) ((rd_T43 l0 a2).f2) ((rd_T43 l0 a2).f3) ((rd_T43 l0 a2).f4)))) else (none)) else (none)) else (none)) else (none)
def humusref26_Ahead.T1 : Bool × List (List Nat × List Nat):=(true,[([],[]),([],[]),([0,1],[0,1]),([2],[2]),([],[]),([],[]),([4,5],[4,5]),([6],[6]),([],[]),([],[]),([8,3,0,1,2,3,8,9],[3,8]),([9,7,10,0,1,2,3,4,5,6,7,8,9,10],[7,9])])
def humusref26_Ahead.B1 : List Nat:=[0,0,3,7,0,0,48,112,0,0,783,2047]
theorem humusref26_Ahead.tab1 : rtab .any (opsOf Try.f53 1) = humusref26_Ahead.T1:=by kernel_rfl
theorem humusref26_Ahead.bits1 : waitsOk humusref26_Ahead.T1.2 humusref26_Ahead.B1 = true:=by kernel_rfl
def humusref26_Ahead.T17 : Bool × List (List Nat × List Nat):=(true,[([],[]),([],[]),([1],[1]),([0,2],[0,2]),([3],[3]),([4],[4]),([4],[4]),([6,4],[4,6]),([4],[4]),([7,8,4],[4,7,8]),([9,4],[4,9]),([10,4],[4,10]),([5,11,4,4],[4,5,11]),([4,12],[4,12])])
def humusref26_Ahead.B17 : List Nat:=[0,0,2,7,15,31,31,95,31,479,991,2015,4095,8191]
theorem humusref26_Ahead.tab17 : rtab .any (opsOf Try.f53 17) = humusref26_Ahead.T17:=by kernel_rfl
theorem humusref26_Ahead.bits17 : waitsOk humusref26_Ahead.T17.2 humusref26_Ahead.B17 = true:=by kernel_rfl
set_option maxHeartbeats 8000000 in
set_option maxRecDepth 100000 in
theorem humusref26_Ahead.calls (k : Nat) (A0 : Option Addr) (c0 : Nat) (l0 : List (S43)) (a1 : Int) (a2 : Int) (r : Bool) (w : World) (hr0 : Kd.C k43 w A0 l0.length l0) (hc0 : l0.length ≤ c0) (h : humusref26_Ahead.f k l0 a1 a2 = some r) :
  Calls Try.prog 53 #[.slice A0 l0.length c0,.int .i64 a1,.int .i64 a2] w fun e w' => e = .returned (.bool r) ∧ Below w.heap.size w w':=by
 have hu43:=Try.underlying43
 have HR0:=Aside0.mk hr0
 have HC0:=Aside0.mk hc0
 clear hr0 hc0
 have HB:=Aside0.mk (Below.refl w.heap.size w)
 have H : (if 0 ≤ a1 then (if a1 < (l0.length : Int) then (if 0 ≤ a2 then (if a2 < (l0.length : Int) then ((humusref26_Place.f k l0 a1).bind fun t170 => ((humusref26_Place.f k l0 a2).bind fun t171 => (humusref26_Ahead.j0 k t170 t171 0 ((rd_T43 l0 a1).f0) ((rd_T43 l0 a1).f1) ((rd_T43 l0 a1).f2) ((rd_T43 l0 a1).f3) ((rd_T43 l0 a1).f4) ((rd_T43 l0 a2).f0) ((rd_T43 l0 a2).f1) ((rd_T43 l0 a2).f2) ((rd_T43 l0 a2).f3) ((rd_T43 l0 a2).f4)))) else (none)) else (none)) else (none)) else (none)) = some r:=h
 clear h
 by_cases c4 : 0 ≤ a1
 ·rw [if_pos c4] at H
  have c4b0 : decide (0 ≤ a1) = true:=decide_eq_true c4
  clear c4
  by_cases c5 : a1 < (l0.length : Int)
  ·rw [if_pos c5] at H
   have c5b0 : decide (a1 < (l0.length : Int)) = true:=decide_eq_true c5
   clear c5
   by_cases c6 : 0 ≤ a2
   ·rw [if_pos c6] at H
    have c6b0 : decide (0 ≤ a2) = true:=decide_eq_true c6
    clear c6
    by_cases c7 : a2 < (l0.length : Int)
    ·rw [if_pos c7] at H
     have c7b0 : decide (a2 < (l0.length : Int)) = true:=decide_eq_true c7
     clear c7
     replace H:=Option.bind_eq_some_iff.mp H
     obtain ⟨t170,A80,H⟩:=H
     replace H : ((humusref26_Place.f k l0 a2).bind fun t171 => (humusref26_Ahead.j0 k t170 t171 0 ((rd_T43 l0 a1).f0) ((rd_T43 l0 a1).f1) ((rd_T43 l0 a1).f2) ((rd_T43 l0 a1).f3) ((rd_T43 l0 a1).f4) ((rd_T43 l0 a2).f0) ((rd_T43 l0 a2).f1) ((rd_T43 l0 a2).f2) ((rd_T43 l0 a2).f3) ((rd_T43 l0 a2).f4))) = some r:=H
     have A8:=Aside0.mk A80
     clear A80
     replace H:=Option.bind_eq_some_iff.mp H
     obtain ⟨t171,A90,H⟩:=H
     replace H : (humusref26_Ahead.j0 k t170 t171 0 ((rd_T43 l0 a1).f0) ((rd_T43 l0 a1).f1) ((rd_T43 l0 a1).f2) ((rd_T43 l0 a1).f3) ((rd_T43 l0 a1).f4) ((rd_T43 l0 a2).f0) ((rd_T43 l0 a2).f1) ((rd_T43 l0 a2).f2) ((rd_T43 l0 a2).f3) ((rd_T43 l0 a2).f4)) = some r:=H
     have A9:=Aside0.mk A90
     clear A90
     have HC10:=Aside0.mk H
     clear H
     go_enter Try.func53,Try.ntmps53
     try go_wp2
     have n0_:=Aside0.mk (below_drew1 HB.out)
     clear HB
     have HB:=n0_
     clear n0_
     have p166 : 0 ≤ (a1 : Int):=of_decide_eq_true (by first | (with_reducible assumption) | assumption)
     have q166 : a1 < (l0.length : Int):=of_decide_eq_true (by first | (with_reducible assumption) | assumption)
     obtain ⟨ad166,A166_2,c166_2,A166_3,c166_3,A166_4,c166_4,e166,hx166_0,hx166_1,hx166_2,hx166_3,hx166_4,hl166_2,hi166_2,hl166_3,hi166_3,hl166_4,hi166_4⟩:=at_T43 HR0.out a1 p166 q166
     have hw166_4:=hx166_4
     have hw166_3:=hx166_3
     have hw166_2:=hx166_2
     have hw166_1:=hx166_1
     have hw166_0:=hx166_0
     cases e166
     replace hx166_0:=(HB.out.cell (World.block_lt_of_cell? w _ hx166_0)).trans hx166_0
     replace hx166_1:=(HB.out.cell (World.block_lt_of_cell? w _ hx166_1)).trans hx166_1
     replace hx166_2:=(HB.out.cell (World.block_lt_of_cell? w _ hx166_2)).trans hx166_2
     replace hx166_3:=(HB.out.cell (World.block_lt_of_cell? w _ hx166_3)).trans hx166_3
     replace hx166_4:=(HB.out.cell (World.block_lt_of_cell? w _ hx166_4)).trans hx166_4
     have HR166_2:=Aside0.mk hi166_2
     have HC166_2:=Aside0.mk hl166_2
     clear hi166_2 hl166_2
     have HR166_3:=Aside0.mk hi166_3
     have HC166_3:=Aside0.mk hl166_3
     clear hi166_3 hl166_3
     have HR166_4:=Aside0.mk hi166_4
     have HC166_4:=Aside0.mk hl166_4
     clear hi166_4 hl166_4
     replace p166:=eq_true p166
     replace q166:=eq_true q166
     have p167 : 0 ≤ (a2 : Int):=of_decide_eq_true (by first | (with_reducible assumption) | assumption)
     have q167 : a2 < (l0.length : Int):=of_decide_eq_true (by first | (with_reducible assumption) | assumption)
     obtain ⟨ad167,A167_2,c167_2,A167_3,c167_3,A167_4,c167_4,e167,hx167_0,hx167_1,hx167_2,hx167_3,hx167_4,hl167_2,hi167_2,hl167_3,hi167_3,hl167_4,hi167_4⟩:=at_T43 HR0.out a2 p167 q167
     have hw167_4:=hx167_4
     have hw167_3:=hx167_3
     have hw167_2:=hx167_2
     have hw167_1:=hx167_1
     have hw167_0:=hx167_0
     obtain rfl : ad166 = ad167:=(by injection e167)
     replace hx167_0:=(HB.out.cell (World.block_lt_of_cell? w _ hx167_0)).trans hx167_0
     replace hx167_1:=(HB.out.cell (World.block_lt_of_cell? w _ hx167_1)).trans hx167_1
     replace hx167_2:=(HB.out.cell (World.block_lt_of_cell? w _ hx167_2)).trans hx167_2
     replace hx167_3:=(HB.out.cell (World.block_lt_of_cell? w _ hx167_3)).trans hx167_3
     replace hx167_4:=(HB.out.cell (World.block_lt_of_cell? w _ hx167_4)).trans hx167_4
     have HR167_2:=Aside0.mk hi167_2
     have HC167_2:=Aside0.mk hl167_2
     clear hi167_2 hl167_2
     have HR167_3:=Aside0.mk hi167_3
     have HC167_3:=Aside0.mk hl167_3
     clear hi167_3 hl167_3
     have HR167_4:=Aside0.mk hi167_4
     have HC167_4:=Aside0.mk hl167_4
     clear hi167_4 hl167_4
     replace p167:=eq_true p167
     replace q167:=eq_true q167
     refine start_ (n:=12) (S:=fun w' => w'.cell? (ad166.add ((a1).toNat * 5)) = some (.int .i64 ((rd_T43 l0 a1).f0)) ∧ w'.cell? ⟨(ad166.add ((a1).toNat * 5)).block,(ad166.add ((a1).toNat * 5)).off + 1,none⟩ = some (.int .i64 ((rd_T43 l0 a1).f1)) ∧ w'.cell? ⟨(ad166.add ((a1).toNat * 5)).block,(ad166.add ((a1).toNat * 5)).off + 2,none⟩ = some (.slice A166_2 ((rd_T43 l0 a1).f2).length c166_2) ∧ w'.cell? ⟨(ad166.add ((a1).toNat * 5)).block,(ad166.add ((a1).toNat * 5)).off + 3,none⟩ = some (.slice A166_3 ((rd_T43 l0 a1).f3).length c166_3) ∧ w'.cell? ⟨(ad166.add ((a1).toNat * 5)).block,(ad166.add ((a1).toNat * 5)).off + 4,none⟩ = some (.slice A166_4 ((rd_T43 l0 a1).f4).length c166_4) ∧ w'.cell? (ad166.add ((a2).toNat * 5)) = some (.int .i64 ((rd_T43 l0 a2).f0)) ∧ w'.cell? ⟨(ad166.add ((a2).toNat * 5)).block,(ad166.add ((a2).toNat * 5)).off + 1,none⟩ = some (.int .i64 ((rd_T43 l0 a2).f1)) ∧ w'.cell? ⟨(ad166.add ((a2).toNat * 5)).block,(ad166.add ((a2).toNat * 5)).off + 2,none⟩ = some (.slice A167_2 ((rd_T43 l0 a2).f2).length c167_2) ∧ w'.cell? ⟨(ad166.add ((a2).toNat * 5)).block,(ad166.add ((a2).toNat * 5)).off + 3,none⟩ = some (.slice A167_3 ((rd_T43 l0 a2).f3).length c167_3) ∧ w'.cell? ⟨(ad166.add ((a2).toNat * 5)).block,(ad166.add ((a2).toNat * 5)).off + 4,none⟩ = some (.slice A167_4 ((rd_T43 l0 a2).f4).length c167_4)) (ds:=[]) #[ff,ff,ff,ff,ff,ff,ff,ff,ff,ff,ff,ff] (by kernel_rfl) rfl rfl ⟨((HB.out.cell (World.block_lt_of_cell? w _ hw166_0)).trans hw166_0),((HB.out.cell (World.block_lt_of_cell? w _ hw166_1)).trans hw166_1),((HB.out.cell (World.block_lt_of_cell? w _ hw166_2)).trans hw166_2),((HB.out.cell (World.block_lt_of_cell? w _ hw166_3)).trans hw166_3),((HB.out.cell (World.block_lt_of_cell? w _ hw166_4)).trans hw166_4),((HB.out.cell (World.block_lt_of_cell? w _ hw167_0)).trans hw167_0),((HB.out.cell (World.block_lt_of_cell? w _ hw167_1)).trans hw167_1),((HB.out.cell (World.block_lt_of_cell? w _ hw167_2)).trans hw167_2),((HB.out.cell (World.block_lt_of_cell? w _ hw167_3)).trans hw167_3),((HB.out.cell (World.block_lt_of_cell? w _ hw167_4)).trans hw167_4)⟩ (fun hHeld => ?_);refine with_tabW humusref26_Ahead.tab1 humusref26_Ahead.bits1 (fun HT_ HW_ => ?_)
     generalize w.drew = w11 at HB HR166_2 HR166_3 HR166_4 HR167_2 HR167_3 HR167_4 hx166_0 hx166_1 hx166_2 hx166_3 hx166_4 hx167_0 hx167_1 hx167_2 hx167_3 hx167_4 hHeld ⊢
     refine pure_ (i:=0) (N:=some 15) (v:=?_) (a':=?_) #[tt,ff,ff,ff,ff,ff,ff,ff,ff,ff,ff,ff] rfl rfl (any_of HT_.out (by kernel_rfl)) (fun _ _ _ h => h) (Or.inl ⟨by rfl,?_⟩) ?_ ?_
     rotate_left
     ·intro w'
      go_simp
      with_reducible rfl
     rotate_left
     ·simp only [Act.put,q1_,q2_,q3_,i64_w,i32_w]
      rfl
     refine pure_ (i:=1) (N:=some 16) (v:=?_) (a':=?_) #[tt,tt,ff,ff,ff,ff,ff,ff,ff,ff,ff,ff] rfl rfl (any_of HT_.out (by kernel_rfl)) (fun _ _ _ h => h) (Or.inl ⟨by rfl,?_⟩) ?_ ?_
     rotate_left
     ·intro w'
      go_simp
      with_reducible rfl
     rotate_left
     ·simp only [Act.put,q1_,q2_,q3_,i64_w,i32_w]
      rfl
     refine pure_ (i:=2) (N:=some 17) (v:=?_) (a':=?_) #[tt,tt,tt,ff,ff,ff,ff,ff,ff,ff,ff,ff] rfl rfl (any_of HT_.out (by kernel_rfl)) (fun _ _ _ h => h) (Or.inl ⟨by rfl,?_⟩) ?_ ?_
     rotate_left
     ·intro w'
      go_simp
      with_reducible rfl
     rotate_left
     ·simp only [Act.put,q1_,q2_,q3_,i64_w,i32_w]
      rfl
     refine pure_ (i:=4) (N:=some 19) (v:=?_) (a':=?_) #[tt,tt,tt,ff,tt,ff,ff,ff,ff,ff,ff,ff] rfl rfl (any_of HT_.out (by kernel_rfl)) (fun _ _ _ h => h) (Or.inl ⟨by rfl,?_⟩) ?_ ?_
     rotate_left
     ·intro w'
      go_simp
      with_reducible rfl
     rotate_left
     ·simp only [Act.put,q1_,q2_,q3_,i64_w,i32_w]
      rfl
     refine pure_ (i:=5) (N:=some 20) (v:=?_) (a':=?_) #[tt,tt,tt,ff,tt,tt,ff,ff,ff,ff,ff,ff] rfl rfl (any_of HT_.out (by kernel_rfl)) (fun _ _ _ h => h) (Or.inl ⟨by rfl,?_⟩) ?_ ?_
     rotate_left
     ·intro w'
      go_simp
      with_reducible rfl
     rotate_left
     ·simp only [Act.put,q1_,q2_,q3_,i64_w,i32_w]
      rfl
     refine pure_ (i:=6) (N:=some 21) (v:=?_) (a':=?_) #[tt,tt,tt,ff,tt,tt,tt,ff,ff,ff,ff,ff] rfl rfl (any_of HT_.out (by kernel_rfl)) (fun _ _ _ h => h) (Or.inl ⟨by rfl,?_⟩) ?_ ?_
     rotate_left
     ·intro w'
      go_simp
      with_reducible rfl
     rotate_left
     ·simp only [Act.put,q1_,q2_,q3_,i64_w,i32_w]
      rfl
     refine take_ (i:=3) (N:=some 18) (v:=?_) (a':=?_) #[tt,tt,tt,tt,tt,tt,tt,ff,ff,ff,ff,ff] rfl rfl (take_ofW HT_.out HW_.out (by kernel_rfl)) (fun _ _ _ h => h) (Or.inl ⟨by rfl,?_⟩) hHeld ?_ ?_
     rotate_left
     ·rintro w' ⟨s0,s1,s2,s3,s4,s5,s6,s7,s8,s9⟩
      go_simp
      with_reducible rfl
     rotate_left
     ·simp only [Act.put,q1_,q2_,q3_,i64_w,i32_w]
      rfl
     refine take_ (i:=7) (N:=some 22) (v:=?_) (a':=?_) #[tt,tt,tt,tt,tt,tt,tt,tt,ff,ff,ff,ff] rfl rfl (take_ofW HT_.out HW_.out (by kernel_rfl)) (fun _ _ _ h => h) (Or.inl ⟨by rfl,?_⟩) hHeld ?_ ?_
     rotate_left
     ·rintro w' ⟨s0,s1,s2,s3,s4,s5,s6,s7,s8,s9⟩
      go_simp
      with_reducible rfl
     rotate_left
     ·simp only [Act.put,q1_,q2_,q3_,i64_w,i32_w]
      rfl
     refine join_ (σ:=Nat × Nat) 2 #[tt,tt,tt,tt,tt,tt,tt,tt,tt,tt,ff,ff] (fun s_ => [(7,.pointer (some ⟨s_.1,0,none⟩)),(8,.pointer (some ⟨s_.2,0,none⟩))]) (fun s_ w' => (w'.cell? (ad166.add ((a1).toNat * 5)) = some (.int .i64 ((rd_T43 l0 a1).f0)) ∧ w'.cell? ⟨(ad166.add ((a1).toNat * 5)).block,(ad166.add ((a1).toNat * 5)).off + 1,none⟩ = some (.int .i64 ((rd_T43 l0 a1).f1)) ∧ w'.cell? ⟨(ad166.add ((a1).toNat * 5)).block,(ad166.add ((a1).toNat * 5)).off + 2,none⟩ = some (.slice A166_2 ((rd_T43 l0 a1).f2).length c166_2) ∧ w'.cell? ⟨(ad166.add ((a1).toNat * 5)).block,(ad166.add ((a1).toNat * 5)).off + 3,none⟩ = some (.slice A166_3 ((rd_T43 l0 a1).f3).length c166_3) ∧ w'.cell? ⟨(ad166.add ((a1).toNat * 5)).block,(ad166.add ((a1).toNat * 5)).off + 4,none⟩ = some (.slice A166_4 ((rd_T43 l0 a1).f4).length c166_4) ∧ w'.cell? (ad166.add ((a2).toNat * 5)) = some (.int .i64 ((rd_T43 l0 a2).f0)) ∧ w'.cell? ⟨(ad166.add ((a2).toNat * 5)).block,(ad166.add ((a2).toNat * 5)).off + 1,none⟩ = some (.int .i64 ((rd_T43 l0 a2).f1)) ∧ w'.cell? ⟨(ad166.add ((a2).toNat * 5)).block,(ad166.add ((a2).toNat * 5)).off + 2,none⟩ = some (.slice A167_2 ((rd_T43 l0 a2).f2).length c167_2) ∧ w'.cell? ⟨(ad166.add ((a2).toNat * 5)).block,(ad166.add ((a2).toNat * 5)).off + 3,none⟩ = some (.slice A167_3 ((rd_T43 l0 a2).f3).length c167_3) ∧ w'.cell? ⟨(ad166.add ((a2).toNat * 5)).block,(ad166.add ((a2).toNat * 5)).off + 4,none⟩ = some (.slice A167_4 ((rd_T43 l0 a2).f4).length c167_4)) ∧ (w'.heap[s_.1]? = some (.cells #[.int .i64 0,.int .i64 0,.slice none 0 0,.slice none 0 0,.slice none 0 0] 43 (0,0))) ∧ (w'.heap[s_.2]? = some (.cells #[.int .i64 0,.int .i64 0,.slice none 0 0,.slice none 0 0,.slice none 0 0] 43 (0,0))) ∧ (w.heap.size ≤ s_.1) ∧ (w.heap.size ≤ s_.1) ∧ (s_.2 ≠ s_.1) ∧ (s_.1 ≠ s_.2) ∧ (w.heap.size ≤ s_.2) ∧ (w.heap.size ≤ s_.2) ∧ (Below w.heap.size w w')) ?_ ?_
     rotate_left
     ·intro hCont
      refine two_ (i:=8) (j:=9) (Ni:=some 7) (Nj:=some 8) #[tt,tt,tt,tt,tt,tt,tt,tt,tt,ff,ff,ff] #[tt,tt,tt,tt,tt,tt,tt,tt,ff,tt,ff,ff] rfl rfl rfl rfl (two_of HT_.out (by kernel_rfl)) (by decide) (by decide) (fun K hK => ?_) (fun K hK => ?_)
      ·skip
       refine box_step ?hg (N:=7) ?hd (cs:=#[.int .i64 0,.int .i64 0,.slice none 0 0,.slice none 0 0,.slice none 0 0]) (t:=43) ?hr ?_;(case hd => rfl);(case hg => rfl);(case hr => first | (go_simp;done) | (go_simp;rfl))
       intro gb168 hg w12 hbox hb
       have n0_:=Aside0.mk (below_step (by repeat (first | (with_reducible first | exact HB.out | apply below_alloc | apply pw_below_drewN | apply below_drew1) | exact HB.out)) hb)
       have n1_:=Aside0.mk (hbox)
       have n2_:=Aside0.mk ((by rw [hg];exact (below_size (by repeat (first | (with_reducible first | exact HB.out | apply below_alloc | apply pw_below_drewN | apply below_drew1) | exact HB.out))) : w.heap.size ≤ gb168))
       have n3_:=Aside0.mk ((by rw [hg];exact (below_size (by repeat (first | (with_reducible first | exact HB.out | apply below_alloc | apply pw_below_drewN | apply below_drew1) | exact HB.out))) : w.heap.size ≤ gb168))
       clear HB
       have HB:=n0_
       have BK168:=n1_
       have GW168:=n2_
       have GE168:=n3_
       clear n0_ n1_ n2_ n3_
       clear hb hbox hg
       refine hK.out _ _ ⟨((HB.out.cell (World.block_lt_of_cell? w _ hw166_0)).trans hw166_0),((HB.out.cell (World.block_lt_of_cell? w _ hw166_1)).trans hw166_1),((HB.out.cell (World.block_lt_of_cell? w _ hw166_2)).trans hw166_2),((HB.out.cell (World.block_lt_of_cell? w _ hw166_3)).trans hw166_3),((HB.out.cell (World.block_lt_of_cell? w _ hw166_4)).trans hw166_4),((HB.out.cell (World.block_lt_of_cell? w _ hw167_0)).trans hw167_0),((HB.out.cell (World.block_lt_of_cell? w _ hw167_1)).trans hw167_1),((HB.out.cell (World.block_lt_of_cell? w _ hw167_2)).trans hw167_2),((HB.out.cell (World.block_lt_of_cell? w _ hw167_3)).trans hw167_3),((HB.out.cell (World.block_lt_of_cell? w _ hw167_4)).trans hw167_4)⟩ (fun hHeld => ?_)
       clear hK K
       refine norm_ (a':=?_) ?_ ?_
       rotate_left
       ·show Act.put _ (some 7) _ = _
        simp only [Act.put,q1_,q2_,q3_,i64_w,i32_w]
        rfl
       refine one_ (i:=9) (N:=some 8) #[tt,tt,tt,tt,tt,tt,tt,tt,tt,tt,ff,ff] rfl rfl (one_of HT_.out (by kernel_rfl)) (by decide) (fun K hK => ?_)
       refine box_step ?hg (N:=8) ?hd (cs:=#[.int .i64 0,.int .i64 0,.slice none 0 0,.slice none 0 0,.slice none 0 0]) (t:=43) ?hr ?_;(case hd => rfl);(case hg => rfl);(case hr => first | (go_simp;done) | (go_simp;rfl))
       intro gb169 hg w13 hbox hb
       have n0_:=Aside0.mk (blk_below (g:=gb168) (o:=.cells #[.int .i64 0,.int .i64 0,.slice none 0 0,.slice none 0 0,.slice none 0 0] 43 (0,0)) (by (with_reducible repeat (first | refine blk_drewN ?_ _ | refine blk_drew ?_ | refine blk_alloc ?_ _));exact BK168.out) hb)
       have n1_:=Aside0.mk (below_step (by repeat (first | (with_reducible first | exact HB.out | apply below_alloc | apply pw_below_drewN | apply below_drew1 | refine below_set ?_ GE168.out) | exact HB.out)) hb)
       have n2_:=Aside0.mk (hbox)
       have n3_:=Aside0.mk ((by rw [hg];exact (below_size (by repeat (first | (with_reducible first | exact HB.out | apply below_alloc | apply pw_below_drewN | apply below_drew1 | refine below_set ?_ GE168.out) | exact HB.out))) : w.heap.size ≤ gb169))
       have n4_:=Aside0.mk ((by rw [hg];exact (below_size (by repeat (first | (with_reducible first | exact HB.out | apply below_alloc | apply pw_below_drewN | apply below_drew1 | refine below_set ?_ GE168.out) | exact HB.out))) : w.heap.size ≤ gb169))
       have n5_:=Aside0.mk ((by rw [hg];exact Nat.ne_of_lt (blk_lt (g:=gb168) (o:=.cells #[.int .i64 0,.int .i64 0,.slice none 0 0,.slice none 0 0,.slice none 0 0] 43 (0,0)) (by (with_reducible repeat (first | refine blk_drewN ?_ _ | refine blk_drew ?_ | refine blk_alloc ?_ _));exact BK168.out)) : gb168 ≠ gb169))
       have n6_:=Aside0.mk ((by rw [hg];exact Nat.ne_of_gt (blk_lt (g:=gb168) (o:=.cells #[.int .i64 0,.int .i64 0,.slice none 0 0,.slice none 0 0,.slice none 0 0] 43 (0,0)) (by (with_reducible repeat (first | refine blk_drewN ?_ _ | refine blk_drew ?_ | refine blk_alloc ?_ _));exact BK168.out)) : gb169 ≠ gb168))
       clear BK168
       clear HB
       have BK168:=n0_
       have HB:=n1_
       have BK169:=n2_
       have GW169:=n3_
       have GE169:=n4_
       have NB168_169:=n5_
       have NB169_168:=n6_
       clear n0_ n1_ n2_ n3_ n4_ n5_ n6_
       clear hb hbox hg
       refine hK.out _ _ ⟨((HB.out.cell (World.block_lt_of_cell? w _ hw166_0)).trans hw166_0),((HB.out.cell (World.block_lt_of_cell? w _ hw166_1)).trans hw166_1),((HB.out.cell (World.block_lt_of_cell? w _ hw166_2)).trans hw166_2),((HB.out.cell (World.block_lt_of_cell? w _ hw166_3)).trans hw166_3),((HB.out.cell (World.block_lt_of_cell? w _ hw166_4)).trans hw166_4),((HB.out.cell (World.block_lt_of_cell? w _ hw167_0)).trans hw167_0),((HB.out.cell (World.block_lt_of_cell? w _ hw167_1)).trans hw167_1),((HB.out.cell (World.block_lt_of_cell? w _ hw167_2)).trans hw167_2),((HB.out.cell (World.block_lt_of_cell? w _ hw167_3)).trans hw167_3),((HB.out.cell (World.block_lt_of_cell? w _ hw167_4)).trans hw167_4)⟩ (fun hHeld => ?_)
       clear hK K
       refine norm_ (a':=?_) ?_ ?_
       rotate_left
       ·show Act.put _ (some 8) _ = _
        simp only [Act.put,q1_,q2_,q3_,i64_w,i32_w]
        rfl
       exact norm_ (by simp only [putAll,Act.put,List.setIfInBounds_toArray,List.set_cons_zero,List.set_cons_succ]) (hCont (gb168,gb169) _ ⟨hHeld,(by (with_reducible repeat (first | refine blk_drewN ?_ _ | refine blk_drew ?_ | refine blk_alloc ?_ _));exact BK168.out),(by (with_reducible repeat (first | refine blk_drewN ?_ _ | refine blk_drew ?_ | refine blk_alloc ?_ _));exact BK169.out),GW168.out,GE168.out,NB169_168.out,NB168_169.out,GW169.out,GE169.out,(by repeat (first | (with_reducible first | exact HB.out | apply below_alloc | apply pw_below_drewN | apply below_drew1 | refine below_set ?_ GE168.out | refine below_set ?_ GE169.out) | exact HB.out))⟩)
      ·skip
       refine box_step ?hg (N:=8) ?hd (cs:=#[.int .i64 0,.int .i64 0,.slice none 0 0,.slice none 0 0,.slice none 0 0]) (t:=43) ?hr ?_;(case hd => rfl);(case hg => rfl);(case hr => first | (go_simp;done) | (go_simp;rfl))
       intro gb169 hg w12 hbox hb
       have n0_:=Aside0.mk (below_step (by repeat (first | (with_reducible first | exact HB.out | apply below_alloc | apply pw_below_drewN | apply below_drew1) | exact HB.out)) hb)
       have n1_:=Aside0.mk (hbox)
       have n2_:=Aside0.mk ((by rw [hg];exact (below_size (by repeat (first | (with_reducible first | exact HB.out | apply below_alloc | apply pw_below_drewN | apply below_drew1) | exact HB.out))) : w.heap.size ≤ gb169))
       have n3_:=Aside0.mk ((by rw [hg];exact (below_size (by repeat (first | (with_reducible first | exact HB.out | apply below_alloc | apply pw_below_drewN | apply below_drew1) | exact HB.out))) : w.heap.size ≤ gb169))
       clear HB
       have HB:=n0_
       have BK169:=n1_
       have GW169:=n2_
       have GE169:=n3_
       clear n0_ n1_ n2_ n3_
       clear hb hbox hg
       refine hK.out _ _ ⟨((HB.out.cell (World.block_lt_of_cell? w _ hw166_0)).trans hw166_0),((HB.out.cell (World.block_lt_of_cell? w _ hw166_1)).trans hw166_1),((HB.out.cell (World.block_lt_of_cell? w _ hw166_2)).trans hw166_2),((HB.out.cell (World.block_lt_of_cell? w _ hw166_3)).trans hw166_3),((HB.out.cell (World.block_lt_of_cell? w _ hw166_4)).trans hw166_4),((HB.out.cell (World.block_lt_of_cell? w _ hw167_0)).trans hw167_0),((HB.out.cell (World.block_lt_of_cell? w _ hw167_1)).trans hw167_1),((HB.out.cell (World.block_lt_of_cell? w _ hw167_2)).trans hw167_2),((HB.out.cell (World.block_lt_of_cell? w _ hw167_3)).trans hw167_3),((HB.out.cell (World.block_lt_of_cell? w _ hw167_4)).trans hw167_4)⟩ (fun hHeld => ?_)
       clear hK K
       refine norm_ (a':=?_) ?_ ?_
       rotate_left
       ·show Act.put _ (some 8) _ = _
        simp only [Act.put,q1_,q2_,q3_,i64_w,i32_w]
        rfl
       refine one_ (i:=8) (N:=some 7) #[tt,tt,tt,tt,tt,tt,tt,tt,tt,tt,ff,ff] rfl rfl (one_of HT_.out (by kernel_rfl)) (by decide) (fun K hK => ?_)
       refine box_step ?hg (N:=7) ?hd (cs:=#[.int .i64 0,.int .i64 0,.slice none 0 0,.slice none 0 0,.slice none 0 0]) (t:=43) ?hr ?_;(case hd => rfl);(case hg => rfl);(case hr => first | (go_simp;done) | (go_simp;rfl))
       intro gb168 hg w13 hbox hb
       have n0_:=Aside0.mk (blk_below (g:=gb169) (o:=.cells #[.int .i64 0,.int .i64 0,.slice none 0 0,.slice none 0 0,.slice none 0 0] 43 (0,0)) (by (with_reducible repeat (first | refine blk_drewN ?_ _ | refine blk_drew ?_ | refine blk_alloc ?_ _));exact BK169.out) hb)
       have n1_:=Aside0.mk (below_step (by repeat (first | (with_reducible first | exact HB.out | apply below_alloc | apply pw_below_drewN | apply below_drew1 | refine below_set ?_ GE169.out) | exact HB.out)) hb)
       have n2_:=Aside0.mk (hbox)
       have n3_:=Aside0.mk ((by rw [hg];exact (below_size (by repeat (first | (with_reducible first | exact HB.out | apply below_alloc | apply pw_below_drewN | apply below_drew1 | refine below_set ?_ GE169.out) | exact HB.out))) : w.heap.size ≤ gb168))
       have n4_:=Aside0.mk ((by rw [hg];exact (below_size (by repeat (first | (with_reducible first | exact HB.out | apply below_alloc | apply pw_below_drewN | apply below_drew1 | refine below_set ?_ GE169.out) | exact HB.out))) : w.heap.size ≤ gb168))
       have n5_:=Aside0.mk ((by rw [hg];exact Nat.ne_of_lt (blk_lt (g:=gb169) (o:=.cells #[.int .i64 0,.int .i64 0,.slice none 0 0,.slice none 0 0,.slice none 0 0] 43 (0,0)) (by (with_reducible repeat (first | refine blk_drewN ?_ _ | refine blk_drew ?_ | refine blk_alloc ?_ _));exact BK169.out)) : gb169 ≠ gb168))
       have n6_:=Aside0.mk ((by rw [hg];exact Nat.ne_of_gt (blk_lt (g:=gb169) (o:=.cells #[.int .i64 0,.int .i64 0,.slice none 0 0,.slice none 0 0,.slice none 0 0] 43 (0,0)) (by (with_reducible repeat (first | refine blk_drewN ?_ _ | refine blk_drew ?_ | refine blk_alloc ?_ _));exact BK169.out)) : gb168 ≠ gb169))
       clear BK169
       clear HB
       have BK169:=n0_
       have HB:=n1_
       have BK168:=n2_
       have GW168:=n3_
       have GE168:=n4_
       have NB169_168:=n5_
       have NB168_169:=n6_
       clear n0_ n1_ n2_ n3_ n4_ n5_ n6_
       clear hb hbox hg
       refine hK.out _ _ ⟨((HB.out.cell (World.block_lt_of_cell? w _ hw166_0)).trans hw166_0),((HB.out.cell (World.block_lt_of_cell? w _ hw166_1)).trans hw166_1),((HB.out.cell (World.block_lt_of_cell? w _ hw166_2)).trans hw166_2),((HB.out.cell (World.block_lt_of_cell? w _ hw166_3)).trans hw166_3),((HB.out.cell (World.block_lt_of_cell? w _ hw166_4)).trans hw166_4),((HB.out.cell (World.block_lt_of_cell? w _ hw167_0)).trans hw167_0),((HB.out.cell (World.block_lt_of_cell? w _ hw167_1)).trans hw167_1),((HB.out.cell (World.block_lt_of_cell? w _ hw167_2)).trans hw167_2),((HB.out.cell (World.block_lt_of_cell? w _ hw167_3)).trans hw167_3),((HB.out.cell (World.block_lt_of_cell? w _ hw167_4)).trans hw167_4)⟩ (fun hHeld => ?_)
       clear hK K
       refine norm_ (a':=?_) ?_ ?_
       rotate_left
       ·show Act.put _ (some 7) _ = _
        simp only [Act.put,q1_,q2_,q3_,i64_w,i32_w]
        rfl
       exact norm_ (by simp only [putAll,Act.put,List.setIfInBounds_toArray,List.set_cons_zero,List.set_cons_succ]) (hCont (gb168,gb169) _ ⟨hHeld,(by (with_reducible repeat (first | refine blk_drewN ?_ _ | refine blk_drew ?_ | refine blk_alloc ?_ _));exact BK168.out),(by (with_reducible repeat (first | refine blk_drewN ?_ _ | refine blk_drew ?_ | refine blk_alloc ?_ _));exact BK169.out),GW168.out,GE168.out,NB169_168.out,NB168_169.out,GW169.out,GE169.out,(by repeat (first | (with_reducible first | exact HB.out | apply below_alloc | apply pw_below_drewN | apply below_drew1 | refine below_set ?_ GE169.out | refine below_set ?_ GE168.out) | exact HB.out))⟩)
     rintro ⟨gb168,gb169⟩ w14 ⟨hS_,h0_,h1_,h2_,h3_,h4_,h5_,h6_,h7_,h8_⟩
     have n0_ : Aside0 (w14.heap[gb168]? = some (.cells #[.int .i64 0,.int .i64 0,.slice none 0 0,.slice none 0 0,.slice none 0 0] 43 (0,0))):=⟨h0_⟩
     have n1_ : Aside0 (w14.heap[gb169]? = some (.cells #[.int .i64 0,.int .i64 0,.slice none 0 0,.slice none 0 0,.slice none 0 0] 43 (0,0))):=⟨h1_⟩
     have n2_ : Aside0 (w.heap.size ≤ gb168):=⟨h2_⟩
     have n3_ : Aside0 (w.heap.size ≤ gb168):=⟨h3_⟩
     have n4_ : Aside0 (gb169 ≠ gb168):=⟨h4_⟩
     have n5_ : Aside0 (gb168 ≠ gb169):=⟨h5_⟩
     have n6_ : Aside0 (w.heap.size ≤ gb169):=⟨h6_⟩
     have n7_ : Aside0 (w.heap.size ≤ gb169):=⟨h7_⟩
     have n8_ : Aside0 (Below w.heap.size w w14):=⟨h8_⟩
     clear HB
     clear h0_ h1_ h2_ h3_ h4_ h5_ h6_ h7_ h8_
     have BK168:=n0_
     have BK169:=n1_
     have GW168:=n2_
     have GE168:=n3_
     have NB169_168:=n4_
     have NB168_169:=n5_
     have GW169:=n6_
     have GE169:=n7_
     have HB:=n8_
     clear n0_ n1_ n2_ n3_ n4_ n5_ n6_ n7_ n8_
     have hHeld : w14.cell? (ad166.add ((a1).toNat * 5)) = some (.int .i64 ((rd_T43 l0 a1).f0)) ∧ w14.cell? ⟨(ad166.add ((a1).toNat * 5)).block,(ad166.add ((a1).toNat * 5)).off + 1,none⟩ = some (.int .i64 ((rd_T43 l0 a1).f1)) ∧ w14.cell? ⟨(ad166.add ((a1).toNat * 5)).block,(ad166.add ((a1).toNat * 5)).off + 2,none⟩ = some (.slice A166_2 ((rd_T43 l0 a1).f2).length c166_2) ∧ w14.cell? ⟨(ad166.add ((a1).toNat * 5)).block,(ad166.add ((a1).toNat * 5)).off + 3,none⟩ = some (.slice A166_3 ((rd_T43 l0 a1).f3).length c166_3) ∧ w14.cell? ⟨(ad166.add ((a1).toNat * 5)).block,(ad166.add ((a1).toNat * 5)).off + 4,none⟩ = some (.slice A166_4 ((rd_T43 l0 a1).f4).length c166_4) ∧ w14.cell? (ad166.add ((a2).toNat * 5)) = some (.int .i64 ((rd_T43 l0 a2).f0)) ∧ w14.cell? ⟨(ad166.add ((a2).toNat * 5)).block,(ad166.add ((a2).toNat * 5)).off + 1,none⟩ = some (.int .i64 ((rd_T43 l0 a2).f1)) ∧ w14.cell? ⟨(ad166.add ((a2).toNat * 5)).block,(ad166.add ((a2).toNat * 5)).off + 2,none⟩ = some (.slice A167_2 ((rd_T43 l0 a2).f2).length c167_2) ∧ w14.cell? ⟨(ad166.add ((a2).toNat * 5)).block,(ad166.add ((a2).toNat * 5)).off + 3,none⟩ = some (.slice A167_3 ((rd_T43 l0 a2).f3).length c167_3) ∧ w14.cell? ⟨(ad166.add ((a2).toNat * 5)).block,(ad166.add ((a2).toNat * 5)).off + 4,none⟩ = some (.slice A167_4 ((rd_T43 l0 a2).f4).length c167_4):=hS_
     refine norm_ (a':=?_) ?_ ?_
     rotate_left
     ·simp only [putAll,Act.put,List.setIfInBounds_toArray,List.set_cons_zero,List.set_cons_succ]
      rfl
     refine one_ (i:=10) (N:=none) #[tt,tt,tt,tt,tt,tt,tt,tt,tt,tt,tt,ff] rfl rfl (one_of HT_.out (by kernel_rfl)) (by decide) (fun K hK => ?_)
     have hs15 : w14.cell? ⟨gb168,0,none⟩ = some (.int .i64 0):=(blk_cell BK168.out 0).trans rfl
     have hfs15:=blk_frozen BK168.out 0
     have hns15_1:=NB169_168.out
     have hms15_1:=NB168_169.out
     have hs16 : w14.cell? ⟨gb168,1,none⟩ = some (.int .i64 0):=(blk_cell BK168.out 1).trans rfl
     have hfs16:=blk_frozen BK168.out 1
     have hns16_1:=NB169_168.out
     have hms16_1:=NB168_169.out
     have hs17 : w14.cell? ⟨gb168,2,none⟩ = some (.slice none 0 0):=(blk_cell BK168.out 2).trans rfl
     have hfs17:=blk_frozen BK168.out 2
     have hns17_1:=NB169_168.out
     have hms17_1:=NB168_169.out
     have hs18 : w14.cell? ⟨gb168,3,none⟩ = some (.slice none 0 0):=(blk_cell BK168.out 3).trans rfl
     have hfs18:=blk_frozen BK168.out 3
     have hns18_1:=NB169_168.out
     have hms18_1:=NB168_169.out
     have hs19 : w14.cell? ⟨gb168,4,none⟩ = some (.slice none 0 0):=(blk_cell BK168.out 4).trans rfl
     have hfs19:=blk_frozen BK168.out 4
     have hns19_1:=NB169_168.out
     have hms19_1:=NB168_169.out
     refine skip_ (w1:=?_) (by rfl) rfl ?_ ?_
     rotate_left
     ·go_simp
      rfl
     refine hK.out _ _ ⟨((cell_far (p:=⟨gb168,_,none⟩) (by first | exact Nat.ne_of_lt (Nat.lt_of_lt_of_le (by have:=World.block_lt_of_cell? _ _ hw166_0;first | rwa [add_block] at this | exact this) GW168.out) | (rw [add_block];exact Nat.ne_of_lt (Nat.lt_of_lt_of_le (by have:=World.block_lt_of_cell? _ _ hw166_0;first | rwa [add_block] at this | exact this) GW168.out)) | (show (Addr.add _ _).block ≠ _;rw [add_block];exact Nat.ne_of_lt (Nat.lt_of_lt_of_le (by have:=World.block_lt_of_cell? _ _ hw166_0;first | rwa [add_block] at this | exact this) GW168.out)) | (dsimp only;exact Nat.ne_of_lt (Nat.lt_of_lt_of_le (by have:=World.block_lt_of_cell? _ _ hw166_0;first | rwa [add_block] at this | exact this) GW168.out))) _).trans (((cell_far (p:=⟨gb168,_,none⟩) (by first | exact Nat.ne_of_lt (Nat.lt_of_lt_of_le (by have:=World.block_lt_of_cell? _ _ hw166_0;first | rwa [add_block] at this | exact this) GW168.out) | (rw [add_block];exact Nat.ne_of_lt (Nat.lt_of_lt_of_le (by have:=World.block_lt_of_cell? _ _ hw166_0;first | rwa [add_block] at this | exact this) GW168.out)) | (show (Addr.add _ _).block ≠ _;rw [add_block];exact Nat.ne_of_lt (Nat.lt_of_lt_of_le (by have:=World.block_lt_of_cell? _ _ hw166_0;first | rwa [add_block] at this | exact this) GW168.out)) | (dsimp only;exact Nat.ne_of_lt (Nat.lt_of_lt_of_le (by have:=World.block_lt_of_cell? _ _ hw166_0;first | rwa [add_block] at this | exact this) GW168.out))) _).trans (((cell_far (p:=⟨gb168,_,none⟩) (by first | exact Nat.ne_of_lt (Nat.lt_of_lt_of_le (by have:=World.block_lt_of_cell? _ _ hw166_0;first | rwa [add_block] at this | exact this) GW168.out) | (rw [add_block];exact Nat.ne_of_lt (Nat.lt_of_lt_of_le (by have:=World.block_lt_of_cell? _ _ hw166_0;first | rwa [add_block] at this | exact this) GW168.out)) | (show (Addr.add _ _).block ≠ _;rw [add_block];exact Nat.ne_of_lt (Nat.lt_of_lt_of_le (by have:=World.block_lt_of_cell? _ _ hw166_0;first | rwa [add_block] at this | exact this) GW168.out)) | (dsimp only;exact Nat.ne_of_lt (Nat.lt_of_lt_of_le (by have:=World.block_lt_of_cell? _ _ hw166_0;first | rwa [add_block] at this | exact this) GW168.out))) _).trans (((cell_far (p:=⟨gb168,_,none⟩) (by first | exact Nat.ne_of_lt (Nat.lt_of_lt_of_le (by have:=World.block_lt_of_cell? _ _ hw166_0;first | rwa [add_block] at this | exact this) GW168.out) | (rw [add_block];exact Nat.ne_of_lt (Nat.lt_of_lt_of_le (by have:=World.block_lt_of_cell? _ _ hw166_0;first | rwa [add_block] at this | exact this) GW168.out)) | (show (Addr.add _ _).block ≠ _;rw [add_block];exact Nat.ne_of_lt (Nat.lt_of_lt_of_le (by have:=World.block_lt_of_cell? _ _ hw166_0;first | rwa [add_block] at this | exact this) GW168.out)) | (dsimp only;exact Nat.ne_of_lt (Nat.lt_of_lt_of_le (by have:=World.block_lt_of_cell? _ _ hw166_0;first | rwa [add_block] at this | exact this) GW168.out))) _).trans (((cell_far (p:=⟨gb168,_,none⟩) (by first | exact Nat.ne_of_lt (Nat.lt_of_lt_of_le (by have:=World.block_lt_of_cell? _ _ hw166_0;first | rwa [add_block] at this | exact this) GW168.out) | (rw [add_block];exact Nat.ne_of_lt (Nat.lt_of_lt_of_le (by have:=World.block_lt_of_cell? _ _ hw166_0;first | rwa [add_block] at this | exact this) GW168.out)) | (show (Addr.add _ _).block ≠ _;rw [add_block];exact Nat.ne_of_lt (Nat.lt_of_lt_of_le (by have:=World.block_lt_of_cell? _ _ hw166_0;first | rwa [add_block] at this | exact this) GW168.out)) | (dsimp only;exact Nat.ne_of_lt (Nat.lt_of_lt_of_le (by have:=World.block_lt_of_cell? _ _ hw166_0;first | rwa [add_block] at this | exact this) GW168.out))) _).trans (hHeld.1)))))))))),((cell_far (p:=⟨gb168,_,none⟩) (by first | exact Nat.ne_of_lt (Nat.lt_of_lt_of_le (by have:=World.block_lt_of_cell? _ _ hw166_1;first | rwa [add_block] at this | exact this) GW168.out) | (rw [add_block];exact Nat.ne_of_lt (Nat.lt_of_lt_of_le (by have:=World.block_lt_of_cell? _ _ hw166_1;first | rwa [add_block] at this | exact this) GW168.out)) | (show (Addr.add _ _).block ≠ _;rw [add_block];exact Nat.ne_of_lt (Nat.lt_of_lt_of_le (by have:=World.block_lt_of_cell? _ _ hw166_1;first | rwa [add_block] at this | exact this) GW168.out)) | (dsimp only;exact Nat.ne_of_lt (Nat.lt_of_lt_of_le (by have:=World.block_lt_of_cell? _ _ hw166_1;first | rwa [add_block] at this | exact this) GW168.out))) _).trans (((cell_far (p:=⟨gb168,_,none⟩) (by first | exact Nat.ne_of_lt (Nat.lt_of_lt_of_le (by have:=World.block_lt_of_cell? _ _ hw166_1;first | rwa [add_block] at this | exact this) GW168.out) | (rw [add_block];exact Nat.ne_of_lt (Nat.lt_of_lt_of_le (by have:=World.block_lt_of_cell? _ _ hw166_1;first | rwa [add_block] at this | exact this) GW168.out)) | (show (Addr.add _ _).block ≠ _;rw [add_block];exact Nat.ne_of_lt (Nat.lt_of_lt_of_le (by have:=World.block_lt_of_cell? _ _ hw166_1;first | rwa [add_block] at this | exact this) GW168.out)) | (dsimp only;exact Nat.ne_of_lt (Nat.lt_of_lt_of_le (by have:=World.block_lt_of_cell? _ _ hw166_1;first | rwa [add_block] at this | exact this) GW168.out))) _).trans (((cell_far (p:=⟨gb168,_,none⟩) (by first | exact Nat.ne_of_lt (Nat.lt_of_lt_of_le (by have:=World.block_lt_of_cell? _ _ hw166_1;first | rwa [add_block] at this | exact this) GW168.out) | (rw [add_block];exact Nat.ne_of_lt (Nat.lt_of_lt_of_le (by have:=World.block_lt_of_cell? _ _ hw166_1;first | rwa [add_block] at this | exact this) GW168.out)) | (show (Addr.add _ _).block ≠ _;rw [add_block];exact Nat.ne_of_lt (Nat.lt_of_lt_of_le (by have:=World.block_lt_of_cell? _ _ hw166_1;first | rwa [add_block] at this | exact this) GW168.out)) | (dsimp only;exact Nat.ne_of_lt (Nat.lt_of_lt_of_le (by have:=World.block_lt_of_cell? _ _ hw166_1;first | rwa [add_block] at this | exact this) GW168.out))) _).trans (((cell_far (p:=⟨gb168,_,none⟩) (by first | exact Nat.ne_of_lt (Nat.lt_of_lt_of_le (by have:=World.block_lt_of_cell? _ _ hw166_1;first | rwa [add_block] at this | exact this) GW168.out) | (rw [add_block];exact Nat.ne_of_lt (Nat.lt_of_lt_of_le (by have:=World.block_lt_of_cell? _ _ hw166_1;first | rwa [add_block] at this | exact this) GW168.out)) | (show (Addr.add _ _).block ≠ _;rw [add_block];exact Nat.ne_of_lt (Nat.lt_of_lt_of_le (by have:=World.block_lt_of_cell? _ _ hw166_1;first | rwa [add_block] at this | exact this) GW168.out)) | (dsimp only;exact Nat.ne_of_lt (Nat.lt_of_lt_of_le (by have:=World.block_lt_of_cell? _ _ hw166_1;first | rwa [add_block] at this | exact this) GW168.out))) _).trans (((cell_far (p:=⟨gb168,_,none⟩) (by first | exact Nat.ne_of_lt (Nat.lt_of_lt_of_le (by have:=World.block_lt_of_cell? _ _ hw166_1;first | rwa [add_block] at this | exact this) GW168.out) | (rw [add_block];exact Nat.ne_of_lt (Nat.lt_of_lt_of_le (by have:=World.block_lt_of_cell? _ _ hw166_1;first | rwa [add_block] at this | exact this) GW168.out)) | (show (Addr.add _ _).block ≠ _;rw [add_block];exact Nat.ne_of_lt (Nat.lt_of_lt_of_le (by have:=World.block_lt_of_cell? _ _ hw166_1;first | rwa [add_block] at this | exact this) GW168.out)) | (dsimp only;exact Nat.ne_of_lt (Nat.lt_of_lt_of_le (by have:=World.block_lt_of_cell? _ _ hw166_1;first | rwa [add_block] at this | exact this) GW168.out))) _).trans (hHeld.2.1)))))))))),((cell_far (p:=⟨gb168,_,none⟩) (by first | exact Nat.ne_of_lt (Nat.lt_of_lt_of_le (by have:=World.block_lt_of_cell? _ _ hw166_2;first | rwa [add_block] at this | exact this) GW168.out) | (rw [add_block];exact Nat.ne_of_lt (Nat.lt_of_lt_of_le (by have:=World.block_lt_of_cell? _ _ hw166_2;first | rwa [add_block] at this | exact this) GW168.out)) | (show (Addr.add _ _).block ≠ _;rw [add_block];exact Nat.ne_of_lt (Nat.lt_of_lt_of_le (by have:=World.block_lt_of_cell? _ _ hw166_2;first | rwa [add_block] at this | exact this) GW168.out)) | (dsimp only;exact Nat.ne_of_lt (Nat.lt_of_lt_of_le (by have:=World.block_lt_of_cell? _ _ hw166_2;first | rwa [add_block] at this | exact this) GW168.out))) _).trans (((cell_far (p:=⟨gb168,_,none⟩) (by first | exact Nat.ne_of_lt (Nat.lt_of_lt_of_le (by have:=World.block_lt_of_cell? _ _ hw166_2;first | rwa [add_block] at this | exact this) GW168.out) | (rw [add_block];exact Nat.ne_of_lt (Nat.lt_of_lt_of_le (by have:=World.block_lt_of_cell? _ _ hw166_2;first | rwa [add_block] at this | exact this) GW168.out)) | (show (Addr.add _ _).block ≠ _;rw [add_block];exact Nat.ne_of_lt (Nat.lt_of_lt_of_le (by have:=World.block_lt_of_cell? _ _ hw166_2;first | rwa [add_block] at this | exact this) GW168.out)) | (dsimp only;exact Nat.ne_of_lt (Nat.lt_of_lt_of_le (by have:=World.block_lt_of_cell? _ _ hw166_2;first | rwa [add_block] at this | exact this) GW168.out))) _).trans (((cell_far (p:=⟨gb168,_,none⟩) (by first | exact Nat.ne_of_lt (Nat.lt_of_lt_of_le (by have:=World.block_lt_of_cell? _ _ hw166_2;first | rwa [add_block] at this | exact this) GW168.out) | (rw [add_block];exact Nat.ne_of_lt (Nat.lt_of_lt_of_le (by have:=World.block_lt_of_cell? _ _ hw166_2;first | rwa [add_block] at this | exact this) GW168.out)) | (show (Addr.add _ _).block ≠ _;rw [add_block];exact Nat.ne_of_lt (Nat.lt_of_lt_of_le (by have:=World.block_lt_of_cell? _ _ hw166_2;first | rwa [add_block] at this | exact this) GW168.out)) | (dsimp only;exact Nat.ne_of_lt (Nat.lt_of_lt_of_le (by have:=World.block_lt_of_cell? _ _ hw166_2;first | rwa [add_block] at this | exact this) GW168.out))) _).trans (((cell_far (p:=⟨gb168,_,none⟩) (by first | exact Nat.ne_of_lt (Nat.lt_of_lt_of_le (by have:=World.block_lt_of_cell? _ _ hw166_2;first | rwa [add_block] at this | exact this) GW168.out) | (rw [add_block];exact Nat.ne_of_lt (Nat.lt_of_lt_of_le (by have:=World.block_lt_of_cell? _ _ hw166_2;first | rwa [add_block] at this | exact this) GW168.out)) | (show (Addr.add _ _).block ≠ _;rw [add_block];exact Nat.ne_of_lt (Nat.lt_of_lt_of_le (by have:=World.block_lt_of_cell? _ _ hw166_2;first | rwa [add_block] at this | exact this) GW168.out)) | (dsimp only;exact Nat.ne_of_lt (Nat.lt_of_lt_of_le (by have:=World.block_lt_of_cell? _ _ hw166_2;first | rwa [add_block] at this | exact this) GW168.out))) _).trans (((cell_far (p:=⟨gb168,_,none⟩) (by first | exact Nat.ne_of_lt (Nat.lt_of_lt_of_le (by have:=World.block_lt_of_cell? _ _ hw166_2;first | rwa [add_block] at this | exact this) GW168.out) | (rw [add_block];exact Nat.ne_of_lt (Nat.lt_of_lt_of_le (by have:=World.block_lt_of_cell? _ _ hw166_2;first | rwa [add_block] at this | exact this) GW168.out)) | (show (Addr.add _ _).block ≠ _;rw [add_block];exact Nat.ne_of_lt (Nat.lt_of_lt_of_le (by have:=World.block_lt_of_cell? _ _ hw166_2;first | rwa [add_block] at this | exact this) GW168.out)) | (dsimp only;exact Nat.ne_of_lt (Nat.lt_of_lt_of_le (by have:=World.block_lt_of_cell? _ _ hw166_2;first | rwa [add_block] at this | exact this) GW168.out))) _).trans (hHeld.2.2.1)))))))))),((cell_far (p:=⟨gb168,_,none⟩) (by first | exact Nat.ne_of_lt (Nat.lt_of_lt_of_le (by have:=World.block_lt_of_cell? _ _ hw166_3;first | rwa [add_block] at this | exact this) GW168.out) | (rw [add_block];exact Nat.ne_of_lt (Nat.lt_of_lt_of_le (by have:=World.block_lt_of_cell? _ _ hw166_3;first | rwa [add_block] at this | exact this) GW168.out)) | (show (Addr.add _ _).block ≠ _;rw [add_block];exact Nat.ne_of_lt (Nat.lt_of_lt_of_le (by have:=World.block_lt_of_cell? _ _ hw166_3;first | rwa [add_block] at this | exact this) GW168.out)) | (dsimp only;exact Nat.ne_of_lt (Nat.lt_of_lt_of_le (by have:=World.block_lt_of_cell? _ _ hw166_3;first | rwa [add_block] at this | exact this) GW168.out))) _).trans (((cell_far (p:=⟨gb168,_,none⟩) (by first | exact Nat.ne_of_lt (Nat.lt_of_lt_of_le (by have:=World.block_lt_of_cell? _ _ hw166_3;first | rwa [add_block] at this | exact this) GW168.out) | (rw [add_block];exact Nat.ne_of_lt (Nat.lt_of_lt_of_le (by have:=World.block_lt_of_cell? _ _ hw166_3;first | rwa [add_block] at this | exact this) GW168.out)) | (show (Addr.add _ _).block ≠ _;rw [add_block];exact Nat.ne_of_lt (Nat.lt_of_lt_of_le (by have:=World.block_lt_of_cell? _ _ hw166_3;first | rwa [add_block] at this | exact this) GW168.out)) | (dsimp only;exact Nat.ne_of_lt (Nat.lt_of_lt_of_le (by have:=World.block_lt_of_cell? _ _ hw166_3;first | rwa [add_block] at this | exact this) GW168.out))) _).trans (((cell_far (p:=⟨gb168,_,none⟩) (by first | exact Nat.ne_of_lt (Nat.lt_of_lt_of_le (by have:=World.block_lt_of_cell? _ _ hw166_3;first | rwa [add_block] at this | exact this) GW168.out) | (rw [add_block];exact Nat.ne_of_lt (Nat.lt_of_lt_of_le (by have:=World.block_lt_of_cell? _ _ hw166_3;first | rwa [add_block] at this | exact this) GW168.out)) | (show (Addr.add _ _).block ≠ _;rw [add_block];exact Nat.ne_of_lt (Nat.lt_of_lt_of_le (by have:=World.block_lt_of_cell? _ _ hw166_3;first | rwa [add_block] at this | exact this) GW168.out)) | (dsimp only;exact Nat.ne_of_lt (Nat.lt_of_lt_of_le (by have:=World.block_lt_of_cell? _ _ hw166_3;first | rwa [add_block] at this | exact this) GW168.out))) _).trans (((cell_far (p:=⟨gb168,_,none⟩) (by first | exact Nat.ne_of_lt (Nat.lt_of_lt_of_le (by have:=World.block_lt_of_cell? _ _ hw166_3;first | rwa [add_block] at this | exact this) GW168.out) | (rw [add_block];exact Nat.ne_of_lt (Nat.lt_of_lt_of_le (by have:=World.block_lt_of_cell? _ _ hw166_3;first | rwa [add_block] at this | exact this) GW168.out)) | (show (Addr.add _ _).block ≠ _;rw [add_block];exact Nat.ne_of_lt (Nat.lt_of_lt_of_le (by have:=World.block_lt_of_cell? _ _ hw166_3;first | rwa [add_block] at this | exact this) GW168.out)) | (dsimp only;exact Nat.ne_of_lt (Nat.lt_of_lt_of_le (by have:=World.block_lt_of_cell? _ _ hw166_3;first | rwa [add_block] at this | exact this) GW168.out))) _).trans (((cell_far (p:=⟨gb168,_,none⟩) (by first | exact Nat.ne_of_lt (Nat.lt_of_lt_of_le (by have:=World.block_lt_of_cell? _ _ hw166_3;first | rwa [add_block] at this | exact this) GW168.out) | (rw [add_block];exact Nat.ne_of_lt (Nat.lt_of_lt_of_le (by have:=World.block_lt_of_cell? _ _ hw166_3;first | rwa [add_block] at this | exact this) GW168.out)) | (show (Addr.add _ _).block ≠ _;rw [add_block];exact Nat.ne_of_lt (Nat.lt_of_lt_of_le (by have:=World.block_lt_of_cell? _ _ hw166_3;first | rwa [add_block] at this | exact this) GW168.out)) | (dsimp only;exact Nat.ne_of_lt (Nat.lt_of_lt_of_le (by have:=World.block_lt_of_cell? _ _ hw166_3;first | rwa [add_block] at this | exact this) GW168.out))) _).trans (hHeld.2.2.2.1)))))))))),((cell_far (p:=⟨gb168,_,none⟩) (by first | exact Nat.ne_of_lt (Nat.lt_of_lt_of_le (by have:=World.block_lt_of_cell? _ _ hw166_4;first | rwa [add_block] at this | exact this) GW168.out) | (rw [add_block];exact Nat.ne_of_lt (Nat.lt_of_lt_of_le (by have:=World.block_lt_of_cell? _ _ hw166_4;first | rwa [add_block] at this | exact this) GW168.out)) | (show (Addr.add _ _).block ≠ _;rw [add_block];exact Nat.ne_of_lt (Nat.lt_of_lt_of_le (by have:=World.block_lt_of_cell? _ _ hw166_4;first | rwa [add_block] at this | exact this) GW168.out)) | (dsimp only;exact Nat.ne_of_lt (Nat.lt_of_lt_of_le (by have:=World.block_lt_of_cell? _ _ hw166_4;first | rwa [add_block] at this | exact this) GW168.out))) _).trans (((cell_far (p:=⟨gb168,_,none⟩) (by first | exact Nat.ne_of_lt (Nat.lt_of_lt_of_le (by have:=World.block_lt_of_cell? _ _ hw166_4;first | rwa [add_block] at this | exact this) GW168.out) | (rw [add_block];exact Nat.ne_of_lt (Nat.lt_of_lt_of_le (by have:=World.block_lt_of_cell? _ _ hw166_4;first | rwa [add_block] at this | exact this) GW168.out)) | (show (Addr.add _ _).block ≠ _;rw [add_block];exact Nat.ne_of_lt (Nat.lt_of_lt_of_le (by have:=World.block_lt_of_cell? _ _ hw166_4;first | rwa [add_block] at this | exact this) GW168.out)) | (dsimp only;exact Nat.ne_of_lt (Nat.lt_of_lt_of_le (by have:=World.block_lt_of_cell? _ _ hw166_4;first | rwa [add_block] at this | exact this) GW168.out))) _).trans (((cell_far (p:=⟨gb168,_,none⟩) (by first | exact Nat.ne_of_lt (Nat.lt_of_lt_of_le (by have:=World.block_lt_of_cell? _ _ hw166_4;first | rwa [add_block] at this | exact this) GW168.out) | (rw [add_block];exact Nat.ne_of_lt (Nat.lt_of_lt_of_le (by have:=World.block_lt_of_cell? _ _ hw166_4;first | rwa [add_block] at this | exact this) GW168.out)) | (show (Addr.add _ _).block ≠ _;rw [add_block];exact Nat.ne_of_lt (Nat.lt_of_lt_of_le (by have:=World.block_lt_of_cell? _ _ hw166_4;first | rwa [add_block] at this | exact this) GW168.out)) | (dsimp only;exact Nat.ne_of_lt (Nat.lt_of_lt_of_le (by have:=World.block_lt_of_cell? _ _ hw166_4;first | rwa [add_block] at this | exact this) GW168.out))) _).trans (((cell_far (p:=⟨gb168,_,none⟩) (by first | exact Nat.ne_of_lt (Nat.lt_of_lt_of_le (by have:=World.block_lt_of_cell? _ _ hw166_4;first | rwa [add_block] at this | exact this) GW168.out) | (rw [add_block];exact Nat.ne_of_lt (Nat.lt_of_lt_of_le (by have:=World.block_lt_of_cell? _ _ hw166_4;first | rwa [add_block] at this | exact this) GW168.out)) | (show (Addr.add _ _).block ≠ _;rw [add_block];exact Nat.ne_of_lt (Nat.lt_of_lt_of_le (by have:=World.block_lt_of_cell? _ _ hw166_4;first | rwa [add_block] at this | exact this) GW168.out)) | (dsimp only;exact Nat.ne_of_lt (Nat.lt_of_lt_of_le (by have:=World.block_lt_of_cell? _ _ hw166_4;first | rwa [add_block] at this | exact this) GW168.out))) _).trans (((cell_far (p:=⟨gb168,_,none⟩) (by first | exact Nat.ne_of_lt (Nat.lt_of_lt_of_le (by have:=World.block_lt_of_cell? _ _ hw166_4;first | rwa [add_block] at this | exact this) GW168.out) | (rw [add_block];exact Nat.ne_of_lt (Nat.lt_of_lt_of_le (by have:=World.block_lt_of_cell? _ _ hw166_4;first | rwa [add_block] at this | exact this) GW168.out)) | (show (Addr.add _ _).block ≠ _;rw [add_block];exact Nat.ne_of_lt (Nat.lt_of_lt_of_le (by have:=World.block_lt_of_cell? _ _ hw166_4;first | rwa [add_block] at this | exact this) GW168.out)) | (dsimp only;exact Nat.ne_of_lt (Nat.lt_of_lt_of_le (by have:=World.block_lt_of_cell? _ _ hw166_4;first | rwa [add_block] at this | exact this) GW168.out))) _).trans (hHeld.2.2.2.2.1)))))))))),((cell_far (p:=⟨gb168,_,none⟩) (by first | exact Nat.ne_of_lt (Nat.lt_of_lt_of_le (by have:=World.block_lt_of_cell? _ _ hw167_0;first | rwa [add_block] at this | exact this) GW168.out) | (rw [add_block];exact Nat.ne_of_lt (Nat.lt_of_lt_of_le (by have:=World.block_lt_of_cell? _ _ hw167_0;first | rwa [add_block] at this | exact this) GW168.out)) | (show (Addr.add _ _).block ≠ _;rw [add_block];exact Nat.ne_of_lt (Nat.lt_of_lt_of_le (by have:=World.block_lt_of_cell? _ _ hw167_0;first | rwa [add_block] at this | exact this) GW168.out)) | (dsimp only;exact Nat.ne_of_lt (Nat.lt_of_lt_of_le (by have:=World.block_lt_of_cell? _ _ hw167_0;first | rwa [add_block] at this | exact this) GW168.out))) _).trans (((cell_far (p:=⟨gb168,_,none⟩) (by first | exact Nat.ne_of_lt (Nat.lt_of_lt_of_le (by have:=World.block_lt_of_cell? _ _ hw167_0;first | rwa [add_block] at this | exact this) GW168.out) | (rw [add_block];exact Nat.ne_of_lt (Nat.lt_of_lt_of_le (by have:=World.block_lt_of_cell? _ _ hw167_0;first | rwa [add_block] at this | exact this) GW168.out)) | (show (Addr.add _ _).block ≠ _;rw [add_block];exact Nat.ne_of_lt (Nat.lt_of_lt_of_le (by have:=World.block_lt_of_cell? _ _ hw167_0;first | rwa [add_block] at this | exact this) GW168.out)) | (dsimp only;exact Nat.ne_of_lt (Nat.lt_of_lt_of_le (by have:=World.block_lt_of_cell? _ _ hw167_0;first | rwa [add_block] at this | exact this) GW168.out))) _).trans (((cell_far (p:=⟨gb168,_,none⟩) (by first | exact Nat.ne_of_lt (Nat.lt_of_lt_of_le (by have:=World.block_lt_of_cell? _ _ hw167_0;first | rwa [add_block] at this | exact this) GW168.out) | (rw [add_block];exact Nat.ne_of_lt (Nat.lt_of_lt_of_le (by have:=World.block_lt_of_cell? _ _ hw167_0;first | rwa [add_block] at this | exact this) GW168.out)) | (show (Addr.add _ _).block ≠ _;rw [add_block];exact Nat.ne_of_lt (Nat.lt_of_lt_of_le (by have:=World.block_lt_of_cell? _ _ hw167_0;first | rwa [add_block] at this | exact this) GW168.out)) | (dsimp only;exact Nat.ne_of_lt (Nat.lt_of_lt_of_le (by have:=World.block_lt_of_cell? _ _ hw167_0;first | rwa [add_block] at this | exact this) GW168.out))) _).trans (((cell_far (p:=⟨gb168,_,none⟩) (by first | exact Nat.ne_of_lt (Nat.lt_of_lt_of_le (by have:=World.block_lt_of_cell? _ _ hw167_0;first | rwa [add_block] at this | exact this) GW168.out) | (rw [add_block];exact Nat.ne_of_lt (Nat.lt_of_lt_of_le (by have:=World.block_lt_of_cell? _ _ hw167_0;first | rwa [add_block] at this | exact this) GW168.out)) | (show (Addr.add _ _).block ≠ _;rw [add_block];exact Nat.ne_of_lt (Nat.lt_of_lt_of_le (by have:=World.block_lt_of_cell? _ _ hw167_0;first | rwa [add_block] at this | exact this) GW168.out)) | (dsimp only;exact Nat.ne_of_lt (Nat.lt_of_lt_of_le (by have:=World.block_lt_of_cell? _ _ hw167_0;first | rwa [add_block] at this | exact this) GW168.out))) _).trans (((cell_far (p:=⟨gb168,_,none⟩) (by first | exact Nat.ne_of_lt (Nat.lt_of_lt_of_le (by have:=World.block_lt_of_cell? _ _ hw167_0;first | rwa [add_block] at this | exact this) GW168.out) | (rw [add_block];exact Nat.ne_of_lt (Nat.lt_of_lt_of_le (by have:=World.block_lt_of_cell? _ _ hw167_0;first | rwa [add_block] at this | exact this) GW168.out)) | (show (Addr.add _ _).block ≠ _;rw [add_block];exact Nat.ne_of_lt (Nat.lt_of_lt_of_le (by have:=World.block_lt_of_cell? _ _ hw167_0;first | rwa [add_block] at this | exact this) GW168.out)) | (dsimp only;exact Nat.ne_of_lt (Nat.lt_of_lt_of_le (by have:=World.block_lt_of_cell? _ _ hw167_0;first | rwa [add_block] at this | exact this) GW168.out))) _).trans (hHeld.2.2.2.2.2.1)))))))))),((cell_far (p:=⟨gb168,_,none⟩) (by first | exact Nat.ne_of_lt (Nat.lt_of_lt_of_le (by have:=World.block_lt_of_cell? _ _ hw167_1;first | rwa [add_block] at this | exact this) GW168.out) | (rw [add_block];exact Nat.ne_of_lt (Nat.lt_of_lt_of_le (by have:=World.block_lt_of_cell? _ _ hw167_1;first | rwa [add_block] at this | exact this) GW168.out)) | (show (Addr.add _ _).block ≠ _;rw [add_block];exact Nat.ne_of_lt (Nat.lt_of_lt_of_le (by have:=World.block_lt_of_cell? _ _ hw167_1;first | rwa [add_block] at this | exact this) GW168.out)) | (dsimp only;exact Nat.ne_of_lt (Nat.lt_of_lt_of_le (by have:=World.block_lt_of_cell? _ _ hw167_1;first | rwa [add_block] at this | exact this) GW168.out))) _).trans (((cell_far (p:=⟨gb168,_,none⟩) (by first | exact Nat.ne_of_lt (Nat.lt_of_lt_of_le (by have:=World.block_lt_of_cell? _ _ hw167_1;first | rwa [add_block] at this | exact this) GW168.out) | (rw [add_block];exact Nat.ne_of_lt (Nat.lt_of_lt_of_le (by have:=World.block_lt_of_cell? _ _ hw167_1;first | rwa [add_block] at this | exact this) GW168.out)) | (show (Addr.add _ _).block ≠ _;rw [add_block];exact Nat.ne_of_lt (Nat.lt_of_lt_of_le (by have:=World.block_lt_of_cell? _ _ hw167_1;first | rwa [add_block] at this | exact this) GW168.out)) | (dsimp only;exact Nat.ne_of_lt (Nat.lt_of_lt_of_le (by have:=World.block_lt_of_cell? _ _ hw167_1;first | rwa [add_block] at this | exact this) GW168.out))) _).trans (((cell_far (p:=⟨gb168,_,none⟩) (by first | exact Nat.ne_of_lt (Nat.lt_of_lt_of_le (by have:=World.block_lt_of_cell? _ _ hw167_1;first | rwa [add_block] at this | exact this) GW168.out) | (rw [add_block];exact Nat.ne_of_lt (Nat.lt_of_lt_of_le (by have:=World.block_lt_of_cell? _ _ hw167_1;first | rwa [add_block] at this | exact this) GW168.out)) | (show (Addr.add _ _).block ≠ _;rw [add_block];exact Nat.ne_of_lt (Nat.lt_of_lt_of_le (by have:=World.block_lt_of_cell? _ _ hw167_1;first | rwa [add_block] at this | exact this) GW168.out)) | (dsimp only;exact Nat.ne_of_lt (Nat.lt_of_lt_of_le (by have:=World.block_lt_of_cell? _ _ hw167_1;first | rwa [add_block] at this | exact this) GW168.out))) _).trans (((cell_far (p:=⟨gb168,_,none⟩) (by first | exact Nat.ne_of_lt (Nat.lt_of_lt_of_le (by have:=World.block_lt_of_cell? _ _ hw167_1;first | rwa [add_block] at this | exact this) GW168.out) | (rw [add_block];exact Nat.ne_of_lt (Nat.lt_of_lt_of_le (by have:=World.block_lt_of_cell? _ _ hw167_1;first | rwa [add_block] at this | exact this) GW168.out)) | (show (Addr.add _ _).block ≠ _;rw [add_block];exact Nat.ne_of_lt (Nat.lt_of_lt_of_le (by have:=World.block_lt_of_cell? _ _ hw167_1;first | rwa [add_block] at this | exact this) GW168.out)) | (dsimp only;exact Nat.ne_of_lt (Nat.lt_of_lt_of_le (by have:=World.block_lt_of_cell? _ _ hw167_1;first | rwa [add_block] at this | exact this) GW168.out))) _).trans (((cell_far (p:=⟨gb168,_,none⟩) (by first | exact Nat.ne_of_lt (Nat.lt_of_lt_of_le (by have:=World.block_lt_of_cell? _ _ hw167_1;first | rwa [add_block] at this | exact this) GW168.out) | (rw [add_block];exact Nat.ne_of_lt (Nat.lt_of_lt_of_le (by have:=World.block_lt_of_cell? _ _ hw167_1;first | rwa [add_block] at this | exact this) GW168.out)) | (show (Addr.add _ _).block ≠ _;rw [add_block];exact Nat.ne_of_lt (Nat.lt_of_lt_of_le (by have:=World.block_lt_of_cell? _ _ hw167_1;first | rwa [add_block] at this | exact this) GW168.out)) | (dsimp only;exact Nat.ne_of_lt (Nat.lt_of_lt_of_le (by have:=World.block_lt_of_cell? _ _ hw167_1;first | rwa [add_block] at this | exact this) GW168.out))) _).trans (hHeld.2.2.2.2.2.2.1)))))))))),((cell_far (p:=⟨gb168,_,none⟩) (by first | exact Nat.ne_of_lt (Nat.lt_of_lt_of_le (by have:=World.block_lt_of_cell? _ _ hw167_2;first | rwa [add_block] at this | exact this) GW168.out) | (rw [add_block];exact Nat.ne_of_lt (Nat.lt_of_lt_of_le (by have:=World.block_lt_of_cell? _ _ hw167_2;first | rwa [add_block] at this | exact this) GW168.out)) | (show (Addr.add _ _).block ≠ _;rw [add_block];exact Nat.ne_of_lt (Nat.lt_of_lt_of_le (by have:=World.block_lt_of_cell? _ _ hw167_2;first | rwa [add_block] at this | exact this) GW168.out)) | (dsimp only;exact Nat.ne_of_lt (Nat.lt_of_lt_of_le (by have:=World.block_lt_of_cell? _ _ hw167_2;first | rwa [add_block] at this | exact this) GW168.out))) _).trans (((cell_far (p:=⟨gb168,_,none⟩) (by first | exact Nat.ne_of_lt (Nat.lt_of_lt_of_le (by have:=World.block_lt_of_cell? _ _ hw167_2;first | rwa [add_block] at this | exact this) GW168.out) | (rw [add_block];exact Nat.ne_of_lt (Nat.lt_of_lt_of_le (by have:=World.block_lt_of_cell? _ _ hw167_2;first | rwa [add_block] at this | exact this) GW168.out)) | (show (Addr.add _ _).block ≠ _;rw [add_block];exact Nat.ne_of_lt (Nat.lt_of_lt_of_le (by have:=World.block_lt_of_cell? _ _ hw167_2;first | rwa [add_block] at this | exact this) GW168.out)) | (dsimp only;exact Nat.ne_of_lt (Nat.lt_of_lt_of_le (by have:=World.block_lt_of_cell? _ _ hw167_2;first | rwa [add_block] at this | exact this) GW168.out))) _).trans (((cell_far (p:=⟨gb168,_,none⟩) (by first | exact Nat.ne_of_lt (Nat.lt_of_lt_of_le (by have:=World.block_lt_of_cell? _ _ hw167_2;first | rwa [add_block] at this | exact this) GW168.out) | (rw [add_block];exact Nat.ne_of_lt (Nat.lt_of_lt_of_le (by have:=World.block_lt_of_cell? _ _ hw167_2;first | rwa [add_block] at this | exact this) GW168.out)) | (show (Addr.add _ _).block ≠ _;rw [add_block];exact Nat.ne_of_lt (Nat.lt_of_lt_of_le (by have:=World.block_lt_of_cell? _ _ hw167_2;first | rwa [add_block] at this | exact this) GW168.out)) | (dsimp only;exact Nat.ne_of_lt (Nat.lt_of_lt_of_le (by have:=World.block_lt_of_cell? _ _ hw167_2;first | rwa [add_block] at this | exact this) GW168.out))) _).trans (((cell_far (p:=⟨gb168,_,none⟩) (by first | exact Nat.ne_of_lt (Nat.lt_of_lt_of_le (by have:=World.block_lt_of_cell? _ _ hw167_2;first | rwa [add_block] at this | exact this) GW168.out) | (rw [add_block];exact Nat.ne_of_lt (Nat.lt_of_lt_of_le (by have:=World.block_lt_of_cell? _ _ hw167_2;first | rwa [add_block] at this | exact this) GW168.out)) | (show (Addr.add _ _).block ≠ _;rw [add_block];exact Nat.ne_of_lt (Nat.lt_of_lt_of_le (by have:=World.block_lt_of_cell? _ _ hw167_2;first | rwa [add_block] at this | exact this) GW168.out)) | (dsimp only;exact Nat.ne_of_lt (Nat.lt_of_lt_of_le (by have:=World.block_lt_of_cell? _ _ hw167_2;first | rwa [add_block] at this | exact this) GW168.out))) _).trans (((cell_far (p:=⟨gb168,_,none⟩) (by first | exact Nat.ne_of_lt (Nat.lt_of_lt_of_le (by have:=World.block_lt_of_cell? _ _ hw167_2;first | rwa [add_block] at this | exact this) GW168.out) | (rw [add_block];exact Nat.ne_of_lt (Nat.lt_of_lt_of_le (by have:=World.block_lt_of_cell? _ _ hw167_2;first | rwa [add_block] at this | exact this) GW168.out)) | (show (Addr.add _ _).block ≠ _;rw [add_block];exact Nat.ne_of_lt (Nat.lt_of_lt_of_le (by have:=World.block_lt_of_cell? _ _ hw167_2;first | rwa [add_block] at this | exact this) GW168.out)) | (dsimp only;exact Nat.ne_of_lt (Nat.lt_of_lt_of_le (by have:=World.block_lt_of_cell? _ _ hw167_2;first | rwa [add_block] at this | exact this) GW168.out))) _).trans (hHeld.2.2.2.2.2.2.2.1)))))))))),((cell_far (p:=⟨gb168,_,none⟩) (by first | exact Nat.ne_of_lt (Nat.lt_of_lt_of_le (by have:=World.block_lt_of_cell? _ _ hw167_3;first | rwa [add_block] at this | exact this) GW168.out) | (rw [add_block];exact Nat.ne_of_lt (Nat.lt_of_lt_of_le (by have:=World.block_lt_of_cell? _ _ hw167_3;first | rwa [add_block] at this | exact this) GW168.out)) | (show (Addr.add _ _).block ≠ _;rw [add_block];exact Nat.ne_of_lt (Nat.lt_of_lt_of_le (by have:=World.block_lt_of_cell? _ _ hw167_3;first | rwa [add_block] at this | exact this) GW168.out)) | (dsimp only;exact Nat.ne_of_lt (Nat.lt_of_lt_of_le (by have:=World.block_lt_of_cell? _ _ hw167_3;first | rwa [add_block] at this | exact this) GW168.out))) _).trans (((cell_far (p:=⟨gb168,_,none⟩) (by first | exact Nat.ne_of_lt (Nat.lt_of_lt_of_le (by have:=World.block_lt_of_cell? _ _ hw167_3;first | rwa [add_block] at this | exact this) GW168.out) | (rw [add_block];exact Nat.ne_of_lt (Nat.lt_of_lt_of_le (by have:=World.block_lt_of_cell? _ _ hw167_3;first | rwa [add_block] at this | exact this) GW168.out)) | (show (Addr.add _ _).block ≠ _;rw [add_block];exact Nat.ne_of_lt (Nat.lt_of_lt_of_le (by have:=World.block_lt_of_cell? _ _ hw167_3;first | rwa [add_block] at this | exact this) GW168.out)) | (dsimp only;exact Nat.ne_of_lt (Nat.lt_of_lt_of_le (by have:=World.block_lt_of_cell? _ _ hw167_3;first | rwa [add_block] at this | exact this) GW168.out))) _).trans (((cell_far (p:=⟨gb168,_,none⟩) (by first | exact Nat.ne_of_lt (Nat.lt_of_lt_of_le (by have:=World.block_lt_of_cell? _ _ hw167_3;first | rwa [add_block] at this | exact this) GW168.out) | (rw [add_block];exact Nat.ne_of_lt (Nat.lt_of_lt_of_le (by have:=World.block_lt_of_cell? _ _ hw167_3;first | rwa [add_block] at this | exact this) GW168.out)) | (show (Addr.add _ _).block ≠ _;rw [add_block];exact Nat.ne_of_lt (Nat.lt_of_lt_of_le (by have:=World.block_lt_of_cell? _ _ hw167_3;first | rwa [add_block] at this | exact this) GW168.out)) | (dsimp only;exact Nat.ne_of_lt (Nat.lt_of_lt_of_le (by have:=World.block_lt_of_cell? _ _ hw167_3;first | rwa [add_block] at this | exact this) GW168.out))) _).trans (((cell_far (p:=⟨gb168,_,none⟩) (by first | exact Nat.ne_of_lt (Nat.lt_of_lt_of_le (by have:=World.block_lt_of_cell? _ _ hw167_3;first | rwa [add_block] at this | exact this) GW168.out) | (rw [add_block];exact Nat.ne_of_lt (Nat.lt_of_lt_of_le (by have:=World.block_lt_of_cell? _ _ hw167_3;first | rwa [add_block] at this | exact this) GW168.out)) | (show (Addr.add _ _).block ≠ _;rw [add_block];exact Nat.ne_of_lt (Nat.lt_of_lt_of_le (by have:=World.block_lt_of_cell? _ _ hw167_3;first | rwa [add_block] at this | exact this) GW168.out)) | (dsimp only;exact Nat.ne_of_lt (Nat.lt_of_lt_of_le (by have:=World.block_lt_of_cell? _ _ hw167_3;first | rwa [add_block] at this | exact this) GW168.out))) _).trans (((cell_far (p:=⟨gb168,_,none⟩) (by first | exact Nat.ne_of_lt (Nat.lt_of_lt_of_le (by have:=World.block_lt_of_cell? _ _ hw167_3;first | rwa [add_block] at this | exact this) GW168.out) | (rw [add_block];exact Nat.ne_of_lt (Nat.lt_of_lt_of_le (by have:=World.block_lt_of_cell? _ _ hw167_3;first | rwa [add_block] at this | exact this) GW168.out)) | (show (Addr.add _ _).block ≠ _;rw [add_block];exact Nat.ne_of_lt (Nat.lt_of_lt_of_le (by have:=World.block_lt_of_cell? _ _ hw167_3;first | rwa [add_block] at this | exact this) GW168.out)) | (dsimp only;exact Nat.ne_of_lt (Nat.lt_of_lt_of_le (by have:=World.block_lt_of_cell? _ _ hw167_3;first | rwa [add_block] at this | exact this) GW168.out))) _).trans (hHeld.2.2.2.2.2.2.2.2.1)))))))))),((cell_far (p:=⟨gb168,_,none⟩) (by first | exact Nat.ne_of_lt (Nat.lt_of_lt_of_le (by have:=World.block_lt_of_cell? _ _ hw167_4;first | rwa [add_block] at this | exact this) GW168.out) | (rw [add_block];exact Nat.ne_of_lt (Nat.lt_of_lt_of_le (by have:=World.block_lt_of_cell? _ _ hw167_4;first | rwa [add_block] at this | exact this) GW168.out)) | (show (Addr.add _ _).block ≠ _;rw [add_block];exact Nat.ne_of_lt (Nat.lt_of_lt_of_le (by have:=World.block_lt_of_cell? _ _ hw167_4;first | rwa [add_block] at this | exact this) GW168.out)) | (dsimp only;exact Nat.ne_of_lt (Nat.lt_of_lt_of_le (by have:=World.block_lt_of_cell? _ _ hw167_4;first | rwa [add_block] at this | exact this) GW168.out))) _).trans (((cell_far (p:=⟨gb168,_,none⟩) (by first | exact Nat.ne_of_lt (Nat.lt_of_lt_of_le (by have:=World.block_lt_of_cell? _ _ hw167_4;first | rwa [add_block] at this | exact this) GW168.out) | (rw [add_block];exact Nat.ne_of_lt (Nat.lt_of_lt_of_le (by have:=World.block_lt_of_cell? _ _ hw167_4;first | rwa [add_block] at this | exact this) GW168.out)) | (show (Addr.add _ _).block ≠ _;rw [add_block];exact Nat.ne_of_lt (Nat.lt_of_lt_of_le (by have:=World.block_lt_of_cell? _ _ hw167_4;first | rwa [add_block] at this | exact this) GW168.out)) | (dsimp only;exact Nat.ne_of_lt (Nat.lt_of_lt_of_le (by have:=World.block_lt_of_cell? _ _ hw167_4;first | rwa [add_block] at this | exact this) GW168.out))) _).trans (((cell_far (p:=⟨gb168,_,none⟩) (by first | exact Nat.ne_of_lt (Nat.lt_of_lt_of_le (by have:=World.block_lt_of_cell? _ _ hw167_4;first | rwa [add_block] at this | exact this) GW168.out) | (rw [add_block];exact Nat.ne_of_lt (Nat.lt_of_lt_of_le (by have:=World.block_lt_of_cell? _ _ hw167_4;first | rwa [add_block] at this | exact this) GW168.out)) | (show (Addr.add _ _).block ≠ _;rw [add_block];exact Nat.ne_of_lt (Nat.lt_of_lt_of_le (by have:=World.block_lt_of_cell? _ _ hw167_4;first | rwa [add_block] at this | exact this) GW168.out)) | (dsimp only;exact Nat.ne_of_lt (Nat.lt_of_lt_of_le (by have:=World.block_lt_of_cell? _ _ hw167_4;first | rwa [add_block] at this | exact this) GW168.out))) _).trans (((cell_far (p:=⟨gb168,_,none⟩) (by first | exact Nat.ne_of_lt (Nat.lt_of_lt_of_le (by have:=World.block_lt_of_cell? _ _ hw167_4;first | rwa [add_block] at this | exact this) GW168.out) | (rw [add_block];exact Nat.ne_of_lt (Nat.lt_of_lt_of_le (by have:=World.block_lt_of_cell? _ _ hw167_4;first | rwa [add_block] at this | exact this) GW168.out)) | (show (Addr.add _ _).block ≠ _;rw [add_block];exact Nat.ne_of_lt (Nat.lt_of_lt_of_le (by have:=World.block_lt_of_cell? _ _ hw167_4;first | rwa [add_block] at this | exact this) GW168.out)) | (dsimp only;exact Nat.ne_of_lt (Nat.lt_of_lt_of_le (by have:=World.block_lt_of_cell? _ _ hw167_4;first | rwa [add_block] at this | exact this) GW168.out))) _).trans (((cell_far (p:=⟨gb168,_,none⟩) (by first | exact Nat.ne_of_lt (Nat.lt_of_lt_of_le (by have:=World.block_lt_of_cell? _ _ hw167_4;first | rwa [add_block] at this | exact this) GW168.out) | (rw [add_block];exact Nat.ne_of_lt (Nat.lt_of_lt_of_le (by have:=World.block_lt_of_cell? _ _ hw167_4;first | rwa [add_block] at this | exact this) GW168.out)) | (show (Addr.add _ _).block ≠ _;rw [add_block];exact Nat.ne_of_lt (Nat.lt_of_lt_of_le (by have:=World.block_lt_of_cell? _ _ hw167_4;first | rwa [add_block] at this | exact this) GW168.out)) | (dsimp only;exact Nat.ne_of_lt (Nat.lt_of_lt_of_le (by have:=World.block_lt_of_cell? _ _ hw167_4;first | rwa [add_block] at this | exact this) GW168.out))) _).trans (hHeld.2.2.2.2.2.2.2.2.2))))))))))⟩ (fun hHeld => ?_)
     clear hK K
     refine one_ (i:=11) (N:=none) #[tt,tt,tt,tt,tt,tt,tt,tt,tt,tt,tt,tt] rfl rfl (one_of HT_.out (by kernel_rfl)) (by decide) (fun K hK => ?_)
     have hs20 : w14.cell? ⟨gb169,0,none⟩ = some (.int .i64 0):=(blk_cell BK169.out 0).trans rfl
     have hfs20:=blk_frozen BK169.out 0
     have hns20_0:=NB168_169.out
     have hms20_0:=NB169_168.out
     have hs21 : w14.cell? ⟨gb169,1,none⟩ = some (.int .i64 0):=(blk_cell BK169.out 1).trans rfl
     have hfs21:=blk_frozen BK169.out 1
     have hns21_0:=NB168_169.out
     have hms21_0:=NB169_168.out
     have hs22 : w14.cell? ⟨gb169,2,none⟩ = some (.slice none 0 0):=(blk_cell BK169.out 2).trans rfl
     have hfs22:=blk_frozen BK169.out 2
     have hns22_0:=NB168_169.out
     have hms22_0:=NB169_168.out
     have hs23 : w14.cell? ⟨gb169,3,none⟩ = some (.slice none 0 0):=(blk_cell BK169.out 3).trans rfl
     have hfs23:=blk_frozen BK169.out 3
     have hns23_0:=NB168_169.out
     have hms23_0:=NB169_168.out
     have hs24 : w14.cell? ⟨gb169,4,none⟩ = some (.slice none 0 0):=(blk_cell BK169.out 4).trans rfl
     have hfs24:=blk_frozen BK169.out 4
     have hns24_0:=NB168_169.out
     have hms24_0:=NB169_168.out
     refine skip_ (w1:=?_) (by rfl) rfl ?_ ?_
     rotate_left
     ·go_simp
      rfl
     refine hK.out _ _ ⟨((cell_far (p:=⟨gb169,_,none⟩) (by first | exact Nat.ne_of_lt (Nat.lt_of_lt_of_le (by have:=World.block_lt_of_cell? _ _ hw166_0;first | rwa [add_block] at this | exact this) GW169.out) | (rw [add_block];exact Nat.ne_of_lt (Nat.lt_of_lt_of_le (by have:=World.block_lt_of_cell? _ _ hw166_0;first | rwa [add_block] at this | exact this) GW169.out)) | (show (Addr.add _ _).block ≠ _;rw [add_block];exact Nat.ne_of_lt (Nat.lt_of_lt_of_le (by have:=World.block_lt_of_cell? _ _ hw166_0;first | rwa [add_block] at this | exact this) GW169.out)) | (dsimp only;exact Nat.ne_of_lt (Nat.lt_of_lt_of_le (by have:=World.block_lt_of_cell? _ _ hw166_0;first | rwa [add_block] at this | exact this) GW169.out))) _).trans (((cell_far (p:=⟨gb169,_,none⟩) (by first | exact Nat.ne_of_lt (Nat.lt_of_lt_of_le (by have:=World.block_lt_of_cell? _ _ hw166_0;first | rwa [add_block] at this | exact this) GW169.out) | (rw [add_block];exact Nat.ne_of_lt (Nat.lt_of_lt_of_le (by have:=World.block_lt_of_cell? _ _ hw166_0;first | rwa [add_block] at this | exact this) GW169.out)) | (show (Addr.add _ _).block ≠ _;rw [add_block];exact Nat.ne_of_lt (Nat.lt_of_lt_of_le (by have:=World.block_lt_of_cell? _ _ hw166_0;first | rwa [add_block] at this | exact this) GW169.out)) | (dsimp only;exact Nat.ne_of_lt (Nat.lt_of_lt_of_le (by have:=World.block_lt_of_cell? _ _ hw166_0;first | rwa [add_block] at this | exact this) GW169.out))) _).trans (((cell_far (p:=⟨gb169,_,none⟩) (by first | exact Nat.ne_of_lt (Nat.lt_of_lt_of_le (by have:=World.block_lt_of_cell? _ _ hw166_0;first | rwa [add_block] at this | exact this) GW169.out) | (rw [add_block];exact Nat.ne_of_lt (Nat.lt_of_lt_of_le (by have:=World.block_lt_of_cell? _ _ hw166_0;first | rwa [add_block] at this | exact this) GW169.out)) | (show (Addr.add _ _).block ≠ _;rw [add_block];exact Nat.ne_of_lt (Nat.lt_of_lt_of_le (by have:=World.block_lt_of_cell? _ _ hw166_0;first | rwa [add_block] at this | exact this) GW169.out)) | (dsimp only;exact Nat.ne_of_lt (Nat.lt_of_lt_of_le (by have:=World.block_lt_of_cell? _ _ hw166_0;first | rwa [add_block] at this | exact this) GW169.out))) _).trans (((cell_far (p:=⟨gb169,_,none⟩) (by first | exact Nat.ne_of_lt (Nat.lt_of_lt_of_le (by have:=World.block_lt_of_cell? _ _ hw166_0;first | rwa [add_block] at this | exact this) GW169.out) | (rw [add_block];exact Nat.ne_of_lt (Nat.lt_of_lt_of_le (by have:=World.block_lt_of_cell? _ _ hw166_0;first | rwa [add_block] at this | exact this) GW169.out)) | (show (Addr.add _ _).block ≠ _;rw [add_block];exact Nat.ne_of_lt (Nat.lt_of_lt_of_le (by have:=World.block_lt_of_cell? _ _ hw166_0;first | rwa [add_block] at this | exact this) GW169.out)) | (dsimp only;exact Nat.ne_of_lt (Nat.lt_of_lt_of_le (by have:=World.block_lt_of_cell? _ _ hw166_0;first | rwa [add_block] at this | exact this) GW169.out))) _).trans (((cell_far (p:=⟨gb169,_,none⟩) (by first | exact Nat.ne_of_lt (Nat.lt_of_lt_of_le (by have:=World.block_lt_of_cell? _ _ hw166_0;first | rwa [add_block] at this | exact this) GW169.out) | (rw [add_block];exact Nat.ne_of_lt (Nat.lt_of_lt_of_le (by have:=World.block_lt_of_cell? _ _ hw166_0;first | rwa [add_block] at this | exact this) GW169.out)) | (show (Addr.add _ _).block ≠ _;rw [add_block];exact Nat.ne_of_lt (Nat.lt_of_lt_of_le (by have:=World.block_lt_of_cell? _ _ hw166_0;first | rwa [add_block] at this | exact this) GW169.out)) | (dsimp only;exact Nat.ne_of_lt (Nat.lt_of_lt_of_le (by have:=World.block_lt_of_cell? _ _ hw166_0;first | rwa [add_block] at this | exact this) GW169.out))) _).trans (hHeld.1)))))))))),((cell_far (p:=⟨gb169,_,none⟩) (by first | exact Nat.ne_of_lt (Nat.lt_of_lt_of_le (by have:=World.block_lt_of_cell? _ _ hw166_1;first | rwa [add_block] at this | exact this) GW169.out) | (rw [add_block];exact Nat.ne_of_lt (Nat.lt_of_lt_of_le (by have:=World.block_lt_of_cell? _ _ hw166_1;first | rwa [add_block] at this | exact this) GW169.out)) | (show (Addr.add _ _).block ≠ _;rw [add_block];exact Nat.ne_of_lt (Nat.lt_of_lt_of_le (by have:=World.block_lt_of_cell? _ _ hw166_1;first | rwa [add_block] at this | exact this) GW169.out)) | (dsimp only;exact Nat.ne_of_lt (Nat.lt_of_lt_of_le (by have:=World.block_lt_of_cell? _ _ hw166_1;first | rwa [add_block] at this | exact this) GW169.out))) _).trans (((cell_far (p:=⟨gb169,_,none⟩) (by first | exact Nat.ne_of_lt (Nat.lt_of_lt_of_le (by have:=World.block_lt_of_cell? _ _ hw166_1;first | rwa [add_block] at this | exact this) GW169.out) | (rw [add_block];exact Nat.ne_of_lt (Nat.lt_of_lt_of_le (by have:=World.block_lt_of_cell? _ _ hw166_1;first | rwa [add_block] at this | exact this) GW169.out)) | (show (Addr.add _ _).block ≠ _;rw [add_block];exact Nat.ne_of_lt (Nat.lt_of_lt_of_le (by have:=World.block_lt_of_cell? _ _ hw166_1;first | rwa [add_block] at this | exact this) GW169.out)) | (dsimp only;exact Nat.ne_of_lt (Nat.lt_of_lt_of_le (by have:=World.block_lt_of_cell? _ _ hw166_1;first | rwa [add_block] at this | exact this) GW169.out))) _).trans (((cell_far (p:=⟨gb169,_,none⟩) (by first | exact Nat.ne_of_lt (Nat.lt_of_lt_of_le (by have:=World.block_lt_of_cell? _ _ hw166_1;first | rwa [add_block] at this | exact this) GW169.out) | (rw [add_block];exact Nat.ne_of_lt (Nat.lt_of_lt_of_le (by have:=World.block_lt_of_cell? _ _ hw166_1;first | rwa [add_block] at this | exact this) GW169.out)) | (show (Addr.add _ _).block ≠ _;rw [add_block];exact Nat.ne_of_lt (Nat.lt_of_lt_of_le (by have:=World.block_lt_of_cell? _ _ hw166_1;first | rwa [add_block] at this | exact this) GW169.out)) | (dsimp only;exact Nat.ne_of_lt (Nat.lt_of_lt_of_le (by have:=World.block_lt_of_cell? _ _ hw166_1;first | rwa [add_block] at this | exact this) GW169.out))) _).trans (((cell_far (p:=⟨gb169,_,none⟩) (by first | exact Nat.ne_of_lt (Nat.lt_of_lt_of_le (by have:=World.block_lt_of_cell? _ _ hw166_1;first | rwa [add_block] at this | exact this) GW169.out) | (rw [add_block];exact Nat.ne_of_lt (Nat.lt_of_lt_of_le (by have:=World.block_lt_of_cell? _ _ hw166_1;first | rwa [add_block] at this | exact this) GW169.out)) | (show (Addr.add _ _).block ≠ _;rw [add_block];exact Nat.ne_of_lt (Nat.lt_of_lt_of_le (by have:=World.block_lt_of_cell? _ _ hw166_1;first | rwa [add_block] at this | exact this) GW169.out)) | (dsimp only;exact Nat.ne_of_lt (Nat.lt_of_lt_of_le (by have:=World.block_lt_of_cell? _ _ hw166_1;first | rwa [add_block] at this | exact this) GW169.out))) _).trans (((cell_far (p:=⟨gb169,_,none⟩) (by first | exact Nat.ne_of_lt (Nat.lt_of_lt_of_le (by have:=World.block_lt_of_cell? _ _ hw166_1;first | rwa [add_block] at this | exact this) GW169.out) | (rw [add_block];exact Nat.ne_of_lt (Nat.lt_of_lt_of_le (by have:=World.block_lt_of_cell? _ _ hw166_1;first | rwa [add_block] at this | exact this) GW169.out)) | (show (Addr.add _ _).block ≠ _;rw [add_block];exact Nat.ne_of_lt (Nat.lt_of_lt_of_le (by have:=World.block_lt_of_cell? _ _ hw166_1;first | rwa [add_block] at this | exact this) GW169.out)) | (dsimp only;exact Nat.ne_of_lt (Nat.lt_of_lt_of_le (by have:=World.block_lt_of_cell? _ _ hw166_1;first | rwa [add_block] at this | exact this) GW169.out))) _).trans (hHeld.2.1)))))))))),((cell_far (p:=⟨gb169,_,none⟩) (by first | exact Nat.ne_of_lt (Nat.lt_of_lt_of_le (by have:=World.block_lt_of_cell? _ _ hw166_2;first | rwa [add_block] at this | exact this) GW169.out) | (rw [add_block];exact Nat.ne_of_lt (Nat.lt_of_lt_of_le (by have:=World.block_lt_of_cell? _ _ hw166_2;first | rwa [add_block] at this | exact this) GW169.out)) | (show (Addr.add _ _).block ≠ _;rw [add_block];exact Nat.ne_of_lt (Nat.lt_of_lt_of_le (by have:=World.block_lt_of_cell? _ _ hw166_2;first | rwa [add_block] at this | exact this) GW169.out)) | (dsimp only;exact Nat.ne_of_lt (Nat.lt_of_lt_of_le (by have:=World.block_lt_of_cell? _ _ hw166_2;first | rwa [add_block] at this | exact this) GW169.out))) _).trans (((cell_far (p:=⟨gb169,_,none⟩) (by first | exact Nat.ne_of_lt (Nat.lt_of_lt_of_le (by have:=World.block_lt_of_cell? _ _ hw166_2;first | rwa [add_block] at this | exact this) GW169.out) | (rw [add_block];exact Nat.ne_of_lt (Nat.lt_of_lt_of_le (by have:=World.block_lt_of_cell? _ _ hw166_2;first | rwa [add_block] at this | exact this) GW169.out)) | (show (Addr.add _ _).block ≠ _;rw [add_block];exact Nat.ne_of_lt (Nat.lt_of_lt_of_le (by have:=World.block_lt_of_cell? _ _ hw166_2;first | rwa [add_block] at this | exact this) GW169.out)) | (dsimp only;exact Nat.ne_of_lt (Nat.lt_of_lt_of_le (by have:=World.block_lt_of_cell? _ _ hw166_2;first | rwa [add_block] at this | exact this) GW169.out))) _).trans (((cell_far (p:=⟨gb169,_,none⟩) (by first | exact Nat.ne_of_lt (Nat.lt_of_lt_of_le (by have:=World.block_lt_of_cell? _ _ hw166_2;first | rwa [add_block] at this | exact this) GW169.out) | (rw [add_block];exact Nat.ne_of_lt (Nat.lt_of_lt_of_le (by have:=World.block_lt_of_cell? _ _ hw166_2;first | rwa [add_block] at this | exact this) GW169.out)) | (show (Addr.add _ _).block ≠ _;rw [add_block];exact Nat.ne_of_lt (Nat.lt_of_lt_of_le (by have:=World.block_lt_of_cell? _ _ hw166_2;first | rwa [add_block] at this | exact this) GW169.out)) | (dsimp only;exact Nat.ne_of_lt (Nat.lt_of_lt_of_le (by have:=World.block_lt_of_cell? _ _ hw166_2;first | rwa [add_block] at this | exact this) GW169.out))) _).trans (((cell_far (p:=⟨gb169,_,none⟩) (by first | exact Nat.ne_of_lt (Nat.lt_of_lt_of_le (by have:=World.block_lt_of_cell? _ _ hw166_2;first | rwa [add_block] at this | exact this) GW169.out) | (rw [add_block];exact Nat.ne_of_lt (Nat.lt_of_lt_of_le (by have:=World.block_lt_of_cell? _ _ hw166_2;first | rwa [add_block] at this | exact this) GW169.out)) | (show (Addr.add _ _).block ≠ _;rw [add_block];exact Nat.ne_of_lt (Nat.lt_of_lt_of_le (by have:=World.block_lt_of_cell? _ _ hw166_2;first | rwa [add_block] at this | exact this) GW169.out)) | (dsimp only;exact Nat.ne_of_lt (Nat.lt_of_lt_of_le (by have:=World.block_lt_of_cell? _ _ hw166_2;first | rwa [add_block] at this | exact this) GW169.out))) _).trans (((cell_far (p:=⟨gb169,_,none⟩) (by first | exact Nat.ne_of_lt (Nat.lt_of_lt_of_le (by have:=World.block_lt_of_cell? _ _ hw166_2;first | rwa [add_block] at this | exact this) GW169.out) | (rw [add_block];exact Nat.ne_of_lt (Nat.lt_of_lt_of_le (by have:=World.block_lt_of_cell? _ _ hw166_2;first | rwa [add_block] at this | exact this) GW169.out)) | (show (Addr.add _ _).block ≠ _;rw [add_block];exact Nat.ne_of_lt (Nat.lt_of_lt_of_le (by have:=World.block_lt_of_cell? _ _ hw166_2;first | rwa [add_block] at this | exact this) GW169.out)) | (dsimp only;exact Nat.ne_of_lt (Nat.lt_of_lt_of_le (by have:=World.block_lt_of_cell? _ _ hw166_2;first | rwa [add_block] at this | exact this) GW169.out))) _).trans (hHeld.2.2.1)))))))))),((cell_far (p:=⟨gb169,_,none⟩) (by first | exact Nat.ne_of_lt (Nat.lt_of_lt_of_le (by have:=World.block_lt_of_cell? _ _ hw166_3;first | rwa [add_block] at this | exact this) GW169.out) | (rw [add_block];exact Nat.ne_of_lt (Nat.lt_of_lt_of_le (by have:=World.block_lt_of_cell? _ _ hw166_3;first | rwa [add_block] at this | exact this) GW169.out)) | (show (Addr.add _ _).block ≠ _;rw [add_block];exact Nat.ne_of_lt (Nat.lt_of_lt_of_le (by have:=World.block_lt_of_cell? _ _ hw166_3;first | rwa [add_block] at this | exact this) GW169.out)) | (dsimp only;exact Nat.ne_of_lt (Nat.lt_of_lt_of_le (by have:=World.block_lt_of_cell? _ _ hw166_3;first | rwa [add_block] at this | exact this) GW169.out))) _).trans (((cell_far (p:=⟨gb169,_,none⟩) (by first | exact Nat.ne_of_lt (Nat.lt_of_lt_of_le (by have:=World.block_lt_of_cell? _ _ hw166_3;first | rwa [add_block] at this | exact this) GW169.out) | (rw [add_block];exact Nat.ne_of_lt (Nat.lt_of_lt_of_le (by have:=World.block_lt_of_cell? _ _ hw166_3;first | rwa [add_block] at this | exact this) GW169.out)) | (show (Addr.add _ _).block ≠ _;rw [add_block];exact Nat.ne_of_lt (Nat.lt_of_lt_of_le (by have:=World.block_lt_of_cell? _ _ hw166_3;first | rwa [add_block] at this | exact this) GW169.out)) | (dsimp only;exact Nat.ne_of_lt (Nat.lt_of_lt_of_le (by have:=World.block_lt_of_cell? _ _ hw166_3;first | rwa [add_block] at this | exact this) GW169.out))) _).trans (((cell_far (p:=⟨gb169,_,none⟩) (by first | exact Nat.ne_of_lt (Nat.lt_of_lt_of_le (by have:=World.block_lt_of_cell? _ _ hw166_3;first | rwa [add_block] at this | exact this) GW169.out) | (rw [add_block];exact Nat.ne_of_lt (Nat.lt_of_lt_of_le (by have:=World.block_lt_of_cell? _ _ hw166_3;first | rwa [add_block] at this | exact this) GW169.out)) | (show (Addr.add _ _).block ≠ _;rw [add_block];exact Nat.ne_of_lt (Nat.lt_of_lt_of_le (by have:=World.block_lt_of_cell? _ _ hw166_3;first | rwa [add_block] at this | exact this) GW169.out)) | (dsimp only;exact Nat.ne_of_lt (Nat.lt_of_lt_of_le (by have:=World.block_lt_of_cell? _ _ hw166_3;first | rwa [add_block] at this | exact this) GW169.out))) _).trans (((cell_far (p:=⟨gb169,_,none⟩) (by first | exact Nat.ne_of_lt (Nat.lt_of_lt_of_le (by have:=World.block_lt_of_cell? _ _ hw166_3;first | rwa [add_block] at this | exact this) GW169.out) | (rw [add_block];exact Nat.ne_of_lt (Nat.lt_of_lt_of_le (by have:=World.block_lt_of_cell? _ _ hw166_3;first | rwa [add_block] at this | exact this) GW169.out)) | (show (Addr.add _ _).block ≠ _;rw [add_block];exact Nat.ne_of_lt (Nat.lt_of_lt_of_le (by have:=World.block_lt_of_cell? _ _ hw166_3;first | rwa [add_block] at this | exact this) GW169.out)) | (dsimp only;exact Nat.ne_of_lt (Nat.lt_of_lt_of_le (by have:=World.block_lt_of_cell? _ _ hw166_3;first | rwa [add_block] at this | exact this) GW169.out))) _).trans (((cell_far (p:=⟨gb169,_,none⟩) (by first | exact Nat.ne_of_lt (Nat.lt_of_lt_of_le (by have:=World.block_lt_of_cell? _ _ hw166_3;first | rwa [add_block] at this | exact this) GW169.out) | (rw [add_block];exact Nat.ne_of_lt (Nat.lt_of_lt_of_le (by have:=World.block_lt_of_cell? _ _ hw166_3;first | rwa [add_block] at this | exact this) GW169.out)) | (show (Addr.add _ _).block ≠ _;rw [add_block];exact Nat.ne_of_lt (Nat.lt_of_lt_of_le (by have:=World.block_lt_of_cell? _ _ hw166_3;first | rwa [add_block] at this | exact this) GW169.out)) | (dsimp only;exact Nat.ne_of_lt (Nat.lt_of_lt_of_le (by have:=World.block_lt_of_cell? _ _ hw166_3;first | rwa [add_block] at this | exact this) GW169.out))) _).trans (hHeld.2.2.2.1)))))))))),((cell_far (p:=⟨gb169,_,none⟩) (by first | exact Nat.ne_of_lt (Nat.lt_of_lt_of_le (by have:=World.block_lt_of_cell? _ _ hw166_4;first | rwa [add_block] at this | exact this) GW169.out) | (rw [add_block];exact Nat.ne_of_lt (Nat.lt_of_lt_of_le (by have:=World.block_lt_of_cell? _ _ hw166_4;first | rwa [add_block] at this | exact this) GW169.out)) | (show (Addr.add _ _).block ≠ _;rw [add_block];exact Nat.ne_of_lt (Nat.lt_of_lt_of_le (by have:=World.block_lt_of_cell? _ _ hw166_4;first | rwa [add_block] at this | exact this) GW169.out)) | (dsimp only;exact Nat.ne_of_lt (Nat.lt_of_lt_of_le (by have:=World.block_lt_of_cell? _ _ hw166_4;first | rwa [add_block] at this | exact this) GW169.out))) _).trans (((cell_far (p:=⟨gb169,_,none⟩) (by first | exact Nat.ne_of_lt (Nat.lt_of_lt_of_le (by have:=World.block_lt_of_cell? _ _ hw166_4;first | rwa [add_block] at this | exact this) GW169.out) | (rw [add_block];exact Nat.ne_of_lt (Nat.lt_of_lt_of_le (by have:=World.block_lt_of_cell? _ _ hw166_4;first | rwa [add_block] at this | exact this) GW169.out)) | (show (Addr.add _ _).block ≠ _;rw [add_block];exact Nat.ne_of_lt (Nat.lt_of_lt_of_le (by have:=World.block_lt_of_cell? _ _ hw166_4;first | rwa [add_block] at this | exact this) GW169.out)) | (dsimp only;exact Nat.ne_of_lt (Nat.lt_of_lt_of_le (by have:=World.block_lt_of_cell? _ _ hw166_4;first | rwa [add_block] at this | exact this) GW169.out))) _).trans (((cell_far (p:=⟨gb169,_,none⟩) (by first | exact Nat.ne_of_lt (Nat.lt_of_lt_of_le (by have:=World.block_lt_of_cell? _ _ hw166_4;first | rwa [add_block] at this | exact this) GW169.out) | (rw [add_block];exact Nat.ne_of_lt (Nat.lt_of_lt_of_le (by have:=World.block_lt_of_cell? _ _ hw166_4;first | rwa [add_block] at this | exact this) GW169.out)) | (show (Addr.add _ _).block ≠ _;rw [add_block];exact Nat.ne_of_lt (Nat.lt_of_lt_of_le (by have:=World.block_lt_of_cell? _ _ hw166_4;first | rwa [add_block] at this | exact this) GW169.out)) | (dsimp only;exact Nat.ne_of_lt (Nat.lt_of_lt_of_le (by have:=World.block_lt_of_cell? _ _ hw166_4;first | rwa [add_block] at this | exact this) GW169.out))) _).trans (((cell_far (p:=⟨gb169,_,none⟩) (by first | exact Nat.ne_of_lt (Nat.lt_of_lt_of_le (by have:=World.block_lt_of_cell? _ _ hw166_4;first | rwa [add_block] at this | exact this) GW169.out) | (rw [add_block];exact Nat.ne_of_lt (Nat.lt_of_lt_of_le (by have:=World.block_lt_of_cell? _ _ hw166_4;first | rwa [add_block] at this | exact this) GW169.out)) | (show (Addr.add _ _).block ≠ _;rw [add_block];exact Nat.ne_of_lt (Nat.lt_of_lt_of_le (by have:=World.block_lt_of_cell? _ _ hw166_4;first | rwa [add_block] at this | exact this) GW169.out)) | (dsimp only;exact Nat.ne_of_lt (Nat.lt_of_lt_of_le (by have:=World.block_lt_of_cell? _ _ hw166_4;first | rwa [add_block] at this | exact this) GW169.out))) _).trans (((cell_far (p:=⟨gb169,_,none⟩) (by first | exact Nat.ne_of_lt (Nat.lt_of_lt_of_le (by have:=World.block_lt_of_cell? _ _ hw166_4;first | rwa [add_block] at this | exact this) GW169.out) | (rw [add_block];exact Nat.ne_of_lt (Nat.lt_of_lt_of_le (by have:=World.block_lt_of_cell? _ _ hw166_4;first | rwa [add_block] at this | exact this) GW169.out)) | (show (Addr.add _ _).block ≠ _;rw [add_block];exact Nat.ne_of_lt (Nat.lt_of_lt_of_le (by have:=World.block_lt_of_cell? _ _ hw166_4;first | rwa [add_block] at this | exact this) GW169.out)) | (dsimp only;exact Nat.ne_of_lt (Nat.lt_of_lt_of_le (by have:=World.block_lt_of_cell? _ _ hw166_4;first | rwa [add_block] at this | exact this) GW169.out))) _).trans (hHeld.2.2.2.2.1)))))))))),((cell_far (p:=⟨gb169,_,none⟩) (by first | exact Nat.ne_of_lt (Nat.lt_of_lt_of_le (by have:=World.block_lt_of_cell? _ _ hw167_0;first | rwa [add_block] at this | exact this) GW169.out) | (rw [add_block];exact Nat.ne_of_lt (Nat.lt_of_lt_of_le (by have:=World.block_lt_of_cell? _ _ hw167_0;first | rwa [add_block] at this | exact this) GW169.out)) | (show (Addr.add _ _).block ≠ _;rw [add_block];exact Nat.ne_of_lt (Nat.lt_of_lt_of_le (by have:=World.block_lt_of_cell? _ _ hw167_0;first | rwa [add_block] at this | exact this) GW169.out)) | (dsimp only;exact Nat.ne_of_lt (Nat.lt_of_lt_of_le (by have:=World.block_lt_of_cell? _ _ hw167_0;first | rwa [add_block] at this | exact this) GW169.out))) _).trans (((cell_far (p:=⟨gb169,_,none⟩) (by first | exact Nat.ne_of_lt (Nat.lt_of_lt_of_le (by have:=World.block_lt_of_cell? _ _ hw167_0;first | rwa [add_block] at this | exact this) GW169.out) | (rw [add_block];exact Nat.ne_of_lt (Nat.lt_of_lt_of_le (by have:=World.block_lt_of_cell? _ _ hw167_0;first | rwa [add_block] at this | exact this) GW169.out)) | (show (Addr.add _ _).block ≠ _;rw [add_block];exact Nat.ne_of_lt (Nat.lt_of_lt_of_le (by have:=World.block_lt_of_cell? _ _ hw167_0;first | rwa [add_block] at this | exact this) GW169.out)) | (dsimp only;exact Nat.ne_of_lt (Nat.lt_of_lt_of_le (by have:=World.block_lt_of_cell? _ _ hw167_0;first | rwa [add_block] at this | exact this) GW169.out))) _).trans (((cell_far (p:=⟨gb169,_,none⟩) (by first | exact Nat.ne_of_lt (Nat.lt_of_lt_of_le (by have:=World.block_lt_of_cell? _ _ hw167_0;first | rwa [add_block] at this | exact this) GW169.out) | (rw [add_block];exact Nat.ne_of_lt (Nat.lt_of_lt_of_le (by have:=World.block_lt_of_cell? _ _ hw167_0;first | rwa [add_block] at this | exact this) GW169.out)) | (show (Addr.add _ _).block ≠ _;rw [add_block];exact Nat.ne_of_lt (Nat.lt_of_lt_of_le (by have:=World.block_lt_of_cell? _ _ hw167_0;first | rwa [add_block] at this | exact this) GW169.out)) | (dsimp only;exact Nat.ne_of_lt (Nat.lt_of_lt_of_le (by have:=World.block_lt_of_cell? _ _ hw167_0;first | rwa [add_block] at this | exact this) GW169.out))) _).trans (((cell_far (p:=⟨gb169,_,none⟩) (by first | exact Nat.ne_of_lt (Nat.lt_of_lt_of_le (by have:=World.block_lt_of_cell? _ _ hw167_0;first | rwa [add_block] at this | exact this) GW169.out) | (rw [add_block];exact Nat.ne_of_lt (Nat.lt_of_lt_of_le (by have:=World.block_lt_of_cell? _ _ hw167_0;first | rwa [add_block] at this | exact this) GW169.out)) | (show (Addr.add _ _).block ≠ _;rw [add_block];exact Nat.ne_of_lt (Nat.lt_of_lt_of_le (by have:=World.block_lt_of_cell? _ _ hw167_0;first | rwa [add_block] at this | exact this) GW169.out)) | (dsimp only;exact Nat.ne_of_lt (Nat.lt_of_lt_of_le (by have:=World.block_lt_of_cell? _ _ hw167_0;first | rwa [add_block] at this | exact this) GW169.out))) _).trans (((cell_far (p:=⟨gb169,_,none⟩) (by first | exact Nat.ne_of_lt (Nat.lt_of_lt_of_le (by have:=World.block_lt_of_cell? _ _ hw167_0;first | rwa [add_block] at this | exact this) GW169.out) | (rw [add_block];exact Nat.ne_of_lt (Nat.lt_of_lt_of_le (by have:=World.block_lt_of_cell? _ _ hw167_0;first | rwa [add_block] at this | exact this) GW169.out)) | (show (Addr.add _ _).block ≠ _;rw [add_block];exact Nat.ne_of_lt (Nat.lt_of_lt_of_le (by have:=World.block_lt_of_cell? _ _ hw167_0;first | rwa [add_block] at this | exact this) GW169.out)) | (dsimp only;exact Nat.ne_of_lt (Nat.lt_of_lt_of_le (by have:=World.block_lt_of_cell? _ _ hw167_0;first | rwa [add_block] at this | exact this) GW169.out))) _).trans (hHeld.2.2.2.2.2.1)))))))))),((cell_far (p:=⟨gb169,_,none⟩) (by first | exact Nat.ne_of_lt (Nat.lt_of_lt_of_le (by have:=World.block_lt_of_cell? _ _ hw167_1;first | rwa [add_block] at this | exact this) GW169.out) | (rw [add_block];exact Nat.ne_of_lt (Nat.lt_of_lt_of_le (by have:=World.block_lt_of_cell? _ _ hw167_1;first | rwa [add_block] at this | exact this) GW169.out)) | (show (Addr.add _ _).block ≠ _;rw [add_block];exact Nat.ne_of_lt (Nat.lt_of_lt_of_le (by have:=World.block_lt_of_cell? _ _ hw167_1;first | rwa [add_block] at this | exact this) GW169.out)) | (dsimp only;exact Nat.ne_of_lt (Nat.lt_of_lt_of_le (by have:=World.block_lt_of_cell? _ _ hw167_1;first | rwa [add_block] at this | exact this) GW169.out))) _).trans (((cell_far (p:=⟨gb169,_,none⟩) (by first | exact Nat.ne_of_lt (Nat.lt_of_lt_of_le (by have:=World.block_lt_of_cell? _ _ hw167_1;first | rwa [add_block] at this | exact this) GW169.out) | (rw [add_block];exact Nat.ne_of_lt (Nat.lt_of_lt_of_le (by have:=World.block_lt_of_cell? _ _ hw167_1;first | rwa [add_block] at this | exact this) GW169.out)) | (show (Addr.add _ _).block ≠ _;rw [add_block];exact Nat.ne_of_lt (Nat.lt_of_lt_of_le (by have:=World.block_lt_of_cell? _ _ hw167_1;first | rwa [add_block] at this | exact this) GW169.out)) | (dsimp only;exact Nat.ne_of_lt (Nat.lt_of_lt_of_le (by have:=World.block_lt_of_cell? _ _ hw167_1;first | rwa [add_block] at this | exact this) GW169.out))) _).trans (((cell_far (p:=⟨gb169,_,none⟩) (by first | exact Nat.ne_of_lt (Nat.lt_of_lt_of_le (by have:=World.block_lt_of_cell? _ _ hw167_1;first | rwa [add_block] at this | exact this) GW169.out) | (rw [add_block];exact Nat.ne_of_lt (Nat.lt_of_lt_of_le (by have:=World.block_lt_of_cell? _ _ hw167_1;first | rwa [add_block] at this | exact this) GW169.out)) | (show (Addr.add _ _).block ≠ _;rw [add_block];exact Nat.ne_of_lt (Nat.lt_of_lt_of_le (by have:=World.block_lt_of_cell? _ _ hw167_1;first | rwa [add_block] at this | exact this) GW169.out)) | (dsimp only;exact Nat.ne_of_lt (Nat.lt_of_lt_of_le (by have:=World.block_lt_of_cell? _ _ hw167_1;first | rwa [add_block] at this | exact this) GW169.out))) _).trans (((cell_far (p:=⟨gb169,_,none⟩) (by first | exact Nat.ne_of_lt (Nat.lt_of_lt_of_le (by have:=World.block_lt_of_cell? _ _ hw167_1;first | rwa [add_block] at this | exact this) GW169.out) | (rw [add_block];exact Nat.ne_of_lt (Nat.lt_of_lt_of_le (by have:=World.block_lt_of_cell? _ _ hw167_1;first | rwa [add_block] at this | exact this) GW169.out)) | (show (Addr.add _ _).block ≠ _;rw [add_block];exact Nat.ne_of_lt (Nat.lt_of_lt_of_le (by have:=World.block_lt_of_cell? _ _ hw167_1;first | rwa [add_block] at this | exact this) GW169.out)) | (dsimp only;exact Nat.ne_of_lt (Nat.lt_of_lt_of_le (by have:=World.block_lt_of_cell? _ _ hw167_1;first | rwa [add_block] at this | exact this) GW169.out))) _).trans (((cell_far (p:=⟨gb169,_,none⟩) (by first | exact Nat.ne_of_lt (Nat.lt_of_lt_of_le (by have:=World.block_lt_of_cell? _ _ hw167_1;first | rwa [add_block] at this | exact this) GW169.out) | (rw [add_block];exact Nat.ne_of_lt (Nat.lt_of_lt_of_le (by have:=World.block_lt_of_cell? _ _ hw167_1;first | rwa [add_block] at this | exact this) GW169.out)) | (show (Addr.add _ _).block ≠ _;rw [add_block];exact Nat.ne_of_lt (Nat.lt_of_lt_of_le (by have:=World.block_lt_of_cell? _ _ hw167_1;first | rwa [add_block] at this | exact this) GW169.out)) | (dsimp only;exact Nat.ne_of_lt (Nat.lt_of_lt_of_le (by have:=World.block_lt_of_cell? _ _ hw167_1;first | rwa [add_block] at this | exact this) GW169.out))) _).trans (hHeld.2.2.2.2.2.2.1)))))))))),((cell_far (p:=⟨gb169,_,none⟩) (by first | exact Nat.ne_of_lt (Nat.lt_of_lt_of_le (by have:=World.block_lt_of_cell? _ _ hw167_2;first | rwa [add_block] at this | exact this) GW169.out) | (rw [add_block];exact Nat.ne_of_lt (Nat.lt_of_lt_of_le (by have:=World.block_lt_of_cell? _ _ hw167_2;first | rwa [add_block] at this | exact this) GW169.out)) | (show (Addr.add _ _).block ≠ _;rw [add_block];exact Nat.ne_of_lt (Nat.lt_of_lt_of_le (by have:=World.block_lt_of_cell? _ _ hw167_2;first | rwa [add_block] at this | exact this) GW169.out)) | (dsimp only;exact Nat.ne_of_lt (Nat.lt_of_lt_of_le (by have:=World.block_lt_of_cell? _ _ hw167_2;first | rwa [add_block] at this | exact this) GW169.out))) _).trans (((cell_far (p:=⟨gb169,_,none⟩) (by first | exact Nat.ne_of_lt (Nat.lt_of_lt_of_le (by have:=World.block_lt_of_cell? _ _ hw167_2;first | rwa [add_block] at this | exact this) GW169.out) | (rw [add_block];exact Nat.ne_of_lt (Nat.lt_of_lt_of_le (by have:=World.block_lt_of_cell? _ _ hw167_2;first | rwa [add_block] at this | exact this) GW169.out)) | (show (Addr.add _ _).block ≠ _;rw [add_block];exact Nat.ne_of_lt (Nat.lt_of_lt_of_le (by have:=World.block_lt_of_cell? _ _ hw167_2;first | rwa [add_block] at this | exact this) GW169.out)) | (dsimp only;exact Nat.ne_of_lt (Nat.lt_of_lt_of_le (by have:=World.block_lt_of_cell? _ _ hw167_2;first | rwa [add_block] at this | exact this) GW169.out))) _).trans (((cell_far (p:=⟨gb169,_,none⟩) (by first | exact Nat.ne_of_lt (Nat.lt_of_lt_of_le (by have:=World.block_lt_of_cell? _ _ hw167_2;first | rwa [add_block] at this | exact this) GW169.out) | (rw [add_block];exact Nat.ne_of_lt (Nat.lt_of_lt_of_le (by have:=World.block_lt_of_cell? _ _ hw167_2;first | rwa [add_block] at this | exact this) GW169.out)) | (show (Addr.add _ _).block ≠ _;rw [add_block];exact Nat.ne_of_lt (Nat.lt_of_lt_of_le (by have:=World.block_lt_of_cell? _ _ hw167_2;first | rwa [add_block] at this | exact this) GW169.out)) | (dsimp only;exact Nat.ne_of_lt (Nat.lt_of_lt_of_le (by have:=World.block_lt_of_cell? _ _ hw167_2;first | rwa [add_block] at this | exact this) GW169.out))) _).trans (((cell_far (p:=⟨gb169,_,none⟩) (by first | exact Nat.ne_of_lt (Nat.lt_of_lt_of_le (by have:=World.block_lt_of_cell? _ _ hw167_2;first | rwa [add_block] at this | exact this) GW169.out) | (rw [add_block];exact Nat.ne_of_lt (Nat.lt_of_lt_of_le (by have:=World.block_lt_of_cell? _ _ hw167_2;first | rwa [add_block] at this | exact this) GW169.out)) | (show (Addr.add _ _).block ≠ _;rw [add_block];exact Nat.ne_of_lt (Nat.lt_of_lt_of_le (by have:=World.block_lt_of_cell? _ _ hw167_2;first | rwa [add_block] at this | exact this) GW169.out)) | (dsimp only;exact Nat.ne_of_lt (Nat.lt_of_lt_of_le (by have:=World.block_lt_of_cell? _ _ hw167_2;first | rwa [add_block] at this | exact this) GW169.out))) _).trans (((cell_far (p:=⟨gb169,_,none⟩) (by first | exact Nat.ne_of_lt (Nat.lt_of_lt_of_le (by have:=World.block_lt_of_cell? _ _ hw167_2;first | rwa [add_block] at this | exact this) GW169.out) | (rw [add_block];exact Nat.ne_of_lt (Nat.lt_of_lt_of_le (by have:=World.block_lt_of_cell? _ _ hw167_2;first | rwa [add_block] at this | exact this) GW169.out)) | (show (Addr.add _ _).block ≠ _;rw [add_block];exact Nat.ne_of_lt (Nat.lt_of_lt_of_le (by have:=World.block_lt_of_cell? _ _ hw167_2;first | rwa [add_block] at this | exact this) GW169.out)) | (dsimp only;exact Nat.ne_of_lt (Nat.lt_of_lt_of_le (by have:=World.block_lt_of_cell? _ _ hw167_2;first | rwa [add_block] at this | exact this) GW169.out))) _).trans (hHeld.2.2.2.2.2.2.2.1)))))))))),((cell_far (p:=⟨gb169,_,none⟩) (by first | exact Nat.ne_of_lt (Nat.lt_of_lt_of_le (by have:=World.block_lt_of_cell? _ _ hw167_3;first | rwa [add_block] at this | exact this) GW169.out) | (rw [add_block];exact Nat.ne_of_lt (Nat.lt_of_lt_of_le (by have:=World.block_lt_of_cell? _ _ hw167_3;first | rwa [add_block] at this | exact this) GW169.out)) | (show (Addr.add _ _).block ≠ _;rw [add_block];exact Nat.ne_of_lt (Nat.lt_of_lt_of_le (by have:=World.block_lt_of_cell? _ _ hw167_3;first | rwa [add_block] at this | exact this) GW169.out)) | (dsimp only;exact Nat.ne_of_lt (Nat.lt_of_lt_of_le (by have:=World.block_lt_of_cell? _ _ hw167_3;first | rwa [add_block] at this | exact this) GW169.out))) _).trans (((cell_far (p:=⟨gb169,_,none⟩) (by first | exact Nat.ne_of_lt (Nat.lt_of_lt_of_le (by have:=World.block_lt_of_cell? _ _ hw167_3;first | rwa [add_block] at this | exact this) GW169.out) | (rw [add_block];exact Nat.ne_of_lt (Nat.lt_of_lt_of_le (by have:=World.block_lt_of_cell? _ _ hw167_3;first | rwa [add_block] at this | exact this) GW169.out)) | (show (Addr.add _ _).block ≠ _;rw [add_block];exact Nat.ne_of_lt (Nat.lt_of_lt_of_le (by have:=World.block_lt_of_cell? _ _ hw167_3;first | rwa [add_block] at this | exact this) GW169.out)) | (dsimp only;exact Nat.ne_of_lt (Nat.lt_of_lt_of_le (by have:=World.block_lt_of_cell? _ _ hw167_3;first | rwa [add_block] at this | exact this) GW169.out))) _).trans (((cell_far (p:=⟨gb169,_,none⟩) (by first | exact Nat.ne_of_lt (Nat.lt_of_lt_of_le (by have:=World.block_lt_of_cell? _ _ hw167_3;first | rwa [add_block] at this | exact this) GW169.out) | (rw [add_block];exact Nat.ne_of_lt (Nat.lt_of_lt_of_le (by have:=World.block_lt_of_cell? _ _ hw167_3;first | rwa [add_block] at this | exact this) GW169.out)) | (show (Addr.add _ _).block ≠ _;rw [add_block];exact Nat.ne_of_lt (Nat.lt_of_lt_of_le (by have:=World.block_lt_of_cell? _ _ hw167_3;first | rwa [add_block] at this | exact this) GW169.out)) | (dsimp only;exact Nat.ne_of_lt (Nat.lt_of_lt_of_le (by have:=World.block_lt_of_cell? _ _ hw167_3;first | rwa [add_block] at this | exact this) GW169.out))) _).trans (((cell_far (p:=⟨gb169,_,none⟩) (by first | exact Nat.ne_of_lt (Nat.lt_of_lt_of_le (by have:=World.block_lt_of_cell? _ _ hw167_3;first | rwa [add_block] at this | exact this) GW169.out) | (rw [add_block];exact Nat.ne_of_lt (Nat.lt_of_lt_of_le (by have:=World.block_lt_of_cell? _ _ hw167_3;first | rwa [add_block] at this | exact this) GW169.out)) | (show (Addr.add _ _).block ≠ _;rw [add_block];exact Nat.ne_of_lt (Nat.lt_of_lt_of_le (by have:=World.block_lt_of_cell? _ _ hw167_3;first | rwa [add_block] at this | exact this) GW169.out)) | (dsimp only;exact Nat.ne_of_lt (Nat.lt_of_lt_of_le (by have:=World.block_lt_of_cell? _ _ hw167_3;first | rwa [add_block] at this | exact this) GW169.out))) _).trans (((cell_far (p:=⟨gb169,_,none⟩) (by first | exact Nat.ne_of_lt (Nat.lt_of_lt_of_le (by have:=World.block_lt_of_cell? _ _ hw167_3;first | rwa [add_block] at this | exact this) GW169.out) | (rw [add_block];exact Nat.ne_of_lt (Nat.lt_of_lt_of_le (by have:=World.block_lt_of_cell? _ _ hw167_3;first | rwa [add_block] at this | exact this) GW169.out)) | (show (Addr.add _ _).block ≠ _;rw [add_block];exact Nat.ne_of_lt (Nat.lt_of_lt_of_le (by have:=World.block_lt_of_cell? _ _ hw167_3;first | rwa [add_block] at this | exact this) GW169.out)) | (dsimp only;exact Nat.ne_of_lt (Nat.lt_of_lt_of_le (by have:=World.block_lt_of_cell? _ _ hw167_3;first | rwa [add_block] at this | exact this) GW169.out))) _).trans (hHeld.2.2.2.2.2.2.2.2.1)))))))))),((cell_far (p:=⟨gb169,_,none⟩) (by first | exact Nat.ne_of_lt (Nat.lt_of_lt_of_le (by have:=World.block_lt_of_cell? _ _ hw167_4;first | rwa [add_block] at this | exact this) GW169.out) | (rw [add_block];exact Nat.ne_of_lt (Nat.lt_of_lt_of_le (by have:=World.block_lt_of_cell? _ _ hw167_4;first | rwa [add_block] at this | exact this) GW169.out)) | (show (Addr.add _ _).block ≠ _;rw [add_block];exact Nat.ne_of_lt (Nat.lt_of_lt_of_le (by have:=World.block_lt_of_cell? _ _ hw167_4;first | rwa [add_block] at this | exact this) GW169.out)) | (dsimp only;exact Nat.ne_of_lt (Nat.lt_of_lt_of_le (by have:=World.block_lt_of_cell? _ _ hw167_4;first | rwa [add_block] at this | exact this) GW169.out))) _).trans (((cell_far (p:=⟨gb169,_,none⟩) (by first | exact Nat.ne_of_lt (Nat.lt_of_lt_of_le (by have:=World.block_lt_of_cell? _ _ hw167_4;first | rwa [add_block] at this | exact this) GW169.out) | (rw [add_block];exact Nat.ne_of_lt (Nat.lt_of_lt_of_le (by have:=World.block_lt_of_cell? _ _ hw167_4;first | rwa [add_block] at this | exact this) GW169.out)) | (show (Addr.add _ _).block ≠ _;rw [add_block];exact Nat.ne_of_lt (Nat.lt_of_lt_of_le (by have:=World.block_lt_of_cell? _ _ hw167_4;first | rwa [add_block] at this | exact this) GW169.out)) | (dsimp only;exact Nat.ne_of_lt (Nat.lt_of_lt_of_le (by have:=World.block_lt_of_cell? _ _ hw167_4;first | rwa [add_block] at this | exact this) GW169.out))) _).trans (((cell_far (p:=⟨gb169,_,none⟩) (by first | exact Nat.ne_of_lt (Nat.lt_of_lt_of_le (by have:=World.block_lt_of_cell? _ _ hw167_4;first | rwa [add_block] at this | exact this) GW169.out) | (rw [add_block];exact Nat.ne_of_lt (Nat.lt_of_lt_of_le (by have:=World.block_lt_of_cell? _ _ hw167_4;first | rwa [add_block] at this | exact this) GW169.out)) | (show (Addr.add _ _).block ≠ _;rw [add_block];exact Nat.ne_of_lt (Nat.lt_of_lt_of_le (by have:=World.block_lt_of_cell? _ _ hw167_4;first | rwa [add_block] at this | exact this) GW169.out)) | (dsimp only;exact Nat.ne_of_lt (Nat.lt_of_lt_of_le (by have:=World.block_lt_of_cell? _ _ hw167_4;first | rwa [add_block] at this | exact this) GW169.out))) _).trans (((cell_far (p:=⟨gb169,_,none⟩) (by first | exact Nat.ne_of_lt (Nat.lt_of_lt_of_le (by have:=World.block_lt_of_cell? _ _ hw167_4;first | rwa [add_block] at this | exact this) GW169.out) | (rw [add_block];exact Nat.ne_of_lt (Nat.lt_of_lt_of_le (by have:=World.block_lt_of_cell? _ _ hw167_4;first | rwa [add_block] at this | exact this) GW169.out)) | (show (Addr.add _ _).block ≠ _;rw [add_block];exact Nat.ne_of_lt (Nat.lt_of_lt_of_le (by have:=World.block_lt_of_cell? _ _ hw167_4;first | rwa [add_block] at this | exact this) GW169.out)) | (dsimp only;exact Nat.ne_of_lt (Nat.lt_of_lt_of_le (by have:=World.block_lt_of_cell? _ _ hw167_4;first | rwa [add_block] at this | exact this) GW169.out))) _).trans (((cell_far (p:=⟨gb169,_,none⟩) (by first | exact Nat.ne_of_lt (Nat.lt_of_lt_of_le (by have:=World.block_lt_of_cell? _ _ hw167_4;first | rwa [add_block] at this | exact this) GW169.out) | (rw [add_block];exact Nat.ne_of_lt (Nat.lt_of_lt_of_le (by have:=World.block_lt_of_cell? _ _ hw167_4;first | rwa [add_block] at this | exact this) GW169.out)) | (show (Addr.add _ _).block ≠ _;rw [add_block];exact Nat.ne_of_lt (Nat.lt_of_lt_of_le (by have:=World.block_lt_of_cell? _ _ hw167_4;first | rwa [add_block] at this | exact this) GW169.out)) | (dsimp only;exact Nat.ne_of_lt (Nat.lt_of_lt_of_le (by have:=World.block_lt_of_cell? _ _ hw167_4;first | rwa [add_block] at this | exact this) GW169.out))) _).trans (hHeld.2.2.2.2.2.2.2.2.2))))))))))⟩ (fun hHeld => ?_)
     clear hK K
     refine done_ (done_of HT_.out (by kernel_rfl)) ?_
     go_upto_region 3 with (first | ((with_reducible refine gate_callee (f:=78) rfl ?_);refine goesL_ (some 25) rfl rfl Try.func78 (by kernel_rfl) rfl #[.slice (some ad166) l0.length c0,.int .i64 a1] rfl (by (try simp only [List.map_toArray,List.map_cons,List.map_nil]);first | done | rfl | (simp only [List.length_drop,List.length_take];rfl)) ?_;(with_reducible refine (humusref26_Place.calls k _ _ l0 a1 t170 _ ?side1 ?side2 A8.out).mono ?_);(case side1 => exact Kd.C_below HR0.out (by repeat (first | (with_reducible first | exact HB.out | apply below_alloc | apply pw_below_drewN | apply below_drew1 | refine below_set ?_ GE168.out | refine below_set ?_ GE169.out) | exact HB.out)));(case side2 => exact HC0.out);rintro e w' ⟨rfl,⟨nd,rfl⟩⟩;refine ⟨_,rfl,?_⟩) | ((with_reducible refine gate_callee (f:=78) rfl ?_);refine goesL_ (some 28) rfl rfl Try.func78 (by kernel_rfl) rfl #[.slice (some ad166) l0.length c0,.int .i64 a2] rfl (by (try simp only [List.map_toArray,List.map_cons,List.map_nil]);first | done | rfl | (simp only [List.length_drop,List.length_take];rfl)) ?_;(with_reducible refine (humusref26_Place.calls k _ _ l0 a2 t171 _ ?side1 ?side2 A9.out).mono ?_);(case side1 => exact Kd.C_below HR0.out (by repeat (first | (with_reducible first | exact HB.out | apply below_alloc | apply pw_below_drewN | apply below_drew1 | refine below_set ?_ GE168.out | refine below_set ?_ GE169.out) | exact HB.out)));(case side2 => exact HC0.out);rintro e w' ⟨rfl,⟨nd,rfl⟩⟩;refine ⟨_,rfl,?_⟩))
     (try simp only [Act.put,List.setIfInBounds_toArray,List.set_cons_zero,List.set_cons_succ])
     go_cut [11] (fun v11 wc => ∃ (kq : Nat) (x11_9 : Int),v11 = .int .i64 x11_9 ∧ Aside0 (humusref26_Ahead.j0 kq t170 t171 x11_9 ((rd_T43 l0 a1).f0) ((rd_T43 l0 a1).f1) ((rd_T43 l0 a1).f2) ((rd_T43 l0 a1).f3) ((rd_T43 l0 a1).f4) ((rd_T43 l0 a2).f0) ((rd_T43 l0 a2).f1) ((rd_T43 l0 a2).f2) ((rd_T43 l0 a2).f3) ((rd_T43 l0 a2).f4) = some r) ∧ Aside0 (kq ≤ k) ∧ Aside0 (wc.heap[gb168]? = some (.cells #[.int .i64 ((rd_T43 l0 a1).f0),.int .i64 ((rd_T43 l0 a1).f1),(.slice A166_2 ((rd_T43 l0 a1).f2).length c166_2),(.slice A166_3 ((rd_T43 l0 a1).f3).length c166_3),(.slice A166_4 ((rd_T43 l0 a1).f4).length c166_4)] 43 (0,0))) ∧ Aside0 (wc.heap[gb169]? = some (.cells #[.int .i64 ((rd_T43 l0 a2).f0),.int .i64 ((rd_T43 l0 a2).f1),(.slice A167_2 ((rd_T43 l0 a2).f2).length c167_2),(.slice A167_3 ((rd_T43 l0 a2).f3).length c167_3),(.slice A167_4 ((rd_T43 l0 a2).f4).length c167_4)] 43 (0,0))) ∧ Aside0 (Below w.heap.size w wc))
     case first =>
      have H:=HC10.out
      clear HC10
      have H':=Aside0.mk H
      clear H
      go_wp2
      go_meet
      case rel => exact ⟨_,(0),(by first | rfl | (simp;done) | (simp [*];done)),H',⟨by first | omega | exact Nat.le_refl _⟩,⟨by (with_reducible repeat (first | refine blk_drewN ?_ _ | refine blk_drew ?_ | refine blk_alloc ?_ _));refine blk_far ?_ NB168_169.out _;(with_reducible repeat (first | refine blk_drewN ?_ _ | refine blk_drew ?_ | refine blk_alloc ?_ _));refine blk_far ?_ NB168_169.out _;(with_reducible repeat (first | refine blk_drewN ?_ _ | refine blk_drew ?_ | refine blk_alloc ?_ _));refine blk_far ?_ NB168_169.out _;(with_reducible repeat (first | refine blk_drewN ?_ _ | refine blk_drew ?_ | refine blk_alloc ?_ _));refine blk_far ?_ NB168_169.out _;(with_reducible repeat (first | refine blk_drewN ?_ _ | refine blk_drew ?_ | refine blk_alloc ?_ _));refine blk_far ?_ NB168_169.out _;(with_reducible repeat (first | refine blk_drewN ?_ _ | refine blk_drew ?_ | refine blk_alloc ?_ _));apply blkf_5_0_4;(with_reducible repeat (first | refine blk_drewN ?_ _ | refine blk_drew ?_ | refine blk_alloc ?_ _));exact BK168.out⟩,⟨by (with_reducible repeat (first | refine blk_drewN ?_ _ | refine blk_drew ?_ | refine blk_alloc ?_ _));apply blkf_5_0_4;(with_reducible repeat (first | refine blk_drewN ?_ _ | refine blk_drew ?_ | refine blk_alloc ?_ _));refine blk_far ?_ NB169_168.out _;(with_reducible repeat (first | refine blk_drewN ?_ _ | refine blk_drew ?_ | refine blk_alloc ?_ _));refine blk_far ?_ NB169_168.out _;(with_reducible repeat (first | refine blk_drewN ?_ _ | refine blk_drew ?_ | refine blk_alloc ?_ _));refine blk_far ?_ NB169_168.out _;(with_reducible repeat (first | refine blk_drewN ?_ _ | refine blk_drew ?_ | refine blk_alloc ?_ _));refine blk_far ?_ NB169_168.out _;(with_reducible repeat (first | refine blk_drewN ?_ _ | refine blk_drew ?_ | refine blk_alloc ?_ _));refine blk_far ?_ NB169_168.out _;(with_reducible repeat (first | refine blk_drewN ?_ _ | refine blk_drew ?_ | refine blk_alloc ?_ _));exact BK169.out⟩,⟨by repeat (first | (with_reducible first | exact HB.out | apply below_alloc | apply pw_below_drewN | apply below_drew1 | refine below_set ?_ GE168.out | refine below_set ?_ GE169.out) | exact HB.out)⟩⟩
     case rest =>
      clear HC10
      try clear c1
      try clear p1
      try clear q1
      try clear hx1
      try clear p2
      try clear c4
      try clear c4b0
      try clear c5
      try clear c5b0
      try clear c6
      try clear c6b0
      try clear c7
      try clear c7b0
      try clear c16
      try clear p16
      try clear q16
      try clear hx16
      try clear hx166_0
      try clear hx166_1
      try clear hx166_2
      try clear hx166_3
      try clear hx166_4
      try clear hx167_0
      try clear hx167_1
      try clear hx167_2
      try clear hx167_3
      try clear hx167_4
      try clear p166
      try clear p167
      try clear q166
      try clear q167
      obtain ⟨kq,x11_9,rfl,HA,HJ9,BK168,BK169,HB⟩:=hcut
      cases kq with
      | zero => exact absurd HA.out (by simp [humusref26_Ahead.j0])
      | succ kj9 =>
       have H:=HA.out
       clear HA
       simp only [humusref26_Ahead.j0] at H
       have H':=Aside0.mk H
       clear H
       go_wp2
       go_loopg [11] kj9 (fun kq v11 w' => ∃ (x11_2 : Int),v11 = .int .i64 x11_2 ∧ Aside0 (humusref26_Ahead.l0 kq t170 t171 x11_2 ((rd_T43 l0 a1).f0) ((rd_T43 l0 a1).f1) ((rd_T43 l0 a1).f2) ((rd_T43 l0 a1).f3) ((rd_T43 l0 a1).f4) ((rd_T43 l0 a2).f0) ((rd_T43 l0 a2).f1) ((rd_T43 l0 a2).f2) ((rd_T43 l0 a2).f3) ((rd_T43 l0 a2).f4) = some r) ∧ Aside0 (kq ≤ kj9) ∧ Aside0 (w'.heap[gb168]? = some (.cells #[.int .i64 ((rd_T43 l0 a1).f0),.int .i64 ((rd_T43 l0 a1).f1),(.slice A166_2 ((rd_T43 l0 a1).f2).length c166_2),(.slice A166_3 ((rd_T43 l0 a1).f3).length c166_3),(.slice A166_4 ((rd_T43 l0 a1).f4).length c166_4)] 43 (0,0))) ∧ Aside0 (w'.heap[gb169]? = some (.cells #[.int .i64 ((rd_T43 l0 a2).f0),.int .i64 ((rd_T43 l0 a2).f1),(.slice A167_2 ((rd_T43 l0 a2).f2).length c167_2),(.slice A167_3 ((rd_T43 l0 a2).f3).length c167_3),(.slice A167_4 ((rd_T43 l0 a2).f4).length c167_4)] 43 (0,0))) ∧ Aside0 (Below w.heap.size w w'))
       case atStart => exact ⟨(x11_9),(by first | rfl | (simp;done) | (simp [*];done)),H',⟨Nat.le_refl _⟩,⟨by (with_reducible repeat (first | refine blk_drewN ?_ _ | refine blk_drew ?_ | refine blk_alloc ?_ _));exact BK168.out⟩,⟨by (with_reducible repeat (first | refine blk_drewN ?_ _ | refine blk_drew ?_ | refine blk_alloc ?_ _));exact BK169.out⟩,⟨by repeat (first | (with_reducible first | exact HB.out | apply below_alloc | apply pw_below_drewN | apply below_drew1 | refine below_set ?_ GE168.out | refine below_set ?_ GE169.out) | exact HB.out)⟩⟩
       case round =>
        clear H'
        try clear c1
        try clear p1
        try clear q1
        try clear hx1
        try clear p2
        try clear c4
        try clear c4b0
        try clear c5
        try clear c5b0
        try clear c6
        try clear c6b0
        try clear c7
        try clear c7b0
        try clear c16
        try clear p16
        try clear q16
        try clear hx16
        try clear hx166_0
        try clear hx166_1
        try clear hx166_2
        try clear hx166_3
        try clear hx166_4
        try clear hx167_0
        try clear hx167_1
        try clear hx167_2
        try clear hx167_3
        try clear hx167_4
        try clear p1
        try clear p16
        try clear p166
        try clear p167
        try clear p2
        try clear q1
        try clear q16
        try clear q166
        try clear q167
        obtain ⟨x11_2,rfl,HA,HK2,BK168,BK169,HB⟩:=hrel
        cases gk with
        | zero => exact absurd HA.out (by simp [humusref26_Ahead.l0])
        | succ k2 =>
         have H:=HA.out
         clear HA
         simp only [humusref26_Ahead.l0] at H
         by_cases c25 : x11_2 < (((rd_T43 l0 a1).f3).length : Int)
         ·rw [if_pos c25] at H
          have c25b0 : decide (x11_2 < (((rd_T43 l0 a1).f3).length : Int)) = true:=decide_eq_true c25
          clear c25
          by_cases c26 : 0 ≤ x11_2
          ·rw [if_pos c26] at H
           have c26b0 : decide (0 ≤ x11_2) = true:=decide_eq_true c26
           clear c26
           have H':=Aside0.mk H
           clear H
           have hnb27:=NB168_169.out
           have hnc27:=NB169_168.out
           obtain ⟨hcz28_0,hcz28_1,hcz28_2,hcz28_3,hcz28_4⟩:=blkc_5 BK168.out
           obtain ⟨hfz28_0,hfz28_1,hfz28_2,hfz28_3,hfz28_4⟩:=blkz_5 BK168.out
           have p172 : 0 ≤ (x11_2 : Int):=of_decide_eq_true (by first | (with_reducible assumption) | assumption)
           have q172 : x11_2 < (((rd_T43 l0 a1).f3).length : Int):=of_decide_eq_true (by first | (with_reducible assumption) | assumption)
           obtain ⟨ad172,A172_2,c172_2,e172,hx172_0,hx172_1,hx172_2,hx172_3,hx172_4,hx172_5,hl172_2,hi172_2⟩:=at_T124 HR166_3.out x11_2 p172 q172
           cases e172
           replace hx172_0:=(HB.out.cell (World.block_lt_of_cell? w _ hx172_0)).trans hx172_0
           replace hx172_1:=(HB.out.cell (World.block_lt_of_cell? w _ hx172_1)).trans hx172_1
           replace hx172_2:=(HB.out.cell (World.block_lt_of_cell? w _ hx172_2)).trans hx172_2
           replace hx172_3:=(HB.out.cell (World.block_lt_of_cell? w _ hx172_3)).trans hx172_3
           replace hx172_4:=(HB.out.cell (World.block_lt_of_cell? w _ hx172_4)).trans hx172_4
           replace hx172_5:=(HB.out.cell (World.block_lt_of_cell? w _ hx172_5)).trans hx172_5
           have HR172_2:=Aside0.mk hi172_2
           have HC172_2:=Aside0.mk hl172_2
           clear hi172_2 hl172_2
           replace p172:=eq_true p172
           replace q172:=eq_true q172
           go_wp2
           go_loopg [13] k2 (fun kq v13 w' => ∃ (x13_3 : Int),v13 = .int .i64 x13_3 ∧ Aside0 (humusref26_Ahead.l1 kq t170 t171 x11_2 ((rd_T124 ((rd_T43 l0 a1).f3) x11_2).f0) x13_3 ((rd_T43 l0 a1).f0) ((rd_T43 l0 a1).f1) ((rd_T43 l0 a1).f2) ((rd_T43 l0 a1).f3) ((rd_T43 l0 a1).f4) ((rd_T43 l0 a2).f0) ((rd_T43 l0 a2).f1) ((rd_T43 l0 a2).f2) ((rd_T43 l0 a2).f3) ((rd_T43 l0 a2).f4) = some r) ∧ Aside0 (kq ≤ k2) ∧ Aside0 (w'.heap[gb168]? = some (.cells #[.int .i64 ((rd_T43 l0 a1).f0),.int .i64 ((rd_T43 l0 a1).f1),(.slice A166_2 ((rd_T43 l0 a1).f2).length c166_2),(.slice (some ad172) ((rd_T43 l0 a1).f3).length c166_3),(.slice A166_4 ((rd_T43 l0 a1).f4).length c166_4)] 43 (0,0))) ∧ Aside0 (w'.heap[gb169]? = some (.cells #[.int .i64 ((rd_T43 l0 a2).f0),.int .i64 ((rd_T43 l0 a2).f1),(.slice A167_2 ((rd_T43 l0 a2).f2).length c167_2),(.slice A167_3 ((rd_T43 l0 a2).f3).length c167_3),(.slice A167_4 ((rd_T43 l0 a2).f4).length c167_4)] 43 (0,0))) ∧ Aside0 (Below w.heap.size w w'))
           case atStart => exact ⟨(0),(by first | rfl | (simp;done) | (simp [*];done)),H',⟨Nat.le_refl _⟩,⟨by (with_reducible repeat (first | refine blk_drewN ?_ _ | refine blk_drew ?_ | refine blk_alloc ?_ _));exact BK168.out⟩,⟨by (with_reducible repeat (first | refine blk_drewN ?_ _ | refine blk_drew ?_ | refine blk_alloc ?_ _));exact BK169.out⟩,⟨by repeat (first | (with_reducible first | exact HB.out | apply below_alloc | apply pw_below_drewN | apply below_drew1 | refine below_set ?_ GE168.out | refine below_set ?_ GE169.out) | exact HB.out)⟩⟩
           case round =>
            clear H'
            try clear c1
            try clear p1
            try clear q1
            try clear hx1
            try clear c2
            try clear p2
            try clear c4
            try clear c4b0
            try clear c5
            try clear c5b0
            try clear c6
            try clear c6b0
            try clear c7
            try clear c7b0
            try clear c16
            try clear p16
            try clear q16
            try clear hx16
            try clear c17
            try clear p17
            try clear q17
            try clear hx17
            try clear c25
            try clear c25b0
            try clear c26
            try clear c26b0
            try clear c27
            try clear hcz28_0
            try clear hcz28_1
            try clear hcz28_2
            try clear hcz28_3
            try clear hcz28_4
            try clear hfz28_0
            try clear hfz28_1
            try clear hfz28_2
            try clear hfz28_3
            try clear hfz28_4
            try clear hx166_0
            try clear hx166_1
            try clear hx166_2
            try clear hx166_3
            try clear hx166_4
            try clear hx167_0
            try clear hx167_1
            try clear hx167_2
            try clear hx167_3
            try clear hx167_4
            try clear hx172_0
            try clear hx172_1
            try clear hx172_2
            try clear hx172_3
            try clear hx172_4
            try clear hx172_5
            try clear p1
            try clear p16
            try clear p166
            try clear p167
            try clear p172
            try clear p2
            try clear q1
            try clear q16
            try clear q166
            try clear q167
            try clear q172
            obtain ⟨x13_3,rfl,HA,HK3,BK168,BK169,HB⟩:=hrel
            cases gk with
            | zero => exact absurd HA.out (by simp [humusref26_Ahead.l1])
            | succ k3 =>
             have H:=HA.out
             clear HA
             simp only [humusref26_Ahead.l1] at H
             by_cases c29 : x13_3 < (((rd_T43 l0 a2).f3).length : Int)
             ·rw [if_pos c29] at H
              have c29b0 : decide (x13_3 < (((rd_T43 l0 a2).f3).length : Int)) = true:=decide_eq_true c29
              clear c29
              by_cases c30 : 0 ≤ x13_3
              ·rw [if_pos c30] at H
               have c30b0 : decide (0 ≤ x13_3) = true:=decide_eq_true c30
               clear c30
               replace H:=Option.bind_eq_some_iff.mp H
               obtain ⟨t174,A310,H⟩:=H
               replace H : (if t174 = true then (if t170 < t171 then (humusref26_Ahead.j3 k3 true) else (humusref26_Ahead.l1 k3 t170 t171 x11_2 ((rd_T124 ((rd_T43 l0 a1).f3) x11_2).f0) (wrap64 (x13_3 + 1)) ((rd_T43 l0 a1).f0) ((rd_T43 l0 a1).f1) ((rd_T43 l0 a1).f2) ((rd_T43 l0 a1).f3) ((rd_T43 l0 a1).f4) ((rd_T43 l0 a2).f0) ((rd_T43 l0 a2).f1) ((rd_T43 l0 a2).f2) ((rd_T43 l0 a2).f3) ((rd_T43 l0 a2).f4))) else (humusref26_Ahead.l1 k3 t170 t171 x11_2 ((rd_T124 ((rd_T43 l0 a1).f3) x11_2).f0) (wrap64 (x13_3 + 1)) ((rd_T43 l0 a1).f0) ((rd_T43 l0 a1).f1) ((rd_T43 l0 a1).f2) ((rd_T43 l0 a1).f3) ((rd_T43 l0 a1).f4) ((rd_T43 l0 a2).f0) ((rd_T43 l0 a2).f1) ((rd_T43 l0 a2).f2) ((rd_T43 l0 a2).f3) ((rd_T43 l0 a2).f4))) = some r:=H
               have A31:=Aside0.mk A310
               clear A310
               by_cases c32 : t174 = true
               ·subst c32
                have H1 : (if t170 < t171 then (humusref26_Ahead.j3 k3 true) else (humusref26_Ahead.l1 k3 t170 t171 x11_2 ((rd_T124 ((rd_T43 l0 a1).f3) x11_2).f0) (wrap64 (x13_3 + 1)) ((rd_T43 l0 a1).f0) ((rd_T43 l0 a1).f1) ((rd_T43 l0 a1).f2) ((rd_T43 l0 a1).f3) ((rd_T43 l0 a1).f4) ((rd_T43 l0 a2).f0) ((rd_T43 l0 a2).f1) ((rd_T43 l0 a2).f2) ((rd_T43 l0 a2).f3) ((rd_T43 l0 a2).f4))) = some r:=by rw [if_pos rfl] at H;exact H
                clear H
                have H:=H1
                clear H1
                by_cases c33 : t170 < t171
                ·rw [if_pos c33] at H
                 have c33b0 : decide (t170 < t171) = true:=decide_eq_true c33
                 clear c33
                 have HC34:=Aside0.mk H
                 clear H
                 have hnb35:=NB169_168.out
                 have hnc35:=NB168_169.out
                 obtain ⟨hcz36_0,hcz36_1,hcz36_2,hcz36_3,hcz36_4⟩:=blkc_5 BK169.out
                 obtain ⟨hfz36_0,hfz36_1,hfz36_2,hfz36_3,hfz36_4⟩:=blkz_5 BK169.out
                 have p173 : 0 ≤ (x13_3 : Int):=of_decide_eq_true (by first | (with_reducible assumption) | assumption)
                 have q173 : x13_3 < (((rd_T43 l0 a2).f3).length : Int):=of_decide_eq_true (by first | (with_reducible assumption) | assumption)
                 obtain ⟨ad173,A173_2,c173_2,e173,hx173_0,hx173_1,hx173_2,hx173_3,hx173_4,hx173_5,hl173_2,hi173_2⟩:=at_T124 HR167_3.out x13_3 p173 q173
                 cases e173
                 replace hx173_0:=(HB.out.cell (World.block_lt_of_cell? w _ hx173_0)).trans hx173_0
                 replace hx173_1:=(HB.out.cell (World.block_lt_of_cell? w _ hx173_1)).trans hx173_1
                 replace hx173_2:=(HB.out.cell (World.block_lt_of_cell? w _ hx173_2)).trans hx173_2
                 replace hx173_3:=(HB.out.cell (World.block_lt_of_cell? w _ hx173_3)).trans hx173_3
                 replace hx173_4:=(HB.out.cell (World.block_lt_of_cell? w _ hx173_4)).trans hx173_4
                 replace hx173_5:=(HB.out.cell (World.block_lt_of_cell? w _ hx173_5)).trans hx173_5
                 have HR173_2:=Aside0.mk hi173_2
                 have HC173_2:=Aside0.mk hl173_2
                 clear hi173_2 hl173_2
                 replace p173:=eq_true p173
                 replace q173:=eq_true q173
                 go_upto_region 11 with (first | ((with_reducible refine gate_callee (f:=49) rfl ?_);refine goesL_ (some 56) rfl rfl Try.func49 (by kernel_rfl) rfl #[.float .f64 ((rd_T124 ((rd_T43 l0 a1).f3) x11_2).f0),.float .f64 ((rd_T124 ((rd_T43 l0 a2).f3) x13_3).f0)] rfl (by (try simp only [List.map_toArray,List.map_cons,List.map_nil]);first | done | rfl | (simp only [List.length_drop,List.length_take];rfl)) ?_;(with_reducible refine (humusref01_Alike.calls ((rd_T124 ((rd_T43 l0 a1).f3) x11_2).f0) ((rd_T124 ((rd_T43 l0 a2).f3) x13_3).f0) true _ A31.out).mono ?_);rintro e w' ⟨rfl,⟨nd,rfl⟩⟩;refine ⟨_,rfl,?_⟩))
                 (try simp only [Act.put,List.setIfInBounds_toArray,List.set_cons_zero,List.set_cons_succ])
                 go_cut [6] (fun v6 wc => ∃ (kq : Nat) (x6_33 : Bool),v6 = .bool x6_33 ∧ Aside0 (humusref26_Ahead.j3 kq x6_33 = some r) ∧ Aside0 (kq ≤ k3) ∧ Aside0 (wc.heap[gb168]? = some (.cells #[.int .i64 ((rd_T43 l0 a1).f0),.int .i64 ((rd_T43 l0 a1).f1),(.slice A166_2 ((rd_T43 l0 a1).f2).length c166_2),(.slice (some ad172) ((rd_T43 l0 a1).f3).length c166_3),(.slice A166_4 ((rd_T43 l0 a1).f4).length c166_4)] 43 (0,0))) ∧ Aside0 (wc.heap[gb169]? = some (.cells #[.int .i64 ((rd_T43 l0 a2).f0),.int .i64 ((rd_T43 l0 a2).f1),(.slice A167_2 ((rd_T43 l0 a2).f2).length c167_2),(.slice (some ad173) ((rd_T43 l0 a2).f3).length c167_3),(.slice A167_4 ((rd_T43 l0 a2).f4).length c167_4)] 43 (0,0))) ∧ Aside0 (Below w.heap.size w wc))
                 case first =>
                  have H:=HC34.out
                  clear HC34
                  have H':=Aside0.mk H
                  clear H
                  go_wp2
                  go_meet
                  case rel => exact ⟨_,(true),(by first | rfl | (simp;done) | (simp [*];done)),H',⟨by have:=HJ9.out;have:=HK2.out;have:=HK3.out;first | omega | exact Nat.le_refl _⟩,⟨by (with_reducible repeat (first | refine blk_drewN ?_ _ | refine blk_drew ?_ | refine blk_alloc ?_ _));exact BK168.out⟩,⟨by (with_reducible repeat (first | refine blk_drewN ?_ _ | refine blk_drew ?_ | refine blk_alloc ?_ _));exact BK169.out⟩,⟨by repeat (first | (with_reducible first | exact HB.out | apply below_alloc | apply pw_below_drewN | apply below_drew1 | refine below_set ?_ GE168.out | refine below_set ?_ GE169.out) | exact HB.out)⟩⟩
                 case rest =>
                  clear HC34
                  try clear c1
                  try clear p1
                  try clear q1
                  try clear hx1
                  try clear c2
                  try clear p2
                  try clear c3
                  try clear c4
                  try clear c4b0
                  try clear c5
                  try clear c5b0
                  try clear c6
                  try clear c6b0
                  try clear p6
                  try clear c7
                  try clear c7b0
                  try clear c16
                  try clear p16
                  try clear q16
                  try clear hx16
                  try clear c17
                  try clear p17
                  try clear q17
                  try clear hx17
                  try clear c25
                  try clear c25b0
                  try clear c26
                  try clear c26b0
                  try clear c27
                  try clear c29
                  try clear c29b0
                  try clear c30
                  try clear c30b0
                  try clear c32
                  try clear c33
                  try clear c33b0
                  try clear c35
                  try clear hcz28_0
                  try clear hcz28_1
                  try clear hcz28_2
                  try clear hcz28_3
                  try clear hcz28_4
                  try clear hcz36_0
                  try clear hcz36_1
                  try clear hcz36_2
                  try clear hcz36_3
                  try clear hcz36_4
                  try clear hfz28_0
                  try clear hfz28_1
                  try clear hfz28_2
                  try clear hfz28_3
                  try clear hfz28_4
                  try clear hfz36_0
                  try clear hfz36_1
                  try clear hfz36_2
                  try clear hfz36_3
                  try clear hfz36_4
                  try clear hx166_0
                  try clear hx166_1
                  try clear hx166_2
                  try clear hx166_3
                  try clear hx166_4
                  try clear hx167_0
                  try clear hx167_1
                  try clear hx167_2
                  try clear hx167_3
                  try clear hx167_4
                  try clear hx172_0
                  try clear hx172_1
                  try clear hx172_2
                  try clear hx172_3
                  try clear hx172_4
                  try clear hx172_5
                  try clear hx173_0
                  try clear hx173_1
                  try clear hx173_2
                  try clear hx173_3
                  try clear hx173_4
                  try clear hx173_5
                  try clear p1
                  try clear p16
                  try clear p166
                  try clear p167
                  try clear p17
                  try clear p172
                  try clear p173
                  try clear p2
                  try clear q1
                  try clear q16
                  try clear q166
                  try clear q167
                  try clear q17
                  try clear q172
                  try clear q173
                  obtain ⟨kq,x6_33,rfl,HA,HJ33,BK168,BK169,HB⟩:=hcut
                  cases kq with
                  | zero => exact absurd HA.out (by simp [humusref26_Ahead.j3])
                  | succ kj33 =>
                   have H:=HA.out
                   clear HA
                   simp only [humusref26_Ahead.j3] at H
                   obtain rfl:=Option.some.inj H
                   go_wp2
                   go_ret
                   exact ⟨by first | rfl | (simp [errW_none,errW_some] <;> rfl) | (simp [*,errW_none,errW_some] <;> rfl),by repeat (first | (with_reducible first | exact HB.out | apply below_alloc | apply pw_below_drewN | apply below_drew1 | refine below_set ?_ GE168.out | refine below_set ?_ GE169.out) | exact HB.out)⟩
                ·rw [if_neg c33] at H
                 have c33b0 : decide (t170 < t171) = false:=decide_eq_false c33
                 clear c33
                 have H':=Aside0.mk H
                 clear H
                 have hnb37:=NB169_168.out
                 have hnc37:=NB168_169.out
                 obtain ⟨hcz38_0,hcz38_1,hcz38_2,hcz38_3,hcz38_4⟩:=blkc_5 BK169.out
                 obtain ⟨hfz38_0,hfz38_1,hfz38_2,hfz38_3,hfz38_4⟩:=blkz_5 BK169.out
                 have p173 : 0 ≤ (x13_3 : Int):=of_decide_eq_true (by first | (with_reducible assumption) | assumption)
                 have q173 : x13_3 < (((rd_T43 l0 a2).f3).length : Int):=of_decide_eq_true (by first | (with_reducible assumption) | assumption)
                 obtain ⟨ad173,A173_2,c173_2,e173,hx173_0,hx173_1,hx173_2,hx173_3,hx173_4,hx173_5,hl173_2,hi173_2⟩:=at_T124 HR167_3.out x13_3 p173 q173
                 cases e173
                 replace hx173_0:=(HB.out.cell (World.block_lt_of_cell? w _ hx173_0)).trans hx173_0
                 replace hx173_1:=(HB.out.cell (World.block_lt_of_cell? w _ hx173_1)).trans hx173_1
                 replace hx173_2:=(HB.out.cell (World.block_lt_of_cell? w _ hx173_2)).trans hx173_2
                 replace hx173_3:=(HB.out.cell (World.block_lt_of_cell? w _ hx173_3)).trans hx173_3
                 replace hx173_4:=(HB.out.cell (World.block_lt_of_cell? w _ hx173_4)).trans hx173_4
                 replace hx173_5:=(HB.out.cell (World.block_lt_of_cell? w _ hx173_5)).trans hx173_5
                 have HR173_2:=Aside0.mk hi173_2
                 have HC173_2:=Aside0.mk hl173_2
                 clear hi173_2 hl173_2
                 replace p173:=eq_true p173
                 replace q173:=eq_true q173
                 go_wp2_with (first | ((with_reducible refine gate_callee (f:=49) rfl ?_);refine goesL_ (some 56) rfl rfl Try.func49 (by kernel_rfl) rfl #[.float .f64 ((rd_T124 ((rd_T43 l0 a1).f3) x11_2).f0),.float .f64 ((rd_T124 ((rd_T43 l0 a2).f3) x13_3).f0)] rfl (by (try simp only [List.map_toArray,List.map_cons,List.map_nil]);first | done | rfl | (simp only [List.length_drop,List.length_take];rfl)) ?_;(with_reducible refine (humusref01_Alike.calls ((rd_T124 ((rd_T43 l0 a1).f3) x11_2).f0) ((rd_T124 ((rd_T43 l0 a2).f3) x13_3).f0) true _ A31.out).mono ?_);rintro e w' ⟨rfl,⟨nd,rfl⟩⟩;refine ⟨_,rfl,?_⟩))
                 go_roundg k3
                 case measure => have:=HJ9.out;have:=HK2.out;have:=HK3.out;omega
                 case rel => exact ⟨(wrap64 (x13_3 + 1)),(by first | rfl | (simp;done) | (simp [*];done)),H',⟨by have:=HJ9.out;have:=HK2.out;have:=HK3.out;omega⟩,⟨by (with_reducible repeat (first | refine blk_drewN ?_ _ | refine blk_drew ?_ | refine blk_alloc ?_ _));exact BK168.out⟩,⟨by (with_reducible repeat (first | refine blk_drewN ?_ _ | refine blk_drew ?_ | refine blk_alloc ?_ _));exact BK169.out⟩,⟨by repeat (first | (with_reducible first | exact HB.out | apply below_alloc | apply pw_below_drewN | apply below_drew1 | refine below_set ?_ GE168.out | refine below_set ?_ GE169.out) | exact HB.out)⟩⟩
               ·replace c32:=Bool.eq_false_iff.mpr c32
                subst c32
                have H1 : (humusref26_Ahead.l1 k3 t170 t171 x11_2 ((rd_T124 ((rd_T43 l0 a1).f3) x11_2).f0) (wrap64 (x13_3 + 1)) ((rd_T43 l0 a1).f0) ((rd_T43 l0 a1).f1) ((rd_T43 l0 a1).f2) ((rd_T43 l0 a1).f3) ((rd_T43 l0 a1).f4) ((rd_T43 l0 a2).f0) ((rd_T43 l0 a2).f1) ((rd_T43 l0 a2).f2) ((rd_T43 l0 a2).f3) ((rd_T43 l0 a2).f4)) = some r:=by rw [if_neg (show ¬ (false = true) by decide)] at H;exact H
                clear H
                have H:=H1
                clear H1
                have H':=Aside0.mk H
                clear H
                have hnb39:=NB169_168.out
                have hnc39:=NB168_169.out
                obtain ⟨hcz40_0,hcz40_1,hcz40_2,hcz40_3,hcz40_4⟩:=blkc_5 BK169.out
                obtain ⟨hfz40_0,hfz40_1,hfz40_2,hfz40_3,hfz40_4⟩:=blkz_5 BK169.out
                have p173 : 0 ≤ (x13_3 : Int):=of_decide_eq_true (by first | (with_reducible assumption) | assumption)
                have q173 : x13_3 < (((rd_T43 l0 a2).f3).length : Int):=of_decide_eq_true (by first | (with_reducible assumption) | assumption)
                obtain ⟨ad173,A173_2,c173_2,e173,hx173_0,hx173_1,hx173_2,hx173_3,hx173_4,hx173_5,hl173_2,hi173_2⟩:=at_T124 HR167_3.out x13_3 p173 q173
                cases e173
                replace hx173_0:=(HB.out.cell (World.block_lt_of_cell? w _ hx173_0)).trans hx173_0
                replace hx173_1:=(HB.out.cell (World.block_lt_of_cell? w _ hx173_1)).trans hx173_1
                replace hx173_2:=(HB.out.cell (World.block_lt_of_cell? w _ hx173_2)).trans hx173_2
                replace hx173_3:=(HB.out.cell (World.block_lt_of_cell? w _ hx173_3)).trans hx173_3
                replace hx173_4:=(HB.out.cell (World.block_lt_of_cell? w _ hx173_4)).trans hx173_4
                replace hx173_5:=(HB.out.cell (World.block_lt_of_cell? w _ hx173_5)).trans hx173_5
                have HR173_2:=Aside0.mk hi173_2
                have HC173_2:=Aside0.mk hl173_2
                clear hi173_2 hl173_2
                replace p173:=eq_true p173
                replace q173:=eq_true q173
                go_wp2_with (first | ((with_reducible refine gate_callee (f:=49) rfl ?_);refine goesL_ (some 56) rfl rfl Try.func49 (by kernel_rfl) rfl #[.float .f64 ((rd_T124 ((rd_T43 l0 a1).f3) x11_2).f0),.float .f64 ((rd_T124 ((rd_T43 l0 a2).f3) x13_3).f0)] rfl (by (try simp only [List.map_toArray,List.map_cons,List.map_nil]);first | done | rfl | (simp only [List.length_drop,List.length_take];rfl)) ?_;(with_reducible refine (humusref01_Alike.calls ((rd_T124 ((rd_T43 l0 a1).f3) x11_2).f0) ((rd_T124 ((rd_T43 l0 a2).f3) x13_3).f0) false _ A31.out).mono ?_);rintro e w' ⟨rfl,⟨nd,rfl⟩⟩;refine ⟨_,rfl,?_⟩))
                go_roundg k3
                case measure => have:=HJ9.out;have:=HK2.out;have:=HK3.out;omega
                case rel => exact ⟨(wrap64 (x13_3 + 1)),(by first | rfl | (simp;done) | (simp [*];done)),H',⟨by have:=HJ9.out;have:=HK2.out;have:=HK3.out;omega⟩,⟨by (with_reducible repeat (first | refine blk_drewN ?_ _ | refine blk_drew ?_ | refine blk_alloc ?_ _));exact BK168.out⟩,⟨by (with_reducible repeat (first | refine blk_drewN ?_ _ | refine blk_drew ?_ | refine blk_alloc ?_ _));exact BK169.out⟩,⟨by repeat (first | (with_reducible first | exact HB.out | apply below_alloc | apply pw_below_drewN | apply below_drew1 | refine below_set ?_ GE168.out | refine below_set ?_ GE169.out) | exact HB.out)⟩⟩
              ·rw [if_neg c30] at H
               exact absurd H (by simp)
             ·rw [if_neg c29] at H
              have c29b0 : decide (x13_3 < (((rd_T43 l0 a2).f3).length : Int)) = false:=decide_eq_false c29
              clear c29
              by_cases c41 : t170 < ((rd_T43 l0 a2).f1)
              ·rw [if_pos c41] at H
               have c41b0 : decide (t170 < ((rd_T43 l0 a2).f1)) = true:=decide_eq_true c41
               clear c41
               replace H:=Option.bind_eq_some_iff.mp H
               obtain ⟨t175,A420,H⟩:=H
               replace H : (if t175 = true then (humusref26_Ahead.j4 k3 true) else (humusref26_Ahead.l0 k3 t170 t171 (wrap64 (x11_2 + 1)) ((rd_T43 l0 a1).f0) ((rd_T43 l0 a1).f1) ((rd_T43 l0 a1).f2) ((rd_T43 l0 a1).f3) ((rd_T43 l0 a1).f4) ((rd_T43 l0 a2).f0) ((rd_T43 l0 a2).f1) ((rd_T43 l0 a2).f2) ((rd_T43 l0 a2).f3) ((rd_T43 l0 a2).f4))) = some r:=H
               have A42:=Aside0.mk A420
               clear A420
               by_cases c43 : t175 = true
               ·subst c43
                have H1 : (humusref26_Ahead.j4 k3 true) = some r:=by rw [if_pos rfl] at H;exact H
                clear H
                have H:=H1
                clear H1
                have HC44:=Aside0.mk H
                clear H
                have hnb45:=NB169_168.out
                have hnc45:=NB168_169.out
                obtain ⟨hcz46_0,hcz46_1,hcz46_2,hcz46_3,hcz46_4⟩:=blkc_5 BK169.out
                obtain ⟨hfz46_0,hfz46_1,hfz46_2,hfz46_3,hfz46_4⟩:=blkz_5 BK169.out
                go_upto_region 13 with (first | (go_at_call 19;(with_reducible refine (humusref26_Reads.calls k3 ((rd_T43 l0 a2).f0) ((rd_T43 l0 a2).f1) _ _ ((rd_T43 l0 a2).f2) _ _ ((rd_T43 l0 a2).f3) _ _ ((rd_T43 l0 a2).f4) ((rd_T124 ((rd_T43 l0 a1).f3) x11_2).f0) true _ ?side1 ?side2 ?side3 ?side4 ?side5 ?side6 A42.out).mono ?_);(case side1 => repeat (first | exact (Kd.C_below HR167_2.out HB.out) | (with_reducible refine Kd.C_alloc ?_ _) | (with_reducible refine Kd.C_drewN ?_ _) | (with_reducible refine Kd.C_drew ?_)));(case side2 => exact HC167_2.out);(case side3 => repeat (first | exact (Kd.C_below HR167_3.out HB.out) | (with_reducible refine Kd.C_alloc ?_ _) | (with_reducible refine Kd.C_drewN ?_ _) | (with_reducible refine Kd.C_drew ?_)));(case side4 => exact HC167_3.out);(case side5 => repeat (first | exact (Kd.C_below HR167_4.out HB.out) | (with_reducible refine Kd.C_alloc ?_ _) | (with_reducible refine Kd.C_drewN ?_ _) | (with_reducible refine Kd.C_drew ?_)));(case side6 => exact HC167_4.out);rintro e w47 ⟨rfl,hb⟩;have n0_:=Aside0.mk (blk_below (g:=gb168) (o:=.cells #[.int .i64 ((rd_T43 l0 a1).f0),.int .i64 ((rd_T43 l0 a1).f1),.slice A166_2 ((rd_T43 l0 a1).f2).length c166_2,.slice (some ad172) ((rd_T43 l0 a1).f3).length c166_3,.slice A166_4 ((rd_T43 l0 a1).f4).length c166_4] 43 (0,0)) (by (with_reducible repeat (first | refine blk_drewN ?_ _ | refine blk_drew ?_ | refine blk_alloc ?_ _));exact BK168.out) hb);have n1_:=Aside0.mk (blk_below (g:=gb169) (o:=.cells #[.int .i64 ((rd_T43 l0 a2).f0),.int .i64 ((rd_T43 l0 a2).f1),.slice A167_2 ((rd_T43 l0 a2).f2).length c167_2,.slice A167_3 ((rd_T43 l0 a2).f3).length c167_3,.slice A167_4 ((rd_T43 l0 a2).f4).length c167_4] 43 (0,0)) (by (with_reducible repeat (first | refine blk_drewN ?_ _ | refine blk_drew ?_ | refine blk_alloc ?_ _));exact BK169.out) hb);have n2_:=Aside0.mk (below_step (by repeat (first | (with_reducible first | exact HB.out | apply below_alloc | apply pw_below_drewN | apply below_drew1 | refine below_set ?_ GE168.out | refine below_set ?_ GE169.out) | exact HB.out)) hb);clear BK168;clear BK169;clear HB;have BK168:=n0_;have BK169:=n1_;have HB:=n2_;clear n0_ n1_ n2_;(try clear hb);(try clear hb2);(try clear hk);(try clear hi)))
                (try simp only [Act.put,List.setIfInBounds_toArray,List.set_cons_zero,List.set_cons_succ])
                go_cut [6] (fun v6 wc => ∃ (kq : Nat) (x6_43 : Bool),v6 = .bool x6_43 ∧ Aside0 (humusref26_Ahead.j4 kq x6_43 = some r) ∧ Aside0 (kq ≤ k3) ∧ Aside0 (wc.heap[gb168]? = some (.cells #[.int .i64 ((rd_T43 l0 a1).f0),.int .i64 ((rd_T43 l0 a1).f1),(.slice A166_2 ((rd_T43 l0 a1).f2).length c166_2),(.slice (some ad172) ((rd_T43 l0 a1).f3).length c166_3),(.slice A166_4 ((rd_T43 l0 a1).f4).length c166_4)] 43 (0,0))) ∧ Aside0 (wc.heap[gb169]? = some (.cells #[.int .i64 ((rd_T43 l0 a2).f0),.int .i64 ((rd_T43 l0 a2).f1),(.slice A167_2 ((rd_T43 l0 a2).f2).length c167_2),(.slice A167_3 ((rd_T43 l0 a2).f3).length c167_3),(.slice A167_4 ((rd_T43 l0 a2).f4).length c167_4)] 43 (0,0))) ∧ Aside0 (Below w.heap.size w wc))
                case first =>
                 have H:=HC44.out
                 clear HC44
                 have H':=Aside0.mk H
                 clear H
                 go_wp2
                 go_meet
                 case rel => exact ⟨_,(true),(by first | rfl | (simp;done) | (simp [*];done)),H',⟨by have:=HJ9.out;have:=HK2.out;have:=HK3.out;first | omega | exact Nat.le_refl _⟩,⟨by (with_reducible repeat (first | refine blk_drewN ?_ _ | refine blk_drew ?_ | refine blk_alloc ?_ _));exact BK168.out⟩,⟨by (with_reducible repeat (first | refine blk_drewN ?_ _ | refine blk_drew ?_ | refine blk_alloc ?_ _));exact BK169.out⟩,⟨by repeat (first | (with_reducible first | exact HB.out | apply below_alloc | apply pw_below_drewN | apply below_drew1 | refine below_set ?_ GE168.out | refine below_set ?_ GE169.out) | exact HB.out)⟩⟩
                case rest =>
                 clear HC44
                 try clear c1
                 try clear p1
                 try clear q1
                 try clear hx1
                 try clear c2
                 try clear p2
                 try clear c3
                 try clear c4
                 try clear c4b0
                 try clear c5
                 try clear c5b0
                 try clear c6
                 try clear c6b0
                 try clear p6
                 try clear c7
                 try clear c7b0
                 try clear c16
                 try clear p16
                 try clear q16
                 try clear hx16
                 try clear c17
                 try clear p17
                 try clear q17
                 try clear hx17
                 try clear c25
                 try clear c25b0
                 try clear c26
                 try clear c26b0
                 try clear c27
                 try clear c29
                 try clear c29b0
                 try clear c30
                 try clear c30b0
                 try clear c32
                 try clear c33
                 try clear c33b0
                 try clear c35
                 try clear c37
                 try clear c39
                 try clear c41
                 try clear c41b0
                 try clear c43
                 try clear c45
                 try clear hcz28_0
                 try clear hcz28_1
                 try clear hcz28_2
                 try clear hcz28_3
                 try clear hcz28_4
                 try clear hcz36_0
                 try clear hcz36_1
                 try clear hcz36_2
                 try clear hcz36_3
                 try clear hcz36_4
                 try clear hcz38_0
                 try clear hcz38_1
                 try clear hcz38_2
                 try clear hcz38_3
                 try clear hcz38_4
                 try clear hcz40_0
                 try clear hcz40_1
                 try clear hcz40_2
                 try clear hcz40_3
                 try clear hcz40_4
                 try clear hcz46_0
                 try clear hcz46_1
                 try clear hcz46_2
                 try clear hcz46_3
                 try clear hcz46_4
                 try clear hfz28_0
                 try clear hfz28_1
                 try clear hfz28_2
                 try clear hfz28_3
                 try clear hfz28_4
                 try clear hfz36_0
                 try clear hfz36_1
                 try clear hfz36_2
                 try clear hfz36_3
                 try clear hfz36_4
                 try clear hfz38_0
                 try clear hfz38_1
                 try clear hfz38_2
                 try clear hfz38_3
                 try clear hfz38_4
                 try clear hfz40_0
                 try clear hfz40_1
                 try clear hfz40_2
                 try clear hfz40_3
                 try clear hfz40_4
                 try clear hfz46_0
                 try clear hfz46_1
                 try clear hfz46_2
                 try clear hfz46_3
                 try clear hfz46_4
                 try clear hx166_0
                 try clear hx166_1
                 try clear hx166_2
                 try clear hx166_3
                 try clear hx166_4
                 try clear hx167_0
                 try clear hx167_1
                 try clear hx167_2
                 try clear hx167_3
                 try clear hx167_4
                 try clear hx172_0
                 try clear hx172_1
                 try clear hx172_2
                 try clear hx172_3
                 try clear hx172_4
                 try clear hx172_5
                 try clear hx173_0
                 try clear hx173_1
                 try clear hx173_2
                 try clear hx173_3
                 try clear hx173_4
                 try clear hx173_5
                 try clear p1
                 try clear p16
                 try clear p166
                 try clear p167
                 try clear p17
                 try clear p172
                 try clear p173
                 try clear p2
                 try clear p6
                 try clear q1
                 try clear q16
                 try clear q166
                 try clear q167
                 try clear q17
                 try clear q172
                 try clear q173
                 obtain ⟨kq,x6_43,rfl,HA,HJ43,BK168,BK169,HB⟩:=hcut
                 cases kq with
                 | zero => exact absurd HA.out (by simp [humusref26_Ahead.j4])
                 | succ kj43 =>
                  have H:=HA.out
                  clear HA
                  simp only [humusref26_Ahead.j4] at H
                  obtain rfl:=Option.some.inj H
                  go_wp2
                  go_ret
                  exact ⟨by first | rfl | (simp [errW_none,errW_some] <;> rfl) | (simp [*,errW_none,errW_some] <;> rfl),by repeat (first | (with_reducible first | exact HB.out | apply below_alloc | apply pw_below_drewN | apply below_drew1 | refine below_set ?_ GE168.out | refine below_set ?_ GE169.out) | exact HB.out)⟩
               ·replace c43:=Bool.eq_false_iff.mpr c43
                subst c43
                have H1 : (humusref26_Ahead.l0 k3 t170 t171 (wrap64 (x11_2 + 1)) ((rd_T43 l0 a1).f0) ((rd_T43 l0 a1).f1) ((rd_T43 l0 a1).f2) ((rd_T43 l0 a1).f3) ((rd_T43 l0 a1).f4) ((rd_T43 l0 a2).f0) ((rd_T43 l0 a2).f1) ((rd_T43 l0 a2).f2) ((rd_T43 l0 a2).f3) ((rd_T43 l0 a2).f4)) = some r:=by rw [if_neg (show ¬ (false = true) by decide)] at H;exact H
                clear H
                have H:=H1
                clear H1
                have H':=Aside0.mk H
                clear H
                have hnb48:=NB169_168.out
                have hnc48:=NB168_169.out
                obtain ⟨hcz49_0,hcz49_1,hcz49_2,hcz49_3,hcz49_4⟩:=blkc_5 BK169.out
                obtain ⟨hfz49_0,hfz49_1,hfz49_2,hfz49_3,hfz49_4⟩:=blkz_5 BK169.out
                go_wp2_with (first | (go_at_call 19;(with_reducible refine (humusref26_Reads.calls k3 ((rd_T43 l0 a2).f0) ((rd_T43 l0 a2).f1) _ _ ((rd_T43 l0 a2).f2) _ _ ((rd_T43 l0 a2).f3) _ _ ((rd_T43 l0 a2).f4) ((rd_T124 ((rd_T43 l0 a1).f3) x11_2).f0) false _ ?side1 ?side2 ?side3 ?side4 ?side5 ?side6 A42.out).mono ?_);(case side1 => repeat (first | exact (Kd.C_below HR167_2.out HB.out) | (with_reducible refine Kd.C_alloc ?_ _) | (with_reducible refine Kd.C_drewN ?_ _) | (with_reducible refine Kd.C_drew ?_)));(case side2 => exact HC167_2.out);(case side3 => repeat (first | exact (Kd.C_below HR167_3.out HB.out) | (with_reducible refine Kd.C_alloc ?_ _) | (with_reducible refine Kd.C_drewN ?_ _) | (with_reducible refine Kd.C_drew ?_)));(case side4 => exact HC167_3.out);(case side5 => repeat (first | exact (Kd.C_below HR167_4.out HB.out) | (with_reducible refine Kd.C_alloc ?_ _) | (with_reducible refine Kd.C_drewN ?_ _) | (with_reducible refine Kd.C_drew ?_)));(case side6 => exact HC167_4.out);rintro e w50 ⟨rfl,hb⟩;have n0_:=Aside0.mk (blk_below (g:=gb168) (o:=.cells #[.int .i64 ((rd_T43 l0 a1).f0),.int .i64 ((rd_T43 l0 a1).f1),.slice A166_2 ((rd_T43 l0 a1).f2).length c166_2,.slice (some ad172) ((rd_T43 l0 a1).f3).length c166_3,.slice A166_4 ((rd_T43 l0 a1).f4).length c166_4] 43 (0,0)) (by (with_reducible repeat (first | refine blk_drewN ?_ _ | refine blk_drew ?_ | refine blk_alloc ?_ _));exact BK168.out) hb);have n1_:=Aside0.mk (blk_below (g:=gb169) (o:=.cells #[.int .i64 ((rd_T43 l0 a2).f0),.int .i64 ((rd_T43 l0 a2).f1),.slice A167_2 ((rd_T43 l0 a2).f2).length c167_2,.slice A167_3 ((rd_T43 l0 a2).f3).length c167_3,.slice A167_4 ((rd_T43 l0 a2).f4).length c167_4] 43 (0,0)) (by (with_reducible repeat (first | refine blk_drewN ?_ _ | refine blk_drew ?_ | refine blk_alloc ?_ _));exact BK169.out) hb);have n2_:=Aside0.mk (below_step (by repeat (first | (with_reducible first | exact HB.out | apply below_alloc | apply pw_below_drewN | apply below_drew1 | refine below_set ?_ GE168.out | refine below_set ?_ GE169.out) | exact HB.out)) hb);clear BK168;clear BK169;clear HB;have BK168:=n0_;have BK169:=n1_;have HB:=n2_;clear n0_ n1_ n2_;(try clear hb);(try clear hb2);(try clear hk);(try clear hi)))
                go_roundg k3
                case measure => have:=HJ9.out;have:=HK2.out;have:=HK3.out;omega
                case rel => exact ⟨(wrap64 (x11_2 + 1)),(by first | rfl | (simp;done) | (simp [*];done)),H',⟨by have:=HJ9.out;have:=HK2.out;have:=HK3.out;omega⟩,⟨by (with_reducible repeat (first | refine blk_drewN ?_ _ | refine blk_drew ?_ | refine blk_alloc ?_ _));exact BK168.out⟩,⟨by (with_reducible repeat (first | refine blk_drewN ?_ _ | refine blk_drew ?_ | refine blk_alloc ?_ _));exact BK169.out⟩,⟨by repeat (first | (with_reducible first | exact HB.out | apply below_alloc | apply pw_below_drewN | apply below_drew1 | refine below_set ?_ GE168.out | refine below_set ?_ GE169.out) | exact HB.out)⟩⟩
              ·rw [if_neg c41] at H
               have c41b0 : decide (t170 < ((rd_T43 l0 a2).f1)) = false:=decide_eq_false c41
               clear c41
               have H':=Aside0.mk H
               clear H
               have hnb51:=NB169_168.out
               have hnc51:=NB168_169.out
               obtain ⟨hcz52_0,hcz52_1,hcz52_2,hcz52_3,hcz52_4⟩:=blkc_5 BK169.out
               obtain ⟨hfz52_0,hfz52_1,hfz52_2,hfz52_3,hfz52_4⟩:=blkz_5 BK169.out
               go_wp2
               go_roundg k3
               case measure => have:=HJ9.out;have:=HK2.out;have:=HK3.out;omega
               case rel => exact ⟨(wrap64 (x11_2 + 1)),(by first | rfl | (simp;done) | (simp [*];done)),H',⟨by have:=HJ9.out;have:=HK2.out;have:=HK3.out;omega⟩,⟨by (with_reducible repeat (first | refine blk_drewN ?_ _ | refine blk_drew ?_ | refine blk_alloc ?_ _));exact BK168.out⟩,⟨by (with_reducible repeat (first | refine blk_drewN ?_ _ | refine blk_drew ?_ | refine blk_alloc ?_ _));exact BK169.out⟩,⟨by repeat (first | (with_reducible first | exact HB.out | apply below_alloc | apply pw_below_drewN | apply below_drew1 | refine below_set ?_ GE168.out | refine below_set ?_ GE169.out) | exact HB.out)⟩⟩
          ·rw [if_neg c26] at H
           exact absurd H (by simp)
         ·rw [if_neg c25] at H
          have c25b0 : decide (x11_2 < (((rd_T43 l0 a1).f3).length : Int)) = false:=decide_eq_false c25
          clear c25
          have H':=Aside0.mk H
          clear H
          have hnb53:=NB168_169.out
          have hnc53:=NB169_168.out
          obtain ⟨hcz54_0,hcz54_1,hcz54_2,hcz54_3,hcz54_4⟩:=blkc_5 BK168.out
          obtain ⟨hfz54_0,hfz54_1,hfz54_2,hfz54_3,hfz54_4⟩:=blkz_5 BK168.out
          go_wp2
          go_loopg [14] k2 (fun kq v14 w' => ∃ (x14_3 : Int),v14 = .int .i64 x14_3 ∧ Aside0 (humusref26_Ahead.l2 kq t171 x14_3 ((rd_T43 l0 a1).f0) ((rd_T43 l0 a1).f1) ((rd_T43 l0 a1).f2) ((rd_T43 l0 a1).f3) ((rd_T43 l0 a1).f4) ((rd_T43 l0 a2).f0) ((rd_T43 l0 a2).f1) ((rd_T43 l0 a2).f2) ((rd_T43 l0 a2).f3) ((rd_T43 l0 a2).f4) = some r) ∧ Aside0 (kq ≤ k2) ∧ Aside0 (w'.heap[gb168]? = some (.cells #[.int .i64 ((rd_T43 l0 a1).f0),.int .i64 ((rd_T43 l0 a1).f1),(.slice A166_2 ((rd_T43 l0 a1).f2).length c166_2),(.slice A166_3 ((rd_T43 l0 a1).f3).length c166_3),(.slice A166_4 ((rd_T43 l0 a1).f4).length c166_4)] 43 (0,0))) ∧ Aside0 (w'.heap[gb169]? = some (.cells #[.int .i64 ((rd_T43 l0 a2).f0),.int .i64 ((rd_T43 l0 a2).f1),(.slice A167_2 ((rd_T43 l0 a2).f2).length c167_2),(.slice A167_3 ((rd_T43 l0 a2).f3).length c167_3),(.slice A167_4 ((rd_T43 l0 a2).f4).length c167_4)] 43 (0,0))) ∧ Aside0 (Below w.heap.size w w'))
          case atStart => exact ⟨(0),(by first | rfl | (simp;done) | (simp [*];done)),H',⟨Nat.le_refl _⟩,⟨by (with_reducible repeat (first | refine blk_drewN ?_ _ | refine blk_drew ?_ | refine blk_alloc ?_ _));exact BK168.out⟩,⟨by (with_reducible repeat (first | refine blk_drewN ?_ _ | refine blk_drew ?_ | refine blk_alloc ?_ _));exact BK169.out⟩,⟨by repeat (first | (with_reducible first | exact HB.out | apply below_alloc | apply pw_below_drewN | apply below_drew1 | refine below_set ?_ GE168.out | refine below_set ?_ GE169.out) | exact HB.out)⟩⟩
          case round =>
           clear H'
           try clear c1
           try clear p1
           try clear q1
           try clear hx1
           try clear c2
           try clear p2
           try clear c3
           try clear c4
           try clear c4b0
           try clear c5
           try clear c5b0
           try clear c6
           try clear c6b0
           try clear p6
           try clear c7
           try clear c7b0
           try clear c16
           try clear p16
           try clear q16
           try clear hx16
           try clear c17
           try clear p17
           try clear q17
           try clear hx17
           try clear c25
           try clear c25b0
           try clear c26
           try clear c26b0
           try clear c27
           try clear c29
           try clear c29b0
           try clear c30
           try clear c30b0
           try clear c32
           try clear c33
           try clear c33b0
           try clear c35
           try clear c37
           try clear c39
           try clear c41
           try clear c41b0
           try clear c43
           try clear c45
           try clear c48
           try clear c49
           try clear c51
           try clear c53
           try clear hcz28_0
           try clear hcz28_1
           try clear hcz28_2
           try clear hcz28_3
           try clear hcz28_4
           try clear hcz36_0
           try clear hcz36_1
           try clear hcz36_2
           try clear hcz36_3
           try clear hcz36_4
           try clear hcz38_0
           try clear hcz38_1
           try clear hcz38_2
           try clear hcz38_3
           try clear hcz38_4
           try clear hcz40_0
           try clear hcz40_1
           try clear hcz40_2
           try clear hcz40_3
           try clear hcz40_4
           try clear hcz46_0
           try clear hcz46_1
           try clear hcz46_2
           try clear hcz46_3
           try clear hcz46_4
           try clear hcz49_0
           try clear hcz49_1
           try clear hcz49_2
           try clear hcz49_3
           try clear hcz49_4
           try clear hcz52_0
           try clear hcz52_1
           try clear hcz52_2
           try clear hcz52_3
           try clear hcz52_4
           try clear hcz54_0
           try clear hcz54_1
           try clear hcz54_2
           try clear hcz54_3
           try clear hcz54_4
           try clear hfz28_0
           try clear hfz28_1
           try clear hfz28_2
           try clear hfz28_3
           try clear hfz28_4
           try clear hfz36_0
           try clear hfz36_1
           try clear hfz36_2
           try clear hfz36_3
           try clear hfz36_4
           try clear hfz38_0
           try clear hfz38_1
           try clear hfz38_2
           try clear hfz38_3
           try clear hfz38_4
           try clear hfz40_0
           try clear hfz40_1
           try clear hfz40_2
           try clear hfz40_3
           try clear hfz40_4
           try clear hfz46_0
           try clear hfz46_1
           try clear hfz46_2
           try clear hfz46_3
           try clear hfz46_4
           try clear hfz49_0
           try clear hfz49_1
           try clear hfz49_2
           try clear hfz49_3
           try clear hfz49_4
           try clear hfz52_0
           try clear hfz52_1
           try clear hfz52_2
           try clear hfz52_3
           try clear hfz52_4
           try clear hfz54_0
           try clear hfz54_1
           try clear hfz54_2
           try clear hfz54_3
           try clear hfz54_4
           try clear hx166_0
           try clear hx166_1
           try clear hx166_2
           try clear hx166_3
           try clear hx166_4
           try clear hx167_0
           try clear hx167_1
           try clear hx167_2
           try clear hx167_3
           try clear hx167_4
           try clear hx172_0
           try clear hx172_1
           try clear hx172_2
           try clear hx172_3
           try clear hx172_4
           try clear hx172_5
           try clear hx173_0
           try clear hx173_1
           try clear hx173_2
           try clear hx173_3
           try clear hx173_4
           try clear hx173_5
           try clear p1
           try clear p16
           try clear p166
           try clear p167
           try clear p17
           try clear p172
           try clear p173
           try clear p2
           try clear p6
           try clear q1
           try clear q16
           try clear q166
           try clear q167
           try clear q17
           try clear q172
           try clear q173
           obtain ⟨x14_3,rfl,HA,HK3,BK168,BK169,HB⟩:=hrel
           cases gk with
           | zero => exact absurd HA.out (by simp [humusref26_Ahead.l2])
           | succ k3 =>
            have H:=HA.out
            clear HA
            simp only [humusref26_Ahead.l2] at H
            by_cases c55 : x14_3 < (((rd_T43 l0 a2).f3).length : Int)
            ·rw [if_pos c55] at H
             have c55b0 : decide (x14_3 < (((rd_T43 l0 a2).f3).length : Int)) = true:=decide_eq_true c55
             clear c55
             by_cases c56 : t171 ≥ ((rd_T43 l0 a1).f1)
             ·rw [if_pos c56] at H
              have c56b0 : decide (((rd_T43 l0 a1).f1) ≤ t171) = true:=decide_eq_true c56
              clear c56
              by_cases c57 : 0 ≤ x14_3
              ·rw [if_pos c57] at H
               have c57b0 : decide (0 ≤ x14_3) = true:=decide_eq_true c57
               clear c57
               replace H:=Option.bind_eq_some_iff.mp H
               obtain ⟨t177,A580,H⟩:=H
               replace H : (if t177 = true then (humusref26_Ahead.j6 k3 true) else (humusref26_Ahead.l2 k3 t171 (wrap64 (x14_3 + 1)) ((rd_T43 l0 a1).f0) ((rd_T43 l0 a1).f1) ((rd_T43 l0 a1).f2) ((rd_T43 l0 a1).f3) ((rd_T43 l0 a1).f4) ((rd_T43 l0 a2).f0) ((rd_T43 l0 a2).f1) ((rd_T43 l0 a2).f2) ((rd_T43 l0 a2).f3) ((rd_T43 l0 a2).f4))) = some r:=H
               have A58:=Aside0.mk A580
               clear A580
               by_cases c59 : t177 = true
               ·subst c59
                have H1 : (humusref26_Ahead.j6 k3 true) = some r:=by rw [if_pos rfl] at H;exact H
                clear H
                have H:=H1
                clear H1
                have HC60:=Aside0.mk H
                clear H
                have hnb61:=NB169_168.out
                have hnc61:=NB168_169.out
                obtain ⟨hcz62_0,hcz62_1,hcz62_2,hcz62_3,hcz62_4⟩:=blkc_5 BK169.out
                obtain ⟨hfz62_0,hfz62_1,hfz62_2,hfz62_3,hfz62_4⟩:=blkz_5 BK169.out
                try go_wp2
                have n0_:=Aside0.mk (blk_drew BK168.out)
                have n1_:=Aside0.mk (blk_drew BK169.out)
                have n2_:=Aside0.mk (below_drew1 HB.out)
                clear BK168
                clear BK169
                clear HB
                have BK168:=n0_
                have BK169:=n1_
                have HB:=n2_
                clear n0_ n1_ n2_
                have p176 : 0 ≤ (x14_3 : Int):=of_decide_eq_true (by first | (with_reducible assumption) | assumption)
                have q176 : x14_3 < (((rd_T43 l0 a2).f3).length : Int):=of_decide_eq_true (by first | (with_reducible assumption) | assumption)
                obtain ⟨ad176,A176_2,c176_2,e176,hx176_0,hx176_1,hx176_2,hx176_3,hx176_4,hx176_5,hl176_2,hi176_2⟩:=at_T124 HR167_3.out x14_3 p176 q176
                have hw176_5:=hx176_5
                have hw176_4:=hx176_4
                have hw176_3:=hx176_3
                have hw176_2:=hx176_2
                have hw176_1:=hx176_1
                have hw176_0:=hx176_0
                cases e176
                replace hx176_0:=(HB.out.cell (World.block_lt_of_cell? w _ hx176_0)).trans hx176_0
                replace hx176_1:=(HB.out.cell (World.block_lt_of_cell? w _ hx176_1)).trans hx176_1
                replace hx176_2:=(HB.out.cell (World.block_lt_of_cell? w _ hx176_2)).trans hx176_2
                replace hx176_3:=(HB.out.cell (World.block_lt_of_cell? w _ hx176_3)).trans hx176_3
                replace hx176_4:=(HB.out.cell (World.block_lt_of_cell? w _ hx176_4)).trans hx176_4
                replace hx176_5:=(HB.out.cell (World.block_lt_of_cell? w _ hx176_5)).trans hx176_5
                have HR176_2:=Aside0.mk hi176_2
                have HC176_2:=Aside0.mk hl176_2
                clear hi176_2 hl176_2
                replace p176:=eq_true p176
                replace q176:=eq_true q176
                refine start_ (n:=14) (S:=fun w' => w'.cell? ⟨gb168,0,none⟩ = some (.int .i64 ((rd_T43 l0 a1).f0)) ∧ w'.cell? ⟨gb168,1,none⟩ = some (.int .i64 ((rd_T43 l0 a1).f1)) ∧ w'.cell? ⟨gb168,2,none⟩ = some (.slice A166_2 ((rd_T43 l0 a1).f2).length c166_2) ∧ w'.cell? ⟨gb168,3,none⟩ = some (.slice A166_3 ((rd_T43 l0 a1).f3).length c166_3) ∧ w'.cell? ⟨gb168,4,none⟩ = some (.slice A166_4 ((rd_T43 l0 a1).f4).length c166_4) ∧ w'.cell? ⟨gb169,0,none⟩ = some (.int .i64 ((rd_T43 l0 a2).f0)) ∧ w'.cell? ⟨gb169,1,none⟩ = some (.int .i64 ((rd_T43 l0 a2).f1)) ∧ w'.cell? ⟨gb169,2,none⟩ = some (.slice A167_2 ((rd_T43 l0 a2).f2).length c167_2) ∧ w'.cell? ⟨gb169,3,none⟩ = some (.slice (some ad176) ((rd_T43 l0 a2).f3).length c167_3) ∧ w'.cell? ⟨gb169,4,none⟩ = some (.slice A167_4 ((rd_T43 l0 a2).f4).length c167_4) ∧ w'.cell? (ad176.add ((x14_3).toNat * 6)) = some (.float .f64 ((rd_T124 ((rd_T43 l0 a2).f3) x14_3).f0)) ∧ w'.cell? ⟨(ad176.add ((x14_3).toNat * 6)).block,(ad176.add ((x14_3).toNat * 6)).off + 1,none⟩ = some (.bool ((rd_T124 ((rd_T43 l0 a2).f3) x14_3).f1)) ∧ w'.cell? ⟨(ad176.add ((x14_3).toNat * 6)).block,(ad176.add ((x14_3).toNat * 6)).off + 2,none⟩ = some (.slice A176_2 ((rd_T124 ((rd_T43 l0 a2).f3) x14_3).f2).length c176_2) ∧ w'.cell? ⟨(ad176.add ((x14_3).toNat * 6)).block,(ad176.add ((x14_3).toNat * 6)).off + 3,none⟩ = some (.int .i64 ((rd_T124 ((rd_T43 l0 a2).f3) x14_3).f3)) ∧ w'.cell? ⟨(ad176.add ((x14_3).toNat * 6)).block,(ad176.add ((x14_3).toNat * 6)).off + 4,none⟩ = some (.int .i64 ((rd_T124 ((rd_T43 l0 a2).f3) x14_3).f4.f0)) ∧ w'.cell? ⟨(ad176.add ((x14_3).toNat * 6)).block,(ad176.add ((x14_3).toNat * 6)).off + 5,none⟩ = some (.int .i64 ((rd_T124 ((rd_T43 l0 a2).f3) x14_3).f4.f1))) (ds:=[12]) #[ff,ff,ff,ff,ff,ff,ff,ff,ff,ff,ff,ff,ff,ff] (by kernel_rfl) rfl rfl ⟨(blk_cell BK168.out 0).trans rfl,(blk_cell BK168.out 1).trans rfl,(blk_cell BK168.out 2).trans rfl,(blk_cell BK168.out 3).trans rfl,(blk_cell BK168.out 4).trans rfl,(blk_cell BK169.out 0).trans rfl,(blk_cell BK169.out 1).trans rfl,(blk_cell BK169.out 2).trans rfl,(blk_cell BK169.out 3).trans rfl,(blk_cell BK169.out 4).trans rfl,((HB.out.cell (World.block_lt_of_cell? w _ hw176_0)).trans hw176_0),((HB.out.cell (World.block_lt_of_cell? w _ hw176_1)).trans hw176_1),((HB.out.cell (World.block_lt_of_cell? w _ hw176_2)).trans hw176_2),((HB.out.cell (World.block_lt_of_cell? w _ hw176_3)).trans hw176_3),((HB.out.cell (World.block_lt_of_cell? w _ hw176_4)).trans hw176_4),((HB.out.cell (World.block_lt_of_cell? w _ hw176_5)).trans hw176_5)⟩ (fun hHeld => ?_);refine with_tabW humusref26_Ahead.tab17 humusref26_Ahead.bits17 (fun HT_ HW_ => ?_)
                generalize wr.drew = w63 at BK168 BK169 HB HR176_2 hx176_0 hx176_1 hx176_2 hx176_3 hx176_4 hx176_5 hHeld ⊢
                refine pure_ (i:=0) (N:=some 78) (v:=?_) (a':=?_) #[tt,ff,ff,ff,ff,ff,ff,ff,ff,ff,ff,ff,ff,ff] rfl rfl (any_of HT_.out (by kernel_rfl)) (fun _ _ _ h => h) (Or.inl ⟨by rfl,?_⟩) ?_ ?_
                rotate_left
                ·intro w'
                 go_simp
                 with_reducible rfl
                rotate_left
                ·simp only [Act.put,q1_,q2_,q3_,i64_w,i32_w]
                 rfl
                refine pure_ (i:=1) (N:=some 79) (v:=?_) (a':=?_) #[tt,tt,ff,ff,ff,ff,ff,ff,ff,ff,ff,ff,ff,ff] rfl rfl (any_of HT_.out (by kernel_rfl)) (fun _ _ _ h => h) (Or.inl ⟨by rfl,?_⟩) ?_ ?_
                rotate_left
                ·intro w'
                 go_simp
                 with_reducible rfl
                rotate_left
                ·simp only [Act.put,q1_,q2_,q3_,i64_w,i32_w]
                 rfl
                refine take_ (i:=2) (N:=some 80) (v:=?_) (a':=?_) #[tt,tt,tt,ff,ff,ff,ff,ff,ff,ff,ff,ff,ff,ff] rfl rfl (take_ofW HT_.out HW_.out (by kernel_rfl)) (fun _ _ _ h => h) (Or.inl ⟨by rfl,?_⟩) hHeld ?_ ?_
                rotate_left
                ·rintro w' ⟨s0,s1,s2,s3,s4,s5,s6,s7,s8,s9,s10,s11,s12,s13,s14,s15⟩
                 go_simp
                 with_reducible rfl
                rotate_left
                ·simp only [Act.put,q1_,q2_,q3_,i64_w,i32_w]
                 rfl
                refine pure_ (i:=3) (N:=some 81) (v:=?_) (a':=?_) #[tt,tt,tt,tt,ff,ff,ff,ff,ff,ff,ff,ff,ff,ff] rfl rfl (any_of HT_.out (by kernel_rfl)) (fun _ _ _ h => h) (Or.inl ⟨by rfl,?_⟩) ?_ ?_
                rotate_left
                ·intro w'
                 go_simp
                 with_reducible rfl
                rotate_left
                ·simp only [Act.put,q1_,q2_,q3_,i64_w,i32_w]
                 rfl
                refine pure_ (i:=4) (N:=some 82) (v:=?_) (a':=?_) #[tt,tt,tt,tt,tt,ff,ff,ff,ff,ff,ff,ff,ff,ff] rfl rfl (any_of HT_.out (by kernel_rfl)) (fun _ _ _ h => h) (Or.inl ⟨by rfl,?_⟩) ?_ ?_
                rotate_left
                ·intro w'
                 go_simp
                 with_reducible rfl
                rotate_left
                ·simp only [Act.put,q1_,q2_,q3_,i64_w,i32_w]
                 rfl
                refine pure_ (i:=6) (N:=some 84) (v:=?_) (a':=?_) #[tt,tt,tt,tt,tt,ff,tt,ff,ff,ff,ff,ff,ff,ff] rfl rfl (any_of HT_.out (by kernel_rfl)) (fun _ _ _ h => h) (Or.inl ⟨by rfl,?_⟩) ?_ ?_
                rotate_left
                ·intro w'
                 go_simp
                 with_reducible rfl
                rotate_left
                ·simp only [Act.put,q1_,q2_,q3_,i64_w,i32_w]
                 rfl
                refine pure_ (i:=8) (N:=some 86) (v:=?_) (a':=?_) #[tt,tt,tt,tt,tt,ff,tt,ff,tt,ff,ff,ff,ff,ff] rfl rfl (any_of HT_.out (by kernel_rfl)) (fun _ _ _ h => h) (Or.inl ⟨by rfl,?_⟩) ?_ ?_
                rotate_left
                ·intro w'
                 go_simp
                 with_reducible rfl
                rotate_left
                ·simp only [Act.put,q1_,q2_,q3_,i64_w,i32_w]
                 rfl
                refine take_ (i:=5) (N:=some 83) (v:=?_) (a':=?_) #[tt,tt,tt,tt,tt,tt,tt,ff,tt,ff,ff,ff,ff,ff] rfl rfl (take_ofW HT_.out HW_.out (by kernel_rfl)) (fun _ _ _ h => h) (Or.inl ⟨by rfl,?_⟩) hHeld ?_ ?_
                rotate_left
                ·rintro w' ⟨s0,s1,s2,s3,s4,s5,s6,s7,s8,s9,s10,s11,s12,s13,s14,s15⟩
                 go_simp
                 with_reducible rfl
                rotate_left
                ·simp only [Act.put,q1_,q2_,q3_,i64_w,i32_w]
                 rfl
                refine take_ (i:=7) (N:=some 85) (v:=?_) (a':=?_) #[tt,tt,tt,tt,tt,tt,tt,tt,tt,ff,ff,ff,ff,ff] rfl rfl (take_ofW HT_.out HW_.out (by kernel_rfl)) (fun _ _ _ h => h) (Or.inl ⟨by rfl,?_⟩) hHeld ?_ ?_
                rotate_left
                ·rintro w' ⟨s0,s1,s2,s3,s4,s5,s6,s7,s8,s9,s10,s11,s12,s13,s14,s15⟩
                 go_simp
                 with_reducible rfl
                rotate_left
                ·simp only [Act.put,q1_,q2_,q3_,i64_w,i32_w]
                 rfl
                refine pure_ (i:=9) (N:=some 87) (v:=?_) (a':=?_) #[tt,tt,tt,tt,tt,tt,tt,tt,tt,tt,ff,ff,ff,ff] rfl rfl (any_of HT_.out (by kernel_rfl)) (fun _ _ _ h => h) (Or.inl ⟨by rfl,?_⟩) ?_ ?_
                rotate_left
                ·intro w'
                 go_simp
                 with_reducible rfl
                rotate_left
                ·simp only [Act.put,q1_,q2_,q3_,i64_w,i32_w]
                 rfl
                refine pure_ (i:=10) (N:=some 88) (v:=?_) (a':=?_) #[tt,tt,tt,tt,tt,tt,tt,tt,tt,tt,tt,ff,ff,ff] rfl rfl (any_of HT_.out (by kernel_rfl)) (fun _ _ _ h => h) (Or.inl ⟨by rfl,?_⟩) ?_ ?_
                rotate_left
                ·intro w'
                 go_simp
                 with_reducible rfl
                rotate_left
                ·simp only [Act.put,q1_,q2_,q3_,i64_w,i32_w]
                 rfl
                refine take_ (i:=11) (N:=some 89) (v:=?_) (a':=?_) #[tt,tt,tt,tt,tt,tt,tt,tt,tt,tt,tt,tt,ff,ff] rfl rfl (take_ofW HT_.out HW_.out (by kernel_rfl)) (fun _ _ _ h => h) (Or.inl ⟨by rfl,?_⟩) hHeld ?_ ?_
                rotate_left
                ·rintro w' ⟨s0,s1,s2,s3,s4,s5,s6,s7,s8,s9,s10,s11,s12,s13,s14,s15⟩
                 go_simp
                 with_reducible rfl
                rotate_left
                ·simp only [Act.put,q1_,q2_,q3_,i64_w,i32_w]
                 rfl
                refine last_ (i:=12) (N:=some 90) #[tt,tt,tt,tt,tt,tt,tt,tt,tt,tt,tt,tt,tt,ff] rfl rfl (one_of HT_.out (by kernel_rfl)) (by decide) (fun K hK => ?_)
                refine goes_ Try.func19 (by kernel_rfl) rfl #[.agg #[.int .i64 ((rd_T43 l0 a1).f0),.int .i64 ((rd_T43 l0 a1).f1),.slice A166_2 ((rd_T43 l0 a1).f2).length c166_2,.slice A166_3 ((rd_T43 l0 a1).f3).length c166_3,.slice A166_4 ((rd_T43 l0 a1).f4).length c166_4],.float .f64 ((rd_T124 ((rd_T43 l0 a2).f3) x14_3).f0)] (by rfl) rfl rfl (by (try simp only [List.map_toArray,List.map_cons,List.map_nil]);first | done | rfl | (simp only [List.length_drop,List.length_take];rfl)) ?_
                with_reducible refine (humusref26_Reads.calls k3 ((rd_T43 l0 a1).f0) ((rd_T43 l0 a1).f1) _ _ ((rd_T43 l0 a1).f2) _ _ ((rd_T43 l0 a1).f3) _ _ ((rd_T43 l0 a1).f4) ((rd_T124 ((rd_T43 l0 a2).f3) x14_3).f0) true _ ?side1 ?side2 ?side3 ?side4 ?side5 ?side6 A58.out).mono ?_
                (case side1 => repeat (first | exact (Kd.C_below HR166_2.out HB.out) | (with_reducible refine Kd.C_alloc ?_ _) | (with_reducible refine Kd.C_drewN ?_ _) | (with_reducible refine Kd.C_drew ?_)))
                (case side2 => exact HC166_2.out)
                (case side3 => repeat (first | exact (Kd.C_below HR166_3.out HB.out) | (with_reducible refine Kd.C_alloc ?_ _) | (with_reducible refine Kd.C_drewN ?_ _) | (with_reducible refine Kd.C_drew ?_)))
                (case side4 => exact HC166_3.out)
                (case side5 => repeat (first | exact (Kd.C_below HR166_4.out HB.out) | (with_reducible refine Kd.C_alloc ?_ _) | (with_reducible refine Kd.C_drewN ?_ _) | (with_reducible refine Kd.C_drew ?_)))
                (case side6 => exact HC166_4.out)
                rintro e w64 ⟨rfl,hb⟩
                refine ⟨_,rfl,?_⟩
                have n0_:=Aside0.mk (blk_below (g:=gb168) (o:=.cells #[.int .i64 ((rd_T43 l0 a1).f0),.int .i64 ((rd_T43 l0 a1).f1),.slice A166_2 ((rd_T43 l0 a1).f2).length c166_2,.slice A166_3 ((rd_T43 l0 a1).f3).length c166_3,.slice A166_4 ((rd_T43 l0 a1).f4).length c166_4] 43 (0,0)) (by (with_reducible repeat (first | refine blk_drewN ?_ _ | refine blk_drew ?_ | refine blk_alloc ?_ _));exact BK168.out) hb)
                have n1_:=Aside0.mk (blk_below (g:=gb169) (o:=.cells #[.int .i64 ((rd_T43 l0 a2).f0),.int .i64 ((rd_T43 l0 a2).f1),.slice A167_2 ((rd_T43 l0 a2).f2).length c167_2,.slice (some ad176) ((rd_T43 l0 a2).f3).length c167_3,.slice A167_4 ((rd_T43 l0 a2).f4).length c167_4] 43 (0,0)) (by (with_reducible repeat (first | refine blk_drewN ?_ _ | refine blk_drew ?_ | refine blk_alloc ?_ _));exact BK169.out) hb)
                have n2_:=Aside0.mk (below_step (by repeat (first | (with_reducible first | exact HB.out | apply below_alloc | apply pw_below_drewN | apply below_drew1 | refine below_set ?_ GE168.out | refine below_set ?_ GE169.out) | exact HB.out)) hb)
                clear BK168
                clear BK169
                clear HB
                have BK168:=n0_
                have BK169:=n1_
                have HB:=n2_
                clear n0_ n1_ n2_
                (try clear hb)
                (try clear hb2)
                (try clear hk)
                (try clear hi)
                refine hK.out _ _ ?_
                clear hK K
                refine norm_ (a':=?_) ?_ ?_
                rotate_left
                ·show Act.put _ (some 90) _ = _
                 simp only [Act.put,q1_,q2_,q3_,i64_w,i32_w]
                 rfl
                refine pure_ (i:=13) (N:=some 91) (v:=?_) (a':=?_) #[tt,tt,tt,tt,tt,tt,tt,tt,tt,tt,tt,tt,tt,tt] rfl rfl (any_of HT_.out (by kernel_rfl)) (fun _ _ _ h => h) (Or.inl ⟨by rfl,?_⟩) ?_ ?_
                rotate_left
                ·intro w'
                 go_simp
                 with_reducible rfl
                rotate_left
                ·simp only [Act.put,q1_,q2_,q3_,i64_w,i32_w]
                 rfl
                refine done_ (done_of HT_.out (by kernel_rfl)) ?_
                go_upto_region 18 with (fail)
                go_cut [6] (fun v6 wc => ∃ (kq : Nat) (x6_59 : Bool),v6 = .bool x6_59 ∧ Aside0 (humusref26_Ahead.j6 kq x6_59 = some r) ∧ Aside0 (kq ≤ k3) ∧ Aside0 (wc.heap[gb168]? = some (.cells #[.int .i64 ((rd_T43 l0 a1).f0),.int .i64 ((rd_T43 l0 a1).f1),(.slice A166_2 ((rd_T43 l0 a1).f2).length c166_2),(.slice A166_3 ((rd_T43 l0 a1).f3).length c166_3),(.slice A166_4 ((rd_T43 l0 a1).f4).length c166_4)] 43 (0,0))) ∧ Aside0 (wc.heap[gb169]? = some (.cells #[.int .i64 ((rd_T43 l0 a2).f0),.int .i64 ((rd_T43 l0 a2).f1),(.slice A167_2 ((rd_T43 l0 a2).f2).length c167_2),(.slice (some ad176) ((rd_T43 l0 a2).f3).length c167_3),(.slice A167_4 ((rd_T43 l0 a2).f4).length c167_4)] 43 (0,0))) ∧ Aside0 (Below w.heap.size w wc))
                case first =>
                 have H:=HC60.out
                 clear HC60
                 have H':=Aside0.mk H
                 clear H
                 go_wp2
                 go_meet
                 case rel => exact ⟨_,(true),(by first | rfl | (simp;done) | (simp [*];done)),H',⟨by have:=HJ9.out;have:=HK2.out;have:=HK3.out;first | omega | exact Nat.le_refl _⟩,⟨by (with_reducible repeat (first | refine blk_drewN ?_ _ | refine blk_drew ?_ | refine blk_alloc ?_ _));exact BK168.out⟩,⟨by (with_reducible repeat (first | refine blk_drewN ?_ _ | refine blk_drew ?_ | refine blk_alloc ?_ _));exact BK169.out⟩,⟨by repeat (first | (with_reducible first | exact HB.out | apply below_alloc | apply pw_below_drewN | apply below_drew1 | refine below_set ?_ GE168.out | refine below_set ?_ GE169.out) | exact HB.out)⟩⟩
                case rest =>
                 clear HC60
                 try clear c1
                 try clear p1
                 try clear q1
                 try clear hx1
                 try clear c2
                 try clear p2
                 try clear c3
                 try clear c4
                 try clear c4b0
                 try clear c5
                 try clear c5b0
                 try clear c6
                 try clear c6b0
                 try clear p6
                 try clear c7
                 try clear c7b0
                 try clear c16
                 try clear p16
                 try clear q16
                 try clear hx16
                 try clear c17
                 try clear p17
                 try clear q17
                 try clear hx17
                 try clear c19
                 try clear c25
                 try clear c25b0
                 try clear c26
                 try clear c26b0
                 try clear c27
                 try clear c29
                 try clear c29b0
                 try clear c30
                 try clear c30b0
                 try clear c32
                 try clear c33
                 try clear c33b0
                 try clear c35
                 try clear c37
                 try clear c39
                 try clear c41
                 try clear c41b0
                 try clear c43
                 try clear c45
                 try clear c48
                 try clear c49
                 try clear c51
                 try clear c53
                 try clear c55
                 try clear c55b0
                 try clear c56
                 try clear c56b0
                 try clear c57
                 try clear c57b0
                 try clear c59
                 try clear c61
                 try clear p64
                 try clear hcz28_0
                 try clear hcz28_1
                 try clear hcz28_2
                 try clear hcz28_3
                 try clear hcz28_4
                 try clear hcz36_0
                 try clear hcz36_1
                 try clear hcz36_2
                 try clear hcz36_3
                 try clear hcz36_4
                 try clear hcz38_0
                 try clear hcz38_1
                 try clear hcz38_2
                 try clear hcz38_3
                 try clear hcz38_4
                 try clear hcz40_0
                 try clear hcz40_1
                 try clear hcz40_2
                 try clear hcz40_3
                 try clear hcz40_4
                 try clear hcz46_0
                 try clear hcz46_1
                 try clear hcz46_2
                 try clear hcz46_3
                 try clear hcz46_4
                 try clear hcz49_0
                 try clear hcz49_1
                 try clear hcz49_2
                 try clear hcz49_3
                 try clear hcz49_4
                 try clear hcz52_0
                 try clear hcz52_1
                 try clear hcz52_2
                 try clear hcz52_3
                 try clear hcz52_4
                 try clear hcz54_0
                 try clear hcz54_1
                 try clear hcz54_2
                 try clear hcz54_3
                 try clear hcz54_4
                 try clear hcz62_0
                 try clear hcz62_1
                 try clear hcz62_2
                 try clear hcz62_3
                 try clear hcz62_4
                 try clear hfz28_0
                 try clear hfz28_1
                 try clear hfz28_2
                 try clear hfz28_3
                 try clear hfz28_4
                 try clear hfz36_0
                 try clear hfz36_1
                 try clear hfz36_2
                 try clear hfz36_3
                 try clear hfz36_4
                 try clear hfz38_0
                 try clear hfz38_1
                 try clear hfz38_2
                 try clear hfz38_3
                 try clear hfz38_4
                 try clear hfz40_0
                 try clear hfz40_1
                 try clear hfz40_2
                 try clear hfz40_3
                 try clear hfz40_4
                 try clear hfz46_0
                 try clear hfz46_1
                 try clear hfz46_2
                 try clear hfz46_3
                 try clear hfz46_4
                 try clear hfz49_0
                 try clear hfz49_1
                 try clear hfz49_2
                 try clear hfz49_3
                 try clear hfz49_4
                 try clear hfz52_0
                 try clear hfz52_1
                 try clear hfz52_2
                 try clear hfz52_3
                 try clear hfz52_4
                 try clear hfz54_0
                 try clear hfz54_1
                 try clear hfz54_2
                 try clear hfz54_3
                 try clear hfz54_4
                 try clear hfz62_0
                 try clear hfz62_1
                 try clear hfz62_2
                 try clear hfz62_3
                 try clear hfz62_4
                 try clear hx166_0
                 try clear hx166_1
                 try clear hx166_2
                 try clear hx166_3
                 try clear hx166_4
                 try clear hx167_0
                 try clear hx167_1
                 try clear hx167_2
                 try clear hx167_3
                 try clear hx167_4
                 try clear hx172_0
                 try clear hx172_1
                 try clear hx172_2
                 try clear hx172_3
                 try clear hx172_4
                 try clear hx172_5
                 try clear hx173_0
                 try clear hx173_1
                 try clear hx173_2
                 try clear hx173_3
                 try clear hx173_4
                 try clear hx173_5
                 try clear hx176_0
                 try clear hx176_1
                 try clear hx176_2
                 try clear hx176_3
                 try clear hx176_4
                 try clear hx176_5
                 try clear p1
                 try clear p16
                 try clear p166
                 try clear p167
                 try clear p17
                 try clear p172
                 try clear p173
                 try clear p176
                 try clear p2
                 try clear p6
                 try clear q1
                 try clear q16
                 try clear q166
                 try clear q167
                 try clear q17
                 try clear q172
                 try clear q173
                 try clear q176
                 obtain ⟨kq,x6_59,rfl,HA,HJ59,BK168,BK169,HB⟩:=hcut
                 cases kq with
                 | zero => exact absurd HA.out (by simp [humusref26_Ahead.j6])
                 | succ kj59 =>
                  have H:=HA.out
                  clear HA
                  simp only [humusref26_Ahead.j6] at H
                  obtain rfl:=Option.some.inj H
                  go_wp2
                  go_ret
                  exact ⟨by first | rfl | (simp [errW_none,errW_some] <;> rfl) | (simp [*,errW_none,errW_some] <;> rfl),by repeat (first | (with_reducible first | exact HB.out | apply below_alloc | apply pw_below_drewN | apply below_drew1 | refine below_set ?_ GE168.out | refine below_set ?_ GE169.out) | exact HB.out)⟩
               ·replace c59:=Bool.eq_false_iff.mpr c59
                subst c59
                have H1 : (humusref26_Ahead.l2 k3 t171 (wrap64 (x14_3 + 1)) ((rd_T43 l0 a1).f0) ((rd_T43 l0 a1).f1) ((rd_T43 l0 a1).f2) ((rd_T43 l0 a1).f3) ((rd_T43 l0 a1).f4) ((rd_T43 l0 a2).f0) ((rd_T43 l0 a2).f1) ((rd_T43 l0 a2).f2) ((rd_T43 l0 a2).f3) ((rd_T43 l0 a2).f4)) = some r:=by rw [if_neg (show ¬ (false = true) by decide)] at H;exact H
                clear H
                have H:=H1
                clear H1
                have H':=Aside0.mk H
                clear H
                have hnb65:=NB169_168.out
                have hnc65:=NB168_169.out
                obtain ⟨hcz66_0,hcz66_1,hcz66_2,hcz66_3,hcz66_4⟩:=blkc_5 BK169.out
                obtain ⟨hfz66_0,hfz66_1,hfz66_2,hfz66_3,hfz66_4⟩:=blkz_5 BK169.out
                try go_wp2
                have n0_:=Aside0.mk (blk_drew BK168.out)
                have n1_:=Aside0.mk (blk_drew BK169.out)
                have n2_:=Aside0.mk (below_drew1 HB.out)
                clear BK168
                clear BK169
                clear HB
                have BK168:=n0_
                have BK169:=n1_
                have HB:=n2_
                clear n0_ n1_ n2_
                have p176 : 0 ≤ (x14_3 : Int):=of_decide_eq_true (by first | (with_reducible assumption) | assumption)
                have q176 : x14_3 < (((rd_T43 l0 a2).f3).length : Int):=of_decide_eq_true (by first | (with_reducible assumption) | assumption)
                obtain ⟨ad176,A176_2,c176_2,e176,hx176_0,hx176_1,hx176_2,hx176_3,hx176_4,hx176_5,hl176_2,hi176_2⟩:=at_T124 HR167_3.out x14_3 p176 q176
                have hw176_5:=hx176_5
                have hw176_4:=hx176_4
                have hw176_3:=hx176_3
                have hw176_2:=hx176_2
                have hw176_1:=hx176_1
                have hw176_0:=hx176_0
                cases e176
                replace hx176_0:=(HB.out.cell (World.block_lt_of_cell? w _ hx176_0)).trans hx176_0
                replace hx176_1:=(HB.out.cell (World.block_lt_of_cell? w _ hx176_1)).trans hx176_1
                replace hx176_2:=(HB.out.cell (World.block_lt_of_cell? w _ hx176_2)).trans hx176_2
                replace hx176_3:=(HB.out.cell (World.block_lt_of_cell? w _ hx176_3)).trans hx176_3
                replace hx176_4:=(HB.out.cell (World.block_lt_of_cell? w _ hx176_4)).trans hx176_4
                replace hx176_5:=(HB.out.cell (World.block_lt_of_cell? w _ hx176_5)).trans hx176_5
                have HR176_2:=Aside0.mk hi176_2
                have HC176_2:=Aside0.mk hl176_2
                clear hi176_2 hl176_2
                replace p176:=eq_true p176
                replace q176:=eq_true q176
                refine start_ (n:=14) (S:=fun w' => w'.cell? ⟨gb168,0,none⟩ = some (.int .i64 ((rd_T43 l0 a1).f0)) ∧ w'.cell? ⟨gb168,1,none⟩ = some (.int .i64 ((rd_T43 l0 a1).f1)) ∧ w'.cell? ⟨gb168,2,none⟩ = some (.slice A166_2 ((rd_T43 l0 a1).f2).length c166_2) ∧ w'.cell? ⟨gb168,3,none⟩ = some (.slice A166_3 ((rd_T43 l0 a1).f3).length c166_3) ∧ w'.cell? ⟨gb168,4,none⟩ = some (.slice A166_4 ((rd_T43 l0 a1).f4).length c166_4) ∧ w'.cell? ⟨gb169,0,none⟩ = some (.int .i64 ((rd_T43 l0 a2).f0)) ∧ w'.cell? ⟨gb169,1,none⟩ = some (.int .i64 ((rd_T43 l0 a2).f1)) ∧ w'.cell? ⟨gb169,2,none⟩ = some (.slice A167_2 ((rd_T43 l0 a2).f2).length c167_2) ∧ w'.cell? ⟨gb169,3,none⟩ = some (.slice (some ad176) ((rd_T43 l0 a2).f3).length c167_3) ∧ w'.cell? ⟨gb169,4,none⟩ = some (.slice A167_4 ((rd_T43 l0 a2).f4).length c167_4) ∧ w'.cell? (ad176.add ((x14_3).toNat * 6)) = some (.float .f64 ((rd_T124 ((rd_T43 l0 a2).f3) x14_3).f0)) ∧ w'.cell? ⟨(ad176.add ((x14_3).toNat * 6)).block,(ad176.add ((x14_3).toNat * 6)).off + 1,none⟩ = some (.bool ((rd_T124 ((rd_T43 l0 a2).f3) x14_3).f1)) ∧ w'.cell? ⟨(ad176.add ((x14_3).toNat * 6)).block,(ad176.add ((x14_3).toNat * 6)).off + 2,none⟩ = some (.slice A176_2 ((rd_T124 ((rd_T43 l0 a2).f3) x14_3).f2).length c176_2) ∧ w'.cell? ⟨(ad176.add ((x14_3).toNat * 6)).block,(ad176.add ((x14_3).toNat * 6)).off + 3,none⟩ = some (.int .i64 ((rd_T124 ((rd_T43 l0 a2).f3) x14_3).f3)) ∧ w'.cell? ⟨(ad176.add ((x14_3).toNat * 6)).block,(ad176.add ((x14_3).toNat * 6)).off + 4,none⟩ = some (.int .i64 ((rd_T124 ((rd_T43 l0 a2).f3) x14_3).f4.f0)) ∧ w'.cell? ⟨(ad176.add ((x14_3).toNat * 6)).block,(ad176.add ((x14_3).toNat * 6)).off + 5,none⟩ = some (.int .i64 ((rd_T124 ((rd_T43 l0 a2).f3) x14_3).f4.f1))) (ds:=[12]) #[ff,ff,ff,ff,ff,ff,ff,ff,ff,ff,ff,ff,ff,ff] (by kernel_rfl) rfl rfl ⟨(blk_cell BK168.out 0).trans rfl,(blk_cell BK168.out 1).trans rfl,(blk_cell BK168.out 2).trans rfl,(blk_cell BK168.out 3).trans rfl,(blk_cell BK168.out 4).trans rfl,(blk_cell BK169.out 0).trans rfl,(blk_cell BK169.out 1).trans rfl,(blk_cell BK169.out 2).trans rfl,(blk_cell BK169.out 3).trans rfl,(blk_cell BK169.out 4).trans rfl,((HB.out.cell (World.block_lt_of_cell? w _ hw176_0)).trans hw176_0),((HB.out.cell (World.block_lt_of_cell? w _ hw176_1)).trans hw176_1),((HB.out.cell (World.block_lt_of_cell? w _ hw176_2)).trans hw176_2),((HB.out.cell (World.block_lt_of_cell? w _ hw176_3)).trans hw176_3),((HB.out.cell (World.block_lt_of_cell? w _ hw176_4)).trans hw176_4),((HB.out.cell (World.block_lt_of_cell? w _ hw176_5)).trans hw176_5)⟩ (fun hHeld => ?_);refine with_tabW humusref26_Ahead.tab17 humusref26_Ahead.bits17 (fun HT_ HW_ => ?_)
                generalize wr.drew = w67 at BK168 BK169 HB HR176_2 hx176_0 hx176_1 hx176_2 hx176_3 hx176_4 hx176_5 hHeld ⊢
                refine pure_ (i:=0) (N:=some 78) (v:=?_) (a':=?_) #[tt,ff,ff,ff,ff,ff,ff,ff,ff,ff,ff,ff,ff,ff] rfl rfl (any_of HT_.out (by kernel_rfl)) (fun _ _ _ h => h) (Or.inl ⟨by rfl,?_⟩) ?_ ?_
                rotate_left
                ·intro w'
                 go_simp
                 with_reducible rfl
                rotate_left
                ·simp only [Act.put,q1_,q2_,q3_,i64_w,i32_w]
                 rfl
                refine pure_ (i:=1) (N:=some 79) (v:=?_) (a':=?_) #[tt,tt,ff,ff,ff,ff,ff,ff,ff,ff,ff,ff,ff,ff] rfl rfl (any_of HT_.out (by kernel_rfl)) (fun _ _ _ h => h) (Or.inl ⟨by rfl,?_⟩) ?_ ?_
                rotate_left
                ·intro w'
                 go_simp
                 with_reducible rfl
                rotate_left
                ·simp only [Act.put,q1_,q2_,q3_,i64_w,i32_w]
                 rfl
                refine take_ (i:=2) (N:=some 80) (v:=?_) (a':=?_) #[tt,tt,tt,ff,ff,ff,ff,ff,ff,ff,ff,ff,ff,ff] rfl rfl (take_ofW HT_.out HW_.out (by kernel_rfl)) (fun _ _ _ h => h) (Or.inl ⟨by rfl,?_⟩) hHeld ?_ ?_
                rotate_left
                ·rintro w' ⟨s0,s1,s2,s3,s4,s5,s6,s7,s8,s9,s10,s11,s12,s13,s14,s15⟩
                 go_simp
                 with_reducible rfl
                rotate_left
                ·simp only [Act.put,q1_,q2_,q3_,i64_w,i32_w]
                 rfl
                refine pure_ (i:=3) (N:=some 81) (v:=?_) (a':=?_) #[tt,tt,tt,tt,ff,ff,ff,ff,ff,ff,ff,ff,ff,ff] rfl rfl (any_of HT_.out (by kernel_rfl)) (fun _ _ _ h => h) (Or.inl ⟨by rfl,?_⟩) ?_ ?_
                rotate_left
                ·intro w'
                 go_simp
                 with_reducible rfl
                rotate_left
                ·simp only [Act.put,q1_,q2_,q3_,i64_w,i32_w]
                 rfl
                refine pure_ (i:=4) (N:=some 82) (v:=?_) (a':=?_) #[tt,tt,tt,tt,tt,ff,ff,ff,ff,ff,ff,ff,ff,ff] rfl rfl (any_of HT_.out (by kernel_rfl)) (fun _ _ _ h => h) (Or.inl ⟨by rfl,?_⟩) ?_ ?_
                rotate_left
                ·intro w'
                 go_simp
                 with_reducible rfl
                rotate_left
                ·simp only [Act.put,q1_,q2_,q3_,i64_w,i32_w]
                 rfl
                refine pure_ (i:=6) (N:=some 84) (v:=?_) (a':=?_) #[tt,tt,tt,tt,tt,ff,tt,ff,ff,ff,ff,ff,ff,ff] rfl rfl (any_of HT_.out (by kernel_rfl)) (fun _ _ _ h => h) (Or.inl ⟨by rfl,?_⟩) ?_ ?_
                rotate_left
                ·intro w'
                 go_simp
                 with_reducible rfl
                rotate_left
                ·simp only [Act.put,q1_,q2_,q3_,i64_w,i32_w]
                 rfl
                refine pure_ (i:=8) (N:=some 86) (v:=?_) (a':=?_) #[tt,tt,tt,tt,tt,ff,tt,ff,tt,ff,ff,ff,ff,ff] rfl rfl (any_of HT_.out (by kernel_rfl)) (fun _ _ _ h => h) (Or.inl ⟨by rfl,?_⟩) ?_ ?_
                rotate_left
                ·intro w'
                 go_simp
                 with_reducible rfl
                rotate_left
                ·simp only [Act.put,q1_,q2_,q3_,i64_w,i32_w]
                 rfl
                refine take_ (i:=5) (N:=some 83) (v:=?_) (a':=?_) #[tt,tt,tt,tt,tt,tt,tt,ff,tt,ff,ff,ff,ff,ff] rfl rfl (take_ofW HT_.out HW_.out (by kernel_rfl)) (fun _ _ _ h => h) (Or.inl ⟨by rfl,?_⟩) hHeld ?_ ?_
                rotate_left
                ·rintro w' ⟨s0,s1,s2,s3,s4,s5,s6,s7,s8,s9,s10,s11,s12,s13,s14,s15⟩
                 go_simp
                 with_reducible rfl
                rotate_left
                ·simp only [Act.put,q1_,q2_,q3_,i64_w,i32_w]
                 rfl
                refine take_ (i:=7) (N:=some 85) (v:=?_) (a':=?_) #[tt,tt,tt,tt,tt,tt,tt,tt,tt,ff,ff,ff,ff,ff] rfl rfl (take_ofW HT_.out HW_.out (by kernel_rfl)) (fun _ _ _ h => h) (Or.inl ⟨by rfl,?_⟩) hHeld ?_ ?_
                rotate_left
                ·rintro w' ⟨s0,s1,s2,s3,s4,s5,s6,s7,s8,s9,s10,s11,s12,s13,s14,s15⟩
                 go_simp
                 with_reducible rfl
                rotate_left
                ·simp only [Act.put,q1_,q2_,q3_,i64_w,i32_w]
                 rfl
                refine pure_ (i:=9) (N:=some 87) (v:=?_) (a':=?_) #[tt,tt,tt,tt,tt,tt,tt,tt,tt,tt,ff,ff,ff,ff] rfl rfl (any_of HT_.out (by kernel_rfl)) (fun _ _ _ h => h) (Or.inl ⟨by rfl,?_⟩) ?_ ?_
                rotate_left
                ·intro w'
                 go_simp
                 with_reducible rfl
                rotate_left
                ·simp only [Act.put,q1_,q2_,q3_,i64_w,i32_w]
                 rfl
                refine pure_ (i:=10) (N:=some 88) (v:=?_) (a':=?_) #[tt,tt,tt,tt,tt,tt,tt,tt,tt,tt,tt,ff,ff,ff] rfl rfl (any_of HT_.out (by kernel_rfl)) (fun _ _ _ h => h) (Or.inl ⟨by rfl,?_⟩) ?_ ?_
                rotate_left
                ·intro w'
                 go_simp
                 with_reducible rfl
                rotate_left
                ·simp only [Act.put,q1_,q2_,q3_,i64_w,i32_w]
                 rfl
                refine take_ (i:=11) (N:=some 89) (v:=?_) (a':=?_) #[tt,tt,tt,tt,tt,tt,tt,tt,tt,tt,tt,tt,ff,ff] rfl rfl (take_ofW HT_.out HW_.out (by kernel_rfl)) (fun _ _ _ h => h) (Or.inl ⟨by rfl,?_⟩) hHeld ?_ ?_
                rotate_left
                ·rintro w' ⟨s0,s1,s2,s3,s4,s5,s6,s7,s8,s9,s10,s11,s12,s13,s14,s15⟩
                 go_simp
                 with_reducible rfl
                rotate_left
                ·simp only [Act.put,q1_,q2_,q3_,i64_w,i32_w]
                 rfl
                refine last_ (i:=12) (N:=some 90) #[tt,tt,tt,tt,tt,tt,tt,tt,tt,tt,tt,tt,tt,ff] rfl rfl (one_of HT_.out (by kernel_rfl)) (by decide) (fun K hK => ?_)
                refine goes_ Try.func19 (by kernel_rfl) rfl #[.agg #[.int .i64 ((rd_T43 l0 a1).f0),.int .i64 ((rd_T43 l0 a1).f1),.slice A166_2 ((rd_T43 l0 a1).f2).length c166_2,.slice A166_3 ((rd_T43 l0 a1).f3).length c166_3,.slice A166_4 ((rd_T43 l0 a1).f4).length c166_4],.float .f64 ((rd_T124 ((rd_T43 l0 a2).f3) x14_3).f0)] (by rfl) rfl rfl (by (try simp only [List.map_toArray,List.map_cons,List.map_nil]);first | done | rfl | (simp only [List.length_drop,List.length_take];rfl)) ?_
                with_reducible refine (humusref26_Reads.calls k3 ((rd_T43 l0 a1).f0) ((rd_T43 l0 a1).f1) _ _ ((rd_T43 l0 a1).f2) _ _ ((rd_T43 l0 a1).f3) _ _ ((rd_T43 l0 a1).f4) ((rd_T124 ((rd_T43 l0 a2).f3) x14_3).f0) false _ ?side1 ?side2 ?side3 ?side4 ?side5 ?side6 A58.out).mono ?_
                (case side1 => repeat (first | exact (Kd.C_below HR166_2.out HB.out) | (with_reducible refine Kd.C_alloc ?_ _) | (with_reducible refine Kd.C_drewN ?_ _) | (with_reducible refine Kd.C_drew ?_)))
                (case side2 => exact HC166_2.out)
                (case side3 => repeat (first | exact (Kd.C_below HR166_3.out HB.out) | (with_reducible refine Kd.C_alloc ?_ _) | (with_reducible refine Kd.C_drewN ?_ _) | (with_reducible refine Kd.C_drew ?_)))
                (case side4 => exact HC166_3.out)
                (case side5 => repeat (first | exact (Kd.C_below HR166_4.out HB.out) | (with_reducible refine Kd.C_alloc ?_ _) | (with_reducible refine Kd.C_drewN ?_ _) | (with_reducible refine Kd.C_drew ?_)))
                (case side6 => exact HC166_4.out)
                rintro e w68 ⟨rfl,hb⟩
                refine ⟨_,rfl,?_⟩
                have n0_:=Aside0.mk (blk_below (g:=gb168) (o:=.cells #[.int .i64 ((rd_T43 l0 a1).f0),.int .i64 ((rd_T43 l0 a1).f1),.slice A166_2 ((rd_T43 l0 a1).f2).length c166_2,.slice A166_3 ((rd_T43 l0 a1).f3).length c166_3,.slice A166_4 ((rd_T43 l0 a1).f4).length c166_4] 43 (0,0)) (by (with_reducible repeat (first | refine blk_drewN ?_ _ | refine blk_drew ?_ | refine blk_alloc ?_ _));exact BK168.out) hb)
                have n1_:=Aside0.mk (blk_below (g:=gb169) (o:=.cells #[.int .i64 ((rd_T43 l0 a2).f0),.int .i64 ((rd_T43 l0 a2).f1),.slice A167_2 ((rd_T43 l0 a2).f2).length c167_2,.slice (some ad176) ((rd_T43 l0 a2).f3).length c167_3,.slice A167_4 ((rd_T43 l0 a2).f4).length c167_4] 43 (0,0)) (by (with_reducible repeat (first | refine blk_drewN ?_ _ | refine blk_drew ?_ | refine blk_alloc ?_ _));exact BK169.out) hb)
                have n2_:=Aside0.mk (below_step (by repeat (first | (with_reducible first | exact HB.out | apply below_alloc | apply pw_below_drewN | apply below_drew1 | refine below_set ?_ GE168.out | refine below_set ?_ GE169.out) | exact HB.out)) hb)
                clear BK168
                clear BK169
                clear HB
                have BK168:=n0_
                have BK169:=n1_
                have HB:=n2_
                clear n0_ n1_ n2_
                (try clear hb)
                (try clear hb2)
                (try clear hk)
                (try clear hi)
                refine hK.out _ _ ?_
                clear hK K
                refine norm_ (a':=?_) ?_ ?_
                rotate_left
                ·show Act.put _ (some 90) _ = _
                 simp only [Act.put,q1_,q2_,q3_,i64_w,i32_w]
                 rfl
                refine pure_ (i:=13) (N:=some 91) (v:=?_) (a':=?_) #[tt,tt,tt,tt,tt,tt,tt,tt,tt,tt,tt,tt,tt,tt] rfl rfl (any_of HT_.out (by kernel_rfl)) (fun _ _ _ h => h) (Or.inl ⟨by rfl,?_⟩) ?_ ?_
                rotate_left
                ·intro w'
                 go_simp
                 with_reducible rfl
                rotate_left
                ·simp only [Act.put,q1_,q2_,q3_,i64_w,i32_w]
                 rfl
                refine done_ (done_of HT_.out (by kernel_rfl)) ?_
                try go_wp2
                go_roundg k3
                case measure => have:=HJ9.out;have:=HK2.out;have:=HK3.out;omega
                case rel => exact ⟨(wrap64 (x14_3 + 1)),(by first | rfl | (simp;done) | (simp [*];done)),H',⟨by have:=HJ9.out;have:=HK2.out;have:=HK3.out;omega⟩,⟨by (with_reducible repeat (first | refine blk_drewN ?_ _ | refine blk_drew ?_ | refine blk_alloc ?_ _));exact BK168.out⟩,⟨by (with_reducible repeat (first | refine blk_drewN ?_ _ | refine blk_drew ?_ | refine blk_alloc ?_ _));exact BK169.out⟩,⟨by repeat (first | (with_reducible first | exact HB.out | apply below_alloc | apply pw_below_drewN | apply below_drew1 | refine below_set ?_ GE168.out | refine below_set ?_ GE169.out) | exact HB.out)⟩⟩
              ·rw [if_neg c57] at H
               exact absurd H (by simp)
             ·rw [if_neg c56] at H
              have c56b0 : decide (((rd_T43 l0 a1).f1) ≤ t171) = false:=decide_eq_false c56
              clear c56
              have H':=Aside0.mk H
              clear H
              have hnb69:=NB169_168.out
              have hnc69:=NB168_169.out
              obtain ⟨hcz70_0,hcz70_1,hcz70_2,hcz70_3,hcz70_4⟩:=blkc_5 BK169.out
              obtain ⟨hfz70_0,hfz70_1,hfz70_2,hfz70_3,hfz70_4⟩:=blkz_5 BK169.out
              try go_wp2
              have n0_:=Aside0.mk (blk_drew BK168.out)
              have n1_:=Aside0.mk (blk_drew BK169.out)
              have n2_:=Aside0.mk (below_drew1 HB.out)
              clear BK168
              clear BK169
              clear HB
              have BK168:=n0_
              have BK169:=n1_
              have HB:=n2_
              clear n0_ n1_ n2_
              refine start_ (n:=14) (S:=fun w' => w'.cell? ⟨gb168,0,none⟩ = some (.int .i64 ((rd_T43 l0 a1).f0)) ∧ w'.cell? ⟨gb168,1,none⟩ = some (.int .i64 ((rd_T43 l0 a1).f1)) ∧ w'.cell? ⟨gb168,2,none⟩ = some (.slice A166_2 ((rd_T43 l0 a1).f2).length c166_2) ∧ w'.cell? ⟨gb168,3,none⟩ = some (.slice A166_3 ((rd_T43 l0 a1).f3).length c166_3) ∧ w'.cell? ⟨gb168,4,none⟩ = some (.slice A166_4 ((rd_T43 l0 a1).f4).length c166_4)) (ds:=[]) #[ff,ff,ff,ff,ff,ff,ff,ff,ff,ff,ff,ff,ff,ff] (by kernel_rfl) rfl rfl ⟨(blk_cell BK168.out 0).trans rfl,(blk_cell BK168.out 1).trans rfl,(blk_cell BK168.out 2).trans rfl,(blk_cell BK168.out 3).trans rfl,(blk_cell BK168.out 4).trans rfl⟩ (fun hHeld => ?_);refine with_tabW humusref26_Ahead.tab17 humusref26_Ahead.bits17 (fun HT_ HW_ => ?_)
              generalize wr.drew = w71 at BK168 BK169 HB hHeld ⊢
              refine pure_ (i:=0) (N:=some 78) (v:=?_) (a':=?_) #[tt,ff,ff,ff,ff,ff,ff,ff,ff,ff,ff,ff,ff,ff] rfl rfl (any_of HT_.out (by kernel_rfl)) (fun _ _ _ h => h) (Or.inl ⟨by rfl,?_⟩) ?_ ?_
              rotate_left
              ·intro w'
               go_simp
               with_reducible rfl
              rotate_left
              ·simp only [Act.put,q1_,q2_,q3_,i64_w,i32_w]
               rfl
              refine pure_ (i:=1) (N:=some 79) (v:=?_) (a':=?_) #[tt,tt,ff,ff,ff,ff,ff,ff,ff,ff,ff,ff,ff,ff] rfl rfl (any_of HT_.out (by kernel_rfl)) (fun _ _ _ h => h) (Or.inl ⟨by rfl,?_⟩) ?_ ?_
              rotate_left
              ·intro w'
               go_simp
               with_reducible rfl
              rotate_left
              ·simp only [Act.put,q1_,q2_,q3_,i64_w,i32_w]
               rfl
              refine take_ (i:=2) (N:=some 80) (v:=?_) (a':=?_) #[tt,tt,tt,ff,ff,ff,ff,ff,ff,ff,ff,ff,ff,ff] rfl rfl (take_ofW HT_.out HW_.out (by kernel_rfl)) (fun _ _ _ h => h) (Or.inl ⟨by rfl,?_⟩) hHeld ?_ ?_
              rotate_left
              ·rintro w' ⟨s0,s1,s2,s3,s4⟩
               go_simp
               with_reducible rfl
              rotate_left
              ·simp only [Act.put,q1_,q2_,q3_,i64_w,i32_w]
               rfl
              refine pure_ (i:=3) (N:=some 81) (v:=?_) (a':=?_) #[tt,tt,tt,tt,ff,ff,ff,ff,ff,ff,ff,ff,ff,ff] rfl rfl (any_of HT_.out (by kernel_rfl)) (fun _ _ _ h => h) (Or.inl ⟨by rfl,?_⟩) ?_ ?_
              rotate_left
              ·intro w'
               go_simp
               with_reducible rfl
              rotate_left
              ·simp only [Act.put,q1_,q2_,q3_,i64_w,i32_w]
               rfl
              refine pure_ (i:=4) (N:=some 82) (v:=?_) (a':=?_) #[tt,tt,tt,tt,tt,ff,ff,ff,ff,ff,ff,ff,ff,ff] rfl rfl (any_of HT_.out (by kernel_rfl)) (fun _ _ _ h => h) (Or.inl ⟨by rfl,?_⟩) ?_ ?_
              rotate_left
              ·intro w'
               go_simp
               with_reducible rfl
              rotate_left
              ·simp only [Act.put,q1_,q2_,q3_,i64_w,i32_w]
               rfl
              refine pure_ (i:=5) (N:=some 83) (v:=undef) (a':=?_) #[tt,tt,tt,tt,tt,tt,ff,ff,ff,ff,ff,ff,ff,ff] rfl rfl (any_of HT_.out (by kernel_rfl)) (fun _ _ _ h => h) (Or.inr ⟨by rfl,rfl⟩) ?_ ?_
              rotate_left
              ·simp only [Act.put,q1_,q2_,q3_,i64_w,i32_w]
               rfl
              refine pure_ (i:=6) (N:=some 84) (v:=undef) (a':=?_) #[tt,tt,tt,tt,tt,tt,tt,ff,ff,ff,ff,ff,ff,ff] rfl rfl (any_of HT_.out (by kernel_rfl)) (fun _ _ _ h => h) (Or.inr ⟨by rfl,rfl⟩) ?_ ?_
              rotate_left
              ·simp only [Act.put,q1_,q2_,q3_,i64_w,i32_w]
               rfl
              refine pure_ (i:=7) (N:=some 85) (v:=undef) (a':=?_) #[tt,tt,tt,tt,tt,tt,tt,tt,ff,ff,ff,ff,ff,ff] rfl rfl (any_of HT_.out (by kernel_rfl)) (fun _ _ _ h => h) (Or.inr ⟨by rfl,rfl⟩) ?_ ?_
              rotate_left
              ·simp only [Act.put,q1_,q2_,q3_,i64_w,i32_w]
               rfl
              refine pure_ (i:=8) (N:=some 86) (v:=undef) (a':=?_) #[tt,tt,tt,tt,tt,tt,tt,tt,tt,ff,ff,ff,ff,ff] rfl rfl (any_of HT_.out (by kernel_rfl)) (fun _ _ _ h => h) (Or.inr ⟨by rfl,rfl⟩) ?_ ?_
              rotate_left
              ·simp only [Act.put,q1_,q2_,q3_,i64_w,i32_w]
               rfl
              refine pure_ (i:=9) (N:=some 87) (v:=undef) (a':=?_) #[tt,tt,tt,tt,tt,tt,tt,tt,tt,tt,ff,ff,ff,ff] rfl rfl (any_of HT_.out (by kernel_rfl)) (fun _ _ _ h => h) (Or.inr ⟨by rfl,rfl⟩) ?_ ?_
              rotate_left
              ·simp only [Act.put,q1_,q2_,q3_,i64_w,i32_w]
               rfl
              refine pure_ (i:=10) (N:=some 88) (v:=undef) (a':=?_) #[tt,tt,tt,tt,tt,tt,tt,tt,tt,tt,tt,ff,ff,ff] rfl rfl (any_of HT_.out (by kernel_rfl)) (fun _ _ _ h => h) (Or.inr ⟨by rfl,rfl⟩) ?_ ?_
              rotate_left
              ·simp only [Act.put,q1_,q2_,q3_,i64_w,i32_w]
               rfl
              refine pure_ (i:=11) (N:=some 89) (v:=undef) (a':=?_) #[tt,tt,tt,tt,tt,tt,tt,tt,tt,tt,tt,tt,ff,ff] rfl rfl (any_of HT_.out (by kernel_rfl)) (fun _ _ _ h => h) (Or.inr ⟨by rfl,rfl⟩) ?_ ?_
              rotate_left
              ·simp only [Act.put,q1_,q2_,q3_,i64_w,i32_w]
               rfl
              refine pure_ (i:=12) (N:=some 90) (v:=undef) (a':=?_) #[tt,tt,tt,tt,tt,tt,tt,tt,tt,tt,tt,tt,tt,ff] rfl rfl (any_of HT_.out (by kernel_rfl)) (fun _ _ _ h => h) (Or.inr ⟨by rfl,rfl⟩) ?_ ?_
              rotate_left
              ·simp only [Act.put,q1_,q2_,q3_,i64_w,i32_w]
               rfl
              refine pure_ (i:=13) (N:=some 91) (v:=?_) (a':=?_) #[tt,tt,tt,tt,tt,tt,tt,tt,tt,tt,tt,tt,tt,tt] rfl rfl (any_of HT_.out (by kernel_rfl)) (fun _ _ _ h => h) (Or.inl ⟨by rfl,?_⟩) ?_ ?_
              rotate_left
              ·intro w'
               go_simp
               with_reducible rfl
              rotate_left
              ·simp only [Act.put,q1_,q2_,q3_,i64_w,i32_w]
               rfl
              refine done_ (done_of HT_.out (by kernel_rfl)) ?_
              try go_wp2
              go_roundg k3
              case measure => have:=HJ9.out;have:=HK2.out;have:=HK3.out;omega
              case rel => exact ⟨(wrap64 (x14_3 + 1)),(by first | rfl | (simp;done) | (simp [*];done)),H',⟨by have:=HJ9.out;have:=HK2.out;have:=HK3.out;omega⟩,⟨by (with_reducible repeat (first | refine blk_drewN ?_ _ | refine blk_drew ?_ | refine blk_alloc ?_ _));exact BK168.out⟩,⟨by (with_reducible repeat (first | refine blk_drewN ?_ _ | refine blk_drew ?_ | refine blk_alloc ?_ _));exact BK169.out⟩,⟨by repeat (first | (with_reducible first | exact HB.out | apply below_alloc | apply pw_below_drewN | apply below_drew1 | refine below_set ?_ GE168.out | refine below_set ?_ GE169.out) | exact HB.out)⟩⟩
            ·rw [if_neg c55] at H
             have c55b0 : decide (x14_3 < (((rd_T43 l0 a2).f3).length : Int)) = false:=decide_eq_false c55
             clear c55
             obtain rfl:=Option.some.inj H
             have hnb72:=NB169_168.out
             have hnc72:=NB168_169.out
             obtain ⟨hcz73_0,hcz73_1,hcz73_2,hcz73_3,hcz73_4⟩:=blkc_5 BK169.out
             obtain ⟨hfz73_0,hfz73_1,hfz73_2,hfz73_3,hfz73_4⟩:=blkz_5 BK169.out
             go_wp2
             go_ret
             exact ⟨by first | rfl | (simp [errW_none,errW_some] <;> rfl) | (simp [*,errW_none,errW_some] <;> rfl),by repeat (first | (with_reducible first | exact HB.out | apply below_alloc | apply pw_below_drewN | apply below_drew1 | refine below_set ?_ GE168.out | refine below_set ?_ GE169.out) | exact HB.out)⟩
    ·rw [if_neg c7] at H
     exact absurd H (by simp)
   ·rw [if_neg c6] at H
    exact absurd H (by simp)
  ·rw [if_neg c5] at H
   exact absurd H (by simp)
 ·rw [if_neg c4] at H
  exact absurd H (by simp)
end Go.Proofs.Ytbmcbhpkefjhbaa.P
namespace Go.Proofs.Ytbmcbhpkefjhbaa.P
open Go.RowKit Go.Proofs.YtbmcbhpkefjhbaaW.PrintWords Go.Proofs.YtbmcbhpkefjhbaaW.PrintLast Go.Proofs.YtbmcbhpkefjhbaaW.PrintMore
attribute [local go_sem] max2_int min2_int max_two min_two max_three min_three max_four min_four   -- for this text's walks alone
attribute [local go_sem] run_store_float
set_option linter.unusedVariables false
set_option linter.unusedSimpArgs false
mutual
def humusref26_Edges.l0 : Nat → List (S43) → List (S33) → Int → Option ((List (S33)))
 | 0,_,_,_ => none
 | k + 1,x0,x3,x4 => if x4 < (x0.length : Int) then (humusref26_Edges.l1 k x0 x3 x4 0) else (some x3)
def humusref26_Edges.l1 : Nat → List (S43) → List (S33) → Int → Int → Option ((List (S33)))
 | 0,_,_,_,_ => none
 | k + 1,x0,x3,x4,x5 => if x5 < (x0.length : Int) then (if x4 = x5 then (humusref26_Edges.l1 k x0 x3 x4 (wrap64 (x5 + 1))) else ((humusref26_Ahead.f k x0 x4 x5).bind fun t181 => (if t181 = true then (if x3.length < 8796093022208 then (humusref26_Edges.j2 k x0 (x3 ++ [(⟨x4,x5⟩ : S33)]) x4 (wrap64 (x5 + 1))) else (none)) else (humusref26_Edges.l1 k x0 x3 x4 (wrap64 (x5 + 1)))))) else (humusref26_Edges.l0 k x0 x3 (wrap64 (x4 + 1)))
def humusref26_Edges.j2 : Nat → List (S43) → List (S33) → Int → Int → Option ((List (S33)))
 | 0,_,_,_,_ => none
 | k + 1,x0,x3,x4,x5 => humusref26_Edges.l1 k x0 x3 x4 x5
end
def humusref26_Edges.f (k : Nat) (l0 : List (S43)) : Option ((List (S33))):=humusref26_Edges.l0 k l0 (([] : List (S33))) 0
set_option maxHeartbeats 8000000 in
set_option maxRecDepth 100000 in
theorem humusref26_Edges.calls (k : Nat) (A0 : Option Addr) (c0 : Nat) (l0 : List (S43)) (r : List (S33)) (w : World) (hr0 : Kd.C k43 w A0 l0.length l0) (hc0 : l0.length ≤ c0) (h : humusref26_Edges.f k l0 = some r) :
  Calls Try.prog 22 #[.slice A0 l0.length c0] w fun e w' => ∃ v0_ : Value,e = .returned (v0_) ∧ Kd.R k33 33 w' w.heap.size (fun _ => True) v0_ r ∧ Below w.heap.size w w':=by
 have hu33:=Try.underlying33
 have HR0:=Aside0.mk hr0
 have HC0:=Aside0.mk hc0
 clear hr0 hc0
 have HB:=Aside0.mk (Below.refl w.heap.size w)
 have H : (humusref26_Edges.l0 k l0 (([] : List (S33))) 0) = some r:=h
 clear h
 obtain ⟨y178,hy178⟩ : ∃ y_ : List (S33),y_ = (([] : List (S33))):=⟨_,rfl⟩
 replace H : (humusref26_Edges.l0 k l0 y178 0) = some r:=by first | (rw [hy178];with_reducible exact H) | (have H2_:=(Option.bind_some _ _).symm.trans H;rw [hy178];with_reducible exact H2_) | (have H2_:=(Option.bind_some _ _).symm.trans H;with_reducible exact H2_) | with_reducible exact H | (rw [hy178];exact H) | exact H
 have Ny178:=Aside0.mk hy178
 clear hy178
 have H':=Aside0.mk H
 clear H
 go_enter Try.func22,Try.ntmps22
 go_wp2_with (first | ((with_reducible refine gate_dst (N:=6) rfl ?_);refine Kd.R_lit k33 _ 33 ?hg (N:=6) ?hd (xs:=([] : List (S33))) (inner:=[]) (ok:=fun _ => True) (okp:=fun _ => True) ?hr ?hp (fun _ hk => hk) trivial (Below.refl _ _) (Nat.le_refl _) (by simp) ?_;(case hd => rfl);(case hg => rfl);(case hr => first | (go_simp;done) | (go_simp;rfl));(case hp => exact (Reps.none _ _));intro v179 w2 ho3 hb hg_ hnew_;clear hg_ hnew_;(first | rw [← Ny178.out] at ho3 | (simp only [Int.reduceToNat] at ho3;rw [← Ny178.out] at ho3));have n0_:=Aside0.mk (Kd.R_lower ho3 (below_size (by repeat (first | (with_reducible first | exact HB.out | apply below_alloc | apply pw_below_drewN | apply below_drew1) | exact HB.out))));have n1_:=Aside0.mk (below_step (by repeat (first | (with_reducible first | exact HB.out | apply below_alloc | apply pw_below_drewN | apply below_drew1) | exact HB.out)) hb);clear HB;have HO180:=n0_;have HB:=n1_;clear n0_ n1_;clear hb ho3))
 go_loopg [3,4] k (fun kq v3 v4 w' => ∃ (x3_1 : List (S33)) (x4_1 : Int),v4 = .int .i64 x4_1 ∧ Aside0 (humusref26_Edges.l0 kq l0 x3_1 x4_1 = some r) ∧ Aside0 (kq ≤ k) ∧ Aside0 (Kd.R k33 33 w' w.heap.size (fun _ => True) v3 x3_1) ∧ Aside0 (Below w.heap.size w w'))
 case atStart => exact ⟨(y178),(0),(by first | rfl | (simp;done) | (simp [*];done)),H',⟨Nat.le_refl _⟩,⟨by (with_reducible repeat (first | apply Kd.R_alloc | apply Kd.R_drewN | apply Kd.R_drew));exact HO180.out⟩,⟨by repeat (first | (with_reducible first | exact HB.out | apply below_alloc | apply pw_below_drewN | apply below_drew1) | exact HB.out)⟩⟩
 case round =>
  clear H'
  try clear c2
  try clear p2
  obtain ⟨x3_1,x4_1,rfl,HA,HK1,HO_3,HB⟩:=hrel
  cases gk with
  | zero => exact absurd HA.out (by simp [humusref26_Edges.l0])
  | succ k1 =>
   have H:=HA.out
   clear HA
   simp only [humusref26_Edges.l0] at H
   by_cases c4 : x4_1 < (l0.length : Int)
   ·rw [if_pos c4] at H
    have c4b0 : decide (x4_1 < (l0.length : Int)) = true:=decide_eq_true c4
    clear c4
    have H':=Aside0.mk H
    clear H
    go_wp2
    go_loopg [3,5] k1 (fun kq v3 v5 w' => ∃ (x3_2 : List (S33)) (x5_2 : Int),v5 = .int .i64 x5_2 ∧ Aside0 (humusref26_Edges.l1 kq l0 x3_2 x4_1 x5_2 = some r) ∧ Aside0 (kq ≤ k1) ∧ Aside0 (Kd.R k33 33 w' w.heap.size (fun _ => True) v3 x3_2) ∧ Aside0 (Below w.heap.size w w'))
    case atStart => exact ⟨(x3_1),(0),(by first | rfl | (simp;done) | (simp [*];done)),H',⟨Nat.le_refl _⟩,⟨by (with_reducible repeat (first | apply Kd.R_alloc | apply Kd.R_drewN | apply Kd.R_drew));exact HO_3.out⟩,⟨by repeat (first | (with_reducible first | exact HB.out | apply below_alloc | apply pw_below_drewN | apply below_drew1) | exact HB.out)⟩⟩
    case round =>
     clear H'
     try clear c2
     try clear p2
     try clear c4
     try clear c4b0
     try clear p2
     obtain ⟨x3_2,x5_2,rfl,HA,HK2,HO_3,HB⟩:=hrel
     cases gk with
     | zero => exact absurd HA.out (by simp [humusref26_Edges.l1])
     | succ k2 =>
      have H:=HA.out
      clear HA
      simp only [humusref26_Edges.l1] at H
      by_cases c5 : x5_2 < (l0.length : Int)
      ·rw [if_pos c5] at H
       have c5b0 : decide (x5_2 < (l0.length : Int)) = true:=decide_eq_true c5
       clear c5
       by_cases c6 : x4_1 = x5_2
       ·rw [if_pos c6] at H
        have c6b0 : (x4_1 == x5_2) = true:=beq_iff_eq.mpr c6
        have c6b1 : (x4_1 != x5_2) = false:=bne_eq_false_iff_eq.mpr c6
        clear c6
        have H':=Aside0.mk H
        clear H
        go_wp2
        go_roundg k2
        case measure => have:=HK1.out;have:=HK2.out;omega
        case rel => exact ⟨(x3_2),(wrap64 (x5_2 + 1)),(by first | rfl | (simp;done) | (simp [*];done)),H',⟨by have:=HK1.out;have:=HK2.out;omega⟩,⟨by (with_reducible repeat (first | apply Kd.R_alloc | apply Kd.R_drewN | apply Kd.R_drew));exact HO_3.out⟩,⟨by repeat (first | (with_reducible first | exact HB.out | apply below_alloc | apply pw_below_drewN | apply below_drew1) | exact HB.out)⟩⟩
       ·rw [if_neg c6] at H
        have c6b0 : (x4_1 == x5_2) = false:=beq_eq_false_iff_ne.mpr c6
        have c6b1 : (x4_1 != x5_2) = true:=bne_iff_ne.mpr c6
        replace H:=Option.bind_eq_some_iff.mp H
        obtain ⟨t181,A70,H⟩:=H
        replace H : (if t181 = true then (if x3_2.length < 8796093022208 then (humusref26_Edges.j2 k2 l0 (x3_2 ++ [(⟨x4_1,x5_2⟩ : S33)]) x4_1 (wrap64 (x5_2 + 1))) else (none)) else (humusref26_Edges.l1 k2 l0 x3_2 x4_1 (wrap64 (x5_2 + 1)))) = some r:=H
        have A7:=Aside0.mk A70
        clear A70
        by_cases c8 : t181 = true
        ·subst c8
         have H1 : (if x3_2.length < 8796093022208 then (humusref26_Edges.j2 k2 l0 (x3_2 ++ [(⟨x4_1,x5_2⟩ : S33)]) x4_1 (wrap64 (x5_2 + 1))) else (none)) = some r:=by rw [if_pos rfl] at H;exact H
         clear H
         have H:=H1
         clear H1
         by_cases c9 : x3_2.length < 8796093022208
         ·rw [if_pos c9] at H
          have LMc9:=Aside0.mk c9
          clear c9
          obtain ⟨y182,hy182⟩ : ∃ y_ : List (S33),y_ = (x3_2 ++ [(⟨x4_1,x5_2⟩ : S33)]):=⟨_,rfl⟩
          replace H : (humusref26_Edges.j2 k2 l0 y182 x4_1 (wrap64 (x5_2 + 1))) = some r:=by first | (rw [hy182];with_reducible exact H) | (have H2_:=(Option.bind_some _ _).symm.trans H;rw [hy182];with_reducible exact H2_) | (have H2_:=(Option.bind_some _ _).symm.trans H;with_reducible exact H2_) | with_reducible exact H | (rw [hy182];exact H) | exact H
          have Ny182:=Aside0.mk hy182
          clear hy182
          have HC10:=Aside0.mk H
          clear H
          go_upto_region 7 with (first | (go_at_call 53;(with_reducible refine (humusref26_Ahead.calls k2 _ _ l0 x4_1 x5_2 true _ ?side1 ?side2 A7.out).mono ?_);(case side1 => repeat (first | exact (Kd.C_below HR0.out HB.out) | (with_reducible refine Kd.C_alloc ?_ _) | (with_reducible refine Kd.C_drewN ?_ _) | (with_reducible refine Kd.C_drew ?_)));(case side2 => exact HC0.out);rintro e w11 ⟨rfl,hb⟩;have n0_:=Aside0.mk (Kd.R_below (by (with_reducible repeat (first | apply Kd.R_alloc | apply Kd.R_drewN | apply Kd.R_drew));exact HO_3.out) hb);have n1_:=Aside0.mk (below_step (by repeat (first | (with_reducible first | exact HB.out | apply below_alloc | apply pw_below_drewN | apply below_drew1) | exact HB.out)) hb);clear HO_3;clear HB;have HO_3:=n0_;have HB:=n1_;clear n0_ n1_;(try clear hb);(try clear hb2);(try clear hk);(try clear hi)) | ((with_reducible refine gate_builtin (b:=.append) (xs:=#[.tmp 28,.tmp 32]) rfl ?_);at_builtin;refine Kd.R_append k33 (w0:=w) w.heap.size rfl (.tmp 28) (.tmp 32) 22 33 (.agg #[(.int .i64 0),(.int .i64 0)]) 16 rfl Try.underlying22 info33 rfl (by decide) (by omega) u3 x3_2 (⟨x4_1,x5_2⟩ : S33) [.int .i64 x4_1,.int .i64 x5_2] (fun _ => True) (fun _ => False) rfl rfl ?aP (fun _ hk => hk.elim) ?aF ?aO ?aB ?aS ?aL ?_;(case aP => exact k33_mkM _ _ _ (⟨x4_1,x5_2⟩ : S33));(case aB => exact (by repeat (first | (with_reducible first | exact HB.out | apply below_alloc | apply pw_below_drewN | apply below_drew1) | exact HB.out)));(case aF => exact (fun _ _ => trivial));(case aO => exact (by (with_reducible repeat (first | apply Kd.R_alloc | apply Kd.R_drewN | apply Kd.R_drew));exact HO_3.out));(case aS => exact (below_size (by repeat (first | (with_reducible first | exact HB.out | apply below_alloc | apply pw_below_drewN | apply below_drew1) | exact HB.out))));(case aL => have:=LMc9.out;omega);intro v183 w12 ho hb hg hat;rw [← Ny182.out] at ho;have n0_:=Aside0.mk (hb);have n1_:=Aside0.mk (ho);clear HB;clear HO_3;have HB:=n0_;have HO184:=n1_;clear n0_ n1_;clear ho hb hg hat))
          (try simp only [Act.put,List.setIfInBounds_toArray,List.set_cons_zero,List.set_cons_succ])
          go_cut [5] (fun v5 wc => ∃ (kq : Nat) (x5_9 : Int),v5 = .int .i64 x5_9 ∧ Aside0 (humusref26_Edges.j2 kq l0 y182 x4_1 x5_9 = some r) ∧ Aside0 (kq ≤ k2) ∧ Aside0 (Kd.R k33 33 wc w.heap.size (fun _ => True) v183 y182) ∧ Aside0 (Below w.heap.size w wc))
          case first =>
           have H:=HC10.out
           clear HC10
           have H':=Aside0.mk H
           clear H
           go_wp2
           go_meet
           case rel => exact ⟨_,(wrap64 (x5_2 + 1)),(by first | rfl | (simp;done) | (simp [*];done)),H',⟨by have:=HK1.out;have:=HK2.out;first | omega | exact Nat.le_refl _⟩,⟨by (with_reducible repeat (first | apply Kd.R_alloc | apply Kd.R_drewN | apply Kd.R_drew));exact HO184.out⟩,⟨by repeat (first | (with_reducible first | exact HB.out | apply below_alloc | apply pw_below_drewN | apply below_drew1) | exact HB.out)⟩⟩
          case rest =>
           clear HC10
           try clear c2
           try clear p2
           try clear c4
           try clear c4b0
           try clear c5
           try clear c5b0
           try clear c6
           try clear c6b0
           try clear c6b1
           try clear p6
           try clear c8
           try clear c9
           try clear p2
           obtain ⟨kq,x5_9,rfl,HA,HJ9,HO_3,HB⟩:=hcut
           cases kq with
           | zero => exact absurd HA.out (by simp [humusref26_Edges.j2])
           | succ kj9 =>
            have H:=HA.out
            clear HA
            simp only [humusref26_Edges.j2] at H
            have H':=Aside0.mk H
            clear H
            go_wp2
            go_roundg kj9
            case measure => have:=HK1.out;have:=HK2.out;have:=HJ9.out;omega
            case rel => exact ⟨(y182),(x5_9),(by first | rfl | (simp;done) | (simp [*];done)),H',⟨by have:=HK1.out;have:=HK2.out;have:=HJ9.out;omega⟩,⟨by (with_reducible repeat (first | apply Kd.R_alloc | apply Kd.R_drewN | apply Kd.R_drew));exact HO_3.out⟩,⟨by repeat (first | (with_reducible first | exact HB.out | apply below_alloc | apply pw_below_drewN | apply below_drew1) | exact HB.out)⟩⟩
         ·rw [if_neg c9] at H
          exact absurd H (by simp)
        ·replace c8:=Bool.eq_false_iff.mpr c8
         subst c8
         have H1 : (humusref26_Edges.l1 k2 l0 x3_2 x4_1 (wrap64 (x5_2 + 1))) = some r:=by rw [if_neg (show ¬ (false = true) by decide)] at H;exact H
         clear H
         have H:=H1
         clear H1
         have H':=Aside0.mk H
         clear H
         go_wp2_with (first | (go_at_call 53;(with_reducible refine (humusref26_Ahead.calls k2 _ _ l0 x4_1 x5_2 false _ ?side1 ?side2 A7.out).mono ?_);(case side1 => repeat (first | exact (Kd.C_below HR0.out HB.out) | (with_reducible refine Kd.C_alloc ?_ _) | (with_reducible refine Kd.C_drewN ?_ _) | (with_reducible refine Kd.C_drew ?_)));(case side2 => exact HC0.out);rintro e w13 ⟨rfl,hb⟩;have n0_:=Aside0.mk (Kd.R_below (by (with_reducible repeat (first | apply Kd.R_alloc | apply Kd.R_drewN | apply Kd.R_drew));exact HO_3.out) hb);have n1_:=Aside0.mk (below_step (by repeat (first | (with_reducible first | exact HB.out | apply below_alloc | apply pw_below_drewN | apply below_drew1) | exact HB.out)) hb);clear HO_3;clear HB;have HO_3:=n0_;have HB:=n1_;clear n0_ n1_;(try clear hb);(try clear hb2);(try clear hk);(try clear hi)))
         go_roundg k2
         case measure => have:=HK1.out;have:=HK2.out;omega
         case rel => exact ⟨(x3_2),(wrap64 (x5_2 + 1)),(by first | rfl | (simp;done) | (simp [*];done)),H',⟨by have:=HK1.out;have:=HK2.out;omega⟩,⟨by (with_reducible repeat (first | apply Kd.R_alloc | apply Kd.R_drewN | apply Kd.R_drew));exact HO_3.out⟩,⟨by repeat (first | (with_reducible first | exact HB.out | apply below_alloc | apply pw_below_drewN | apply below_drew1) | exact HB.out)⟩⟩
      ·rw [if_neg c5] at H
       have c5b0 : decide (x5_2 < (l0.length : Int)) = false:=decide_eq_false c5
       clear c5
       have H':=Aside0.mk H
       clear H
       go_wp2
       go_roundg k2
       case measure => have:=HK1.out;have:=HK2.out;omega
       case rel => exact ⟨(x3_2),(wrap64 (x4_1 + 1)),(by first | rfl | (simp;done) | (simp [*];done)),H',⟨by have:=HK1.out;have:=HK2.out;omega⟩,⟨by (with_reducible repeat (first | apply Kd.R_alloc | apply Kd.R_drewN | apply Kd.R_drew));exact HO_3.out⟩,⟨by repeat (first | (with_reducible first | exact HB.out | apply below_alloc | apply pw_below_drewN | apply below_drew1) | exact HB.out)⟩⟩
   ·rw [if_neg c4] at H
    have c4b0 : decide (x4_1 < (l0.length : Int)) = false:=decide_eq_false c4
    clear c4
    obtain rfl:=Option.some.inj H
    go_wp2
    go_ret
    exact ⟨_,by first | rfl | (simp [errW_none,errW_some] <;> rfl) | (simp [*,errW_none,errW_some] <;> rfl),by (with_reducible repeat (first | apply Kd.R_alloc | apply Kd.R_drewN | apply Kd.R_drew));exact HO_3.out,by repeat (first | (with_reducible first | exact HB.out | apply below_alloc | apply pw_below_drewN | apply below_drew1) | exact HB.out)⟩
end Go.Proofs.Ytbmcbhpkefjhbaa.P
namespace Go.Proofs.Ytbmcbhpkefjhbaa.P
open Go.RowKit Go.Proofs.YtbmcbhpkefjhbaaW.PrintWords Go.Proofs.YtbmcbhpkefjhbaaW.PrintLast Go.Proofs.YtbmcbhpkefjhbaaW.PrintMore
attribute [local go_sem] max2_int min2_int max_two min_two max_three min_three max_four min_four   -- for this text's walks alone
attribute [local go_sem] run_store_float
set_option linter.unusedVariables false
set_option linter.unusedSimpArgs false
def dsg_places.l0 : Nat → List Int → Int → List (S43) → Int → Int → Option (List Int)
 | 0,_,_,_,_,_ => none
 | k + 1,x3,x4,x7,x8,x9 => if x9 < x8 then (if 0 ≤ x9 then (if x9 < (x7.length : Int) then (if (((rd_T43 x7 x9).f3).length : Int) = 0 then (if x3.length < 17592186044416 then (dsg_places.l0 k (x3 ++ [(-1)]) x4 x7 x8 (wrap64 (x9 + 1))) else (none)) else (if x3.length < 17592186044416 then (dsg_places.l0 k (x3 ++ [x4]) (wrap64 (x4 + 1)) x7 x8 (wrap64 (x9 + 1))) else (none))) else (none)) else (none)) else (some x3)
def dsg_places.f (k : Nat) (l0 : List (S43)) : Option (List Int):=dsg_places.l0 k ([] : List Int) 0 l0 (l0.length : Int) 0
set_option maxHeartbeats 8000000 in
set_option maxRecDepth 100000 in
theorem dsg_places.calls (k : Nat) (A0 : Option Addr) (c0 : Nat) (l0 : List (S43)) (r : List Int) (w : World) (hr0 : Kd.C k43 w A0 l0.length l0) (hc0 : l0.length ≤ c0) (h : dsg_places.f k l0 = some r) :
  Calls Try.prog 51 #[.slice A0 l0.length c0] w fun e w' => ∃ v0_ : Value,e = .returned (v0_) ∧ Kd.R (Kd.int .i64) 3 w' w.heap.size (fun _ => True) v0_ r ∧ Below w.heap.size w w':=by
 have hu43:=Try.underlying43
 have HR0:=Aside0.mk hr0
 have HC0:=Aside0.mk hc0
 clear hr0 hc0
 have HB:=Aside0.mk (Below.refl w.heap.size w)
 have H : (dsg_places.l0 k ([] : List Int) 0 l0 (l0.length : Int) 0) = some r:=h
 clear h
 have H':=Aside0.mk H
 clear H
 go_enter Try.func51,Try.ntmps51
 go_wp2
 go_loopg [3,4,9] k (fun kq v3 v4 v9 w' => ∃ (x3_1 : List Int) (x4_1 : Int) (x9_1 : Int),v4 = .int .i64 x4_1 ∧ v9 = .int .i64 x9_1 ∧ Aside0 (dsg_places.l0 kq x3_1 x4_1 l0 (l0.length : Int) x9_1 = some r) ∧ Aside0 (kq ≤ k) ∧ Aside0 (Kd.R (Kd.int .i64) 3 w' w.heap.size (fun _ => True) v3 x3_1) ∧ Aside0 (Below w.heap.size w w'))
 case atStart => exact ⟨(([] : List Int)),(0),(0),(by first | rfl | (simp;done) | (simp [*];done)),(by first | rfl | (simp;done) | (simp [*];done)),H',⟨Nat.le_refl _⟩,⟨by first | exact Kd.R_nil _ _ _ _ _ | exact Kd.N_nil _ _ _ _ _ | exact Kd.V_nil _ _ _ _ _ | exact Kd.Q_nil _ _ _ _ _ | exact Kd.S_nil _ _ _ _ _⟩,⟨by repeat (first | (with_reducible first | exact HB.out | apply below_alloc | apply pw_below_drewN | apply below_drew1) | exact HB.out)⟩⟩
 case round =>
  clear H'
  obtain ⟨x3_1,x4_1,x9_1,rfl,rfl,HA,HK1,HO_3,HB⟩:=hrel
  cases gk with
  | zero => exact absurd HA.out (by simp [dsg_places.l0])
  | succ k1 =>
   have H:=HA.out
   clear HA
   simp only [dsg_places.l0] at H
   by_cases c2 : x9_1 < (l0.length : Int)
   ·rw [if_pos c2] at H
    have c2b0 : decide (x9_1 < (l0.length : Int)) = true:=decide_eq_true c2
    clear c2
    by_cases c3 : 0 ≤ x9_1
    ·rw [if_pos c3] at H
     have c3b0 : decide (0 ≤ x9_1) = true:=decide_eq_true c3
     clear c3
     by_cases c4 : x9_1 < (l0.length : Int)
     ·rw [if_pos c4] at H
      have c4b0 : decide (x9_1 < (l0.length : Int)) = true:=decide_eq_true c4
      clear c4
      by_cases c5 : (((rd_T43 l0 x9_1).f3).length : Int) = 0
      ·rw [if_pos c5] at H
       have c5b0 : ((((rd_T43 l0 x9_1).f3).length : Int) == 0) = true:=beq_iff_eq.mpr c5
       have c5b1 : ((((rd_T43 l0 x9_1).f3).length : Int) != 0) = false:=bne_eq_false_iff_eq.mpr c5
       clear c5
       by_cases c6 : x3_1.length < 17592186044416
       ·rw [if_pos c6] at H
        have LMc6:=Aside0.mk c6
        clear c6
        obtain ⟨y145,hy145⟩ : ∃ y_ : List Int,y_ = (x3_1 ++ [(-1)]):=⟨_,rfl⟩
        replace H : (dsg_places.l0 k1 y145 x4_1 l0 (l0.length : Int) (wrap64 (x9_1 + 1))) = some r:=by first | (rw [hy145];with_reducible exact H) | (have H2_:=(Option.bind_some _ _).symm.trans H;rw [hy145];with_reducible exact H2_) | (have H2_:=(Option.bind_some _ _).symm.trans H;with_reducible exact H2_) | with_reducible exact H | (rw [hy145];exact H) | exact H
        have Ny145:=Aside0.mk hy145
        clear hy145
        have H':=Aside0.mk H
        clear H
        have p143 : 0 ≤ (x9_1 : Int):=of_decide_eq_true (by first | (with_reducible assumption) | assumption)
        have q143 : x9_1 < (l0.length : Int):=of_decide_eq_true (by first | (with_reducible assumption) | assumption)
        obtain ⟨ad143,A143_2,c143_2,A143_3,c143_3,A143_4,c143_4,e143,hx143_0,hx143_1,hx143_2,hx143_3,hx143_4,hl143_2,hi143_2,hl143_3,hi143_3,hl143_4,hi143_4⟩:=at_T43 HR0.out x9_1 p143 q143
        cases e143
        replace hx143_0:=(HB.out.cell (World.block_lt_of_cell? w _ hx143_0)).trans hx143_0
        replace hx143_1:=(HB.out.cell (World.block_lt_of_cell? w _ hx143_1)).trans hx143_1
        replace hx143_2:=(HB.out.cell (World.block_lt_of_cell? w _ hx143_2)).trans hx143_2
        replace hx143_3:=(HB.out.cell (World.block_lt_of_cell? w _ hx143_3)).trans hx143_3
        replace hx143_4:=(HB.out.cell (World.block_lt_of_cell? w _ hx143_4)).trans hx143_4
        have HR143_2:=Aside0.mk hi143_2
        have HC143_2:=Aside0.mk hl143_2
        clear hi143_2 hl143_2
        have HR143_3:=Aside0.mk hi143_3
        have HC143_3:=Aside0.mk hl143_3
        clear hi143_3 hl143_3
        have HR143_4:=Aside0.mk hi143_4
        have HC143_4:=Aside0.mk hl143_4
        clear hi143_4 hl143_4
        replace p143:=eq_true p143
        replace q143:=eq_true q143
        go_wp2_with (first | ((with_reducible refine gate_dst (N:=6) rfl ?_);refine box_event ?hg (N:=6) ?hd (cs:=#[.int .i64 0,.int .i64 0,.slice none 0 0,.slice none 0 0,.slice none 0 0]) (t:=43) ?hr ?_;(case hd => rfl);(case hg => rfl);(case hr => first | (go_simp;done) | (go_simp;rfl));intro gb144 hg w7 hbox hb;have n0_:=Aside0.mk (Kd.R_below (by (with_reducible repeat (first | apply Kd.R_alloc | apply Kd.R_drewN | apply Kd.R_drew));exact HO_3.out) hb);have n1_:=Aside0.mk (below_step (by repeat (first | (with_reducible first | exact HB.out | apply below_alloc | apply pw_below_drewN | apply below_drew1) | exact HB.out)) hb);have n2_:=Aside0.mk (hbox);have n3_:=Aside0.mk ((by rw [hg];exact (below_size (by repeat (first | (with_reducible first | exact HB.out | apply below_alloc | apply pw_below_drewN | apply below_drew1) | exact HB.out))) : w.heap.size ≤ gb144));have n4_:=Aside0.mk ((by rw [hg];exact (below_size (by repeat (first | (with_reducible first | exact HB.out | apply below_alloc | apply pw_below_drewN | apply below_drew1) | exact HB.out))) : w.heap.size ≤ gb144));clear HO_3;clear HB;have HO_3:=n0_;have HB:=n1_;have BK144:=n2_;have GW144:=n3_;have GE144:=n4_;clear n0_ n1_ n2_ n3_ n4_;clear hb hbox hg;obtain ⟨hcz8_0,hcz8_1,hcz8_2,hcz8_3,hcz8_4⟩:=blkc_5 BK144.out;obtain ⟨hfz8_0,hfz8_1,hfz8_2,hfz8_3⟩:=blkz_4 BK144.out;have hfz8_4:=blk_frozen BK144.out 4) | ((with_reducible refine gate_builtin (b:=.append) (xs:=#[.tmp 17,.tmp 18]) rfl ?_);at_builtin;refine Kd.R_append (Kd.int .i64) (w0:=w) w.heap.size rfl (.tmp 17) (.tmp 18) 24 3 (.int .i64 0) 8 rfl Try.underlying24 info3 rfl (by decide) (by omega) u3 x3_1 (-1) [.int .i64 (-1)] (fun _ => True) (fun _ => False) rfl (by first | (go_simp;done) | (go_simp;rfl)) ?aP (fun _ hk => hk.elim) ?aF ?aO ?aB ?aS ?aL ?_;(case aP => exact rfl);(case aB => exact (by repeat (first | (with_reducible first | exact HB.out | apply below_alloc | apply pw_below_drewN | apply below_drew1 | refine below_set ?_ GE144.out) | exact HB.out)));(case aF => exact (fun _ _ => trivial));(case aO => exact (by (with_reducible repeat (first | apply Kd.R_alloc | apply Kd.R_drewN | apply Kd.R_drew));exact Kd.R_mono (Kd.R_far (p:=⟨gb144,4,none⟩) (Kd.R_far (p:=⟨gb144,3,none⟩) (Kd.R_far (p:=⟨gb144,2,none⟩) (Kd.R_far (p:=⟨gb144,1,none⟩) (Kd.R_far (p:=⟨gb144,0,none⟩) (Kd.R_types HO_3.out BK144.out (by decide)) (fun _ hk => hk.2) (.int .i64 ((rd_T43 l0 x9_1).f0))) (fun _ hk => hk.2) (.int .i64 ((rd_T43 l0 x9_1).f1))) (fun _ hk => hk.2) (.slice A143_2 ((rd_T43 l0 x9_1).f2).length c143_2)) (fun _ hk => hk.2) (.slice A143_3 ((rd_T43 l0 x9_1).f3).length c143_3)) (fun _ hk => hk.2) (.slice A143_4 ((rd_T43 l0 x9_1).f4).length c143_4)) (fun _ hk => trivial)));(case aS => exact (below_size (by repeat (first | (with_reducible first | exact HB.out | apply below_alloc | apply pw_below_drewN | apply below_drew1 | refine below_set ?_ GE144.out) | exact HB.out))));(case aL => have:=LMc6.out;omega);intro v146 w9 ho hb hg hat;rw [← Ny145.out] at ho;have n0_:=Aside0.mk (blk_grown (g:=gb144) (o:=.cells #[.int .i64 ((rd_T43 l0 x9_1).f0),.int .i64 ((rd_T43 l0 x9_1).f1),.slice A143_2 ((rd_T43 l0 x9_1).f2).length c143_2,.slice A143_3 ((rd_T43 l0 x9_1).f3).length c143_3,.slice A143_4 ((rd_T43 l0 x9_1).f4).length c143_4] 43 (0,0)) (by (with_reducible repeat (first | refine blk_drewN ?_ _ | refine blk_drew ?_ | refine blk_alloc ?_ _));apply blkf_5_0_4;(with_reducible repeat (first | refine blk_drewN ?_ _ | refine blk_drew ?_ | refine blk_alloc ?_ _));exact BK144.out) hg (Kd.R_ne HO_3.out BK144.out (by decide)));have n1_:=Aside0.mk (hb);have n2_:=Aside0.mk (ho);clear BK144;clear HB;clear HO_3;have BK144:=n0_;have HB:=n1_;have HO147:=n2_;clear n0_ n1_ n2_;clear ho hb hg hat))
        go_roundg k1
        case measure => have:=HK1.out;omega
        case rel => exact ⟨(y145),(x4_1),(wrap64 (x9_1 + 1)),(by first | rfl | (simp;done) | (simp [*];done)),(by first | rfl | (simp;done) | (simp [*];done)),H',⟨by have:=HK1.out;omega⟩,⟨by (with_reducible repeat (first | apply Kd.R_alloc | apply Kd.R_drewN | apply Kd.R_drew));exact HO147.out⟩,⟨by repeat (first | (with_reducible first | exact HB.out | apply below_alloc | apply pw_below_drewN | apply below_drew1 | refine below_set ?_ GE144.out) | exact HB.out)⟩⟩
       ·rw [if_neg c6] at H
        exact absurd H (by simp)
      ·rw [if_neg c5] at H
       have c5b0 : ((((rd_T43 l0 x9_1).f3).length : Int) == 0) = false:=beq_eq_false_iff_ne.mpr c5
       have c5b1 : ((((rd_T43 l0 x9_1).f3).length : Int) != 0) = true:=bne_iff_ne.mpr c5
       have c5b2 : ¬ (((rd_T43 l0 x9_1).f3) = []):=fun h_ => c5 (by rw [h_];rfl)
       by_cases c10 : x3_1.length < 17592186044416
       ·rw [if_pos c10] at H
        have LMc10:=Aside0.mk c10
        clear c10
        obtain ⟨y148,hy148⟩ : ∃ y_ : List Int,y_ = (x3_1 ++ [x4_1]):=⟨_,rfl⟩
        replace H : (dsg_places.l0 k1 y148 (wrap64 (x4_1 + 1)) l0 (l0.length : Int) (wrap64 (x9_1 + 1))) = some r:=by first | (rw [hy148];with_reducible exact H) | (have H2_:=(Option.bind_some _ _).symm.trans H;rw [hy148];with_reducible exact H2_) | (have H2_:=(Option.bind_some _ _).symm.trans H;with_reducible exact H2_) | with_reducible exact H | (rw [hy148];exact H) | exact H
        have Ny148:=Aside0.mk hy148
        clear hy148
        have H':=Aside0.mk H
        clear H
        have p143 : 0 ≤ (x9_1 : Int):=of_decide_eq_true (by first | (with_reducible assumption) | assumption)
        have q143 : x9_1 < (l0.length : Int):=of_decide_eq_true (by first | (with_reducible assumption) | assumption)
        obtain ⟨ad143,A143_2,c143_2,A143_3,c143_3,A143_4,c143_4,e143,hx143_0,hx143_1,hx143_2,hx143_3,hx143_4,hl143_2,hi143_2,hl143_3,hi143_3,hl143_4,hi143_4⟩:=at_T43 HR0.out x9_1 p143 q143
        cases e143
        replace hx143_0:=(HB.out.cell (World.block_lt_of_cell? w _ hx143_0)).trans hx143_0
        replace hx143_1:=(HB.out.cell (World.block_lt_of_cell? w _ hx143_1)).trans hx143_1
        replace hx143_2:=(HB.out.cell (World.block_lt_of_cell? w _ hx143_2)).trans hx143_2
        replace hx143_3:=(HB.out.cell (World.block_lt_of_cell? w _ hx143_3)).trans hx143_3
        replace hx143_4:=(HB.out.cell (World.block_lt_of_cell? w _ hx143_4)).trans hx143_4
        have HR143_2:=Aside0.mk hi143_2
        have HC143_2:=Aside0.mk hl143_2
        clear hi143_2 hl143_2
        have HR143_3:=Aside0.mk hi143_3
        have HC143_3:=Aside0.mk hl143_3
        clear hi143_3 hl143_3
        have HR143_4:=Aside0.mk hi143_4
        have HC143_4:=Aside0.mk hl143_4
        clear hi143_4 hl143_4
        replace p143:=eq_true p143
        replace q143:=eq_true q143
        go_wp2_with (first | ((with_reducible refine gate_dst (N:=6) rfl ?_);refine box_event ?hg (N:=6) ?hd (cs:=#[.int .i64 0,.int .i64 0,.slice none 0 0,.slice none 0 0,.slice none 0 0]) (t:=43) ?hr ?_;(case hd => rfl);(case hg => rfl);(case hr => first | (go_simp;done) | (go_simp;rfl));intro gb144 hg w11 hbox hb;have n0_:=Aside0.mk (Kd.R_below (by (with_reducible repeat (first | apply Kd.R_alloc | apply Kd.R_drewN | apply Kd.R_drew));exact HO_3.out) hb);have n1_:=Aside0.mk (below_step (by repeat (first | (with_reducible first | exact HB.out | apply below_alloc | apply pw_below_drewN | apply below_drew1) | exact HB.out)) hb);have n2_:=Aside0.mk (hbox);have n3_:=Aside0.mk ((by rw [hg];exact (below_size (by repeat (first | (with_reducible first | exact HB.out | apply below_alloc | apply pw_below_drewN | apply below_drew1) | exact HB.out))) : w.heap.size ≤ gb144));have n4_:=Aside0.mk ((by rw [hg];exact (below_size (by repeat (first | (with_reducible first | exact HB.out | apply below_alloc | apply pw_below_drewN | apply below_drew1) | exact HB.out))) : w.heap.size ≤ gb144));clear HO_3;clear HB;have HO_3:=n0_;have HB:=n1_;have BK144:=n2_;have GW144:=n3_;have GE144:=n4_;clear n0_ n1_ n2_ n3_ n4_;clear hb hbox hg;obtain ⟨hcz12_0,hcz12_1,hcz12_2,hcz12_3,hcz12_4⟩:=blkc_5 BK144.out;obtain ⟨hfz12_0,hfz12_1,hfz12_2,hfz12_3⟩:=blkz_4 BK144.out;have hfz12_4:=blk_frozen BK144.out 4) | ((with_reducible refine gate_builtin (b:=.append) (xs:=#[.tmp 20,.tmp 22]) rfl ?_);at_builtin;refine Kd.R_append (Kd.int .i64) (w0:=w) w.heap.size rfl (.tmp 20) (.tmp 22) 24 3 (.int .i64 0) 8 rfl Try.underlying24 info3 rfl (by decide) (by omega) u3 x3_1 x4_1 [.int .i64 x4_1] (fun _ => True) (fun _ => False) rfl (by first | (go_simp;done) | (go_simp;rfl)) ?aP (fun _ hk => hk.elim) ?aF ?aO ?aB ?aS ?aL ?_;(case aP => exact rfl);(case aB => exact (by repeat (first | (with_reducible first | exact HB.out | apply below_alloc | apply pw_below_drewN | apply below_drew1 | refine below_set ?_ GE144.out) | exact HB.out)));(case aF => exact (fun _ _ => trivial));(case aO => exact (by (with_reducible repeat (first | apply Kd.R_alloc | apply Kd.R_drewN | apply Kd.R_drew));exact Kd.R_mono (Kd.R_far (p:=⟨gb144,4,none⟩) (Kd.R_far (p:=⟨gb144,3,none⟩) (Kd.R_far (p:=⟨gb144,2,none⟩) (Kd.R_far (p:=⟨gb144,1,none⟩) (Kd.R_far (p:=⟨gb144,0,none⟩) (Kd.R_types HO_3.out BK144.out (by decide)) (fun _ hk => hk.2) (.int .i64 ((rd_T43 l0 x9_1).f0))) (fun _ hk => hk.2) (.int .i64 ((rd_T43 l0 x9_1).f1))) (fun _ hk => hk.2) (.slice A143_2 ((rd_T43 l0 x9_1).f2).length c143_2)) (fun _ hk => hk.2) (.slice A143_3 ((rd_T43 l0 x9_1).f3).length c143_3)) (fun _ hk => hk.2) (.slice A143_4 ((rd_T43 l0 x9_1).f4).length c143_4)) (fun _ hk => trivial)));(case aS => exact (below_size (by repeat (first | (with_reducible first | exact HB.out | apply below_alloc | apply pw_below_drewN | apply below_drew1 | refine below_set ?_ GE144.out) | exact HB.out))));(case aL => have:=LMc10.out;omega);intro v149 w13 ho hb hg hat;rw [← Ny148.out] at ho;have n0_:=Aside0.mk (blk_grown (g:=gb144) (o:=.cells #[.int .i64 ((rd_T43 l0 x9_1).f0),.int .i64 ((rd_T43 l0 x9_1).f1),.slice A143_2 ((rd_T43 l0 x9_1).f2).length c143_2,.slice A143_3 ((rd_T43 l0 x9_1).f3).length c143_3,.slice A143_4 ((rd_T43 l0 x9_1).f4).length c143_4] 43 (0,0)) (by (with_reducible repeat (first | refine blk_drewN ?_ _ | refine blk_drew ?_ | refine blk_alloc ?_ _));apply blkf_5_0_4;(with_reducible repeat (first | refine blk_drewN ?_ _ | refine blk_drew ?_ | refine blk_alloc ?_ _));exact BK144.out) hg (Kd.R_ne HO_3.out BK144.out (by decide)));have n1_:=Aside0.mk (hb);have n2_:=Aside0.mk (ho);clear BK144;clear HB;clear HO_3;have BK144:=n0_;have HB:=n1_;have HO150:=n2_;clear n0_ n1_ n2_;clear ho hb hg hat))
        go_roundg k1
        case measure => have:=HK1.out;omega
        case rel => exact ⟨(y148),(wrap64 (x4_1 + 1)),(wrap64 (x9_1 + 1)),(by first | rfl | (simp;done) | (simp [*];done)),(by first | rfl | (simp;done) | (simp [*];done)),H',⟨by have:=HK1.out;omega⟩,⟨by (with_reducible repeat (first | apply Kd.R_alloc | apply Kd.R_drewN | apply Kd.R_drew));exact HO150.out⟩,⟨by repeat (first | (with_reducible first | exact HB.out | apply below_alloc | apply pw_below_drewN | apply below_drew1 | refine below_set ?_ GE144.out) | exact HB.out)⟩⟩
       ·rw [if_neg c10] at H
        exact absurd H (by simp)
     ·rw [if_neg c4] at H
      exact absurd H (by simp)
    ·rw [if_neg c3] at H
     exact absurd H (by simp)
   ·rw [if_neg c2] at H
    have c2b0 : decide (x9_1 < (l0.length : Int)) = false:=decide_eq_false c2
    clear c2
    obtain rfl:=Option.some.inj H
    go_wp2
    go_ret
    exact ⟨_,by first | rfl | (simp [errW_none,errW_some] <;> rfl) | (simp [*,errW_none,errW_some] <;> rfl),by (with_reducible repeat (first | apply Kd.R_alloc | apply Kd.R_drewN | apply Kd.R_drew));exact HO_3.out,by repeat (first | (with_reducible first | exact HB.out | apply below_alloc | apply pw_below_drewN | apply below_drew1) | exact HB.out)⟩
end Go.Proofs.Ytbmcbhpkefjhbaa.P
