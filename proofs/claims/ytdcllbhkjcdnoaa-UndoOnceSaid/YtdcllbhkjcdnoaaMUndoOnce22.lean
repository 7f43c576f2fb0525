/- Put together by wip/prune.py out of this claim's texts. -/
import Derived.Test.YtdcllbhkjcdnoaaMUndoOnce5
import Derived.Test.YtdcllbhkjcdnoaaMUndoOnce18
import Derived.Test.YtdcllbhkjcdnoaaMUndoOnce19
import Derived.Test.YtdcllbhkjcdnoaaMUndoOnce20
import Derived.Test.YtdcllbhkjcdnoaaMUndoOnce21
namespace Go.Proofs.Ytdcllbhkjcdnoaa.P
open Go.RowKit Go.Proofs.YtdcllbhkjcdnoaaW.PrintWords Go.Proofs.YtdcllbhkjcdnoaaW.PrintLast Go.Proofs.YtdcllbhkjcdnoaaW.PrintMore
attribute [local go_sem] max2_int min2_int max_two min_two max_three min_three max_four min_four   -- for this text's walks alone
attribute [local go_sem] run_store_float
set_option linter.unusedVariables false
set_option linter.unusedSimpArgs false
theorem fldU_1 (c0 c1 c2 c3 c4 c5 c6 c7 c8 c9 c10 c11 : Value) (w' : World) : Sem.run Try.prog (Instr.field 32 (Value.agg #[c0,c1,c2,c3,c4,c5,c6,c7,c8,c9,c10,c11]) 1) w' = Result.ok c1 w':=by kernel_rfl
attribute [local go_sem] fldU_1
mutual
def humuslaw14_UndoOnce.l0 : Nat → List (S32) → List Int → List (S32) → List (S28) → Int → Option (Bool)
 | 0,_,_,_,_,_ => none
 | k + 1,x0,x1,x5,x6,x7 => if x7 < (x0.length : Int) then (humuslaw14_UndoOnce.j1 k x0 x1 x5 x6 x7 (decide (x7 < 40))) else (humuslaw14_UndoOnce.j1 k x0 x1 x5 x6 x7 false)
def humuslaw14_UndoOnce.j1 : Nat → List (S32) → List Int → List (S32) → List (S28) → Int → Bool → Option (Bool)
 | 0,_,_,_,_,_,_ => none
 | k + 1,x0,x1,x5,x6,x7,x26 => if x26 = true then (if 0 ≤ x7 then (if x7 < (x0.length : Int) then (if (((rd_T32 x0 x7).f6.f2).length : Int) > 20 then (humuslaw14_UndoOnce.j2 k x0 x1 x5 x6 (wrap64 (x7 + 1))) else ((undo_Put.f k x5 ((rd_T32 x0 x7).f0) (wrap64 (x7 + 1)) ((rd_T32 x0 x7).f2) ((rd_T32 x0 x7).f3) ((rd_T32 x0 x7).f4) ((rd_T32 x0 x7).f5) ((rd_T32 x0 x7).f6.f0) ((rd_T32 x0 x7).f6.f1) ((rd_T32 x0 x7).f6.f2) ((rd_T32 x0 x7).f6.f3) ((rd_T32 x0 x7).f6.f4.f0) ((rd_T32 x0 x7).f6.f4.f1)).bind fun bt844 => (humuslaw14_UndoOnce.j3 k x0 x1 x5 x6 x7 bt844.1 bt844.2.1 (bt844.2.2 == 0) ((rd_T32 x0 x7).f0) (wrap64 (x7 + 1)) ((rd_T32 x0 x7).f2) ((rd_T32 x0 x7).f3) ((rd_T32 x0 x7).f4) ((rd_T32 x0 x7).f5) ((rd_T32 x0 x7).f6.f0) ((rd_T32 x0 x7).f6.f1) ((rd_T32 x0 x7).f6.f2) ((rd_T32 x0 x7).f6.f3) ((rd_T32 x0 x7).f6.f4.f0) ((rd_T32 x0 x7).f6.f4.f1)))) else (none)) else (none)) else ((humuslaw14_awake.f k).bind fun t840 => (some t840))
def humuslaw14_UndoOnce.j2 : Nat → List (S32) → List Int → List (S32) → List (S28) → Int → Option (Bool)
 | 0,_,_,_,_,_ => none
 | k + 1,x0,x1,x5,x6,x7 => humuslaw14_UndoOnce.l0 k x0 x1 x5 x6 x7
def humuslaw14_UndoOnce.j3 : Nat → List (S32) → List Int → List (S32) → List (S28) → Int → List (S32) → Int → Bool → Int → Int → Int → Int → Int → Int → Nat → Bool → List Nat → Int → Int → Int → Option (Bool)
 | 0,_,_,_,_,_,_,_,_,_,_,_,_,_,_,_,_,_,_,_,_ => none
 | k + 1,x0,x1,x5,x6,x7,x9,x10,x52,x844000,x844001,x844002,x844003,x844004,x844005,x844006,x844007,x844008,x844009,x844010,x844011 => if x52 = true then (if x6.length < 8796093022208 then (humuslaw14_UndoOnce.j4 k x0 x1 x9 (x6 ++ [(⟨x10,x844001⟩ : S28)]) x7) else (none)) else (humuslaw14_UndoOnce.j4 k x0 x1 x5 x6 x7)
def humuslaw14_UndoOnce.j4 : Nat → List (S32) → List Int → List (S32) → List (S28) → Int → Option (Bool)
 | 0,_,_,_,_,_ => none
 | k + 1,x0,x1,x5,x6,x7 => if x7 < (x1.length : Int) then (if 0 ≤ x7 then (humuslaw14_UndoOnce.j5 k x0 x1 x5 x6 x7 ((Int.tmod (rd x1 x7) 2) == 0)) else (none)) else (humuslaw14_UndoOnce.j5 k x0 x1 x5 x6 x7 false)
def humuslaw14_UndoOnce.j5 : Nat → List (S32) → List Int → List (S32) → List (S28) → Int → Bool → Option (Bool)
 | 0,_,_,_,_,_,_ => none
 | k + 1,x0,x1,x5,x6,x7,x72 => if x72 = true then (if 0 ≤ x7 then (if x7 < (x1.length : Int) then ((undo_Drop.f x5 (1 + (((Int.tdiv (rd x1 x7) 2) % 256) % 7))).bind fun bt854 => (humuslaw14_UndoOnce.j6 k x0 x1 x5 x6 x7 bt854.1 (bt854.2 == 0))) else (none)) else (none)) else (humuslaw14_UndoOnce.j7 k x0 x1 x5 x6 x7)
def humuslaw14_UndoOnce.j7 : Nat → List (S32) → List Int → List (S32) → List (S28) → Int → Option (Bool)
 | 0,_,_,_,_,_ => none
 | k + 1,x0,x1,x5,x6,x7 => humuslaw14_UndoOnce.l1 k x0 x1 x5 x6 x7 0
def humuslaw14_UndoOnce.l1 : Nat → List (S32) → List Int → List (S32) → List (S28) → Int → Int → Option (Bool)
 | 0,_,_,_,_,_,_ => none
 | k + 1,x0,x1,x5,x6,x7,x14 => if x14 < (x6.length : Int) then (if 0 ≤ x14 then ((undo_Get.f k x5 ((rd_T28 x6 x14).f0) ((rd_T28 x6 x14).f1)).bind fun bt859 => ((humusref14_At.f k x5 ((rd_T28 x6 x14).f0)).bind fun bt876 => (if (bt859.2.2.2.2.2.2.2.2.2.2.2.2 != (bt876.2.1 == ((rd_T28 x6 x14).f1))) = true then (none) else (humuslaw14_UndoOnce.l1 k x0 x1 x5 x6 x7 (wrap64 (x14 + 1)))))) else (none)) else (humuslaw14_UndoOnce.l0 k x0 x1 x5 x6 (wrap64 (x7 + 1)))
def humuslaw14_UndoOnce.j6 : Nat → List (S32) → List Int → List (S32) → List (S28) → Int → List (S32) → Bool → Option (Bool)
 | 0,_,_,_,_,_,_,_ => none
 | k + 1,x0,x1,x5,x6,x7,x12,x87 => if x87 = true then (humuslaw14_UndoOnce.j7 k x0 x1 x12 x6 x7) else (humuslaw14_UndoOnce.j7 k x0 x1 x5 x6 x7)
end
def humuslaw14_UndoOnce.f (k : Nat) (l0 : List (S32)) (l1 : List Int) : Option (Bool):=if 6 ≤ 2513169434916 then (humuslaw14_UndoOnce.l0 k l0 l1 (List.replicate 6 z32) (([] : List (S28))) 0) else (none)
def humuslaw14_UndoOnce.T21 : Bool × List (List Nat × List Nat):=(true,[([],[]),([],[]),([],[]),([],[]),([2,3],[2,3]),([4],[4]),([5],[5]),([1,6],[1,6]),([7],[7]),([],[]),([],[]),([9,10],[9,10]),([11],[11]),([12],[12]),([8,13],[8,13]),([0,14],[0,14])])
def humuslaw14_UndoOnce.B21 : List Nat:=[0,0,0,0,12,28,60,126,254,0,0,1536,3584,7680,16382,32767]
theorem humuslaw14_UndoOnce.tab21 : rtab .any (opsOf Try.f3 21) = humuslaw14_UndoOnce.T21:=by kernel_rfl
theorem humuslaw14_UndoOnce.bits21 : waitsOk humuslaw14_UndoOnce.T21.2 humuslaw14_UndoOnce.B21 = true:=by kernel_rfl
set_option maxHeartbeats 100000000 in
set_option maxRecDepth 100000 in
theorem humuslaw14_UndoOnce.calls (k : Nat) (A0 : Option Addr) (c0 : Nat) (l0 : List (S32)) (A1 : Option Addr) (c1 : Nat) (l1 : List Int) (r : Bool) (w : World) (hr0 : Kd.C k32 w A0 l0.length l0) (hc0 : l0.length ≤ c0) (hr1 : Kd.C (Kd.int .u8) w A1 l1.length l1) (hc1 : l1.length ≤ c1) (h : humuslaw14_UndoOnce.f k l0 l1 = some r) :
  Calls Try.prog 3 #[.slice A0 l0.length c0,.slice A1 l1.length c1] w fun e w' => e = .returned (.bool r) ∧ Below w.heap.size w w':=by
 have hu32:=Try.underlying32
 have hu28:=Try.underlying28
 have HR0:=Aside0.mk hr0
 have HC0:=Aside0.mk hc0
 clear hr0 hc0
 have HR1:=Aside0.mk hr1
 have HC1:=Aside0.mk hc1
 clear hr1 hc1
 have HB:=Aside0.mk (Below.refl w.heap.size w)
 have H : (if 6 ≤ 2513169434916 then (humuslaw14_UndoOnce.l0 k l0 l1 (List.replicate 6 z32) (([] : List (S28))) 0) else (none)) = some r:=h
 clear h
 by_cases c3 : 6 ≤ 2513169434916
 ·rw [if_pos c3] at H
  have c3b0:=eq_true c3
  have c3b1 : decide (6 ≤ 2513169434916) = true:=decide_eq_true c3
  clear c3
  obtain ⟨y834,hy834⟩ : ∃ y_ : List (S32),y_ = (List.replicate 6 z32):=⟨_,rfl⟩
  replace H : (humuslaw14_UndoOnce.l0 k l0 l1 y834 (([] : List (S28))) 0) = some r:=by first | (rw [hy834];with_reducible exact H) | (have H2_:=(Option.bind_some _ _).symm.trans H;rw [hy834];with_reducible exact H2_) | (have H2_:=(Option.bind_some _ _).symm.trans H;with_reducible exact H2_) | with_reducible exact H | (rw [hy834];exact H) | exact H
  have Ny834:=Aside0.mk hy834
  clear hy834
  obtain ⟨y837,hy837⟩ : ∃ y_ : List (S28),y_ = (([] : List (S28))):=⟨_,rfl⟩
  replace H : (humuslaw14_UndoOnce.l0 k l0 l1 y834 y837 0) = some r:=by first | (rw [hy837];with_reducible exact H) | (have H2_:=(Option.bind_some _ _).symm.trans H;rw [hy837];with_reducible exact H2_) | (have H2_:=(Option.bind_some _ _).symm.trans H;with_reducible exact H2_) | with_reducible exact H | (rw [hy837];exact H) | exact H
  have Ny837:=Aside0.mk hy837
  clear hy837
  have H':=Aside0.mk H
  clear H
  go_enter Try.func3,Try.ntmps3
  go_wp2_with (first | ((with_reducible refine gate_dst (N:=17) rfl ?_);refine Kd.N_make k32 _ 32 rfl (N':=17) rfl 22 _ _ rfl 6 rfl rfl Try.underlying22 (.agg #[(.int .i64 0),(.int .i64 0),(.int .i64 0),(.int .i64 0),(.int .i64 0),(.int .i64 0),(.float .f64 0),(.bool false),(.slice none 0 0),(.int .i64 0),(.int .i64 0),(.int .i64 0)]) 112 info32 rfl (by decide) (by omega) z32 (ok:=fun k_ => w.heap.size ≤ k_) (okp:=fun _ => False) (k32_mkF _ _ z32 (Nat.le_refl _) (Kd.F_nil _ _ _)) (fun _ hk => hk.elim) (Nat.le_refl _) (by omega) (by omega) (Below.refl _ _) (Nat.le_refl _) ?_;intro v835 w4 ho5 hb hg_ hnew_;clear hg_ hnew_;(first | rw [← Ny834.out] at ho5 | (simp only [Int.reduceToNat] at ho5;rw [← Ny834.out] at ho5));have n0_:=Aside0.mk (Kd.N_lower (Kd.N_mono (ok':=fun k_ => True) ho5 (fun k_ hk_ => trivial)) (below_size (by repeat (first | (with_reducible first | exact HB.out | apply below_alloc | apply pw_below_drewN | apply below_drew1) | exact HB.out))));have n1_:=Aside0.mk (below_step (by repeat (first | (with_reducible first | exact HB.out | apply below_alloc | apply pw_below_drewN | apply below_drew1) | exact HB.out)) hb);clear HB;have HO836:=n0_;have HB:=n1_;clear n0_ n1_;clear hb ho5) | ((with_reducible refine gate_dst (N:=18) rfl ?_);refine Kd.R_lit k28 _ 28 ?hg (N:=18) ?hd (xs:=([] : List (S28))) (inner:=[]) (ok:=fun _ => True) (okp:=fun _ => True) ?hr ?hp (fun _ hk => hk) trivial (Below.refl _ _) (Nat.le_refl _) (by simp) ?_;(case hd => rfl);(case hg => rfl);(case hr => first | (go_simp;done) | (go_simp;rfl));(case hp => exact (Reps.none _ _));intro v838 w6 ho7 hb hg_ hnew_;clear hg_ hnew_;(first | rw [← Ny837.out] at ho7 | (simp only [Int.reduceToNat] at ho7;rw [← Ny837.out] at ho7));have n0_:=Aside0.mk (Kd.N_elder' (by (with_reducible repeat (first | apply Kd.N_alloc | apply Kd.N_drewN | apply Kd.N_drew));exact HO836.out) (Kd.R_base ho7) hb);have n1_:=Aside0.mk (Kd.R_lower ho7 (below_size (by repeat (first | (with_reducible first | exact HB.out | apply below_alloc | apply pw_below_drewN | apply below_drew1) | exact HB.out))));have n2_:=Aside0.mk (below_step (by repeat (first | (with_reducible first | exact HB.out | apply below_alloc | apply pw_below_drewN | apply below_drew1) | exact HB.out)) hb);clear HO836;clear HB;have HO836:=n0_;have HO839:=n1_;have HB:=n2_;clear n0_ n1_ n2_;clear hb ho7))
  go_loopg [5,6,7] k (fun kq v5 v6 v7 w' => ∃ (x5_1 : List (S32)) (x6_1 : List (S28)) (x7_1 : Int),v7 = .int .i64 x7_1 ∧ Aside0 (humuslaw14_UndoOnce.l0 kq l0 l1 x5_1 x6_1 x7_1 = some r) ∧ Aside0 (kq ≤ k) ∧ Aside0 (Kd.N k32 32 w' w.heap.size (fun k_ => some k_ ≠ (v6 : Value).ownBlock) v5 x5_1) ∧ Aside0 (Kd.R k28 28 w' w.heap.size (fun _ => True) v6 x6_1) ∧ Aside0 (Below w.heap.size w w'))
  case atStart => exact ⟨(y834),(y837),(0),(by first | rfl | (simp;done) | (simp [*];done)),H',⟨Nat.le_refl _⟩,⟨by (with_reducible repeat (first | apply Kd.N_alloc | apply Kd.N_drewN | apply Kd.N_drew));exact Kd.N_mono HO836.out (fun _ hk => hk.2)⟩,⟨by (with_reducible repeat (first | apply Kd.R_alloc | apply Kd.R_drewN | apply Kd.R_drew));exact HO839.out⟩,⟨by repeat (first | (with_reducible first | exact HB.out | apply below_alloc | apply pw_below_drewN | apply below_drew1) | exact HB.out)⟩⟩
  case round =>
   clear H'
   try clear c1
   try clear p2
   try clear c3
   try clear c3b0
   try clear c3b1
   obtain ⟨x5_1,x6_1,x7_1,rfl,HA,HK1,HO_5,HO_6,HB⟩:=hrel
   cases gk with
   | zero => exact absurd HA.out (by simp [humuslaw14_UndoOnce.l0])
   | succ k1 =>
    have H:=HA.out
    clear HA
    simp only [humuslaw14_UndoOnce.l0] at H
    have HC8:=Aside0.mk H
    clear H
    go_upto_region 4 with (fail)
    go_cut [26] (fun v26 wc => ∃ (kq : Nat) (x26_7 : Bool),v26 = .bool x26_7 ∧ Aside0 (humuslaw14_UndoOnce.j1 kq l0 l1 x5_1 x6_1 x7_1 x26_7 = some r) ∧ Aside0 (kq ≤ k1) ∧ Aside0 (Kd.N k32 32 wc w.heap.size (fun k_ => some k_ ≠ (u6 : Value).ownBlock) u5 x5_1) ∧ Aside0 (Kd.R k28 28 wc w.heap.size (fun _ => True) u6 x6_1) ∧ Aside0 (Below w.heap.size w wc))
    case first =>
     have H:=HC8.out
     clear HC8
     by_cases c9 : x7_1 < (l0.length : Int)
     ·rw [if_pos c9] at H
      have c9b0 : decide (x7_1 < (l0.length : Int)) = true:=decide_eq_true c9
      clear c9
      (first | rw [c9b0] | (simp only [i64_w,i32_w];rw [c9b0]) | skip)
      have H':=Aside0.mk H
      clear H
      go_wp2
      go_meet
      case rel => exact ⟨_,(decide (x7_1 < 40)),(by first | rfl | (simp;done) | (simp [*];done)),H',⟨by have:=HK1.out;first | omega | exact Nat.le_refl _⟩,⟨by (with_reducible repeat (first | apply Kd.N_alloc | apply Kd.N_drewN | apply Kd.N_drew));exact HO_5.out⟩,⟨by (with_reducible repeat (first | apply Kd.R_alloc | apply Kd.R_drewN | apply Kd.R_drew));exact HO_6.out⟩,⟨by repeat (first | (with_reducible first | exact HB.out | apply below_alloc | apply pw_below_drewN | apply below_drew1) | exact HB.out)⟩⟩
     ·rw [if_neg c9] at H
      have c9b0 : decide (x7_1 < (l0.length : Int)) = false:=decide_eq_false c9
      clear c9
      (first | rw [c9b0] | (simp only [i64_w,i32_w];rw [c9b0]) | skip)
      have H':=Aside0.mk H
      clear H
      go_wp2
      go_meet
      case rel => exact ⟨_,(false),(by first | rfl | (simp;done) | (simp [*];done)),H',⟨by have:=HK1.out;first | omega | exact Nat.le_refl _⟩,⟨by (with_reducible repeat (first | apply Kd.N_alloc | apply Kd.N_drewN | apply Kd.N_drew));exact HO_5.out⟩,⟨by (with_reducible repeat (first | apply Kd.R_alloc | apply Kd.R_drewN | apply Kd.R_drew));exact HO_6.out⟩,⟨by repeat (first | (with_reducible first | exact HB.out | apply below_alloc | apply pw_below_drewN | apply below_drew1) | exact HB.out)⟩⟩
    case rest =>
     clear HC8
     try clear c1
     try clear p2
     try clear c3
     try clear c3b0
     try clear c3b1
     try clear c9
     try clear c9b0
     try clear p2
     obtain ⟨kq,x26_7,rfl,HA,HJ7,HO_5,HO_6,HB⟩:=hcut
     cases kq with
     | zero => exact absurd HA.out (by simp [humuslaw14_UndoOnce.j1])
     | succ kj7 =>
      have H:=HA.out
      clear HA
      simp only [humuslaw14_UndoOnce.j1] at H
      by_cases c10 : x26_7 = true
      ·subst c10
       have H1 : (if 0 ≤ x7_1 then (if x7_1 < (l0.length : Int) then (if (((rd_T32 l0 x7_1).f6.f2).length : Int) > 20 then (humuslaw14_UndoOnce.j2 kj7 l0 l1 x5_1 x6_1 (wrap64 (x7_1 + 1))) else ((undo_Put.f kj7 x5_1 ((rd_T32 l0 x7_1).f0) (wrap64 (x7_1 + 1)) ((rd_T32 l0 x7_1).f2) ((rd_T32 l0 x7_1).f3) ((rd_T32 l0 x7_1).f4) ((rd_T32 l0 x7_1).f5) ((rd_T32 l0 x7_1).f6.f0) ((rd_T32 l0 x7_1).f6.f1) ((rd_T32 l0 x7_1).f6.f2) ((rd_T32 l0 x7_1).f6.f3) ((rd_T32 l0 x7_1).f6.f4.f0) ((rd_T32 l0 x7_1).f6.f4.f1)).bind fun bt844 => (humuslaw14_UndoOnce.j3 kj7 l0 l1 x5_1 x6_1 x7_1 bt844.1 bt844.2.1 (bt844.2.2 == 0) ((rd_T32 l0 x7_1).f0) (wrap64 (x7_1 + 1)) ((rd_T32 l0 x7_1).f2) ((rd_T32 l0 x7_1).f3) ((rd_T32 l0 x7_1).f4) ((rd_T32 l0 x7_1).f5) ((rd_T32 l0 x7_1).f6.f0) ((rd_T32 l0 x7_1).f6.f1) ((rd_T32 l0 x7_1).f6.f2) ((rd_T32 l0 x7_1).f6.f3) ((rd_T32 l0 x7_1).f6.f4.f0) ((rd_T32 l0 x7_1).f6.f4.f1)))) else (none)) else (none)) = some r:=by rw [if_pos rfl] at H;exact H
       clear H
       have H:=H1
       clear H1
       by_cases c11 : 0 ≤ x7_1
       ·rw [if_pos c11] at H
        have c11b0 : decide (0 ≤ x7_1) = true:=decide_eq_true c11
        clear c11
        by_cases c12 : x7_1 < (l0.length : Int)
        ·rw [if_pos c12] at H
         have c12b0 : decide (x7_1 < (l0.length : Int)) = true:=decide_eq_true c12
         clear c12
         by_cases c13 : (((rd_T32 l0 x7_1).f6.f2).length : Int) > 20
         ·rw [if_pos c13] at H
          have c13b0 : decide (20 < (((rd_T32 l0 x7_1).f6.f2).length : Int)) = true:=decide_eq_true c13
          have c13b1 : decide (20 < ((rd_T32 l0 x7_1).f6.f2).length) = true:=decide_eq_true (by omega)
          clear c13
          have HC14:=Aside0.mk H
          clear H
          have p841 : 0 ≤ (x7_1 : Int):=of_decide_eq_true (by first | (with_reducible assumption) | assumption)
          have q841 : x7_1 < (l0.length : Int):=of_decide_eq_true (by first | (with_reducible assumption) | assumption)
          obtain ⟨ad841,A841_8,c841_8,e841,hx841_0,hx841_1,hx841_2,hx841_3,hx841_4,hx841_5,hx841_6,hx841_7,hx841_8,hx841_9,hx841_10,hx841_11,hl841_8,hi841_8⟩:=at_T32 HR0.out x7_1 p841 q841
          cases e841
          replace hx841_0:=(HB.out.cell (World.block_lt_of_cell? w _ hx841_0)).trans hx841_0
          replace hx841_1:=(HB.out.cell (World.block_lt_of_cell? w _ hx841_1)).trans hx841_1
          replace hx841_2:=(HB.out.cell (World.block_lt_of_cell? w _ hx841_2)).trans hx841_2
          replace hx841_3:=(HB.out.cell (World.block_lt_of_cell? w _ hx841_3)).trans hx841_3
          replace hx841_4:=(HB.out.cell (World.block_lt_of_cell? w _ hx841_4)).trans hx841_4
          replace hx841_5:=(HB.out.cell (World.block_lt_of_cell? w _ hx841_5)).trans hx841_5
          replace hx841_6:=(HB.out.cell (World.block_lt_of_cell? w _ hx841_6)).trans hx841_6
          replace hx841_7:=(HB.out.cell (World.block_lt_of_cell? w _ hx841_7)).trans hx841_7
          replace hx841_8:=(HB.out.cell (World.block_lt_of_cell? w _ hx841_8)).trans hx841_8
          replace hx841_9:=(HB.out.cell (World.block_lt_of_cell? w _ hx841_9)).trans hx841_9
          replace hx841_10:=(HB.out.cell (World.block_lt_of_cell? w _ hx841_10)).trans hx841_10
          replace hx841_11:=(HB.out.cell (World.block_lt_of_cell? w _ hx841_11)).trans hx841_11
          have HR841_8:=Aside0.mk hi841_8
          have HC841_8:=Aside0.mk hl841_8
          clear hi841_8 hl841_8
          replace p841:=eq_true p841
          replace q841:=eq_true q841
          go_upto_region 5 with (fail)
          go_cut [7] (fun v7 wc => ∃ (kq : Nat) (x7_13 : Int),v7 = .int .i64 x7_13 ∧ Aside0 (humuslaw14_UndoOnce.j2 kq l0 l1 x5_1 x6_1 x7_13 = some r) ∧ Aside0 (kq ≤ kj7) ∧ Aside0 (Kd.N k32 32 wc w.heap.size (fun k_ => some k_ ≠ (u6 : Value).ownBlock) u5 x5_1) ∧ Aside0 (Kd.R k28 28 wc w.heap.size (fun _ => True) u6 x6_1) ∧ Aside0 (Below w.heap.size w wc))
          case first =>
           have H:=HC14.out
           clear HC14
           have H':=Aside0.mk H
           clear H
           go_wp2
           go_meet
           case rel => exact ⟨_,(wrap64 (x7_1 + 1)),(by first | rfl | (simp;done) | (simp [*];done)),H',⟨by have:=HK1.out;have:=HJ7.out;first | omega | exact Nat.le_refl _⟩,⟨by (with_reducible repeat (first | apply Kd.N_alloc | apply Kd.N_drewN | apply Kd.N_drew));exact HO_5.out⟩,⟨by (with_reducible repeat (first | apply Kd.R_alloc | apply Kd.R_drewN | apply Kd.R_drew));exact HO_6.out⟩,⟨by repeat (first | (with_reducible first | exact HB.out | apply below_alloc | apply pw_below_drewN | apply below_drew1) | exact HB.out)⟩⟩
          case rest =>
           clear HC14
           try clear c1
           try clear p2
           try clear c3
           try clear c3b0
           try clear c3b1
           try clear p6
           try clear c8
           try clear p8
           try clear q8
           try clear hx8
           try clear c9
           try clear c9b0
           try clear c10
           try clear c11
           try clear c11b0
           try clear c12
           try clear c12b0
           try clear c13
           try clear c13b0
           try clear c13b1
           try clear hx841_0
           try clear hx841_1
           try clear hx841_10
           try clear hx841_11
           try clear hx841_2
           try clear hx841_3
           try clear hx841_4
           try clear hx841_5
           try clear hx841_6
           try clear hx841_7
           try clear hx841_8
           try clear hx841_9
           try clear p2
           try clear p841
           try clear q841
           obtain ⟨kq,x7_13,rfl,HA,HJ13,HO_5,HO_6,HB⟩:=hcut
           cases kq with
           | zero => exact absurd HA.out (by simp [humuslaw14_UndoOnce.j2])
           | succ kj13 =>
            have H:=HA.out
            clear HA
            simp only [humuslaw14_UndoOnce.j2] at H
            have H':=Aside0.mk H
            clear H
            go_wp2
            go_roundg kj13
            case measure => have:=HK1.out;have:=HJ7.out;have:=HJ13.out;omega
            case rel => exact ⟨(x5_1),(x6_1),(x7_13),(by first | rfl | (simp;done) | (simp [*];done)),H',⟨by have:=HK1.out;have:=HJ7.out;have:=HJ13.out;omega⟩,⟨by (with_reducible repeat (first | apply Kd.N_alloc | apply Kd.N_drewN | apply Kd.N_drew));exact HO_5.out⟩,⟨by (with_reducible repeat (first | apply Kd.R_alloc | apply Kd.R_drewN | apply Kd.R_drew));exact HO_6.out⟩,⟨by repeat (first | (with_reducible first | exact HB.out | apply below_alloc | apply pw_below_drewN | apply below_drew1) | exact HB.out)⟩⟩
         ·rw [if_neg c13] at H
          have c13b0 : decide (20 < (((rd_T32 l0 x7_1).f6.f2).length : Int)) = false:=decide_eq_false c13
          have c13b1 : decide (20 < ((rd_T32 l0 x7_1).f6.f2).length) = false:=decide_eq_false (by omega)
          clear c13
          replace H:=Option.bind_eq_some_iff.mp H
          obtain ⟨⟨t844,t847,t848⟩,A150,H⟩:=H
          replace H : (humuslaw14_UndoOnce.j3 kj7 l0 l1 x5_1 x6_1 x7_1 t844 t847 (t848 == 0) ((rd_T32 l0 x7_1).f0) (wrap64 (x7_1 + 1)) ((rd_T32 l0 x7_1).f2) ((rd_T32 l0 x7_1).f3) ((rd_T32 l0 x7_1).f4) ((rd_T32 l0 x7_1).f5) ((rd_T32 l0 x7_1).f6.f0) ((rd_T32 l0 x7_1).f6.f1) ((rd_T32 l0 x7_1).f6.f2) ((rd_T32 l0 x7_1).f6.f3) ((rd_T32 l0 x7_1).f6.f4.f0) ((rd_T32 l0 x7_1).f6.f4.f1)) = some r:=H
          have A15:=Aside0.mk A150
          clear A150
          have HC16:=Aside0.mk H
          clear H
          have p841 : 0 ≤ (x7_1 : Int):=of_decide_eq_true (by first | (with_reducible assumption) | assumption)
          have q841 : x7_1 < (l0.length : Int):=of_decide_eq_true (by first | (with_reducible assumption) | assumption)
          obtain ⟨ad841,A841_8,c841_8,e841,hx841_0,hx841_1,hx841_2,hx841_3,hx841_4,hx841_5,hx841_6,hx841_7,hx841_8,hx841_9,hx841_10,hx841_11,hl841_8,hi841_8⟩:=at_T32 HR0.out x7_1 p841 q841
          cases e841
          replace hx841_0:=(HB.out.cell (World.block_lt_of_cell? w _ hx841_0)).trans hx841_0
          replace hx841_1:=(HB.out.cell (World.block_lt_of_cell? w _ hx841_1)).trans hx841_1
          replace hx841_2:=(HB.out.cell (World.block_lt_of_cell? w _ hx841_2)).trans hx841_2
          replace hx841_3:=(HB.out.cell (World.block_lt_of_cell? w _ hx841_3)).trans hx841_3
          replace hx841_4:=(HB.out.cell (World.block_lt_of_cell? w _ hx841_4)).trans hx841_4
          replace hx841_5:=(HB.out.cell (World.block_lt_of_cell? w _ hx841_5)).trans hx841_5
          replace hx841_6:=(HB.out.cell (World.block_lt_of_cell? w _ hx841_6)).trans hx841_6
          replace hx841_7:=(HB.out.cell (World.block_lt_of_cell? w _ hx841_7)).trans hx841_7
          replace hx841_8:=(HB.out.cell (World.block_lt_of_cell? w _ hx841_8)).trans hx841_8
          replace hx841_9:=(HB.out.cell (World.block_lt_of_cell? w _ hx841_9)).trans hx841_9
          replace hx841_10:=(HB.out.cell (World.block_lt_of_cell? w _ hx841_10)).trans hx841_10
          replace hx841_11:=(HB.out.cell (World.block_lt_of_cell? w _ hx841_11)).trans hx841_11
          have HR841_8:=Aside0.mk hi841_8
          have HC841_8:=Aside0.mk hl841_8
          clear hi841_8 hl841_8
          replace p841:=eq_true p841
          replace q841:=eq_true q841
          have p842 : 0 ≤ (x7_1 : Int):=of_decide_eq_true (by first | (with_reducible assumption) | assumption)
          have q842 : x7_1 < (l0.length : Int):=of_decide_eq_true (by first | (with_reducible assumption) | assumption)
          obtain ⟨ad842,A842_8,c842_8,e842,hx842_0,hx842_1,hx842_2,hx842_3,hx842_4,hx842_5,hx842_6,hx842_7,hx842_8,hx842_9,hx842_10,hx842_11,hl842_8,hi842_8⟩:=at_T32 HR0.out x7_1 p842 q842
          obtain rfl : ad841 = ad842:=(by injection e842)
          replace hx842_0:=(HB.out.cell (World.block_lt_of_cell? w _ hx842_0)).trans hx842_0
          replace hx842_1:=(HB.out.cell (World.block_lt_of_cell? w _ hx842_1)).trans hx842_1
          replace hx842_2:=(HB.out.cell (World.block_lt_of_cell? w _ hx842_2)).trans hx842_2
          replace hx842_3:=(HB.out.cell (World.block_lt_of_cell? w _ hx842_3)).trans hx842_3
          replace hx842_4:=(HB.out.cell (World.block_lt_of_cell? w _ hx842_4)).trans hx842_4
          replace hx842_5:=(HB.out.cell (World.block_lt_of_cell? w _ hx842_5)).trans hx842_5
          replace hx842_6:=(HB.out.cell (World.block_lt_of_cell? w _ hx842_6)).trans hx842_6
          replace hx842_7:=(HB.out.cell (World.block_lt_of_cell? w _ hx842_7)).trans hx842_7
          replace hx842_8:=(HB.out.cell (World.block_lt_of_cell? w _ hx842_8)).trans hx842_8
          replace hx842_9:=(HB.out.cell (World.block_lt_of_cell? w _ hx842_9)).trans hx842_9
          replace hx842_10:=(HB.out.cell (World.block_lt_of_cell? w _ hx842_10)).trans hx842_10
          replace hx842_11:=(HB.out.cell (World.block_lt_of_cell? w _ hx842_11)).trans hx842_11
          have HR842_8:=Aside0.mk hi842_8
          have HC842_8:=Aside0.mk hl842_8
          clear hi842_8 hl842_8
          replace p842:=eq_true p842
          replace q842:=eq_true q842
          have ea_:=Option.some.inj (hx841_8.symm.trans hx842_8)
          injection ea_ with ea_ en_ ec_
          subst ea_
          subst ec_
          clear en_
          go_upto_region 10 with (first | ((with_reducible refine gate_dst (N:=8) rfl ?_);refine box_event ?hg (N:=8) ?hd (cs:=#[.int .i64 0,.int .i64 0,.int .i64 0,.int .i64 0,.int .i64 0,.int .i64 0,.float .f64 0,.bool false,.slice none 0 0,.int .i64 0,.int .i64 0,.int .i64 0]) (t:=32) ?hr ?_;(case hd => rfl);(case hg => rfl);(case hr => first | (go_simp;done) | (go_simp;rfl));intro gb843 hg w17 hbox hb;have n0_:=Aside0.mk (Kd.N_below (Kd.N_elderB (by (with_reducible repeat (first | apply Kd.N_alloc | apply Kd.N_drewN | apply Kd.N_drew));exact HO_5.out) gb843 (Nat.le_of_eq hg.symm)) hb);have n1_:=Aside0.mk (Kd.R_below (by (with_reducible repeat (first | apply Kd.R_alloc | apply Kd.R_drewN | apply Kd.R_drew));exact HO_6.out) hb);have n2_:=Aside0.mk (below_step (by repeat (first | (with_reducible first | exact HB.out | apply below_alloc | apply pw_below_drewN | apply below_drew1) | exact HB.out)) hb);have n3_:=Aside0.mk (hbox);have n4_:=Aside0.mk ((by rw [hg];exact (below_size (by repeat (first | (with_reducible first | exact HB.out | apply below_alloc | apply pw_below_drewN | apply below_drew1) | exact HB.out))) : w.heap.size ≤ gb843));have n5_:=Aside0.mk ((by rw [hg];exact (below_size (by repeat (first | (with_reducible first | exact HB.out | apply below_alloc | apply pw_below_drewN | apply below_drew1) | exact HB.out))) : w.heap.size ≤ gb843));clear HO_5;clear HO_6;clear HB;have HO_5:=n0_;have HO_6:=n1_;have HB:=n2_;have BK843:=n3_;have GW843:=n4_;have GE843:=n5_;clear n0_ n1_ n2_ n3_ n4_ n5_;clear hb hbox hg;obtain ⟨hcz18_0,hcz18_1,hcz18_2,hcz18_3,hcz18_4,hcz18_5,hcz18_6,hcz18_7,hcz18_8,hcz18_9,hcz18_10,hcz18_11⟩:=blkc_12 BK843.out;obtain ⟨hfz18_0,hfz18_1,hfz18_2,hfz18_3,hfz18_4,hfz18_5,hfz18_6,hfz18_7,hfz18_8,hfz18_9,hfz18_10⟩:=blkz_11 BK843.out;have hfz18_11:=blk_frozen BK843.out 11) | ((with_reducible refine gate_store (t:=32) (p:=8) rfl ?_);refine store_event (t:=32) (p:=8) (v:=?vo_w19) (w1:=((((((((((((w17.setCell ⟨gb843,0,none⟩ (.int .i64 ((rd_T32 l0 x7_1).f0))).setCell ⟨gb843,1,none⟩ (.int .i64 ((rd_T32 l0 x7_1).f1))).setCell ⟨gb843,2,none⟩ (.int .i64 ((rd_T32 l0 x7_1).f2))).setCell ⟨gb843,3,none⟩ (.int .i64 ((rd_T32 l0 x7_1).f3))).setCell ⟨gb843,4,none⟩ (.int .i64 ((rd_T32 l0 x7_1).f4))).setCell ⟨gb843,5,none⟩ (.int .i64 ((rd_T32 l0 x7_1).f5))).setCell ⟨gb843,6,none⟩ (.float .f64 ((rd_T32 l0 x7_1).f6.f0))).setCell ⟨gb843,7,none⟩ (.bool ((rd_T32 l0 x7_1).f6.f1))).setCell ⟨gb843,8,none⟩ (.slice A841_8 ((rd_T32 l0 x7_1).f6.f2).length c841_8)).setCell ⟨gb843,9,none⟩ (.int .i64 ((rd_T32 l0 x7_1).f6.f3))).setCell ⟨gb843,10,none⟩ (.int .i64 ((rd_T32 l0 x7_1).f6.f4.f0))).setCell ⟨gb843,11,none⟩ (.int .i64 ((rd_T32 l0 x7_1).f6.f4.f1)))) ?hg ?ho ?hn ?hr ?_;(case ho => rfl);(case hg => rfl);(case hn => rfl);(case hr => first | (go_simp;done) | (go_simp;rfl));intro w19 hw;have n0_ : Aside0 (Kd.N k32 32 w19 w.heap.size (fun k_ => some k_ ≠ (u6 : Value).ownBlock ∧ k_ ≠ gb843) u5 x5_1):=⟨(by rw [hw];exact (by (with_reducible repeat (first | apply Kd.N_alloc | apply Kd.N_drewN | apply Kd.N_drew));exact Kd.N_mono (Kd.N_far (p:=⟨gb843,11,none⟩) (Kd.N_far (p:=⟨gb843,10,none⟩) (Kd.N_far (p:=⟨gb843,9,none⟩) (Kd.N_far (p:=⟨gb843,8,none⟩) (Kd.N_far (p:=⟨gb843,7,none⟩) (Kd.N_far (p:=⟨gb843,6,none⟩) (Kd.N_far (p:=⟨gb843,5,none⟩) (Kd.N_far (p:=⟨gb843,4,none⟩) (Kd.N_far (p:=⟨gb843,3,none⟩) (Kd.N_far (p:=⟨gb843,2,none⟩) (Kd.N_far (p:=⟨gb843,1,none⟩) (Kd.N_far (p:=⟨gb843,0,none⟩) (Kd.N_mono HO_5.out (fun k_ hk => (⟨hk,hk.2⟩ : _ ∧ k_ ≠ gb843))) (fun _ hk => hk.2) (.int .i64 ((rd_T32 l0 x7_1).f0))) (fun _ hk => hk.2) (.int .i64 ((rd_T32 l0 x7_1).f1))) (fun _ hk => hk.2) (.int .i64 ((rd_T32 l0 x7_1).f2))) (fun _ hk => hk.2) (.int .i64 ((rd_T32 l0 x7_1).f3))) (fun _ hk => hk.2) (.int .i64 ((rd_T32 l0 x7_1).f4))) (fun _ hk => hk.2) (.int .i64 ((rd_T32 l0 x7_1).f5))) (fun _ hk => hk.2) (.float .f64 ((rd_T32 l0 x7_1).f6.f0))) (fun _ hk => hk.2) (.bool ((rd_T32 l0 x7_1).f6.f1))) (fun _ hk => hk.2) (.slice A841_8 ((rd_T32 l0 x7_1).f6.f2).length c841_8)) (fun _ hk => hk.2) (.int .i64 ((rd_T32 l0 x7_1).f6.f3))) (fun _ hk => hk.2) (.int .i64 ((rd_T32 l0 x7_1).f6.f4.f0))) (fun _ hk => hk.2) (.int .i64 ((rd_T32 l0 x7_1).f6.f4.f1))) (fun _ hk => ⟨hk.1.1,hk.1.2⟩)))⟩;have n1_ : Aside0 (Kd.R k28 28 w19 w.heap.size (fun _ => True) u6 x6_1):=⟨(by rw [hw];exact (by (with_reducible repeat (first | apply Kd.R_alloc | apply Kd.R_drewN | apply Kd.R_drew));exact Kd.R_mono (Kd.R_far (p:=⟨gb843,11,none⟩) (Kd.R_far (p:=⟨gb843,10,none⟩) (Kd.R_far (p:=⟨gb843,9,none⟩) (Kd.R_far (p:=⟨gb843,8,none⟩) (Kd.R_far (p:=⟨gb843,7,none⟩) (Kd.R_far (p:=⟨gb843,6,none⟩) (Kd.R_far (p:=⟨gb843,5,none⟩) (Kd.R_far (p:=⟨gb843,4,none⟩) (Kd.R_far (p:=⟨gb843,3,none⟩) (Kd.R_far (p:=⟨gb843,2,none⟩) (Kd.R_far (p:=⟨gb843,1,none⟩) (Kd.R_far (p:=⟨gb843,0,none⟩) (Kd.R_types HO_6.out BK843.out (by decide)) (fun _ hk => hk.2) (.int .i64 ((rd_T32 l0 x7_1).f0))) (fun _ hk => hk.2) (.int .i64 ((rd_T32 l0 x7_1).f1))) (fun _ hk => hk.2) (.int .i64 ((rd_T32 l0 x7_1).f2))) (fun _ hk => hk.2) (.int .i64 ((rd_T32 l0 x7_1).f3))) (fun _ hk => hk.2) (.int .i64 ((rd_T32 l0 x7_1).f4))) (fun _ hk => hk.2) (.int .i64 ((rd_T32 l0 x7_1).f5))) (fun _ hk => hk.2) (.float .f64 ((rd_T32 l0 x7_1).f6.f0))) (fun _ hk => hk.2) (.bool ((rd_T32 l0 x7_1).f6.f1))) (fun _ hk => hk.2) (.slice A841_8 ((rd_T32 l0 x7_1).f6.f2).length c841_8)) (fun _ hk => hk.2) (.int .i64 ((rd_T32 l0 x7_1).f6.f3))) (fun _ hk => hk.2) (.int .i64 ((rd_T32 l0 x7_1).f6.f4.f0))) (fun _ hk => hk.2) (.int .i64 ((rd_T32 l0 x7_1).f6.f4.f1))) (fun _ hk => trivial)))⟩;have n2_ : Aside0 (w19.heap[gb843]? = some (.cells #[.int .i64 ((rd_T32 l0 x7_1).f0),.int .i64 ((rd_T32 l0 x7_1).f1),.int .i64 ((rd_T32 l0 x7_1).f2),.int .i64 ((rd_T32 l0 x7_1).f3),.int .i64 ((rd_T32 l0 x7_1).f4),.int .i64 ((rd_T32 l0 x7_1).f5),.float .f64 ((rd_T32 l0 x7_1).f6.f0),.bool ((rd_T32 l0 x7_1).f6.f1),.slice A841_8 ((rd_T32 l0 x7_1).f6.f2).length c841_8,.int .i64 ((rd_T32 l0 x7_1).f6.f3),.int .i64 ((rd_T32 l0 x7_1).f6.f4.f0),.int .i64 ((rd_T32 l0 x7_1).f6.f4.f1)] 32 (0,0))):=⟨(by rw [hw];exact (by (with_reducible repeat (first | refine blk_drewN ?_ _ | refine blk_drew ?_ | refine blk_alloc ?_ _));apply blkf_12_0_11;(with_reducible repeat (first | refine blk_drewN ?_ _ | refine blk_drew ?_ | refine blk_alloc ?_ _));exact BK843.out))⟩;have n3_ : Aside0 (Below w.heap.size w w19):=⟨(by rw [hw];exact (by repeat (first | (with_reducible first | exact HB.out | apply below_alloc | apply pw_below_drewN | apply below_drew1 | refine below_set ?_ GE843.out) | exact HB.out)))⟩;clear hw;clear HO_5;clear HO_6;clear BK843;clear HB;have HO_5:=n0_;have HO_6:=n1_;have BK843:=n2_;have HB:=n3_;clear n0_ n1_ n2_ n3_;obtain ⟨hcz20_0,hcz20_1,hcz20_2,hcz20_3,hcz20_4,hcz20_5,hcz20_6,hcz20_7,hcz20_8,hcz20_9,hcz20_10,hcz20_11⟩:=blkc_12 BK843.out;obtain ⟨hfz20_0,hfz20_1,hfz20_2,hfz20_3,hfz20_4,hfz20_5,hfz20_6,hfz20_7,hfz20_8,hfz20_9,hfz20_10⟩:=blkz_11 BK843.out;have hfz20_11:=blk_frozen BK843.out 11) | ((with_reducible refine gate_store (t:=3) (p:=43) rfl ?_);refine store_event (t:=3) (p:=43) (v:=?vo_w21) (w1:=(w19.setCell ⟨gb843,1,none⟩ (.int .i64 (wrap64 (x7_1 + 1))))) ?hg ?ho ?hn ?hr ?_;(case ho => rfl);(case hg => rfl);(case hn => rfl);(case hr => first | (go_simp;done) | (go_simp;rfl));intro w21 hw;have n0_ : Aside0 (Kd.N k32 32 w21 w.heap.size (fun k_ => some k_ ≠ (u6 : Value).ownBlock ∧ k_ ≠ gb843) u5 x5_1):=⟨(by rw [hw];exact (by (with_reducible repeat (first | apply Kd.N_alloc | apply Kd.N_drewN | apply Kd.N_drew));exact Kd.N_mono (Kd.N_far (p:=⟨gb843,1,none⟩) (Kd.N_mono HO_5.out (fun k_ hk => (⟨hk,hk.2⟩ : _ ∧ k_ ≠ gb843))) (fun _ hk => hk.2) (.int .i64 (wrap64 (x7_1 + 1)))) (fun _ hk => ⟨hk.1.1,hk.1.2⟩)))⟩;have n1_ : Aside0 (Kd.R k28 28 w21 w.heap.size (fun _ => True) u6 x6_1):=⟨(by rw [hw];exact (by (with_reducible repeat (first | apply Kd.R_alloc | apply Kd.R_drewN | apply Kd.R_drew));exact Kd.R_mono (Kd.R_far (p:=⟨gb843,1,none⟩) (Kd.R_types HO_6.out BK843.out (by decide)) (fun _ hk => hk.2) (.int .i64 (wrap64 (x7_1 + 1)))) (fun _ hk => trivial)))⟩;have n2_ : Aside0 (w21.heap[gb843]? = some (.cells #[.int .i64 ((rd_T32 l0 x7_1).f0),.int .i64 (wrap64 (x7_1 + 1)),.int .i64 ((rd_T32 l0 x7_1).f2),.int .i64 ((rd_T32 l0 x7_1).f3),.int .i64 ((rd_T32 l0 x7_1).f4),.int .i64 ((rd_T32 l0 x7_1).f5),.float .f64 ((rd_T32 l0 x7_1).f6.f0),.bool ((rd_T32 l0 x7_1).f6.f1),.slice A841_8 ((rd_T32 l0 x7_1).f6.f2).length c841_8,.int .i64 ((rd_T32 l0 x7_1).f6.f3),.int .i64 ((rd_T32 l0 x7_1).f6.f4.f0),.int .i64 ((rd_T32 l0 x7_1).f6.f4.f1)] 32 (0,0))):=⟨(by rw [hw];exact (by (with_reducible repeat (first | refine blk_drewN ?_ _ | refine blk_drew ?_ | refine blk_alloc ?_ _));refine blk_put (cs:=#[.int .i64 ((rd_T32 l0 x7_1).f0),.int .i64 ((rd_T32 l0 x7_1).f1),.int .i64 ((rd_T32 l0 x7_1).f2),.int .i64 ((rd_T32 l0 x7_1).f3),.int .i64 ((rd_T32 l0 x7_1).f4),.int .i64 ((rd_T32 l0 x7_1).f5),.float .f64 ((rd_T32 l0 x7_1).f6.f0),.bool ((rd_T32 l0 x7_1).f6.f1),.slice A841_8 ((rd_T32 l0 x7_1).f6.f2).length c841_8,.int .i64 ((rd_T32 l0 x7_1).f6.f3),.int .i64 ((rd_T32 l0 x7_1).f6.f4.f0),.int .i64 ((rd_T32 l0 x7_1).f6.f4.f1)]) ?_ 1 _ rfl;(with_reducible repeat (first | refine blk_drewN ?_ _ | refine blk_drew ?_ | refine blk_alloc ?_ _));exact BK843.out))⟩;have n3_ : Aside0 (Below w.heap.size w w21):=⟨(by rw [hw];exact (by repeat (first | (with_reducible first | exact HB.out | apply below_alloc | apply pw_below_drewN | apply below_drew1 | refine below_set ?_ GE843.out) | exact HB.out)))⟩;clear hw;clear HO_5;clear HO_6;clear BK843;clear HB;have HO_5:=n0_;have HO_6:=n1_;have BK843:=n2_;have HB:=n3_;clear n0_ n1_ n2_ n3_;obtain ⟨hcz22_0,hcz22_1,hcz22_2,hcz22_3,hcz22_4,hcz22_5,hcz22_6,hcz22_7,hcz22_8,hcz22_9,hcz22_10,hcz22_11⟩:=blkc_12 BK843.out;obtain ⟨hfz22_0,hfz22_1,hfz22_2,hfz22_3,hfz22_4,hfz22_5,hfz22_6,hfz22_7,hfz22_8,hfz22_9,hfz22_10,hfz22_11⟩:=blkz_12 BK843.out;obtain ⟨Ao23,co23,eo23⟩:=Kd.N_slice HO_5.out;subst eo23) | ((with_reducible refine gate_callee (f:=15) rfl ?_);refine goesL_ (some 47) rfl rfl Try.func15 (by kernel_rfl) rfl #[.slice Ao23 x5_1.length co23,.agg #[.int .i64 ((rd_T32 l0 x7_1).f0),.int .i64 (wrap64 (x7_1 + 1)),.int .i64 ((rd_T32 l0 x7_1).f2),.int .i64 ((rd_T32 l0 x7_1).f3),.int .i64 ((rd_T32 l0 x7_1).f4),.int .i64 ((rd_T32 l0 x7_1).f5),.float .f64 ((rd_T32 l0 x7_1).f6.f0),.bool ((rd_T32 l0 x7_1).f6.f1),.slice A841_8 ((rd_T32 l0 x7_1).f6.f2).length c841_8,.int .i64 ((rd_T32 l0 x7_1).f6.f3),.int .i64 ((rd_T32 l0 x7_1).f6.f4.f0),.int .i64 ((rd_T32 l0 x7_1).f6.f4.f1)]] rfl (by (try simp only [List.map_toArray,List.map_cons,List.map_nil]);first | done | rfl | (simp only [List.length_drop,List.length_take];rfl)) ?_;(with_reducible refine (undo_Put.calls kj7 (fun k_ => (some k_ ≠ (u6 : Value).ownBlock ∧ k_ ≠ gb843)) _ _ x5_1 ((rd_T32 l0 x7_1).f0) (wrap64 (x7_1 + 1)) ((rd_T32 l0 x7_1).f2) ((rd_T32 l0 x7_1).f3) ((rd_T32 l0 x7_1).f4) ((rd_T32 l0 x7_1).f5) ((rd_T32 l0 x7_1).f6.f0) ((rd_T32 l0 x7_1).f6.f1) _ _ ((rd_T32 l0 x7_1).f6.f2) ((rd_T32 l0 x7_1).f6.f3) ((rd_T32 l0 x7_1).f6.f4.f0) ((rd_T32 l0 x7_1).f6.f4.f1) t844 t847 t848 _ ?side1 ?side2 ?side3 A15.out).mono ?_);(case side1 => exact Kd.N_V (HO_5.out));(case side2 => repeat (first | exact (Kd.C_below HR842_8.out HB.out) | (with_reducible refine Kd.C_alloc ?_ _) | (with_reducible refine Kd.C_drewN ?_ _) | (with_reducible refine Kd.C_drew ?_)));(case side3 => exact HC842_8.out);rintro e w24 ⟨v845,rfl,ho0,hb⟩;refine ⟨_,rfl,?_⟩;have n0_:=Aside0.mk (Kd.N_elder' (by (with_reducible repeat (first | apply Kd.N_alloc | apply Kd.N_drewN | apply Kd.N_drew));exact HO_5.out) (Kd.N_base ho0) hb);have n1_:=Aside0.mk (Kd.R_below (by (with_reducible repeat (first | apply Kd.R_alloc | apply Kd.R_drewN | apply Kd.R_drew));exact HO_6.out) hb);have n2_:=Aside0.mk (Kd.N_lower (Kd.N_mono (ok':=fun k_ => some k_ ≠ (u6 : Value).ownBlock ∧ k_ ≠ gb843) ho0 (fun k_ hk_ => ⟨Or.elim hk_ (fun hs_ => hs_.1) (fun hn_ => (Kd.fresh' (Kd.R_lt (by (with_reducible repeat (first | apply Kd.R_alloc | apply Kd.R_drewN | apply Kd.R_drew));exact HO_6.out)) k_ hn_)),Or.elim hk_ (fun hs_ => hs_.2) (fun hn_ => (Kd.freshB (g:=gb843) (o:=.cells #[.int .i64 ((rd_T32 l0 x7_1).f0),.int .i64 (wrap64 (x7_1 + 1)),.int .i64 ((rd_T32 l0 x7_1).f2),.int .i64 ((rd_T32 l0 x7_1).f3),.int .i64 ((rd_T32 l0 x7_1).f4),.int .i64 ((rd_T32 l0 x7_1).f5),.float .f64 ((rd_T32 l0 x7_1).f6.f0),.bool ((rd_T32 l0 x7_1).f6.f1),.slice A841_8 ((rd_T32 l0 x7_1).f6.f2).length c841_8,.int .i64 ((rd_T32 l0 x7_1).f6.f3),.int .i64 ((rd_T32 l0 x7_1).f6.f4.f0),.int .i64 ((rd_T32 l0 x7_1).f6.f4.f1)] 32 (0,0)) (by (with_reducible repeat (first | refine blk_drewN ?_ _ | refine blk_drew ?_ | refine blk_alloc ?_ _));exact BK843.out) k_ hn_))⟩)) (below_size (by repeat (first | (with_reducible first | exact HB.out | apply below_alloc | apply pw_below_drewN | apply below_drew1 | refine below_set ?_ GE843.out) | exact HB.out))));have n3_:=Aside0.mk (blk_below (g:=gb843) (o:=.cells #[.int .i64 ((rd_T32 l0 x7_1).f0),.int .i64 (wrap64 (x7_1 + 1)),.int .i64 ((rd_T32 l0 x7_1).f2),.int .i64 ((rd_T32 l0 x7_1).f3),.int .i64 ((rd_T32 l0 x7_1).f4),.int .i64 ((rd_T32 l0 x7_1).f5),.float .f64 ((rd_T32 l0 x7_1).f6.f0),.bool ((rd_T32 l0 x7_1).f6.f1),.slice A841_8 ((rd_T32 l0 x7_1).f6.f2).length c841_8,.int .i64 ((rd_T32 l0 x7_1).f6.f3),.int .i64 ((rd_T32 l0 x7_1).f6.f4.f0),.int .i64 ((rd_T32 l0 x7_1).f6.f4.f1)] 32 (0,0)) (by (with_reducible repeat (first | refine blk_drewN ?_ _ | refine blk_drew ?_ | refine blk_alloc ?_ _));exact BK843.out) hb);have n4_:=Aside0.mk (below_step (by repeat (first | (with_reducible first | exact HB.out | apply below_alloc | apply pw_below_drewN | apply below_drew1 | refine below_set ?_ GE843.out) | exact HB.out)) hb);clear HO_5;clear HO_6;clear BK843;clear HB;have HO_5:=n0_;have HO_6:=n1_;have HO846:=n2_;have BK843:=n3_;have HB:=n4_;clear n0_ n1_ n2_ n3_ n4_;(try clear hb);(try clear hb2);(try clear hk);(try clear hi);(try clear ho0)))
          (try simp only [Act.put,List.setIfInBounds_toArray,List.set_cons_zero,List.set_cons_succ])
          go_cut [52] (fun v52 wc => ∃ (kq : Nat) (x52_15 : Bool),v52 = .bool x52_15 ∧ Aside0 (humuslaw14_UndoOnce.j3 kq l0 l1 x5_1 x6_1 x7_1 t844 t847 x52_15 ((rd_T32 l0 x7_1).f0) (wrap64 (x7_1 + 1)) ((rd_T32 l0 x7_1).f2) ((rd_T32 l0 x7_1).f3) ((rd_T32 l0 x7_1).f4) ((rd_T32 l0 x7_1).f5) ((rd_T32 l0 x7_1).f6.f0) ((rd_T32 l0 x7_1).f6.f1) ((rd_T32 l0 x7_1).f6.f2) ((rd_T32 l0 x7_1).f6.f3) ((rd_T32 l0 x7_1).f6.f4.f0) ((rd_T32 l0 x7_1).f6.f4.f1) = some r) ∧ Aside0 (kq ≤ kj7) ∧ Aside0 (Kd.N k32 32 wc w.heap.size (fun k_ => some k_ ≠ (u6 : Value).ownBlock ∧ some k_ ≠ (v845 : Value).ownBlock ∧ k_ ≠ gb843) (.slice Ao23 x5_1.length co23) x5_1) ∧ Aside0 (Kd.R k28 28 wc w.heap.size (fun _ => True) u6 x6_1) ∧ Aside0 (Kd.N k32 32 wc w.heap.size (fun k_ => some k_ ≠ (u6 : Value).ownBlock ∧ k_ ≠ gb843) v845 t844) ∧ Aside0 (wc.heap[gb843]? = some (.cells #[.int .i64 ((rd_T32 l0 x7_1).f0),.int .i64 (wrap64 (x7_1 + 1)),.int .i64 ((rd_T32 l0 x7_1).f2),.int .i64 ((rd_T32 l0 x7_1).f3),.int .i64 ((rd_T32 l0 x7_1).f4),.int .i64 ((rd_T32 l0 x7_1).f5),.float .f64 ((rd_T32 l0 x7_1).f6.f0),.bool ((rd_T32 l0 x7_1).f6.f1),(.slice A841_8 ((rd_T32 l0 x7_1).f6.f2).length c841_8),.int .i64 ((rd_T32 l0 x7_1).f6.f3),.int .i64 ((rd_T32 l0 x7_1).f6.f4.f0),.int .i64 ((rd_T32 l0 x7_1).f6.f4.f1)] 32 (0,0))) ∧ Aside0 (Below w.heap.size w wc))
          case first =>
           have H:=HC16.out
           clear HC16
           have H':=Aside0.mk H
           clear H
           go_wp2
           go_meet
           case rel => exact ⟨_,((t848 == 0)),(by first | rfl | (simp;done) | (simp [*];done)),H',⟨by have:=HK1.out;have:=HJ7.out;first | omega | exact Nat.le_refl _⟩,⟨by (with_reducible repeat (first | apply Kd.N_alloc | apply Kd.N_drewN | apply Kd.N_drew));exact Kd.N_mono HO_5.out (fun _ hk => ⟨hk.1.1,⟨hk.2,hk.1.2⟩⟩)⟩,⟨by (with_reducible repeat (first | apply Kd.R_alloc | apply Kd.R_drewN | apply Kd.R_drew));exact HO_6.out⟩,⟨by (with_reducible repeat (first | apply Kd.N_alloc | apply Kd.N_drewN | apply Kd.N_drew));exact HO846.out⟩,⟨by (with_reducible repeat (first | refine blk_drewN ?_ _ | refine blk_drew ?_ | refine blk_alloc ?_ _));exact BK843.out⟩,⟨by repeat (first | (with_reducible first | exact HB.out | apply below_alloc | apply pw_below_drewN | apply below_drew1 | refine below_set ?_ GE843.out) | exact HB.out)⟩⟩
          case rest =>
           clear HC16
           try clear c1
           try clear p2
           try clear c3
           try clear c3b0
           try clear c3b1
           try clear p6
           try clear c8
           try clear p8
           try clear q8
           try clear hx8
           try clear c9
           try clear c9b0
           try clear c10
           try clear c11
           try clear c11b0
           try clear c12
           try clear c12b0
           try clear c13
           try clear c13b0
           try clear c13b1
           try clear c15
           try clear hcz18_0
           try clear hcz18_1
           try clear hcz18_10
           try clear hcz18_11
           try clear hcz18_2
           try clear hcz18_3
           try clear hcz18_4
           try clear hcz18_5
           try clear hcz18_6
           try clear hcz18_7
           try clear hcz18_8
           try clear hcz18_9
           try clear hcz20_0
           try clear hcz20_1
           try clear hcz20_10
           try clear hcz20_11
           try clear hcz20_2
           try clear hcz20_3
           try clear hcz20_4
           try clear hcz20_5
           try clear hcz20_6
           try clear hcz20_7
           try clear hcz20_8
           try clear hcz20_9
           try clear hcz22_0
           try clear hcz22_1
           try clear hcz22_10
           try clear hcz22_11
           try clear hcz22_2
           try clear hcz22_3
           try clear hcz22_4
           try clear hcz22_5
           try clear hcz22_6
           try clear hcz22_7
           try clear hcz22_8
           try clear hcz22_9
           try clear hfz18_0
           try clear hfz18_1
           try clear hfz18_10
           try clear hfz18_11
           try clear hfz18_2
           try clear hfz18_3
           try clear hfz18_4
           try clear hfz18_5
           try clear hfz18_6
           try clear hfz18_7
           try clear hfz18_8
           try clear hfz18_9
           try clear hfz20_0
           try clear hfz20_1
           try clear hfz20_10
           try clear hfz20_11
           try clear hfz20_2
           try clear hfz20_3
           try clear hfz20_4
           try clear hfz20_5
           try clear hfz20_6
           try clear hfz20_7
           try clear hfz20_8
           try clear hfz20_9
           try clear hfz22_0
           try clear hfz22_1
           try clear hfz22_10
           try clear hfz22_11
           try clear hfz22_2
           try clear hfz22_3
           try clear hfz22_4
           try clear hfz22_5
           try clear hfz22_6
           try clear hfz22_7
           try clear hfz22_8
           try clear hfz22_9
           try clear hx841_0
           try clear hx841_1
           try clear hx841_10
           try clear hx841_11
           try clear hx841_2
           try clear hx841_3
           try clear hx841_4
           try clear hx841_5
           try clear hx841_6
           try clear hx841_7
           try clear hx841_8
           try clear hx841_9
           try clear hx842_0
           try clear hx842_1
           try clear hx842_10
           try clear hx842_11
           try clear hx842_2
           try clear hx842_3
           try clear hx842_4
           try clear hx842_5
           try clear hx842_6
           try clear hx842_7
           try clear hx842_8
           try clear hx842_9
           try clear p2
           try clear p6
           try clear p8
           try clear p841
           try clear p842
           try clear q8
           try clear q841
           try clear q842
           obtain ⟨kq,x52_15,rfl,HA,HJ15,HO_5,HO_6,HO_9,BK843,HB⟩:=hcut
           cases kq with
           | zero => exact absurd HA.out (by simp [humuslaw14_UndoOnce.j3])
           | succ kj15 =>
            have H:=HA.out
            clear HA
            simp only [humuslaw14_UndoOnce.j3] at H
            have HC25:=Aside0.mk H
            clear H
            go_upto_if 52 with (fail)
            go_cut [5,6] (fun v5 v6 wc => ∃ (kq : Nat) (x5_24 : List (S32)) (x6_24 : List (S28)),Aside0 (humuslaw14_UndoOnce.j4 kq l0 l1 x5_24 x6_24 x7_1 = some r) ∧ Aside0 (kq ≤ kj15) ∧ Aside0 (Kd.N k32 32 wc w.heap.size (fun k_ => some k_ ≠ (v6 : Value).ownBlock ∧ k_ ≠ gb843) v5 x5_24) ∧ Aside0 (Kd.R k28 28 wc w.heap.size (fun _ => True) v6 x6_24) ∧ Aside0 (wc.heap[gb843]? = some (.cells #[.int .i64 ((rd_T32 l0 x7_1).f0),.int .i64 (wrap64 (x7_1 + 1)),.int .i64 ((rd_T32 l0 x7_1).f2),.int .i64 ((rd_T32 l0 x7_1).f3),.int .i64 ((rd_T32 l0 x7_1).f4),.int .i64 ((rd_T32 l0 x7_1).f5),.float .f64 ((rd_T32 l0 x7_1).f6.f0),.bool ((rd_T32 l0 x7_1).f6.f1),(.slice A841_8 ((rd_T32 l0 x7_1).f6.f2).length c841_8),.int .i64 ((rd_T32 l0 x7_1).f6.f3),.int .i64 ((rd_T32 l0 x7_1).f6.f4.f0),.int .i64 ((rd_T32 l0 x7_1).f6.f4.f1)] 32 (0,0))) ∧ Aside0 (Below w.heap.size w wc))
            case first =>
             have H:=HC25.out
             clear HC25
             by_cases c26 : x52_15 = true
             ·subst c26
              have H1 : (if x6_1.length < 8796093022208 then (humuslaw14_UndoOnce.j4 kj15 l0 l1 t844 (x6_1 ++ [(⟨t847,(wrap64 (x7_1 + 1))⟩ : S28)]) x7_1) else (none)) = some r:=by rw [if_pos rfl] at H;exact H
              clear H
              have H:=H1
              clear H1
              by_cases c27 : x6_1.length < 8796093022208
              ·rw [if_pos c27] at H
               have LMc27:=Aside0.mk c27
               clear c27
               obtain ⟨y849,hy849⟩ : ∃ y_ : List (S28),y_ = (x6_1 ++ [(⟨t847,(wrap64 (x7_1 + 1))⟩ : S28)]):=⟨_,rfl⟩
               replace H : (humuslaw14_UndoOnce.j4 kj15 l0 l1 t844 y849 x7_1) = some r:=by first | (rw [hy849];with_reducible exact H) | (have H2_:=(Option.bind_some _ _).symm.trans H;rw [hy849];with_reducible exact H2_) | (have H2_:=(Option.bind_some _ _).symm.trans H;with_reducible exact H2_) | with_reducible exact H | (rw [hy849];exact H) | exact H
               have Ny849:=Aside0.mk hy849
               clear hy849
               have H':=Aside0.mk H
               clear H
               obtain ⟨hcz28_0,hcz28_1,hcz28_2,hcz28_3,hcz28_4,hcz28_5,hcz28_6,hcz28_7,hcz28_8,hcz28_9,hcz28_10,hcz28_11⟩:=blkc_12 BK843.out
               obtain ⟨hfz28_0,hfz28_1,hfz28_2,hfz28_3,hfz28_4,hfz28_5,hfz28_6,hfz28_7,hfz28_8,hfz28_9,hfz28_10,hfz28_11⟩:=blkz_12 BK843.out
               go_wp2_with (first | ((with_reducible refine gate_builtin (b:=.append) (xs:=#[.tmp 53,.tmp 58]) rfl ?_);at_builtin;refine Kd.R_append k28 (w0:=w) w.heap.size rfl (.tmp 53) (.tmp 58) 24 28 (.agg #[(.int .i64 0),(.int .i64 0)]) 16 rfl Try.underlying24 info28 rfl (by decide) (by omega) u6 x6_1 (⟨t847,(wrap64 (x7_1 + 1))⟩ : S28) [.int .i64 t847,.int .i64 (wrap64 (x7_1 + 1))] (fun _ => True) (fun _ => False) rfl rfl ?aP (fun _ hk => hk.elim) ?aF ?aO ?aB ?aS ?aL ?_;(case aP => exact k28_mkM _ _ _ (⟨t847,(wrap64 (x7_1 + 1))⟩ : S28));(case aB => exact (by repeat (first | (with_reducible first | exact HB.out | apply below_alloc | apply pw_below_drewN | apply below_drew1 | refine below_set ?_ GE843.out) | exact HB.out)));(case aF => exact (fun _ _ => trivial));(case aO => exact (by (with_reducible repeat (first | apply Kd.R_alloc | apply Kd.R_drewN | apply Kd.R_drew));exact HO_6.out));(case aS => exact (below_size (by repeat (first | (with_reducible first | exact HB.out | apply below_alloc | apply pw_below_drewN | apply below_drew1 | refine below_set ?_ GE843.out) | exact HB.out))));(case aL => have:=LMc27.out;omega);intro v850 w29 ho hb hg hat;rw [← Ny849.out] at ho;have n0_:=Aside0.mk (Kd.N_afterv (ok:=(fun k_ => some k_ ≠ (v845 : Value).ownBlock ∧ k_ ≠ gb843)) (by (with_reducible repeat (first | apply Kd.N_alloc | apply Kd.N_drewN | apply Kd.N_drew));exact Kd.N_mono HO_5.out (fun _ hk => ⟨⟨hk.2.1,hk.2.2⟩,hk.1⟩)) hg hat);have n1_:=Aside0.mk (Kd.N_afterv (ok:=(fun k_ => k_ ≠ gb843)) (by (with_reducible repeat (first | apply Kd.N_alloc | apply Kd.N_drewN | apply Kd.N_drew));exact Kd.N_mono HO_9.out (fun _ hk => ⟨hk.2,hk.1⟩)) hg hat);have n2_:=Aside0.mk (blk_grown (g:=gb843) (o:=.cells #[.int .i64 ((rd_T32 l0 x7_1).f0),.int .i64 (wrap64 (x7_1 + 1)),.int .i64 ((rd_T32 l0 x7_1).f2),.int .i64 ((rd_T32 l0 x7_1).f3),.int .i64 ((rd_T32 l0 x7_1).f4),.int .i64 ((rd_T32 l0 x7_1).f5),.float .f64 ((rd_T32 l0 x7_1).f6.f0),.bool ((rd_T32 l0 x7_1).f6.f1),.slice A841_8 ((rd_T32 l0 x7_1).f6.f2).length c841_8,.int .i64 ((rd_T32 l0 x7_1).f6.f3),.int .i64 ((rd_T32 l0 x7_1).f6.f4.f0),.int .i64 ((rd_T32 l0 x7_1).f6.f4.f1)] 32 (0,0)) (by (with_reducible repeat (first | refine blk_drewN ?_ _ | refine blk_drew ?_ | refine blk_alloc ?_ _));exact BK843.out) hg (Kd.R_ne HO_6.out BK843.out (by decide)));have n3_:=Aside0.mk (hb);have n4_:=Aside0.mk (ho);clear HO_5;clear HO_9;clear BK843;clear HB;clear HO_6;have HO_5:=n0_;have HO_9:=n1_;have BK843:=n2_;have HB:=n3_;have HO851:=n4_;clear n0_ n1_ n2_ n3_ n4_;clear ho hb hg hat))
               go_meet
               case rel => exact ⟨_,(t844),(y849),H',⟨by have:=HK1.out;have:=HJ7.out;have:=HJ15.out;first | omega | exact Nat.le_refl _⟩,⟨by (with_reducible repeat (first | apply Kd.N_alloc | apply Kd.N_drewN | apply Kd.N_drew));exact Kd.N_mono HO_9.out (fun _ hk => ⟨hk.2,hk.1⟩)⟩,⟨by (with_reducible repeat (first | apply Kd.R_alloc | apply Kd.R_drewN | apply Kd.R_drew));exact HO851.out⟩,⟨by (with_reducible repeat (first | refine blk_drewN ?_ _ | refine blk_drew ?_ | refine blk_alloc ?_ _));exact BK843.out⟩,⟨by repeat (first | (with_reducible first | exact HB.out | apply below_alloc | apply pw_below_drewN | apply below_drew1 | refine below_set ?_ GE843.out) | exact HB.out)⟩⟩
              ·rw [if_neg c27] at H
               exact absurd H (by simp)
             ·replace c26:=Bool.eq_false_iff.mpr c26
              subst c26
              have H1 : (humuslaw14_UndoOnce.j4 kj15 l0 l1 x5_1 x6_1 x7_1) = some r:=by rw [if_neg (show ¬ (false = true) by decide)] at H;exact H
              clear H
              have H:=H1
              clear H1
              have H':=Aside0.mk H
              clear H
              go_wp2
              go_meet
              case rel => exact ⟨_,(x5_1),(x6_1),H',⟨by have:=HK1.out;have:=HJ7.out;have:=HJ15.out;first | omega | exact Nat.le_refl _⟩,⟨by (with_reducible repeat (first | apply Kd.N_alloc | apply Kd.N_drewN | apply Kd.N_drew));exact Kd.N_mono HO_5.out (fun _ hk => ⟨hk.1,hk.2.2⟩)⟩,⟨by (with_reducible repeat (first | apply Kd.R_alloc | apply Kd.R_drewN | apply Kd.R_drew));exact HO_6.out⟩,⟨by (with_reducible repeat (first | refine blk_drewN ?_ _ | refine blk_drew ?_ | refine blk_alloc ?_ _));exact BK843.out⟩,⟨by repeat (first | (with_reducible first | exact HB.out | apply below_alloc | apply pw_below_drewN | apply below_drew1 | refine below_set ?_ GE843.out) | exact HB.out)⟩⟩
            case rest =>
             clear HC25
             try clear c1
             try clear c2
             try clear p2
             try clear c3
             try clear c3b0
             try clear c3b1
             try clear p6
             try clear c8
             try clear p8
             try clear q8
             try clear hx8
             try clear c9
             try clear c9b0
             try clear c10
             try clear c11
             try clear c11b0
             try clear c12
             try clear c12b0
             try clear c13
             try clear c13b0
             try clear c13b1
             try clear c15
             try clear c26
             try clear c27
             try clear hcz18_0
             try clear hcz18_1
             try clear hcz18_10
             try clear hcz18_11
             try clear hcz18_2
             try clear hcz18_3
             try clear hcz18_4
             try clear hcz18_5
             try clear hcz18_6
             try clear hcz18_7
             try clear hcz18_8
             try clear hcz18_9
             try clear hcz20_0
             try clear hcz20_1
             try clear hcz20_10
             try clear hcz20_11
             try clear hcz20_2
             try clear hcz20_3
             try clear hcz20_4
             try clear hcz20_5
             try clear hcz20_6
             try clear hcz20_7
             try clear hcz20_8
             try clear hcz20_9
             try clear hcz22_0
             try clear hcz22_1
             try clear hcz22_10
             try clear hcz22_11
             try clear hcz22_2
             try clear hcz22_3
             try clear hcz22_4
             try clear hcz22_5
             try clear hcz22_6
             try clear hcz22_7
             try clear hcz22_8
             try clear hcz22_9
             try clear hcz28_0
             try clear hcz28_1
             try clear hcz28_10
             try clear hcz28_11
             try clear hcz28_2
             try clear hcz28_3
             try clear hcz28_4
             try clear hcz28_5
             try clear hcz28_6
             try clear hcz28_7
             try clear hcz28_8
             try clear hcz28_9
             try clear hfz18_0
             try clear hfz18_1
             try clear hfz18_10
             try clear hfz18_11
             try clear hfz18_2
             try clear hfz18_3
             try clear hfz18_4
             try clear hfz18_5
             try clear hfz18_6
             try clear hfz18_7
             try clear hfz18_8
             try clear hfz18_9
             try clear hfz20_0
             try clear hfz20_1
             try clear hfz20_10
             try clear hfz20_11
             try clear hfz20_2
             try clear hfz20_3
             try clear hfz20_4
             try clear hfz20_5
             try clear hfz20_6
             try clear hfz20_7
             try clear hfz20_8
             try clear hfz20_9
             try clear hfz22_0
             try clear hfz22_1
             try clear hfz22_10
             try clear hfz22_11
             try clear hfz22_2
             try clear hfz22_3
             try clear hfz22_4
             try clear hfz22_5
             try clear hfz22_6
             try clear hfz22_7
             try clear hfz22_8
             try clear hfz22_9
             try clear hfz28_0
             try clear hfz28_1
             try clear hfz28_10
             try clear hfz28_11
             try clear hfz28_2
             try clear hfz28_3
             try clear hfz28_4
             try clear hfz28_5
             try clear hfz28_6
             try clear hfz28_7
             try clear hfz28_8
             try clear hfz28_9
             try clear hx841_0
             try clear hx841_1
             try clear hx841_10
             try clear hx841_11
             try clear hx841_2
             try clear hx841_3
             try clear hx841_4
             try clear hx841_5
             try clear hx841_6
             try clear hx841_7
             try clear hx841_8
             try clear hx841_9
             try clear hx842_0
             try clear hx842_1
             try clear hx842_10
             try clear hx842_11
             try clear hx842_2
             try clear hx842_3
             try clear hx842_4
             try clear hx842_5
             try clear hx842_6
             try clear hx842_7
             try clear hx842_8
             try clear hx842_9
             try clear p2
             try clear p6
             try clear p8
             try clear p841
             try clear p842
             try clear q8
             try clear q841
             try clear q842
             obtain ⟨kq,x5_24,x6_24,HA,HJ24,HO_5,HO_6,BK843,HB⟩:=hcut
             cases kq with
             | zero => exact absurd HA.out (by simp [humuslaw14_UndoOnce.j4])
             | succ kj24 =>
              have H:=HA.out
              clear HA
              simp only [humuslaw14_UndoOnce.j4] at H
              have HC30:=Aside0.mk H
              clear H
              go_upto_region 13 with (fail)
              go_cut [72] (fun v72 wc => ∃ (kq : Nat) (x72_29 : Bool),v72 = .bool x72_29 ∧ Aside0 (humuslaw14_UndoOnce.j5 kq l0 l1 x5_24 x6_24 x7_1 x72_29 = some r) ∧ Aside0 (kq ≤ kj24) ∧ Aside0 (Kd.N k32 32 wc w.heap.size (fun k_ => some k_ ≠ (u6 : Value).ownBlock ∧ k_ ≠ gb843) u5 x5_24) ∧ Aside0 (Kd.R k28 28 wc w.heap.size (fun _ => True) u6 x6_24) ∧ Aside0 (wc.heap[gb843]? = some (.cells #[.int .i64 ((rd_T32 l0 x7_1).f0),.int .i64 (wrap64 (x7_1 + 1)),.int .i64 ((rd_T32 l0 x7_1).f2),.int .i64 ((rd_T32 l0 x7_1).f3),.int .i64 ((rd_T32 l0 x7_1).f4),.int .i64 ((rd_T32 l0 x7_1).f5),.float .f64 ((rd_T32 l0 x7_1).f6.f0),.bool ((rd_T32 l0 x7_1).f6.f1),(.slice A841_8 ((rd_T32 l0 x7_1).f6.f2).length c841_8),.int .i64 ((rd_T32 l0 x7_1).f6.f3),.int .i64 ((rd_T32 l0 x7_1).f6.f4.f0),.int .i64 ((rd_T32 l0 x7_1).f6.f4.f1)] 32 (0,0))) ∧ Aside0 (Below w.heap.size w wc))
              case first =>
               have H:=HC30.out
               clear HC30
               by_cases c31 : x7_1 < (l1.length : Int)
               ·rw [if_pos c31] at H
                have c31b0 : decide (x7_1 < (l1.length : Int)) = true:=decide_eq_true c31
                clear c31
                (first | rw [c31b0] | (simp only [i64_w,i32_w];rw [c31b0]) | skip)
                by_cases c32 : 0 ≤ x7_1
                ·rw [if_pos c32] at H
                 have c32b0 : decide (0 ≤ x7_1) = true:=decide_eq_true c32
                 clear c32
                 have H':=Aside0.mk H
                 clear H
                 have p852 : 0 ≤ (x7_1 : Int):=of_decide_eq_true (by first | (with_reducible assumption) | assumption)
                 have q852 : x7_1 < (l1.length : Int):=of_decide_eq_true (by first | (with_reducible assumption) | assumption)
                 obtain ⟨ad852,e852,hx852_0⟩:=Kd.at_int HR1.out x7_1 p852 q852
                 cases e852
                 replace hx852_0:=(HB.out.cell (World.block_lt_of_cell? w _ hx852_0)).trans hx852_0
                 replace p852:=eq_true p852
                 replace q852:=eq_true q852
                 go_wp2
                 go_meet
                 case rel => exact ⟨_,(((Int.tmod (rd l1 x7_1) 2) == 0)),(by first | rfl | (simp;done) | (simp [*];done)),H',⟨by have:=HK1.out;have:=HJ7.out;have:=HJ15.out;have:=HJ24.out;first | omega | exact Nat.le_refl _⟩,⟨by (with_reducible repeat (first | apply Kd.N_alloc | apply Kd.N_drewN | apply Kd.N_drew));exact HO_5.out⟩,⟨by (with_reducible repeat (first | apply Kd.R_alloc | apply Kd.R_drewN | apply Kd.R_drew));exact HO_6.out⟩,⟨by (with_reducible repeat (first | refine blk_drewN ?_ _ | refine blk_drew ?_ | refine blk_alloc ?_ _));exact BK843.out⟩,⟨by repeat (first | (with_reducible first | exact HB.out | apply below_alloc | apply pw_below_drewN | apply below_drew1 | refine below_set ?_ GE843.out) | exact HB.out)⟩⟩
                ·rw [if_neg c32] at H
                 exact absurd H (by simp)
               ·rw [if_neg c31] at H
                have c31b0 : decide (x7_1 < (l1.length : Int)) = false:=decide_eq_false c31
                clear c31
                (first | rw [c31b0] | (simp only [i64_w,i32_w];rw [c31b0]) | skip)
                have H':=Aside0.mk H
                clear H
                go_wp2
                go_meet
                case rel => exact ⟨_,(false),(by first | rfl | (simp;done) | (simp [*];done)),H',⟨by have:=HK1.out;have:=HJ7.out;have:=HJ15.out;have:=HJ24.out;first | omega | exact Nat.le_refl _⟩,⟨by (with_reducible repeat (first | apply Kd.N_alloc | apply Kd.N_drewN | apply Kd.N_drew));exact HO_5.out⟩,⟨by (with_reducible repeat (first | apply Kd.R_alloc | apply Kd.R_drewN | apply Kd.R_drew));exact HO_6.out⟩,⟨by (with_reducible repeat (first | refine blk_drewN ?_ _ | refine blk_drew ?_ | refine blk_alloc ?_ _));exact BK843.out⟩,⟨by repeat (first | (with_reducible first | exact HB.out | apply below_alloc | apply pw_below_drewN | apply below_drew1 | refine below_set ?_ GE843.out) | exact HB.out)⟩⟩
              case rest =>
               clear HC30
               try clear c1
               try clear c2
               try clear p2
               try clear c3
               try clear c3b0
               try clear c3b1
               try clear p6
               try clear c8
               try clear p8
               try clear q8
               try clear hx8
               try clear c9
               try clear c9b0
               try clear c10
               try clear c11
               try clear c11b0
               try clear c12
               try clear c12b0
               try clear c13
               try clear c13b0
               try clear c13b1
               try clear c15
               try clear c26
               try clear c27
               try clear c31
               try clear c31b0
               try clear c32
               try clear c32b0
               try clear hcz18_0
               try clear hcz18_1
               try clear hcz18_10
               try clear hcz18_11
               try clear hcz18_2
               try clear hcz18_3
               try clear hcz18_4
               try clear hcz18_5
               try clear hcz18_6
               try clear hcz18_7
               try clear hcz18_8
               try clear hcz18_9
               try clear hcz20_0
               try clear hcz20_1
               try clear hcz20_10
               try clear hcz20_11
               try clear hcz20_2
               try clear hcz20_3
               try clear hcz20_4
               try clear hcz20_5
               try clear hcz20_6
               try clear hcz20_7
               try clear hcz20_8
               try clear hcz20_9
               try clear hcz22_0
               try clear hcz22_1
               try clear hcz22_10
               try clear hcz22_11
               try clear hcz22_2
               try clear hcz22_3
               try clear hcz22_4
               try clear hcz22_5
               try clear hcz22_6
               try clear hcz22_7
               try clear hcz22_8
               try clear hcz22_9
               try clear hcz28_0
               try clear hcz28_1
               try clear hcz28_10
               try clear hcz28_11
               try clear hcz28_2
               try clear hcz28_3
               try clear hcz28_4
               try clear hcz28_5
               try clear hcz28_6
               try clear hcz28_7
               try clear hcz28_8
               try clear hcz28_9
               try clear hfz18_0
               try clear hfz18_1
               try clear hfz18_10
               try clear hfz18_11
               try clear hfz18_2
               try clear hfz18_3
               try clear hfz18_4
               try clear hfz18_5
               try clear hfz18_6
               try clear hfz18_7
               try clear hfz18_8
               try clear hfz18_9
               try clear hfz20_0
               try clear hfz20_1
               try clear hfz20_10
               try clear hfz20_11
               try clear hfz20_2
               try clear hfz20_3
               try clear hfz20_4
               try clear hfz20_5
               try clear hfz20_6
               try clear hfz20_7
               try clear hfz20_8
               try clear hfz20_9
               try clear hfz22_0
               try clear hfz22_1
               try clear hfz22_10
               try clear hfz22_11
               try clear hfz22_2
               try clear hfz22_3
               try clear hfz22_4
               try clear hfz22_5
               try clear hfz22_6
               try clear hfz22_7
               try clear hfz22_8
               try clear hfz22_9
               try clear hfz28_0
               try clear hfz28_1
               try clear hfz28_10
               try clear hfz28_11
               try clear hfz28_2
               try clear hfz28_3
               try clear hfz28_4
               try clear hfz28_5
               try clear hfz28_6
               try clear hfz28_7
               try clear hfz28_8
               try clear hfz28_9
               try clear hx841_0
               try clear hx841_1
               try clear hx841_10
               try clear hx841_11
               try clear hx841_2
               try clear hx841_3
               try clear hx841_4
               try clear hx841_5
               try clear hx841_6
               try clear hx841_7
               try clear hx841_8
               try clear hx841_9
               try clear hx842_0
               try clear hx842_1
               try clear hx842_10
               try clear hx842_11
               try clear hx842_2
               try clear hx842_3
               try clear hx842_4
               try clear hx842_5
               try clear hx842_6
               try clear hx842_7
               try clear hx842_8
               try clear hx842_9
               try clear hx852_0
               try clear p2
               try clear p6
               try clear p8
               try clear p841
               try clear p842
               try clear p852
               try clear q8
               try clear q841
               try clear q842
               try clear q852
               obtain ⟨kq,x72_29,rfl,HA,HJ29,HO_5,HO_6,BK843,HB⟩:=hcut
               cases kq with
               | zero => exact absurd HA.out (by simp [humuslaw14_UndoOnce.j5])
               | succ kj29 =>
                have H:=HA.out
                clear HA
                simp only [humuslaw14_UndoOnce.j5] at H
                have HC33:=Aside0.mk H
                clear H
                go_upto_if 72 with (fail)
                go_cut [5] (fun v5 wc => ∃ (kq : Nat) (x5_32 : List (S32)),Aside0 (humuslaw14_UndoOnce.j7 kq l0 l1 x5_32 x6_24 x7_1 = some r) ∧ Aside0 (kq ≤ kj29) ∧ Aside0 (Kd.N k32 32 wc w.heap.size (fun k_ => some k_ ≠ (u6 : Value).ownBlock ∧ k_ ≠ gb843) v5 x5_32) ∧ Aside0 (Kd.R k28 28 wc w.heap.size (fun _ => True) u6 x6_24) ∧ Aside0 (wc.heap[gb843]? = some (.cells #[.int .i64 ((rd_T32 l0 x7_1).f0),.int .i64 (wrap64 (x7_1 + 1)),.int .i64 ((rd_T32 l0 x7_1).f2),.int .i64 ((rd_T32 l0 x7_1).f3),.int .i64 ((rd_T32 l0 x7_1).f4),.int .i64 ((rd_T32 l0 x7_1).f5),.float .f64 ((rd_T32 l0 x7_1).f6.f0),.bool ((rd_T32 l0 x7_1).f6.f1),(.slice A841_8 ((rd_T32 l0 x7_1).f6.f2).length c841_8),.int .i64 ((rd_T32 l0 x7_1).f6.f3),.int .i64 ((rd_T32 l0 x7_1).f6.f4.f0),.int .i64 ((rd_T32 l0 x7_1).f6.f4.f1)] 32 (0,0))) ∧ Aside0 (Below w.heap.size w wc))
                case first =>
                 have H:=HC33.out
                 clear HC33
                 by_cases c34 : x72_29 = true
                 ·subst c34
                  have H1 : (if 0 ≤ x7_1 then (if x7_1 < (l1.length : Int) then ((undo_Drop.f x5_24 (1 + (((Int.tdiv (rd l1 x7_1) 2) % 256) % 7))).bind fun bt854 => (humuslaw14_UndoOnce.j6 kj29 l0 l1 x5_24 x6_24 x7_1 bt854.1 (bt854.2 == 0))) else (none)) else (none)) = some r:=by rw [if_pos rfl] at H;exact H
                  clear H
                  have H:=H1
                  clear H1
                  by_cases c35 : 0 ≤ x7_1
                  ·rw [if_pos c35] at H
                   have c35b0 : decide (0 ≤ x7_1) = true:=decide_eq_true c35
                   clear c35
                   (first | rw [c35b0] | (simp only [i64_w,i32_w];rw [c35b0]) | skip)
                   by_cases c36 : x7_1 < (l1.length : Int)
                   ·rw [if_pos c36] at H
                    have c36b0 : decide (x7_1 < (l1.length : Int)) = true:=decide_eq_true c36
                    clear c36
                    replace H:=Option.bind_eq_some_iff.mp H
                    obtain ⟨⟨t854,t857⟩,A370,H⟩:=H
                    replace H : (humuslaw14_UndoOnce.j6 kj29 l0 l1 x5_24 x6_24 x7_1 t854 (t857 == 0)) = some r:=H
                    have A37:=Aside0.mk A370
                    clear A370
                    have HC38:=Aside0.mk H
                    clear H
                    have p853 : 0 ≤ (x7_1 : Int):=of_decide_eq_true (by first | (with_reducible assumption) | assumption)
                    have q853 : x7_1 < (l1.length : Int):=of_decide_eq_true (by first | (with_reducible assumption) | assumption)
                    obtain ⟨ad853,e853,hx853_0⟩:=Kd.at_int HR1.out x7_1 p853 q853
                    cases e853
                    replace hx853_0:=(HB.out.cell (World.block_lt_of_cell? w _ hx853_0)).trans hx853_0
                    replace p853:=eq_true p853
                    replace q853:=eq_true q853
                    obtain ⟨Ao39,co39,eo39⟩:=Kd.N_slice HO_5.out
                    subst eo39
                    go_upto_region 15 with (first | ((with_reducible refine gate_callee (f:=16) rfl ?_);refine goesL_ (some 83) rfl rfl Try.func16 (by kernel_rfl) rfl #[.slice Ao39 x5_24.length co39,.int .i64 (1 + (((Int.tdiv (rd l1 x7_1) 2) % 256) % 7))] rfl (by (try simp only [List.map_toArray,List.map_cons,List.map_nil]);first | done | rfl | (simp only [List.length_drop,List.length_take];rfl)) ?_;(with_reducible refine (undo_Drop.calls (fun k_ => (some k_ ≠ (u6 : Value).ownBlock ∧ k_ ≠ gb843)) _ _ x5_24 (1 + (((Int.tdiv (rd l1 x7_1) 2) % 256) % 7)) t854 t857 _ ?side1 A37.out).mono ?_);(case side1 => exact Kd.N_V (HO_5.out));rintro e w40 ⟨v855,rfl,ho0,hb⟩;refine ⟨_,rfl,?_⟩;have n0_:=Aside0.mk (Kd.N_elder' (by (with_reducible repeat (first | apply Kd.N_alloc | apply Kd.N_drewN | apply Kd.N_drew));exact HO_5.out) (Kd.N_base ho0) hb);have n1_:=Aside0.mk (Kd.R_below (by (with_reducible repeat (first | apply Kd.R_alloc | apply Kd.R_drewN | apply Kd.R_drew));exact HO_6.out) hb);have n2_:=Aside0.mk (Kd.N_lower (Kd.N_mono (ok':=fun k_ => some k_ ≠ (u6 : Value).ownBlock ∧ k_ ≠ gb843) ho0 (fun k_ hk_ => ⟨Or.elim hk_ (fun hs_ => hs_.1) (fun hn_ => (Kd.fresh' (Kd.R_lt (by (with_reducible repeat (first | apply Kd.R_alloc | apply Kd.R_drewN | apply Kd.R_drew));exact HO_6.out)) k_ hn_)),Or.elim hk_ (fun hs_ => hs_.2) (fun hn_ => (Kd.freshB (g:=gb843) (o:=.cells #[.int .i64 ((rd_T32 l0 x7_1).f0),.int .i64 (wrap64 (x7_1 + 1)),.int .i64 ((rd_T32 l0 x7_1).f2),.int .i64 ((rd_T32 l0 x7_1).f3),.int .i64 ((rd_T32 l0 x7_1).f4),.int .i64 ((rd_T32 l0 x7_1).f5),.float .f64 ((rd_T32 l0 x7_1).f6.f0),.bool ((rd_T32 l0 x7_1).f6.f1),.slice A841_8 ((rd_T32 l0 x7_1).f6.f2).length c841_8,.int .i64 ((rd_T32 l0 x7_1).f6.f3),.int .i64 ((rd_T32 l0 x7_1).f6.f4.f0),.int .i64 ((rd_T32 l0 x7_1).f6.f4.f1)] 32 (0,0)) (by (with_reducible repeat (first | refine blk_drewN ?_ _ | refine blk_drew ?_ | refine blk_alloc ?_ _));exact BK843.out) k_ hn_))⟩)) (below_size (by repeat (first | (with_reducible first | exact HB.out | apply below_alloc | apply pw_below_drewN | apply below_drew1 | refine below_set ?_ GE843.out) | exact HB.out))));have n3_:=Aside0.mk (blk_below (g:=gb843) (o:=.cells #[.int .i64 ((rd_T32 l0 x7_1).f0),.int .i64 (wrap64 (x7_1 + 1)),.int .i64 ((rd_T32 l0 x7_1).f2),.int .i64 ((rd_T32 l0 x7_1).f3),.int .i64 ((rd_T32 l0 x7_1).f4),.int .i64 ((rd_T32 l0 x7_1).f5),.float .f64 ((rd_T32 l0 x7_1).f6.f0),.bool ((rd_T32 l0 x7_1).f6.f1),.slice A841_8 ((rd_T32 l0 x7_1).f6.f2).length c841_8,.int .i64 ((rd_T32 l0 x7_1).f6.f3),.int .i64 ((rd_T32 l0 x7_1).f6.f4.f0),.int .i64 ((rd_T32 l0 x7_1).f6.f4.f1)] 32 (0,0)) (by (with_reducible repeat (first | refine blk_drewN ?_ _ | refine blk_drew ?_ | refine blk_alloc ?_ _));exact BK843.out) hb);have n4_:=Aside0.mk (below_step (by repeat (first | (with_reducible first | exact HB.out | apply below_alloc | apply pw_below_drewN | apply below_drew1 | refine below_set ?_ GE843.out) | exact HB.out)) hb);clear HO_5;clear HO_6;clear BK843;clear HB;have HO_5:=n0_;have HO_6:=n1_;have HO856:=n2_;have BK843:=n3_;have HB:=n4_;clear n0_ n1_ n2_ n3_ n4_;(try clear hb);(try clear hb2);(try clear hk);(try clear hi);(try clear ho0)))
                    (try simp only [Act.put,List.setIfInBounds_toArray,List.set_cons_zero,List.set_cons_succ])
                    go_cut [87] (fun v87 wc => ∃ (kq : Nat) (x87_37 : Bool),v87 = .bool x87_37 ∧ Aside0 (humuslaw14_UndoOnce.j6 kq l0 l1 x5_24 x6_24 x7_1 t854 x87_37 = some r) ∧ Aside0 (kq ≤ kj29) ∧ Aside0 (Kd.N k32 32 wc w.heap.size (fun k_ => some k_ ≠ (u6 : Value).ownBlock ∧ some k_ ≠ (v855 : Value).ownBlock ∧ k_ ≠ gb843) (.slice Ao39 x5_24.length co39) x5_24) ∧ Aside0 (Kd.R k28 28 wc w.heap.size (fun _ => True) u6 x6_24) ∧ Aside0 (Kd.N k32 32 wc w.heap.size (fun k_ => some k_ ≠ (u6 : Value).ownBlock ∧ k_ ≠ gb843) v855 t854) ∧ Aside0 (wc.heap[gb843]? = some (.cells #[.int .i64 ((rd_T32 l0 x7_1).f0),.int .i64 (wrap64 (x7_1 + 1)),.int .i64 ((rd_T32 l0 x7_1).f2),.int .i64 ((rd_T32 l0 x7_1).f3),.int .i64 ((rd_T32 l0 x7_1).f4),.int .i64 ((rd_T32 l0 x7_1).f5),.float .f64 ((rd_T32 l0 x7_1).f6.f0),.bool ((rd_T32 l0 x7_1).f6.f1),(.slice A841_8 ((rd_T32 l0 x7_1).f6.f2).length c841_8),.int .i64 ((rd_T32 l0 x7_1).f6.f3),.int .i64 ((rd_T32 l0 x7_1).f6.f4.f0),.int .i64 ((rd_T32 l0 x7_1).f6.f4.f1)] 32 (0,0))) ∧ Aside0 (Below w.heap.size w wc))
                    case first =>
                     have H:=HC38.out
                     clear HC38
                     have H':=Aside0.mk H
                     clear H
                     go_wp2
                     go_meet
                     case rel => exact ⟨_,((t857 == 0)),(by first | rfl | (simp;done) | (simp [*];done)),H',⟨by have:=HK1.out;have:=HJ7.out;have:=HJ15.out;have:=HJ24.out;have:=HJ29.out;first | omega | exact Nat.le_refl _⟩,⟨by (with_reducible repeat (first | apply Kd.N_alloc | apply Kd.N_drewN | apply Kd.N_drew));exact Kd.N_mono HO_5.out (fun _ hk => ⟨hk.1.1,⟨hk.2,hk.1.2⟩⟩)⟩,⟨by (with_reducible repeat (first | apply Kd.R_alloc | apply Kd.R_drewN | apply Kd.R_drew));exact HO_6.out⟩,⟨by (with_reducible repeat (first | apply Kd.N_alloc | apply Kd.N_drewN | apply Kd.N_drew));exact HO856.out⟩,⟨by (with_reducible repeat (first | refine blk_drewN ?_ _ | refine blk_drew ?_ | refine blk_alloc ?_ _));exact BK843.out⟩,⟨by repeat (first | (with_reducible first | exact HB.out | apply below_alloc | apply pw_below_drewN | apply below_drew1 | refine below_set ?_ GE843.out) | exact HB.out)⟩⟩
                    case rest =>
                     clear HC38
                     try clear c1
                     try clear c2
                     try clear p2
                     try clear c3
                     try clear c3b0
                     try clear c3b1
                     try clear p6
                     try clear c8
                     try clear p8
                     try clear q8
                     try clear hx8
                     try clear c9
                     try clear c9b0
                     try clear c10
                     try clear c11
                     try clear c11b0
                     try clear c12
                     try clear c12b0
                     try clear c13
                     try clear c13b0
                     try clear c13b1
                     try clear c15
                     try clear c16
                     try clear c26
                     try clear c27
                     try clear c31
                     try clear c31b0
                     try clear c32
                     try clear c32b0
                     try clear c34
                     try clear c35
                     try clear c35b0
                     try clear c36
                     try clear c36b0
                     try clear hcz18_0
                     try clear hcz18_1
                     try clear hcz18_10
                     try clear hcz18_11
                     try clear hcz18_2
                     try clear hcz18_3
                     try clear hcz18_4
                     try clear hcz18_5
                     try clear hcz18_6
                     try clear hcz18_7
                     try clear hcz18_8
                     try clear hcz18_9
                     try clear hcz20_0
                     try clear hcz20_1
                     try clear hcz20_10
                     try clear hcz20_11
                     try clear hcz20_2
                     try clear hcz20_3
                     try clear hcz20_4
                     try clear hcz20_5
                     try clear hcz20_6
                     try clear hcz20_7
                     try clear hcz20_8
                     try clear hcz20_9
                     try clear hcz22_0
                     try clear hcz22_1
                     try clear hcz22_10
                     try clear hcz22_11
                     try clear hcz22_2
                     try clear hcz22_3
                     try clear hcz22_4
                     try clear hcz22_5
                     try clear hcz22_6
                     try clear hcz22_7
                     try clear hcz22_8
                     try clear hcz22_9
                     try clear hcz28_0
                     try clear hcz28_1
                     try clear hcz28_10
                     try clear hcz28_11
                     try clear hcz28_2
                     try clear hcz28_3
                     try clear hcz28_4
                     try clear hcz28_5
                     try clear hcz28_6
                     try clear hcz28_7
                     try clear hcz28_8
                     try clear hcz28_9
                     try clear hfz18_0
                     try clear hfz18_1
                     try clear hfz18_10
                     try clear hfz18_11
                     try clear hfz18_2
                     try clear hfz18_3
                     try clear hfz18_4
                     try clear hfz18_5
                     try clear hfz18_6
                     try clear hfz18_7
                     try clear hfz18_8
                     try clear hfz18_9
                     try clear hfz20_0
                     try clear hfz20_1
                     try clear hfz20_10
                     try clear hfz20_11
                     try clear hfz20_2
                     try clear hfz20_3
                     try clear hfz20_4
                     try clear hfz20_5
                     try clear hfz20_6
                     try clear hfz20_7
                     try clear hfz20_8
                     try clear hfz20_9
                     try clear hfz22_0
                     try clear hfz22_1
                     try clear hfz22_10
                     try clear hfz22_11
                     try clear hfz22_2
                     try clear hfz22_3
                     try clear hfz22_4
                     try clear hfz22_5
                     try clear hfz22_6
                     try clear hfz22_7
                     try clear hfz22_8
                     try clear hfz22_9
                     try clear hfz28_0
                     try clear hfz28_1
                     try clear hfz28_10
                     try clear hfz28_11
                     try clear hfz28_2
                     try clear hfz28_3
                     try clear hfz28_4
                     try clear hfz28_5
                     try clear hfz28_6
                     try clear hfz28_7
                     try clear hfz28_8
                     try clear hfz28_9
                     try clear hx841_0
                     try clear hx841_1
                     try clear hx841_10
                     try clear hx841_11
                     try clear hx841_2
                     try clear hx841_3
                     try clear hx841_4
                     try clear hx841_5
                     try clear hx841_6
                     try clear hx841_7
                     try clear hx841_8
                     try clear hx841_9
                     try clear hx842_0
                     try clear hx842_1
                     try clear hx842_10
                     try clear hx842_11
                     try clear hx842_2
                     try clear hx842_3
                     try clear hx842_4
                     try clear hx842_5
                     try clear hx842_6
                     try clear hx842_7
                     try clear hx842_8
                     try clear hx842_9
                     try clear hx852_0
                     try clear hx853_0
                     try clear p2
                     try clear p6
                     try clear p8
                     try clear p841
                     try clear p842
                     try clear p852
                     try clear p853
                     try clear q8
                     try clear q841
                     try clear q842
                     try clear q852
                     try clear q853
                     obtain ⟨kq,x87_37,rfl,HA,HJ37,HO_5,HO_6,HO_12,BK843,HB⟩:=hcut
                     cases kq with
                     | zero => exact absurd HA.out (by simp [humuslaw14_UndoOnce.j6])
                     | succ kj37 =>
                      have H:=HA.out
                      clear HA
                      simp only [humuslaw14_UndoOnce.j6] at H
                      by_cases c41 : x87_37 = true
                      ·subst c41
                       have H1 : (humuslaw14_UndoOnce.j7 kj37 l0 l1 t854 x6_24 x7_1) = some r:=by rw [if_pos rfl] at H;exact H
                       clear H
                       have H:=H1
                       clear H1
                       have H':=Aside0.mk H
                       clear H
                       go_wp2
                       go_meet
                       case rel => exact ⟨_,(t854),H',⟨by have:=HK1.out;have:=HJ7.out;have:=HJ15.out;have:=HJ24.out;have:=HJ29.out;have:=HJ37.out;first | omega | exact Nat.le_refl _⟩,⟨by (with_reducible repeat (first | apply Kd.N_alloc | apply Kd.N_drewN | apply Kd.N_drew));exact HO_12.out⟩,⟨by (with_reducible repeat (first | apply Kd.R_alloc | apply Kd.R_drewN | apply Kd.R_drew));exact HO_6.out⟩,⟨by (with_reducible repeat (first | refine blk_drewN ?_ _ | refine blk_drew ?_ | refine blk_alloc ?_ _));exact BK843.out⟩,⟨by repeat (first | (with_reducible first | exact HB.out | apply below_alloc | apply pw_below_drewN | apply below_drew1 | refine below_set ?_ GE843.out) | exact HB.out)⟩⟩
                      ·replace c41:=Bool.eq_false_iff.mpr c41
                       subst c41
                       have H1 : (humuslaw14_UndoOnce.j7 kj37 l0 l1 x5_24 x6_24 x7_1) = some r:=by rw [if_neg (show ¬ (false = true) by decide)] at H;exact H
                       clear H
                       have H:=H1
                       clear H1
                       have H':=Aside0.mk H
                       clear H
                       go_wp2
                       go_meet
                       case rel => exact ⟨_,(x5_24),H',⟨by have:=HK1.out;have:=HJ7.out;have:=HJ15.out;have:=HJ24.out;have:=HJ29.out;have:=HJ37.out;first | omega | exact Nat.le_refl _⟩,⟨by (with_reducible repeat (first | apply Kd.N_alloc | apply Kd.N_drewN | apply Kd.N_drew));exact Kd.N_mono HO_5.out (fun _ hk => ⟨hk.1,hk.2.2⟩)⟩,⟨by (with_reducible repeat (first | apply Kd.R_alloc | apply Kd.R_drewN | apply Kd.R_drew));exact HO_6.out⟩,⟨by (with_reducible repeat (first | refine blk_drewN ?_ _ | refine blk_drew ?_ | refine blk_alloc ?_ _));exact BK843.out⟩,⟨by repeat (first | (with_reducible first | exact HB.out | apply below_alloc | apply pw_below_drewN | apply below_drew1 | refine below_set ?_ GE843.out) | exact HB.out)⟩⟩
                   ·rw [if_neg c36] at H
                    exact absurd H (by simp)
                  ·rw [if_neg c35] at H
                   exact absurd H (by simp)
                 ·replace c34:=Bool.eq_false_iff.mpr c34
                  subst c34
                  have H1 : (humuslaw14_UndoOnce.j7 kj29 l0 l1 x5_24 x6_24 x7_1) = some r:=by rw [if_neg (show ¬ (false = true) by decide)] at H;exact H
                  clear H
                  have H:=H1
                  clear H1
                  have H':=Aside0.mk H
                  clear H
                  go_wp2
                  go_meet
                  case rel => exact ⟨_,(x5_24),H',⟨by have:=HK1.out;have:=HJ7.out;have:=HJ15.out;have:=HJ24.out;have:=HJ29.out;first | omega | exact Nat.le_refl _⟩,⟨by (with_reducible repeat (first | apply Kd.N_alloc | apply Kd.N_drewN | apply Kd.N_drew));exact HO_5.out⟩,⟨by (with_reducible repeat (first | apply Kd.R_alloc | apply Kd.R_drewN | apply Kd.R_drew));exact HO_6.out⟩,⟨by (with_reducible repeat (first | refine blk_drewN ?_ _ | refine blk_drew ?_ | refine blk_alloc ?_ _));exact BK843.out⟩,⟨by repeat (first | (with_reducible first | exact HB.out | apply below_alloc | apply pw_below_drewN | apply below_drew1 | refine below_set ?_ GE843.out) | exact HB.out)⟩⟩
                case rest =>
                 clear HC33
                 try clear c1
                 try clear c2
                 try clear p2
                 try clear c3
                 try clear c3b0
                 try clear c3b1
                 try clear c4
                 try clear p6
                 try clear c8
                 try clear p8
                 try clear q8
                 try clear hx8
                 try clear c9
                 try clear c9b0
                 try clear c10
                 try clear c11
                 try clear c11b0
                 try clear c12
                 try clear c12b0
                 try clear c13
                 try clear c13b0
                 try clear c13b1
                 try clear c15
                 try clear c16
                 try clear c26
                 try clear c27
                 try clear c31
                 try clear c31b0
                 try clear c32
                 try clear c32b0
                 try clear c34
                 try clear c35
                 try clear c35b0
                 try clear c36
                 try clear c36b0
                 try clear c41
                 try clear hcz18_0
                 try clear hcz18_1
                 try clear hcz18_10
                 try clear hcz18_11
                 try clear hcz18_2
                 try clear hcz18_3
                 try clear hcz18_4
                 try clear hcz18_5
                 try clear hcz18_6
                 try clear hcz18_7
                 try clear hcz18_8
                 try clear hcz18_9
                 try clear hcz20_0
                 try clear hcz20_1
                 try clear hcz20_10
                 try clear hcz20_11
                 try clear hcz20_2
                 try clear hcz20_3
                 try clear hcz20_4
                 try clear hcz20_5
                 try clear hcz20_6
                 try clear hcz20_7
                 try clear hcz20_8
                 try clear hcz20_9
                 try clear hcz22_0
                 try clear hcz22_1
                 try clear hcz22_10
                 try clear hcz22_11
                 try clear hcz22_2
                 try clear hcz22_3
                 try clear hcz22_4
                 try clear hcz22_5
                 try clear hcz22_6
                 try clear hcz22_7
                 try clear hcz22_8
                 try clear hcz22_9
                 try clear hcz28_0
                 try clear hcz28_1
                 try clear hcz28_10
                 try clear hcz28_11
                 try clear hcz28_2
                 try clear hcz28_3
                 try clear hcz28_4
                 try clear hcz28_5
                 try clear hcz28_6
                 try clear hcz28_7
                 try clear hcz28_8
                 try clear hcz28_9
                 try clear hfz18_0
                 try clear hfz18_1
                 try clear hfz18_10
                 try clear hfz18_11
                 try clear hfz18_2
                 try clear hfz18_3
                 try clear hfz18_4
                 try clear hfz18_5
                 try clear hfz18_6
                 try clear hfz18_7
                 try clear hfz18_8
                 try clear hfz18_9
                 try clear hfz20_0
                 try clear hfz20_1
                 try clear hfz20_10
                 try clear hfz20_11
                 try clear hfz20_2
                 try clear hfz20_3
                 try clear hfz20_4
                 try clear hfz20_5
                 try clear hfz20_6
                 try clear hfz20_7
                 try clear hfz20_8
                 try clear hfz20_9
                 try clear hfz22_0
                 try clear hfz22_1
                 try clear hfz22_10
                 try clear hfz22_11
                 try clear hfz22_2
                 try clear hfz22_3
                 try clear hfz22_4
                 try clear hfz22_5
                 try clear hfz22_6
                 try clear hfz22_7
                 try clear hfz22_8
                 try clear hfz22_9
                 try clear hfz28_0
                 try clear hfz28_1
                 try clear hfz28_10
                 try clear hfz28_11
                 try clear hfz28_2
                 try clear hfz28_3
                 try clear hfz28_4
                 try clear hfz28_5
                 try clear hfz28_6
                 try clear hfz28_7
                 try clear hfz28_8
                 try clear hfz28_9
                 try clear hx841_0
                 try clear hx841_1
                 try clear hx841_10
                 try clear hx841_11
                 try clear hx841_2
                 try clear hx841_3
                 try clear hx841_4
                 try clear hx841_5
                 try clear hx841_6
                 try clear hx841_7
                 try clear hx841_8
                 try clear hx841_9
                 try clear hx842_0
                 try clear hx842_1
                 try clear hx842_10
                 try clear hx842_11
                 try clear hx842_2
                 try clear hx842_3
                 try clear hx842_4
                 try clear hx842_5
                 try clear hx842_6
                 try clear hx842_7
                 try clear hx842_8
                 try clear hx842_9
                 try clear hx852_0
                 try clear hx853_0
                 try clear p2
                 try clear p6
                 try clear p8
                 try clear p841
                 try clear p842
                 try clear p852
                 try clear p853
                 try clear q8
                 try clear q841
                 try clear q842
                 try clear q852
                 try clear q853
                 obtain ⟨kq,x5_32,HA,HJ32,HO_5,HO_6,BK843,HB⟩:=hcut
                 cases kq with
                 | zero => exact absurd HA.out (by simp [humuslaw14_UndoOnce.j7])
                 | succ kj32 =>
                  have H:=HA.out
                  clear HA
                  simp only [humuslaw14_UndoOnce.j7] at H
                  have H':=Aside0.mk H
                  clear H
                  go_wp2
                  go_loopg [14] kj32 (fun kq v14 w' => ∃ (x14_7 : Int),v14 = .int .i64 x14_7 ∧ Aside0 (humuslaw14_UndoOnce.l1 kq l0 l1 x5_32 x6_24 x7_1 x14_7 = some r) ∧ Aside0 (kq ≤ kj32) ∧ Aside0 (Kd.N k32 32 w' w.heap.size (fun k_ => some k_ ≠ (u6 : Value).ownBlock ∧ k_ ≠ gb843) u5 x5_32) ∧ Aside0 (Kd.R k28 28 w' w.heap.size (fun _ => True) u6 x6_24) ∧ Aside0 (w'.heap[gb843]? = some (.cells #[.int .i64 ((rd_T32 l0 x7_1).f0),.int .i64 (wrap64 (x7_1 + 1)),.int .i64 ((rd_T32 l0 x7_1).f2),.int .i64 ((rd_T32 l0 x7_1).f3),.int .i64 ((rd_T32 l0 x7_1).f4),.int .i64 ((rd_T32 l0 x7_1).f5),.float .f64 ((rd_T32 l0 x7_1).f6.f0),.bool ((rd_T32 l0 x7_1).f6.f1),(.slice A841_8 ((rd_T32 l0 x7_1).f6.f2).length c841_8),.int .i64 ((rd_T32 l0 x7_1).f6.f3),.int .i64 ((rd_T32 l0 x7_1).f6.f4.f0),.int .i64 ((rd_T32 l0 x7_1).f6.f4.f1)] 32 (0,0))) ∧ Aside0 (Below w.heap.size w w'))
                  case atStart => exact ⟨(0),(by first | rfl | (simp;done) | (simp [*];done)),H',⟨Nat.le_refl _⟩,⟨by (with_reducible repeat (first | apply Kd.N_alloc | apply Kd.N_drewN | apply Kd.N_drew));exact HO_5.out⟩,⟨by (with_reducible repeat (first | apply Kd.R_alloc | apply Kd.R_drewN | apply Kd.R_drew));exact HO_6.out⟩,⟨by (with_reducible repeat (first | refine blk_drewN ?_ _ | refine blk_drew ?_ | refine blk_alloc ?_ _));exact BK843.out⟩,⟨by repeat (first | (with_reducible first | exact HB.out | apply below_alloc | apply pw_below_drewN | apply below_drew1 | refine below_set ?_ GE843.out) | exact HB.out)⟩⟩
                  case round =>
                   clear H'
                   try clear c1
                   try clear c2
                   try clear p2
                   try clear c3
                   try clear c3b0
                   try clear c3b1
                   try clear c4
                   try clear p6
                   try clear c8
                   try clear p8
                   try clear q8
                   try clear hx8
                   try clear c9
                   try clear c9b0
                   try clear c10
                   try clear c11
                   try clear c11b0
                   try clear c12
                   try clear c12b0
                   try clear c13
                   try clear c13b0
                   try clear c13b1
                   try clear c15
                   try clear c16
                   try clear c26
                   try clear c27
                   try clear c31
                   try clear c31b0
                   try clear c32
                   try clear c32b0
                   try clear c34
                   try clear c35
                   try clear c35b0
                   try clear c36
                   try clear c36b0
                   try clear c41
                   try clear hcz18_0
                   try clear hcz18_1
                   try clear hcz18_10
                   try clear hcz18_11
                   try clear hcz18_2
                   try clear hcz18_3
                   try clear hcz18_4
                   try clear hcz18_5
                   try clear hcz18_6
                   try clear hcz18_7
                   try clear hcz18_8
                   try clear hcz18_9
                   try clear hcz20_0
                   try clear hcz20_1
                   try clear hcz20_10
                   try clear hcz20_11
                   try clear hcz20_2
                   try clear hcz20_3
                   try clear hcz20_4
                   try clear hcz20_5
                   try clear hcz20_6
                   try clear hcz20_7
                   try clear hcz20_8
                   try clear hcz20_9
                   try clear hcz22_0
                   try clear hcz22_1
                   try clear hcz22_10
                   try clear hcz22_11
                   try clear hcz22_2
                   try clear hcz22_3
                   try clear hcz22_4
                   try clear hcz22_5
                   try clear hcz22_6
                   try clear hcz22_7
                   try clear hcz22_8
                   try clear hcz22_9
                   try clear hcz28_0
                   try clear hcz28_1
                   try clear hcz28_10
                   try clear hcz28_11
                   try clear hcz28_2
                   try clear hcz28_3
                   try clear hcz28_4
                   try clear hcz28_5
                   try clear hcz28_6
                   try clear hcz28_7
                   try clear hcz28_8
                   try clear hcz28_9
                   try clear hfz18_0
                   try clear hfz18_1
                   try clear hfz18_10
                   try clear hfz18_11
                   try clear hfz18_2
                   try clear hfz18_3
                   try clear hfz18_4
                   try clear hfz18_5
                   try clear hfz18_6
                   try clear hfz18_7
                   try clear hfz18_8
                   try clear hfz18_9
                   try clear hfz20_0
                   try clear hfz20_1
                   try clear hfz20_10
                   try clear hfz20_11
                   try clear hfz20_2
                   try clear hfz20_3
                   try clear hfz20_4
                   try clear hfz20_5
                   try clear hfz20_6
                   try clear hfz20_7
                   try clear hfz20_8
                   try clear hfz20_9
                   try clear hfz22_0
                   try clear hfz22_1
                   try clear hfz22_10
                   try clear hfz22_11
                   try clear hfz22_2
                   try clear hfz22_3
                   try clear hfz22_4
                   try clear hfz22_5
                   try clear hfz22_6
                   try clear hfz22_7
                   try clear hfz22_8
                   try clear hfz22_9
                   try clear hfz28_0
                   try clear hfz28_1
                   try clear hfz28_10
                   try clear hfz28_11
                   try clear hfz28_2
                   try clear hfz28_3
                   try clear hfz28_4
                   try clear hfz28_5
                   try clear hfz28_6
                   try clear hfz28_7
                   try clear hfz28_8
                   try clear hfz28_9
                   try clear hx841_0
                   try clear hx841_1
                   try clear hx841_10
                   try clear hx841_11
                   try clear hx841_2
                   try clear hx841_3
                   try clear hx841_4
                   try clear hx841_5
                   try clear hx841_6
                   try clear hx841_7
                   try clear hx841_8
                   try clear hx841_9
                   try clear hx842_0
                   try clear hx842_1
                   try clear hx842_10
                   try clear hx842_11
                   try clear hx842_2
                   try clear hx842_3
                   try clear hx842_4
                   try clear hx842_5
                   try clear hx842_6
                   try clear hx842_7
                   try clear hx842_8
                   try clear hx842_9
                   try clear hx852_0
                   try clear hx853_0
                   try clear p2
                   try clear p6
                   try clear p8
                   try clear p841
                   try clear p842
                   try clear p852
                   try clear p853
                   try clear q8
                   try clear q841
                   try clear q842
                   try clear q852
                   try clear q853
                   obtain ⟨x14_7,rfl,HA,HK7,HO_5,HO_6,BK843,HB⟩:=hrel
                   cases gk with
                   | zero => exact absurd HA.out (by simp [humuslaw14_UndoOnce.l1])
                   | succ k7 =>
                    have H:=HA.out
                    clear HA
                    simp only [humuslaw14_UndoOnce.l1] at H
                    by_cases c42 : x14_7 < (x6_24.length : Int)
                    ·rw [if_pos c42] at H
                     have c42b0 : decide (x14_7 < (x6_24.length : Int)) = true:=decide_eq_true c42
                     clear c42
                     by_cases c43 : 0 ≤ x14_7
                     ·rw [if_pos c43] at H
                      have c43b0 : decide (0 ≤ x14_7) = true:=decide_eq_true c43
                      clear c43
                      replace H:=Option.bind_eq_some_iff.mp H
                      obtain ⟨⟨t859,t860,t861,t862,t863,t864,t865,t866,t867,t870,t871,t872,t873⟩,A440,H⟩:=H
                      replace H : ((humusref14_At.f k7 x5_32 ((rd_T28 x6_24 x14_7).f0)).bind fun bt876 => (if (t873 != (bt876.2.1 == ((rd_T28 x6_24 x14_7).f1))) = true then (none) else (humuslaw14_UndoOnce.l1 k7 l0 l1 x5_32 x6_24 x7_1 (wrap64 (x14_7 + 1))))) = some r:=H
                      have A44:=Aside0.mk A440
                      clear A440
                      replace H:=Option.bind_eq_some_iff.mp H
                      obtain ⟨⟨t876,t877,t878,t879,t880,t881,t882,t883,t884,t887,t888,t889⟩,A450,H⟩:=H
                      replace H : (if (t873 != (t877 == ((rd_T28 x6_24 x14_7).f1))) = true then (none) else (humuslaw14_UndoOnce.l1 k7 l0 l1 x5_32 x6_24 x7_1 (wrap64 (x14_7 + 1)))) = some r:=H
                      have A45:=Aside0.mk A450
                      clear A450
                      by_cases c46 : (t873 != (t877 == ((rd_T28 x6_24 x14_7).f1))) = true
                      ·rw [if_pos c46] at H
                       exact absurd H (by simp)
                      ·rw [if_neg c46] at H
                       have c46b0 : (t873 != (t877 == ((rd_T28 x6_24 x14_7).f1))) = false:=by simpa using c46
                       (try (have c46b1 : decide (t873 = (t877 == ((rd_T28 x6_24 x14_7).f1))) = true:=by simpa using c46))
                       (try (have c46b2 : (t873 == (t877 == ((rd_T28 x6_24 x14_7).f1))) = true:=by simpa using c46))
                       clear c46
                       have H':=Aside0.mk H
                       clear H
                       obtain ⟨Ao47,co47,eo47⟩:=Kd.R_slice HO_6.out
                       subst eo47
                       have p858 : 0 ≤ (x14_7 : Int):=of_decide_eq_true (by first | (with_reducible assumption) | assumption)
                       have q858 : x14_7 < (x6_24.length : Int):=of_decide_eq_true (by first | (with_reducible assumption) | assumption)
                       obtain ⟨ad858,e858,hx858_0,hx858_1⟩:=at_T28 (Kd.R_reads' HO_6.out).2.2 x14_7 p858 q858
                       cases e858
                       replace p858:=eq_true p858
                       replace q858:=eq_true q858
                       obtain ⟨Ao48,co48,eo48⟩:=Kd.N_slice HO_5.out
                       subst eo48
                       try go_wp2_with (first | ((with_reducible refine gate_callee (f:=17) rfl ?_);refine goesL_ (some 101) rfl rfl Try.func17 (by kernel_rfl) rfl #[.slice Ao48 x5_32.length co48,.agg #[.int .i64 ((rd_T28 x6_24 x14_7).f0),.int .i64 ((rd_T28 x6_24 x14_7).f1)]] rfl (by (try simp only [List.map_toArray,List.map_cons,List.map_nil]);first | done | rfl | (simp only [List.length_drop,List.length_take];rfl)) ?_;(with_reducible refine (undo_Get.calls k7 _ _ x5_32 ((rd_T28 x6_24 x14_7).f0) ((rd_T28 x6_24 x14_7).f1) t859 t860 t861 t862 t863 t864 t865 t866 t867 t870 t871 t872 t873 _ ?side1 ?side2 A44.out).mono ?_);(case side1 => repeat (first | exact (Kd.N_reads' HO_5.out).2.2 | (with_reducible refine Kd.C_alloc ?_ _) | (with_reducible refine Kd.C_drewN ?_ _) | (with_reducible refine Kd.C_drew ?_)));(case side2 => exact (Kd.N_reads' HO_5.out).2.1);rintro e w49 ⟨v868,rfl,ho0,hb⟩;refine ⟨_,rfl,?_⟩;have n0_:=Aside0.mk (Kd.N_elder' (by (with_reducible repeat (first | apply Kd.N_alloc | apply Kd.N_drewN | apply Kd.N_drew));exact HO_5.out) (Kd.R_base ho0) hb);have n1_:=Aside0.mk (Kd.R_below (by (with_reducible repeat (first | apply Kd.R_alloc | apply Kd.R_drewN | apply Kd.R_drew));exact HO_6.out) hb);have n2_:=Aside0.mk (Kd.R_lower ho0 (below_size (by repeat (first | (with_reducible first | exact HB.out | apply below_alloc | apply pw_below_drewN | apply below_drew1 | refine below_set ?_ GE843.out) | exact HB.out))));have n3_:=Aside0.mk (blk_below (g:=gb843) (o:=.cells #[.int .i64 ((rd_T32 l0 x7_1).f0),.int .i64 (wrap64 (x7_1 + 1)),.int .i64 ((rd_T32 l0 x7_1).f2),.int .i64 ((rd_T32 l0 x7_1).f3),.int .i64 ((rd_T32 l0 x7_1).f4),.int .i64 ((rd_T32 l0 x7_1).f5),.float .f64 ((rd_T32 l0 x7_1).f6.f0),.bool ((rd_T32 l0 x7_1).f6.f1),.slice A841_8 ((rd_T32 l0 x7_1).f6.f2).length c841_8,.int .i64 ((rd_T32 l0 x7_1).f6.f3),.int .i64 ((rd_T32 l0 x7_1).f6.f4.f0),.int .i64 ((rd_T32 l0 x7_1).f6.f4.f1)] 32 (0,0)) (by (with_reducible repeat (first | refine blk_drewN ?_ _ | refine blk_drew ?_ | refine blk_alloc ?_ _));exact BK843.out) hb);have n4_:=Aside0.mk (below_step (by repeat (first | (with_reducible first | exact HB.out | apply below_alloc | apply pw_below_drewN | apply below_drew1 | refine below_set ?_ GE843.out) | exact HB.out)) hb);clear HO_5;clear HO_6;clear BK843;clear HB;have HO_5:=n0_;have HO_6:=n1_;have HO869:=n2_;have BK843:=n3_;have HB:=n4_;clear n0_ n1_ n2_ n3_ n4_;(try clear hb);(try clear hb2);(try clear hk);(try clear hi);(try clear ho0)) | ((with_reducible refine gate_dst (N:=15) rfl ?_);refine box_event ?hg (N:=15) ?hd (cs:=#[.int .i64 0,.int .i64 0,.int .i64 0,.int .i64 0,.int .i64 0,.int .i64 0,.float .f64 0,.bool false,.slice none 0 0,.int .i64 0,.int .i64 0,.int .i64 0]) (t:=32) ?hr ?_;(case hd => rfl);(case hg => rfl);(case hr => first | (go_simp;done) | (go_simp;rfl));intro gb874 hg w50 hbox hb;have n0_:=Aside0.mk (Kd.N_below (Kd.N_elderB (by (with_reducible repeat (first | apply Kd.N_alloc | apply Kd.N_drewN | apply Kd.N_drew));exact HO_5.out) gb874 (Nat.le_of_eq hg.symm)) hb);have n1_:=Aside0.mk (Kd.R_below (by (with_reducible repeat (first | apply Kd.R_alloc | apply Kd.R_drewN | apply Kd.R_drew));exact HO_6.out) hb);have n2_:=Aside0.mk (Kd.R_below (by (with_reducible repeat (first | apply Kd.R_alloc | apply Kd.R_drewN | apply Kd.R_drew));exact HO869.out) hb);have n3_:=Aside0.mk (blk_below (g:=gb843) (o:=.cells #[.int .i64 ((rd_T32 l0 x7_1).f0),.int .i64 (wrap64 (x7_1 + 1)),.int .i64 ((rd_T32 l0 x7_1).f2),.int .i64 ((rd_T32 l0 x7_1).f3),.int .i64 ((rd_T32 l0 x7_1).f4),.int .i64 ((rd_T32 l0 x7_1).f5),.float .f64 ((rd_T32 l0 x7_1).f6.f0),.bool ((rd_T32 l0 x7_1).f6.f1),.slice A841_8 ((rd_T32 l0 x7_1).f6.f2).length c841_8,.int .i64 ((rd_T32 l0 x7_1).f6.f3),.int .i64 ((rd_T32 l0 x7_1).f6.f4.f0),.int .i64 ((rd_T32 l0 x7_1).f6.f4.f1)] 32 (0,0)) (by (with_reducible repeat (first | refine blk_drewN ?_ _ | refine blk_drew ?_ | refine blk_alloc ?_ _));exact BK843.out) hb);have n4_:=Aside0.mk (below_step (by repeat (first | (with_reducible first | exact HB.out | apply below_alloc | apply pw_below_drewN | apply below_drew1 | refine below_set ?_ GE843.out) | exact HB.out)) hb);have n5_:=Aside0.mk (hbox);have n6_:=Aside0.mk ((by rw [hg];exact (below_size (by repeat (first | (with_reducible first | exact HB.out | apply below_alloc | apply pw_below_drewN | apply below_drew1 | refine below_set ?_ GE843.out) | exact HB.out))) : w.heap.size ≤ gb874));have n7_:=Aside0.mk ((by rw [hg];exact (below_size (by repeat (first | (with_reducible first | exact HB.out | apply below_alloc | apply pw_below_drewN | apply below_drew1 | refine below_set ?_ GE843.out) | exact HB.out))) : w.heap.size ≤ gb874));have n8_:=Aside0.mk ((by rw [hg];exact Nat.ne_of_lt (blk_lt (g:=gb843) (o:=.cells #[.int .i64 ((rd_T32 l0 x7_1).f0),.int .i64 (wrap64 (x7_1 + 1)),.int .i64 ((rd_T32 l0 x7_1).f2),.int .i64 ((rd_T32 l0 x7_1).f3),.int .i64 ((rd_T32 l0 x7_1).f4),.int .i64 ((rd_T32 l0 x7_1).f5),.float .f64 ((rd_T32 l0 x7_1).f6.f0),.bool ((rd_T32 l0 x7_1).f6.f1),.slice A841_8 ((rd_T32 l0 x7_1).f6.f2).length c841_8,.int .i64 ((rd_T32 l0 x7_1).f6.f3),.int .i64 ((rd_T32 l0 x7_1).f6.f4.f0),.int .i64 ((rd_T32 l0 x7_1).f6.f4.f1)] 32 (0,0)) (by (with_reducible repeat (first | refine blk_drewN ?_ _ | refine blk_drew ?_ | refine blk_alloc ?_ _));exact BK843.out)) : gb843 ≠ gb874));have n9_:=Aside0.mk ((by rw [hg];exact Nat.ne_of_gt (blk_lt (g:=gb843) (o:=.cells #[.int .i64 ((rd_T32 l0 x7_1).f0),.int .i64 (wrap64 (x7_1 + 1)),.int .i64 ((rd_T32 l0 x7_1).f2),.int .i64 ((rd_T32 l0 x7_1).f3),.int .i64 ((rd_T32 l0 x7_1).f4),.int .i64 ((rd_T32 l0 x7_1).f5),.float .f64 ((rd_T32 l0 x7_1).f6.f0),.bool ((rd_T32 l0 x7_1).f6.f1),.slice A841_8 ((rd_T32 l0 x7_1).f6.f2).length c841_8,.int .i64 ((rd_T32 l0 x7_1).f6.f3),.int .i64 ((rd_T32 l0 x7_1).f6.f4.f0),.int .i64 ((rd_T32 l0 x7_1).f6.f4.f1)] 32 (0,0)) (by (with_reducible repeat (first | refine blk_drewN ?_ _ | refine blk_drew ?_ | refine blk_alloc ?_ _));exact BK843.out)) : gb874 ≠ gb843));clear HO_5;clear HO_6;clear HO869;clear BK843;clear HB;have HO_5:=n0_;have HO_6:=n1_;have HO869:=n2_;have BK843:=n3_;have HB:=n4_;have BK874:=n5_;have GW874:=n6_;have GE874:=n7_;have NB843_874:=n8_;have NB874_843:=n9_;clear n0_ n1_ n2_ n3_ n4_ n5_ n6_ n7_ n8_ n9_;clear hb hbox hg;have hnb51:=NB874_843.out;have hnc51:=NB843_874.out;obtain ⟨hcz52_0,hcz52_1,hcz52_2,hcz52_3,hcz52_4,hcz52_5,hcz52_6,hcz52_7,hcz52_8,hcz52_9,hcz52_10,hcz52_11⟩:=blkc_12 BK874.out;obtain ⟨hfz52_0,hfz52_1,hfz52_2,hfz52_3,hfz52_4,hfz52_5,hfz52_6,hfz52_7,hfz52_8,hfz52_9,hfz52_10,hfz52_11⟩:=blkz_12 BK874.out;obtain ⟨Ao53,co53,eo53⟩:=Kd.R_slice HO869.out;subst eo53))
                       have n0_ : Aside0 (Kd.N k32 32 ((((((((((((w50.setCell ⟨gb874,0,none⟩ (.int .i64 t859)).setCell ⟨gb874,1,none⟩ (.int .i64 t860)).setCell ⟨gb874,2,none⟩ (.int .i64 t861)).setCell ⟨gb874,3,none⟩ (.int .i64 t862)).setCell ⟨gb874,4,none⟩ (.int .i64 t863)).setCell ⟨gb874,5,none⟩ (.int .i64 t864)).setCell ⟨gb874,6,none⟩ (.float .f64 t865)).setCell ⟨gb874,7,none⟩ (.bool t866)).setCell ⟨gb874,8,none⟩ (.slice Ao53 t867.length co53)).setCell ⟨gb874,9,none⟩ (.int .i64 t870)).setCell ⟨gb874,10,none⟩ (.int .i64 t871)).setCell ⟨gb874,11,none⟩ (.int .i64 t872)) w.heap.size (fun k_ => some k_ ≠ (.slice (some ad858) x6_24.length co47 : Value).ownBlock ∧ some k_ ≠ (.slice Ao53 t867.length co53 : Value).ownBlock ∧ k_ ≠ gb843 ∧ k_ ≠ gb874) (.slice Ao48 x5_32.length co48) x5_32):=⟨by (with_reducible repeat (first | apply Kd.N_alloc | apply Kd.N_drewN | apply Kd.N_drew));exact Kd.N_mono (Kd.N_far (p:=⟨gb874,11,none⟩) (Kd.N_far (p:=⟨gb874,10,none⟩) (Kd.N_far (p:=⟨gb874,9,none⟩) (Kd.N_far (p:=⟨gb874,8,none⟩) (Kd.N_far (p:=⟨gb874,7,none⟩) (Kd.N_far (p:=⟨gb874,6,none⟩) (Kd.N_far (p:=⟨gb874,5,none⟩) (Kd.N_far (p:=⟨gb874,4,none⟩) (Kd.N_far (p:=⟨gb874,3,none⟩) (Kd.N_far (p:=⟨gb874,2,none⟩) (Kd.N_far (p:=⟨gb874,1,none⟩) (Kd.N_far (p:=⟨gb874,0,none⟩) (Kd.N_mono HO_5.out (fun k_ hk => (⟨hk,hk.2⟩ : _ ∧ k_ ≠ gb874))) (fun _ hk => hk.2) (.int .i64 t859)) (fun _ hk => hk.2) (.int .i64 t860)) (fun _ hk => hk.2) (.int .i64 t861)) (fun _ hk => hk.2) (.int .i64 t862)) (fun _ hk => hk.2) (.int .i64 t863)) (fun _ hk => hk.2) (.int .i64 t864)) (fun _ hk => hk.2) (.float .f64 t865)) (fun _ hk => hk.2) (.bool t866)) (fun _ hk => hk.2) (.slice Ao53 t867.length co53)) (fun _ hk => hk.2) (.int .i64 t870)) (fun _ hk => hk.2) (.int .i64 t871)) (fun _ hk => hk.2) (.int .i64 t872)) (fun _ hk => ⟨hk.1.1.1.1,⟨hk.1.1.2,⟨hk.1.1.1.2,hk.1.2⟩⟩⟩)⟩
                       have n1_ : Aside0 (Kd.R k28 28 ((((((((((((w50.setCell ⟨gb874,0,none⟩ (.int .i64 t859)).setCell ⟨gb874,1,none⟩ (.int .i64 t860)).setCell ⟨gb874,2,none⟩ (.int .i64 t861)).setCell ⟨gb874,3,none⟩ (.int .i64 t862)).setCell ⟨gb874,4,none⟩ (.int .i64 t863)).setCell ⟨gb874,5,none⟩ (.int .i64 t864)).setCell ⟨gb874,6,none⟩ (.float .f64 t865)).setCell ⟨gb874,7,none⟩ (.bool t866)).setCell ⟨gb874,8,none⟩ (.slice Ao53 t867.length co53)).setCell ⟨gb874,9,none⟩ (.int .i64 t870)).setCell ⟨gb874,10,none⟩ (.int .i64 t871)).setCell ⟨gb874,11,none⟩ (.int .i64 t872)) w.heap.size (fun _ => True) (.slice (some ad858) x6_24.length co47) x6_24):=⟨by (with_reducible repeat (first | apply Kd.R_alloc | apply Kd.R_drewN | apply Kd.R_drew));exact Kd.R_mono (Kd.R_far (p:=⟨gb874,11,none⟩) (Kd.R_far (p:=⟨gb874,10,none⟩) (Kd.R_far (p:=⟨gb874,9,none⟩) (Kd.R_far (p:=⟨gb874,8,none⟩) (Kd.R_far (p:=⟨gb874,7,none⟩) (Kd.R_far (p:=⟨gb874,6,none⟩) (Kd.R_far (p:=⟨gb874,5,none⟩) (Kd.R_far (p:=⟨gb874,4,none⟩) (Kd.R_far (p:=⟨gb874,3,none⟩) (Kd.R_far (p:=⟨gb874,2,none⟩) (Kd.R_far (p:=⟨gb874,1,none⟩) (Kd.R_far (p:=⟨gb874,0,none⟩) (Kd.R_types HO_6.out BK874.out (by decide)) (fun _ hk => hk.2) (.int .i64 t859)) (fun _ hk => hk.2) (.int .i64 t860)) (fun _ hk => hk.2) (.int .i64 t861)) (fun _ hk => hk.2) (.int .i64 t862)) (fun _ hk => hk.2) (.int .i64 t863)) (fun _ hk => hk.2) (.int .i64 t864)) (fun _ hk => hk.2) (.float .f64 t865)) (fun _ hk => hk.2) (.bool t866)) (fun _ hk => hk.2) (.slice Ao53 t867.length co53)) (fun _ hk => hk.2) (.int .i64 t870)) (fun _ hk => hk.2) (.int .i64 t871)) (fun _ hk => hk.2) (.int .i64 t872)) (fun _ hk => trivial)⟩
                       have n2_ : Aside0 (Kd.R Kd.f64 25 ((((((((((((w50.setCell ⟨gb874,0,none⟩ (.int .i64 t859)).setCell ⟨gb874,1,none⟩ (.int .i64 t860)).setCell ⟨gb874,2,none⟩ (.int .i64 t861)).setCell ⟨gb874,3,none⟩ (.int .i64 t862)).setCell ⟨gb874,4,none⟩ (.int .i64 t863)).setCell ⟨gb874,5,none⟩ (.int .i64 t864)).setCell ⟨gb874,6,none⟩ (.float .f64 t865)).setCell ⟨gb874,7,none⟩ (.bool t866)).setCell ⟨gb874,8,none⟩ (.slice Ao53 t867.length co53)).setCell ⟨gb874,9,none⟩ (.int .i64 t870)).setCell ⟨gb874,10,none⟩ (.int .i64 t871)).setCell ⟨gb874,11,none⟩ (.int .i64 t872)) w.heap.size (fun _ => True) (.slice Ao53 t867.length co53) t867):=⟨by (with_reducible repeat (first | apply Kd.R_alloc | apply Kd.R_drewN | apply Kd.R_drew));exact Kd.R_mono (Kd.R_far (p:=⟨gb874,11,none⟩) (Kd.R_far (p:=⟨gb874,10,none⟩) (Kd.R_far (p:=⟨gb874,9,none⟩) (Kd.R_far (p:=⟨gb874,8,none⟩) (Kd.R_far (p:=⟨gb874,7,none⟩) (Kd.R_far (p:=⟨gb874,6,none⟩) (Kd.R_far (p:=⟨gb874,5,none⟩) (Kd.R_far (p:=⟨gb874,4,none⟩) (Kd.R_far (p:=⟨gb874,3,none⟩) (Kd.R_far (p:=⟨gb874,2,none⟩) (Kd.R_far (p:=⟨gb874,1,none⟩) (Kd.R_far (p:=⟨gb874,0,none⟩) (Kd.R_types HO869.out BK874.out (by decide)) (fun _ hk => hk.2) (.int .i64 t859)) (fun _ hk => hk.2) (.int .i64 t860)) (fun _ hk => hk.2) (.int .i64 t861)) (fun _ hk => hk.2) (.int .i64 t862)) (fun _ hk => hk.2) (.int .i64 t863)) (fun _ hk => hk.2) (.int .i64 t864)) (fun _ hk => hk.2) (.float .f64 t865)) (fun _ hk => hk.2) (.bool t866)) (fun _ hk => hk.2) (.slice Ao53 t867.length co53)) (fun _ hk => hk.2) (.int .i64 t870)) (fun _ hk => hk.2) (.int .i64 t871)) (fun _ hk => hk.2) (.int .i64 t872)) (fun _ hk => trivial)⟩
                       have n3_ : Aside0 (((((((((((((w50.setCell ⟨gb874,0,none⟩ (.int .i64 t859)).setCell ⟨gb874,1,none⟩ (.int .i64 t860)).setCell ⟨gb874,2,none⟩ (.int .i64 t861)).setCell ⟨gb874,3,none⟩ (.int .i64 t862)).setCell ⟨gb874,4,none⟩ (.int .i64 t863)).setCell ⟨gb874,5,none⟩ (.int .i64 t864)).setCell ⟨gb874,6,none⟩ (.float .f64 t865)).setCell ⟨gb874,7,none⟩ (.bool t866)).setCell ⟨gb874,8,none⟩ (.slice Ao53 t867.length co53)).setCell ⟨gb874,9,none⟩ (.int .i64 t870)).setCell ⟨gb874,10,none⟩ (.int .i64 t871)).setCell ⟨gb874,11,none⟩ (.int .i64 t872)).heap[gb843]? = some (.cells #[.int .i64 ((rd_T32 l0 x7_1).f0),.int .i64 (wrap64 (x7_1 + 1)),.int .i64 ((rd_T32 l0 x7_1).f2),.int .i64 ((rd_T32 l0 x7_1).f3),.int .i64 ((rd_T32 l0 x7_1).f4),.int .i64 ((rd_T32 l0 x7_1).f5),.float .f64 ((rd_T32 l0 x7_1).f6.f0),.bool ((rd_T32 l0 x7_1).f6.f1),.slice A841_8 ((rd_T32 l0 x7_1).f6.f2).length c841_8,.int .i64 ((rd_T32 l0 x7_1).f6.f3),.int .i64 ((rd_T32 l0 x7_1).f6.f4.f0),.int .i64 ((rd_T32 l0 x7_1).f6.f4.f1)] 32 (0,0))):=⟨by (with_reducible repeat (first | refine blk_drewN ?_ _ | refine blk_drew ?_ | refine blk_alloc ?_ _));refine blk_far ?_ NB843_874.out _;(with_reducible repeat (first | refine blk_drewN ?_ _ | refine blk_drew ?_ | refine blk_alloc ?_ _));refine blk_far ?_ NB843_874.out _;(with_reducible repeat (first | refine blk_drewN ?_ _ | refine blk_drew ?_ | refine blk_alloc ?_ _));refine blk_far ?_ NB843_874.out _;(with_reducible repeat (first | refine blk_drewN ?_ _ | refine blk_drew ?_ | refine blk_alloc ?_ _));refine blk_far ?_ NB843_874.out _;(with_reducible repeat (first | refine blk_drewN ?_ _ | refine blk_drew ?_ | refine blk_alloc ?_ _));refine blk_far ?_ NB843_874.out _;(with_reducible repeat (first | refine blk_drewN ?_ _ | refine blk_drew ?_ | refine blk_alloc ?_ _));refine blk_far ?_ NB843_874.out _;(with_reducible repeat (first | refine blk_drewN ?_ _ | refine blk_drew ?_ | refine blk_alloc ?_ _));refine blk_far ?_ NB843_874.out _;(with_reducible repeat (first | refine blk_drewN ?_ _ | refine blk_drew ?_ | refine blk_alloc ?_ _));refine blk_far ?_ NB843_874.out _;(with_reducible repeat (first | refine blk_drewN ?_ _ | refine blk_drew ?_ | refine blk_alloc ?_ _));refine blk_far ?_ NB843_874.out _;(with_reducible repeat (first | refine blk_drewN ?_ _ | refine blk_drew ?_ | refine blk_alloc ?_ _));refine blk_far ?_ NB843_874.out _;(with_reducible repeat (first | refine blk_drewN ?_ _ | refine blk_drew ?_ | refine blk_alloc ?_ _));refine blk_far ?_ NB843_874.out _;(with_reducible repeat (first | refine blk_drewN ?_ _ | refine blk_drew ?_ | refine blk_alloc ?_ _));refine blk_far ?_ NB843_874.out _;(with_reducible repeat (first | refine blk_drewN ?_ _ | refine blk_drew ?_ | refine blk_alloc ?_ _));exact BK843.out⟩
                       have n4_ : Aside0 (((((((((((((w50.setCell ⟨gb874,0,none⟩ (.int .i64 t859)).setCell ⟨gb874,1,none⟩ (.int .i64 t860)).setCell ⟨gb874,2,none⟩ (.int .i64 t861)).setCell ⟨gb874,3,none⟩ (.int .i64 t862)).setCell ⟨gb874,4,none⟩ (.int .i64 t863)).setCell ⟨gb874,5,none⟩ (.int .i64 t864)).setCell ⟨gb874,6,none⟩ (.float .f64 t865)).setCell ⟨gb874,7,none⟩ (.bool t866)).setCell ⟨gb874,8,none⟩ (.slice Ao53 t867.length co53)).setCell ⟨gb874,9,none⟩ (.int .i64 t870)).setCell ⟨gb874,10,none⟩ (.int .i64 t871)).setCell ⟨gb874,11,none⟩ (.int .i64 t872)).heap[gb874]? = some (.cells #[.int .i64 t859,.int .i64 t860,.int .i64 t861,.int .i64 t862,.int .i64 t863,.int .i64 t864,.float .f64 t865,.bool t866,.slice Ao53 t867.length co53,.int .i64 t870,.int .i64 t871,.int .i64 t872] 32 (0,0))):=⟨by (with_reducible repeat (first | refine blk_drewN ?_ _ | refine blk_drew ?_ | refine blk_alloc ?_ _));apply blkf_12_0_11;(with_reducible repeat (first | refine blk_drewN ?_ _ | refine blk_drew ?_ | refine blk_alloc ?_ _));exact BK874.out⟩
                       have n5_ : Aside0 (Below w.heap.size w ((((((((((((w50.setCell ⟨gb874,0,none⟩ (.int .i64 t859)).setCell ⟨gb874,1,none⟩ (.int .i64 t860)).setCell ⟨gb874,2,none⟩ (.int .i64 t861)).setCell ⟨gb874,3,none⟩ (.int .i64 t862)).setCell ⟨gb874,4,none⟩ (.int .i64 t863)).setCell ⟨gb874,5,none⟩ (.int .i64 t864)).setCell ⟨gb874,6,none⟩ (.float .f64 t865)).setCell ⟨gb874,7,none⟩ (.bool t866)).setCell ⟨gb874,8,none⟩ (.slice Ao53 t867.length co53)).setCell ⟨gb874,9,none⟩ (.int .i64 t870)).setCell ⟨gb874,10,none⟩ (.int .i64 t871)).setCell ⟨gb874,11,none⟩ (.int .i64 t872))):=⟨by repeat (first | (with_reducible first | exact HB.out | apply below_alloc | apply pw_below_drewN | apply below_drew1 | refine below_set ?_ GE843.out | refine below_set ?_ GE874.out) | exact HB.out)⟩
                       (try clear HO_5)
                       (try clear HO_6)
                       (try clear HO869)
                       (try clear BK843)
                       (try clear BK874)
                       (try clear HB)
                       generalize ((((((((((((w50.setCell ⟨gb874,0,none⟩ (.int .i64 t859)).setCell ⟨gb874,1,none⟩ (.int .i64 t860)).setCell ⟨gb874,2,none⟩ (.int .i64 t861)).setCell ⟨gb874,3,none⟩ (.int .i64 t862)).setCell ⟨gb874,4,none⟩ (.int .i64 t863)).setCell ⟨gb874,5,none⟩ (.int .i64 t864)).setCell ⟨gb874,6,none⟩ (.float .f64 t865)).setCell ⟨gb874,7,none⟩ (.bool t866)).setCell ⟨gb874,8,none⟩ (.slice Ao53 t867.length co53)).setCell ⟨gb874,9,none⟩ (.int .i64 t870)).setCell ⟨gb874,10,none⟩ (.int .i64 t871)).setCell ⟨gb874,11,none⟩ (.int .i64 t872)) = w54 at n0_ n1_ n2_ n3_ n4_ n5_ ⊢
                       have HO_5:=n0_
                       have HO_6:=n1_
                       have HO869:=n2_
                       have BK843:=n3_
                       have BK874:=n4_
                       have HB:=n5_
                       clear n0_ n1_ n2_ n3_ n4_ n5_
                       have n0_:=Aside0.mk (Kd.N_drew HO_5.out)
                       have n1_:=Aside0.mk (Kd.R_drew HO_6.out)
                       have n2_:=Aside0.mk (Kd.R_drew HO869.out)
                       have n3_:=Aside0.mk (blk_drew BK843.out)
                       have n4_:=Aside0.mk (blk_drew BK874.out)
                       have n5_:=Aside0.mk (below_drew1 HB.out)
                       clear HO_5
                       clear HO_6
                       clear HO869
                       clear BK843
                       clear BK874
                       clear HB
                       have HO_5:=n0_
                       have HO_6:=n1_
                       have HO869:=n2_
                       have BK843:=n3_
                       have BK874:=n4_
                       have HB:=n5_
                       clear n0_ n1_ n2_ n3_ n4_ n5_
                       have p875 : 0 ≤ (x14_7 : Int):=of_decide_eq_true (by first | (with_reducible assumption) | assumption)
                       have q875 : x14_7 < (x6_24.length : Int):=of_decide_eq_true (by first | (with_reducible assumption) | assumption)
                       obtain ⟨ad875,e875,hx875_0,hx875_1⟩:=at_T28 (Kd.R_reads' HO_6.out).2.2 x14_7 p875 q875
                       obtain rfl : ad858 = ad875:=(by injection e875)
                       replace p875:=eq_true p875
                       replace q875:=eq_true q875
                       have p890 : 0 ≤ (x14_7 : Int):=of_decide_eq_true (by first | (with_reducible assumption) | assumption)
                       have q890 : x14_7 < (x6_24.length : Int):=of_decide_eq_true (by first | (with_reducible assumption) | assumption)
                       obtain ⟨ad890,e890,hx890_0,hx890_1⟩:=at_T28 (Kd.R_reads' HO_6.out).2.2 x14_7 p890 q890
                       obtain rfl : ad858 = ad890:=(by injection e890)
                       replace p890:=eq_true p890
                       replace q890:=eq_true q890
                       refine start_ (n:=16) (S:=fun w' => w'.cell? (ad858.add ((x14_7).toNat * 2)) = some (.int .i64 ((rd_T28 x6_24 x14_7).f0)) ∧ w'.cell? ⟨(ad858.add ((x14_7).toNat * 2)).block,(ad858.add ((x14_7).toNat * 2)).off + 1,none⟩ = some (.int .i64 ((rd_T28 x6_24 x14_7).f1)) ∧ w'.cell? (ad858.add ((x14_7).toNat * 2)) = some (.int .i64 ((rd_T28 x6_24 x14_7).f0)) ∧ w'.cell? ⟨(ad858.add ((x14_7).toNat * 2)).block,(ad858.add ((x14_7).toNat * 2)).off + 1,none⟩ = some (.int .i64 ((rd_T28 x6_24 x14_7).f1))) (ds:=[]) #[ff,ff,ff,ff,ff,ff,ff,ff,ff,ff,ff,ff,ff,ff,ff,ff] (by kernel_rfl) rfl rfl ⟨hx875_0,hx875_1,hx890_0,hx890_1⟩ (fun hHeld => ?_);refine with_tabW humuslaw14_UndoOnce.tab21 humuslaw14_UndoOnce.bits21 (fun HT_ HW_ => ?_)
                       generalize w54.drew = w55 at HO_5 HO_6 HO869 BK843 BK874 HB hx875_0 hx875_1 hx890_0 hx890_1 hHeld ⊢
                       refine pure_ (i:=0) (N:=some 104) (v:=?_) (a':=?_) #[tt,ff,ff,ff,ff,ff,ff,ff,ff,ff,ff,ff,ff,ff,ff,ff] rfl rfl (any_of HT_.out (by kernel_rfl)) (fun _ _ _ h => h) (Or.inl ⟨by rfl,?_⟩) ?_ ?_
                       rotate_left
                       ·intro w'
                        go_simp
                        with_reducible rfl
                       rotate_left
                       ·simp only [Act.put,q1_,q2_,q3_,i64_w,i32_w]
                        rfl
                       refine pure_ (i:=1) (N:=some 105) (v:=?_) (a':=?_) #[tt,tt,ff,ff,ff,ff,ff,ff,ff,ff,ff,ff,ff,ff,ff,ff] rfl rfl (any_of HT_.out (by kernel_rfl)) (fun _ _ _ h => h) (Or.inl ⟨by rfl,?_⟩) ?_ ?_
                       rotate_left
                       ·intro w'
                        go_simp
                        with_reducible rfl
                       rotate_left
                       ·simp only [Act.put,q1_,q2_,q3_,i64_w,i32_w]
                        rfl
                       refine pure_ (i:=2) (N:=some 106) (v:=?_) (a':=?_) #[tt,tt,tt,ff,ff,ff,ff,ff,ff,ff,ff,ff,ff,ff,ff,ff] rfl rfl (any_of HT_.out (by kernel_rfl)) (fun _ _ _ h => h) (Or.inl ⟨by rfl,?_⟩) ?_ ?_
                       rotate_left
                       ·intro w'
                        go_simp
                        with_reducible rfl
                       rotate_left
                       ·simp only [Act.put,q1_,q2_,q3_,i64_w,i32_w]
                        rfl
                       refine pure_ (i:=3) (N:=some 107) (v:=?_) (a':=?_) #[tt,tt,tt,tt,ff,ff,ff,ff,ff,ff,ff,ff,ff,ff,ff,ff] rfl rfl (any_of HT_.out (by kernel_rfl)) (fun _ _ _ h => h) (Or.inl ⟨by rfl,?_⟩) ?_ ?_
                       rotate_left
                       ·intro w'
                        go_simp
                        with_reducible rfl
                       rotate_left
                       ·simp only [Act.put,q1_,q2_,q3_,i64_w,i32_w]
                        rfl
                       refine pure_ (i:=4) (N:=some 108) (v:=?_) (a':=?_) #[tt,tt,tt,tt,tt,ff,ff,ff,ff,ff,ff,ff,ff,ff,ff,ff] rfl rfl (any_of HT_.out (by kernel_rfl)) (fun _ _ _ h => h) (Or.inl ⟨by rfl,?_⟩) ?_ ?_
                       rotate_left
                       ·intro w'
                        go_simp
                        with_reducible rfl
                       rotate_left
                       ·simp only [Act.put,q1_,q2_,q3_,i64_w,i32_w]
                        rfl
                       refine pure_ (i:=5) (N:=some 109) (v:=?_) (a':=?_) #[tt,tt,tt,tt,tt,tt,ff,ff,ff,ff,ff,ff,ff,ff,ff,ff] rfl rfl (any_of HT_.out (by kernel_rfl)) (fun _ _ _ h => h) (Or.inl ⟨by rfl,?_⟩) ?_ ?_
                       rotate_left
                       ·intro w'
                        go_simp
                        with_reducible rfl
                       rotate_left
                       ·simp only [Act.put,q1_,q2_,q3_,i64_w,i32_w]
                        rfl
                       refine pure_ (i:=9) (N:=some 113) (v:=?_) (a':=?_) #[tt,tt,tt,tt,tt,tt,ff,ff,ff,tt,ff,ff,ff,ff,ff,ff] rfl rfl (any_of HT_.out (by kernel_rfl)) (fun _ _ _ h => h) (Or.inl ⟨by rfl,?_⟩) ?_ ?_
                       rotate_left
                       ·intro w'
                        go_simp
                        with_reducible rfl
                       rotate_left
                       ·simp only [Act.put,q1_,q2_,q3_,i64_w,i32_w]
                        rfl
                       refine pure_ (i:=10) (N:=some 114) (v:=?_) (a':=?_) #[tt,tt,tt,tt,tt,tt,ff,ff,ff,tt,tt,ff,ff,ff,ff,ff] rfl rfl (any_of HT_.out (by kernel_rfl)) (fun _ _ _ h => h) (Or.inl ⟨by rfl,?_⟩) ?_ ?_
                       rotate_left
                       ·intro w'
                        go_simp
                        with_reducible rfl
                       rotate_left
                       ·simp only [Act.put,q1_,q2_,q3_,i64_w,i32_w]
                        rfl
                       refine pure_ (i:=11) (N:=some 115) (v:=?_) (a':=?_) #[tt,tt,tt,tt,tt,tt,ff,ff,ff,tt,tt,tt,ff,ff,ff,ff] rfl rfl (any_of HT_.out (by kernel_rfl)) (fun _ _ _ h => h) (Or.inl ⟨by rfl,?_⟩) ?_ ?_
                       rotate_left
                       ·intro w'
                        go_simp
                        with_reducible rfl
                       rotate_left
                       ·simp only [Act.put,q1_,q2_,q3_,i64_w,i32_w]
                        rfl
                       refine pure_ (i:=12) (N:=some 116) (v:=?_) (a':=?_) #[tt,tt,tt,tt,tt,tt,ff,ff,ff,tt,tt,tt,tt,ff,ff,ff] rfl rfl (any_of HT_.out (by kernel_rfl)) (fun _ _ _ h => h) (Or.inl ⟨by rfl,?_⟩) ?_ ?_
                       rotate_left
                       ·intro w'
                        go_simp
                        with_reducible rfl
                       rotate_left
                       ·simp only [Act.put,q1_,q2_,q3_,i64_w,i32_w]
                        rfl
                       refine take_ (i:=6) (N:=some 110) (v:=?_) (a':=?_) #[tt,tt,tt,tt,tt,tt,tt,ff,ff,tt,tt,tt,tt,ff,ff,ff] rfl rfl (take_ofW HT_.out HW_.out (by kernel_rfl)) (fun _ _ _ h => h) (Or.inl ⟨by rfl,?_⟩) hHeld ?_ ?_
                       rotate_left
                       ·rintro w' ⟨s0,s1,s2,s3⟩
                        go_simp
                        with_reducible rfl
                       rotate_left
                       ·simp only [Act.put,q1_,q2_,q3_,i64_w,i32_w]
                        rfl
                       refine take_ (i:=13) (N:=some 117) (v:=?_) (a':=?_) #[tt,tt,tt,tt,tt,tt,tt,ff,ff,tt,tt,tt,tt,tt,ff,ff] rfl rfl (take_ofW HT_.out HW_.out (by kernel_rfl)) (fun _ _ _ h => h) (Or.inl ⟨by rfl,?_⟩) hHeld ?_ ?_
                       rotate_left
                       ·rintro w' ⟨s0,s1,s2,s3⟩
                        go_simp
                        with_reducible rfl
                       rotate_left
                       ·simp only [Act.put,q1_,q2_,q3_,i64_w,i32_w]
                        rfl
                       refine one_ (i:=7) (N:=some 111) #[tt,tt,tt,tt,tt,tt,tt,tt,ff,tt,tt,tt,tt,tt,ff,ff] rfl rfl (one_of HT_.out (by kernel_rfl)) (by decide) (fun K hK => ?_)
                       refine goes_ Try.func18 (by kernel_rfl) rfl #[.slice Ao48 x5_32.length co48,.int .i64 ((rd_T28 x6_24 x14_7).f0)] (by rfl) rfl rfl (by (try simp only [List.map_toArray,List.map_cons,List.map_nil]);first | done | rfl | (simp only [List.length_drop,List.length_take];rfl)) ?_
                       with_reducible refine (humusref14_At.calls k7 (fun k_ => (some k_ ≠ (.slice (some ad858) x6_24.length co47 : Value).ownBlock ∧ (some k_ ≠ (.slice Ao53 t867.length co53 : Value).ownBlock ∧ (k_ ≠ gb843 ∧ k_ ≠ gb874)))) _ _ x5_32 ((rd_T28 x6_24 x14_7).f0) t876 t877 t878 t879 t880 t881 t882 t883 t884 t887 t888 t889 _ ?side1 A45.out).mono ?_
                       (case side1 => exact Kd.N_V (HO_5.out))
                       rintro e w56 ⟨v885,rfl,ho0,hb⟩
                       have HS0_:=(hb.cell (World.block_lt_of_cell? _ _ (hHeld.1))).trans (hHeld.1)
                       have HS1_:=(hb.cell (World.block_lt_of_cell? _ _ (hHeld.2.1))).trans (hHeld.2.1)
                       have HS2_:=(hb.cell (World.block_lt_of_cell? _ _ (hHeld.2.2.1))).trans (hHeld.2.2.1)
                       have HS3_:=(hb.cell (World.block_lt_of_cell? _ _ (hHeld.2.2.2))).trans (hHeld.2.2.2)
                       refine ⟨_,rfl,?_⟩
                       have n0_:=Aside0.mk (Kd.N_below (by (with_reducible repeat (first | apply Kd.N_alloc | apply Kd.N_drewN | apply Kd.N_drew));exact HO_5.out) hb)
                       have n1_:=Aside0.mk (Kd.R_below (by (with_reducible repeat (first | apply Kd.R_alloc | apply Kd.R_drewN | apply Kd.R_drew));exact HO_6.out) hb)
                       have n2_:=Aside0.mk (Kd.R_below (by (with_reducible repeat (first | apply Kd.R_alloc | apply Kd.R_drewN | apply Kd.R_drew));exact HO869.out) hb)
                       have n3_:=Aside0.mk (Kd.V_lower (Kd.V_mono (ok':=fun k_ => some k_ ≠ (.slice (some ad858) x6_24.length co47 : Value).ownBlock ∧ some k_ ≠ (.slice Ao53 t867.length co53 : Value).ownBlock ∧ k_ ≠ gb843 ∧ k_ ≠ gb874) ho0 (fun k_ hk_ => ⟨Or.elim hk_ (fun hs_ => hs_.1) (fun hn_ => (Kd.fresh' (Kd.R_lt (by (with_reducible repeat (first | apply Kd.R_alloc | apply Kd.R_drewN | apply Kd.R_drew));exact HO_6.out)) k_ hn_)),Or.elim hk_ (fun hs_ => hs_.2.1) (fun hn_ => (Kd.fresh' (Kd.R_lt (by (with_reducible repeat (first | apply Kd.R_alloc | apply Kd.R_drewN | apply Kd.R_drew));exact HO869.out)) k_ hn_)),Or.elim hk_ (fun hs_ => hs_.2.2.1) (fun hn_ => (Kd.freshB (g:=gb843) (o:=.cells #[.int .i64 ((rd_T32 l0 x7_1).f0),.int .i64 (wrap64 (x7_1 + 1)),.int .i64 ((rd_T32 l0 x7_1).f2),.int .i64 ((rd_T32 l0 x7_1).f3),.int .i64 ((rd_T32 l0 x7_1).f4),.int .i64 ((rd_T32 l0 x7_1).f5),.float .f64 ((rd_T32 l0 x7_1).f6.f0),.bool ((rd_T32 l0 x7_1).f6.f1),.slice A841_8 ((rd_T32 l0 x7_1).f6.f2).length c841_8,.int .i64 ((rd_T32 l0 x7_1).f6.f3),.int .i64 ((rd_T32 l0 x7_1).f6.f4.f0),.int .i64 ((rd_T32 l0 x7_1).f6.f4.f1)] 32 (0,0)) (by (with_reducible repeat (first | refine blk_drewN ?_ _ | refine blk_drew ?_ | refine blk_alloc ?_ _));exact BK843.out) k_ hn_)),Or.elim hk_ (fun hs_ => hs_.2.2.2) (fun hn_ => (Kd.freshB (g:=gb874) (o:=.cells #[.int .i64 t859,.int .i64 t860,.int .i64 t861,.int .i64 t862,.int .i64 t863,.int .i64 t864,.float .f64 t865,.bool t866,.slice Ao53 t867.length co53,.int .i64 t870,.int .i64 t871,.int .i64 t872] 32 (0,0)) (by (with_reducible repeat (first | refine blk_drewN ?_ _ | refine blk_drew ?_ | refine blk_alloc ?_ _));exact BK874.out) k_ hn_))⟩)) (below_size (by repeat (first | (with_reducible first | exact HB.out | apply below_alloc | apply pw_below_drewN | apply below_drew1 | refine below_set ?_ GE843.out | refine below_set ?_ GE874.out) | exact HB.out))))
                       have n4_:=Aside0.mk (blk_below (g:=gb843) (o:=.cells #[.int .i64 ((rd_T32 l0 x7_1).f0),.int .i64 (wrap64 (x7_1 + 1)),.int .i64 ((rd_T32 l0 x7_1).f2),.int .i64 ((rd_T32 l0 x7_1).f3),.int .i64 ((rd_T32 l0 x7_1).f4),.int .i64 ((rd_T32 l0 x7_1).f5),.float .f64 ((rd_T32 l0 x7_1).f6.f0),.bool ((rd_T32 l0 x7_1).f6.f1),.slice A841_8 ((rd_T32 l0 x7_1).f6.f2).length c841_8,.int .i64 ((rd_T32 l0 x7_1).f6.f3),.int .i64 ((rd_T32 l0 x7_1).f6.f4.f0),.int .i64 ((rd_T32 l0 x7_1).f6.f4.f1)] 32 (0,0)) (by (with_reducible repeat (first | refine blk_drewN ?_ _ | refine blk_drew ?_ | refine blk_alloc ?_ _));exact BK843.out) hb)
                       have n5_:=Aside0.mk (blk_below (g:=gb874) (o:=.cells #[.int .i64 t859,.int .i64 t860,.int .i64 t861,.int .i64 t862,.int .i64 t863,.int .i64 t864,.float .f64 t865,.bool t866,.slice Ao53 t867.length co53,.int .i64 t870,.int .i64 t871,.int .i64 t872] 32 (0,0)) (by (with_reducible repeat (first | refine blk_drewN ?_ _ | refine blk_drew ?_ | refine blk_alloc ?_ _));exact BK874.out) hb)
                       have n6_:=Aside0.mk (below_step (by repeat (first | (with_reducible first | exact HB.out | apply below_alloc | apply pw_below_drewN | apply below_drew1 | refine below_set ?_ GE843.out | refine below_set ?_ GE874.out) | exact HB.out)) hb)
                       clear HO_5
                       clear HO_6
                       clear HO869
                       clear BK843
                       clear BK874
                       clear HB
                       have HO_5:=n0_
                       have HO_6:=n1_
                       have HO869:=n2_
                       have HO886:=n3_
                       have BK843:=n4_
                       have BK874:=n5_
                       have HB:=n6_
                       clear n0_ n1_ n2_ n3_ n4_ n5_ n6_
                       (try clear hb)
                       (try clear hb2)
                       (try clear hk)
                       (try clear hi)
                       (try clear ho0)
                       refine hK.out _ _ ⟨HS0_,HS1_,HS2_,HS3_⟩ (fun hHeld => ?_)
                       clear hK K
                       refine norm_ (a':=?_) ?_ ?_
                       rotate_left
                       ·show Act.put _ (some 111) _ = _
                        simp only [Act.put,q1_,q2_,q3_,i64_w,i32_w]
                        rfl
                       refine pure_ (i:=8) (N:=some 112) (v:=?_) (a':=?_) #[tt,tt,tt,tt,tt,tt,tt,tt,tt,tt,tt,tt,tt,tt,ff,ff] rfl rfl (any_of HT_.out (by kernel_rfl)) (fun _ _ _ h => h) (Or.inl ⟨by rfl,?_⟩) ?_ ?_
                       rotate_left
                       ·intro w'
                        go_simp
                        with_reducible rfl
                       rotate_left
                       ·simp only [Act.put,q1_,q2_,q3_,i64_w,i32_w]
                        rfl
                       refine pure_ (i:=14) (N:=some 118) (v:=?_) (a':=?_) #[tt,tt,tt,tt,tt,tt,tt,tt,tt,tt,tt,tt,tt,tt,tt,ff] rfl rfl (any_of HT_.out (by kernel_rfl)) (fun _ _ _ h => h) (Or.inl ⟨by rfl,?_⟩) ?_ ?_
                       rotate_left
                       ·intro w'
                        go_simp
                        with_reducible rfl
                       rotate_left
                       ·simp only [Act.put,q1_,q2_,q3_,i64_w,i32_w]
                        rfl
                       refine pure_ (i:=15) (N:=some 119) (v:=?_) (a':=?_) #[tt,tt,tt,tt,tt,tt,tt,tt,tt,tt,tt,tt,tt,tt,tt,tt] rfl rfl (any_of HT_.out (by kernel_rfl)) (fun _ _ _ h => h) (Or.inl ⟨by rfl,?_⟩) ?_ ?_
                       rotate_left
                       ·intro w'
                        go_simp
                        with_reducible rfl
                       rotate_left
                       ·simp only [Act.put,q1_,q2_,q3_,i64_w,i32_w]
                        rfl
                       refine done_ (done_of HT_.out (by kernel_rfl)) ?_
                       try go_wp2
                       go_roundg k7
                       case measure => have:=HK1.out;have:=HJ7.out;have:=HJ15.out;have:=HJ24.out;have:=HJ29.out;have:=HJ32.out;have:=HK7.out;omega
                       case rel => exact ⟨(wrap64 (x14_7 + 1)),(by first | rfl | (simp;done) | (simp [*];done)),H',⟨by have:=HK1.out;have:=HJ7.out;have:=HJ15.out;have:=HJ24.out;have:=HJ29.out;have:=HJ32.out;have:=HK7.out;omega⟩,⟨by (with_reducible repeat (first | apply Kd.N_alloc | apply Kd.N_drewN | apply Kd.N_drew));exact Kd.N_mono HO_5.out (fun _ hk => ⟨hk.1,hk.2.2.1⟩)⟩,⟨by (with_reducible repeat (first | apply Kd.R_alloc | apply Kd.R_drewN | apply Kd.R_drew));exact HO_6.out⟩,⟨by (with_reducible repeat (first | refine blk_drewN ?_ _ | refine blk_drew ?_ | refine blk_alloc ?_ _));exact BK843.out⟩,⟨by repeat (first | (with_reducible first | exact HB.out | apply below_alloc | apply pw_below_drewN | apply below_drew1 | refine below_set ?_ GE843.out | refine below_set ?_ GE874.out) | exact HB.out)⟩⟩
                     ·rw [if_neg c43] at H
                      exact absurd H (by simp)
                    ·rw [if_neg c42] at H
                     have c42b0 : decide (x14_7 < (x6_24.length : Int)) = false:=decide_eq_false c42
                     clear c42
                     have H':=Aside0.mk H
                     clear H
                     obtain ⟨Ao57,co57,eo57⟩:=Kd.R_slice HO_6.out
                     subst eo57
                     go_wp2
                     go_roundg k7
                     case measure => have:=HK1.out;have:=HJ7.out;have:=HJ15.out;have:=HJ24.out;have:=HJ29.out;have:=HJ32.out;have:=HK7.out;omega
                     case rel => exact ⟨(x5_32),(x6_24),(wrap64 (x7_1 + 1)),(by first | rfl | (simp;done) | (simp [*];done)),H',⟨by have:=HK1.out;have:=HJ7.out;have:=HJ15.out;have:=HJ24.out;have:=HJ29.out;have:=HJ32.out;have:=HK7.out;omega⟩,⟨by (with_reducible repeat (first | apply Kd.N_alloc | apply Kd.N_drewN | apply Kd.N_drew));exact Kd.N_mono HO_5.out (fun _ hk => hk.1)⟩,⟨by (with_reducible repeat (first | apply Kd.R_alloc | apply Kd.R_drewN | apply Kd.R_drew));exact HO_6.out⟩,⟨by repeat (first | (with_reducible first | exact HB.out | apply below_alloc | apply pw_below_drewN | apply below_drew1 | refine below_set ?_ GE843.out) | exact HB.out)⟩⟩
        ·rw [if_neg c12] at H
         exact absurd H (by simp)
       ·rw [if_neg c11] at H
        exact absurd H (by simp)
      ·replace c10:=Bool.eq_false_iff.mpr c10
       subst c10
       have H1 : ((humuslaw14_awake.f kj7).bind fun t840 => (some t840)) = some r:=by rw [if_neg (show ¬ (false = true) by decide)] at H;exact H
       clear H
       have H:=H1
       clear H1
       replace H:=Option.bind_eq_some_iff.mp H
       obtain ⟨t840,A580,H⟩:=H
       replace H : (some t840) = some r:=H
       have A58:=Aside0.mk A580
       clear A580
       obtain rfl:=Option.some.inj H
       go_wp2_with (first | ((with_reducible refine gate_callee (f:=19) rfl ?_);refine goesL_ (some 120) rfl rfl Try.func19 (by kernel_rfl) rfl #[] rfl (by (try simp only [List.map_toArray,List.map_cons,List.map_nil]);first | done | rfl | (simp only [List.length_drop,List.length_take];rfl)) ?_;(with_reducible refine (humuslaw14_awake.calls kj7  t840 _ A58.out).mono ?_);rintro e w59 ⟨rfl,hb⟩;refine ⟨_,rfl,?_⟩;have n0_:=Aside0.mk (Kd.N_below (by (with_reducible repeat (first | apply Kd.N_alloc | apply Kd.N_drewN | apply Kd.N_drew));exact HO_5.out) hb);have n1_:=Aside0.mk (Kd.R_below (by (with_reducible repeat (first | apply Kd.R_alloc | apply Kd.R_drewN | apply Kd.R_drew));exact HO_6.out) hb);have n2_:=Aside0.mk (below_step (by repeat (first | (with_reducible first | exact HB.out | apply below_alloc | apply pw_below_drewN | apply below_drew1) | exact HB.out)) hb);clear HO_5;clear HO_6;clear HB;have HO_5:=n0_;have HO_6:=n1_;have HB:=n2_;clear n0_ n1_ n2_;(try clear hb);(try clear hb2);(try clear hk);(try clear hi)))
       go_ret
       exact ⟨by first | rfl | (simp [errW_none,errW_some] <;> rfl) | (simp [*,errW_none,errW_some] <;> rfl),by repeat (first | (with_reducible first | exact HB.out | apply below_alloc | apply pw_below_drewN | apply below_drew1) | exact HB.out)⟩
 ·rw [if_neg c3] at H
  exact absurd H (by simp)
end Go.Proofs.Ytdcllbhkjcdnoaa.P
set_option linter.unusedVariables false
set_option linter.unusedSimpArgs false
namespace Go.Proofs.Ytdcllbhkjcdnoaa.P
open Go.RowKit Go.Proofs.Ytdcllbhkjcdnoaa Go.Proofs.Ytdcllbhkjcdnoaa.Mem Go.Proofs.Ytdcllbhkjcdnoaa.Pac Go.Proofs.YtdcllbhkjcdnoaaW.PrintWords Go.Proofs.YtdcllbhkjcdnoaaW.PrintLast
def OnceI (now : List Und) (cells : List S28) (i : Nat) : Prop := mayC now = true ∧ now.length = 6 ∧ (∀ e ∈ now, e.f6.f2.length ≤ 20) ∧ cells.length ≤ i ∧ ∀ c ∈ cells, 1 ≤ c.f1
theorem OnceI.short {now : List Und} {cells : List S28} {i : Nat} (h : OnceI now cells i) : shortU now ∧ now.length ≤ 1000000 :=
  ⟨fun e he => Nat.le_trans (h.2.2.1 e he) (by decide), by rw [h.2.1]; decide⟩
theorem dropU_len {l : List Und} {c : Int} (hm : mayC l = true) : (dropU l c).1.length = l.length := by
  unfold dropU; rw [if_pos hm]
  split
  · rfl
  · exact List.length_set ..
theorem rdR_mem {l : List S28} {i : Nat} (h : i < l.length) : rd_T28 l (i : Int) ∈ l := by
  unfold rd_T28
  rw [Int.toNat_natCast, List.getD_eq_getElem?_getD, List.getElem?_eq_getElem h]
  exact List.getElem_mem h
theorem once_l1 {l : List Und} {dr : List Int} {now : List Und} {cells : List S28} {i n : Nat} (hI : OnceI now cells n) (hn : n ≤ 1000) (hN : ∃ K, ∀ k, K ≤ k → humuslaw14_UndoOnce.l0 k l dr now cells (wrap64 ((i : Int) + 1)) = some true) :
    ∀ d j : Nat, d = cells.length - j → j ≤ cells.length → ∃ K, ∀ k, K ≤ k → humuslaw14_UndoOnce.l1 k l dr now cells (i : Int) (j : Int) = some true := by
  intro d
  induction d with
  | zero =>
    intro j hd hj
    obtain ⟨K, hK⟩ := hN
    refine ⟨K + 1, fun k hk => ?_⟩
    obtain ⟨k, rfl⟩ : ∃ m, k = m + 1 := ⟨k - 1, by omega⟩
    simp only [humuslaw14_UndoOnce.l1]
    rw [if_neg (by omega)]
    exact hK k (by omega)
  | succ d ih =>
    intro j hd hj
    obtain ⟨K, hK⟩ := ih (j + 1) (by omega) (by omega)
    refine ⟨K + 20, fun k hk => ?_⟩
    obtain ⟨k, rfl⟩ : ∃ m, k = m + 1 := ⟨k - 1, by omega⟩
    simp only [humuslaw14_UndoOnce.l1]
    have hno : 1 ≤ (rd_T28 cells (j : Int)).f1 := hI.2.2.2.2 _ (rdR_mem (by omega))
    generalize rd_T28 cells (j : Int) = c at *
    have hl6 := hI.2.1
    rw [if_pos (by omega), if_pos (by omega), get_ev c.f0 c.f1 hI.short (by omega)]
    simp only [Option.bind_some]
    rw [rAt_ev c.f0 hI.short.2 (by omega)]
    simp only [Option.bind_some]
    have he : ((if gotU now c.f0 c.f1 = true then ((atU now c.f0).f0, (atU now c.f0).f1, (atU now c.f0).f2, (atU now c.f0).f3, (atU now c.f0).f4, (atU now c.f0).f5, (atU now c.f0).f6.f0, (atU now c.f0).f6.f1, (atU now c.f0).f6.f2, (atU now c.f0).f6.f3, (atU now c.f0).f6.f4.f0, (atU now c.f0).f6.f4.f1, true) else ((0, 0, 0, 0, 0, 0, 0, false, [], 0, 0, 0, false) : Int × Int × Int × Int × Int × Int × Nat × Bool × List Nat × Int × Int × Int × Bool)).2.2.2.2.2.2.2.2.2.2.2.2 != ((atU now c.f0).f1 == c.f1)) = false := by
      have hg : gotU now c.f0 c.f1 = ((atU now c.f0).f1 == c.f1) := by
        unfold gotU
        rw [hI.1, Bool.true_and]
        cases hem : emptyU (atU now c.f0) with
        | false => rfl
        | true =>
          rw [empty_no hem]
          simp; omega
      rw [← hg]
      cases gotU now c.f0 c.f1 <;> rfl
    rw [he, if_neg (by decide), show wrap64 ((j : Int) + 1) = ((j + 1 : Nat) : Int) by unfold wrap64; have := hI.2.2.2.1; omega]
    exact hK k (by omega)
theorem once_j7 {l : List Und} {dr : List Int} {now : List Und} {cells : List S28} {i n : Nat} (hI : OnceI now cells n) (hn : n ≤ 1000) (hN : ∃ K, ∀ k, K ≤ k → humuslaw14_UndoOnce.l0 k l dr now cells (wrap64 ((i : Int) + 1)) = some true) :
    ∃ K, ∀ k, K ≤ k → humuslaw14_UndoOnce.j7 k l dr now cells (i : Int) = some true := by
  obtain ⟨K, hK⟩ := once_l1 hI hn hN _ 0 rfl (Nat.zero_le _)
  refine ⟨K + 1, fun k hk => ?_⟩
  obtain ⟨k, rfl⟩ : ∃ m, k = m + 1 := ⟨k - 1, by omega⟩
  simp only [humuslaw14_UndoOnce.j7]
  exact hK k (by omega)
theorem once_j4 {l : List Und} {dr : List Int} {now : List Und} {cells : List S28} {i n : Nat} (hI : OnceI now cells n) (hn : n ≤ 1000) (hN : ∀ now, OnceI now cells n → ∃ K, ∀ k, K ≤ k → humuslaw14_UndoOnce.l0 k l dr now cells (wrap64 ((i : Int) + 1)) = some true) :
    ∃ K, ∀ k, K ≤ k → humuslaw14_UndoOnce.j4 k l dr now cells (i : Int) = some true := by
  obtain ⟨K1, h1⟩ := once_j7 hI hn (hN now hI)
  by_cases hi : (i : Int) < (dr.length : Int)
  rotate_left
  · refine ⟨K1 + 3, fun k hk => ?_⟩
    obtain ⟨k, rfl⟩ : ∃ m, k = m + 2 := ⟨k - 2, by omega⟩
    simp only [humuslaw14_UndoOnce.j4, humuslaw14_UndoOnce.j5]
    rw [if_neg hi, if_neg (by decide)]
    exact h1 k (by omega)
  by_cases hz : (Int.tmod (rd dr (i : Int)) 2 == 0) = true
  rotate_left
  · refine ⟨K1 + 3, fun k hk => ?_⟩
    obtain ⟨k, rfl⟩ : ∃ m, k = m + 2 := ⟨k - 2, by omega⟩
    simp only [humuslaw14_UndoOnce.j4, humuslaw14_UndoOnce.j5]
    rw [if_pos hi, if_pos (by omega), if_neg hz]
    exact h1 k (by omega)
  · have hI2 : OnceI (dropU now (1 + ((Int.tdiv (rd dr (i : Int)) 2 % 256) % 7))).1 cells n :=
      ⟨dropU_may hI.1, by rw [dropU_len hI.1]; exact hI.2.1, fun e he => by
        rcases dropU_mem e he with h | rfl
        · exact hI.2.2.1 e h
        · decide, hI.2.2.2.1, hI.2.2.2.2⟩
    obtain ⟨K2, h2⟩ := once_j7 hI2 hn (hN _ hI2)
    refine ⟨K1 + K2 + 4, fun k hk => ?_⟩
    obtain ⟨k, rfl⟩ : ∃ m, k = m + 3 := ⟨k - 3, by omega⟩
    simp only [humuslaw14_UndoOnce.j4, humuslaw14_UndoOnce.j5]
    rw [if_pos hi, if_pos (by omega), if_pos hz, if_pos (by omega), if_pos hi, drop_ev _ hI.short]
    simp only [Option.bind_some, humuslaw14_UndoOnce.j6]
    split
    · exact h2 k (by omega)
    · exact h1 k (by omega)
theorem once_l0 {l : List Und} {dr : List Int} (hl : True) : ∀ (d i : Nat) (now : List Und) (cells : List S28), d = 40 - i → i ≤ 40 → OnceI now cells i → ∃ K, ∀ k, K ≤ k → humuslaw14_UndoOnce.l0 k l dr now cells (i : Int) = some true := by
  intro d
  induction d with
  | zero =>
    intro i now cells hd hi hI
    refine ⟨30, fun k hk => ?_⟩
    obtain ⟨k, rfl⟩ : ∃ m, k = m + 2 := ⟨k - 2, by omega⟩
    have h40 : decide ((i : Int) < 40) = false := decide_eq_false (by omega)
    simp only [humuslaw14_UndoOnce.l0, humuslaw14_UndoOnce.j1]
    rw [h40, ite_self, if_neg (show ¬ (false = true) by decide), awake14_ev (by omega)]
    all_goals first | rfl | simp only [Option.bind_some, ite_self]
  | succ d ih =>
    intro i now cells hd hi hI
    have hw : wrap64 ((i : Int) + 1) = ((i + 1 : Nat) : Int) := by unfold wrap64; omega
    by_cases hlt : (i : Int) < (l.length : Int)
    rotate_left
    · refine ⟨30, fun k hk => ?_⟩
      obtain ⟨k, rfl⟩ : ∃ m, k = m + 2 := ⟨k - 2, by omega⟩
      simp only [humuslaw14_UndoOnce.l0, humuslaw14_UndoOnce.j1]
      rw [if_neg hlt, if_neg (show ¬ (false = true) by decide), awake14_ev (by omega)]
      all_goals first | rfl | simp only [Option.bind_some, ite_self]
    have h40 : decide ((i : Int) < 40) = true := decide_eq_true (by omega)
    have hstep : ∀ (now : List Und) (cells : List S28), OnceI now cells (i + 1) → ∃ K, ∀ k, K ≤ k → humuslaw14_UndoOnce.l0 k l dr now cells (wrap64 ((i : Int) + 1)) = some true := fun now cells hI => by
      rw [hw]; exact ih (i + 1) now cells (by omega) (by omega) hI
    have hI1 : OnceI now cells (i + 1) := ⟨hI.1, hI.2.1, hI.2.2.1, Nat.le_succ_of_le hI.2.2.2.1, hI.2.2.2.2⟩
    by_cases hc : ((rd_T32 l (i : Int)).f6.f2.length : Int) > 20
    · obtain ⟨K, hK⟩ := hstep now cells hI1
      refine ⟨K + 4, fun k hk => ?_⟩
      obtain ⟨k, rfl⟩ : ∃ m, k = m + 3 := ⟨k - 3, by omega⟩
      simp only [humuslaw14_UndoOnce.l0, humuslaw14_UndoOnce.j1, humuslaw14_UndoOnce.j2]
      rw [if_pos hlt, h40, if_pos rfl, if_pos (by omega), if_pos hlt, if_pos hc]
      exact hK k (by omega)
    · have hj4 := fun (now : List Und) (cells : List S28) (hI : OnceI now cells (i + 1)) => once_j4 (l := l) (dr := dr) (i := i) hI (by omega) (fun now2 h2 => hstep now2 cells h2)
      obtain ⟨K1, h1⟩ := hj4 now cells hI1
      generalize hu : (⟨(rd_T32 l (i : Int)).f0, wrap64 ((i : Int) + 1), (rd_T32 l (i : Int)).f2, (rd_T32 l (i : Int)).f3, (rd_T32 l (i : Int)).f4, (rd_T32 l (i : Int)).f5, (rd_T32 l (i : Int)).f6⟩ : Und) = u
      have hus : u.f6.f2.length ≤ 20 := by rw [← hu]; show (rd_T32 l (i : Int)).f6.f2.length ≤ 20; omega
      have hun : u.f1 = wrap64 ((i : Int) + 1) := by rw [← hu]
      have hI2 : OnceI (putU now u).1 (cells ++ [⟨(putU now u).2.1, wrap64 ((i : Int) + 1)⟩]) (i + 1) := by
        refine ⟨(putU_may hI.1).1, by rw [(putU_may hI.1).2]; exact hI.2.1, fun e he => ?_, by rw [List.length_append]; have := hI.2.2.2.1; exact Nat.succ_le_succ this, fun c hc => ?_⟩
        · rcases putU_mem e he with h | rfl
          · exact hI.2.2.1 e h
          · exact hus
        · rcases List.mem_append.1 hc with h | h
          · exact hI.2.2.2.2 c h
          · rw [List.mem_singleton] at h
            rw [h, hw]; show (1 : Int) ≤ ((i + 1 : Nat) : Int); omega
      obtain ⟨K2, h2⟩ := hj4 _ _ hI2
      refine ⟨K1 + K2 + 20, fun k hk => ?_⟩
      obtain ⟨k, rfl⟩ : ∃ m, k = m + 3 := ⟨k - 3, by omega⟩
      have hp := put_ev (k := k + 1) (u := u) hI.short (by omega) (by rw [hI.2.1]; omega)
      rw [← hu] at hp
      simp only [humuslaw14_UndoOnce.l0, humuslaw14_UndoOnce.j1]
      rw [if_pos hlt, h40, if_pos rfl, if_pos (by omega), if_pos hlt, if_neg hc]
      simp only at hp
      rw [hp, hu]
      simp only [Option.bind_some, humuslaw14_UndoOnce.j3]
      split
      · rw [if_pos (by have := hI.2.2.2.1; omega)]
        exact h2 k (by omega)
      · exact h1 k (by omega)
theorem undoOnce_ev (l : List Und) (dr : List Int) (hl : True) : ∃ k, humuslaw14_UndoOnce.f k l dr = some true := by
  have hI : OnceI (List.replicate 6 z32) [] 0 := ⟨by kernel_rfl, rfl, fun e he => by rw [List.eq_of_mem_replicate he]; decide, Nat.le_refl _, fun c hc => by cases hc⟩
  obtain ⟨K, hK⟩ := once_l0 (dr := dr) hl 40 0 _ _ rfl (by decide) hI
  refine ⟨K, ?_⟩
  unfold humuslaw14_UndoOnce.f
  rw [if_pos (by decide)]
  exact hK K (Nat.le_refl _)
theorem UndoOnce_walk {w : World} (a : List S32) (A : Option Addr) (c : Nat) (hc : a.length ≤ c) (hr : Kd.C k32 w A a.length a) (ga : ∀ x ∈ a, good_undo x) (ma : a.length ≤ maxLen) (B : Option Addr) (len cap : Nat) (z : List Int) (hb : IsRow .u8 w B len cap z) (y : len * 1 ≤ 140737488351232) :
    Calls Try.prog 3 #[.slice A a.length c, .slice B len cap] w fun e w' => e = .returned (.bool true) ∧ Below w.heap.size w w' := by
  obtain ⟨l1, rfl, hr1, hm1, hw1, hc1⟩ := ReadsInt.ofRowC hb
  obtain ⟨k, hk⟩ := undoOnce_ev a l1 trivial
  exact humuslaw14_UndoOnce.calls k _ _ _ _ _ _ true w hr hc (Kd.C_of_reads (d := (0 : Int)) (h1 := fun _ => rfl) hr1) hc1 hk
end Go.Proofs.Ytdcllbhkjcdnoaa.P
