/- by wip/prune.py -/
import Derived.Test.YtbmcbhpkefjhbaaDoorMTableCodes8
import Derived.Test.YtbmcbhpkefjhbaaDoorMTableCodes9
import Derived.Test.YtbmcbhpkefjhbaaDoorMTableCodes10
set_option linter.unusedSimpArgs false
set_option linter.unusedVariables false
namespace Go.Proofs.YtbmcbhpkefjhbaaDoor.P
open Go.RowKit YtbmcbhpkefjhbaaDoorW.PrintWords YtbmcbhpkefjhbaaDoorW.PrintLast YtbmcbhpkefjhbaaDoorW.PrintMore
attribute [local go_sem] max2_int min2_int max_two min_two max_three min_three max_four min_four   -- for this text's walks alone
attribute [local go_sem] run_store_float
def bytes_trimLeftByte.l0 : Nat→List Int→Int→Option (List Int)
 | 0,_,_=>none
 | k + 1,x0,x1=>if (x0.length : Int) > 0 then (if 0<(x0.length : Int) then (if (rd x0 0)=x1 then (if 1≤(x0.length : Int) then (bytes_trimLeftByte.l0 k (x0.drop 1) x1) else (none)) else (if (x0.length : Int)=0 then (some ([] : List Int)) else (some x0))) else (none)) else (if (x0.length : Int)=0 then (some ([] : List Int)) else (some x0))
def bytes_trimLeftByte.f (k : Nat) (l0 : List Int) (a1 : Int) : Option (List Int):=bytes_trimLeftByte.l0 k l0 a1
set_option maxHeartbeats 8000000 in
set_option maxRecDepth 100000 in
theorem bytes_trimLeftByte.calls (k : Nat) (P0_ : Nat→Prop) (A0 : Option Addr) (c0 : Nat) (l0 : List Int) (a1 : Int) (r : List Int) (w : World) (hs0 : Kd.V (Kd.int .u8) 5 w w.heap.size (fun k_=>P0_ k_) (.slice A0 l0.length c0) l0) (h : bytes_trimLeftByte.f k l0 a1=some r) :
  Calls Tryd.prog 55 #[.slice A0 l0.length c0,.int .u8 a1] w fun e w'=>∃ v0_ : Value,e=.returned (v0_)∧Kd.V (Kd.int .u8) 5 w' w.heap.size (fun k_=>(P0_ k_∨w.heap.size≤k_)) v0_ r∧Below w.heap.size w w':=by
 have HO0:=A_ (show Kd.V (Kd.int .u8) 5 w w.heap.size (fun k_=>(P0_ k_∨w.heap.size≤k_)) (.slice A0 l0.length c0) l0 from Kd.V_mono hs0 (fun k_ hk=>.inl hk))
 have HB:=A_ (Below.refl w.heap.size w);have H : (bytes_trimLeftByte.l0 k l0 a1)=some r:=h;clear h;have H':=A_ H;clear H;go_enter Tryd.func55,Tryd.ntmps55;go_wp2
 go_loopg [0] k (fun kq v0 w'=>∃ (x0_1 : List Int),Aside0 (bytes_trimLeftByte.l0 kq x0_1 a1=some r)∧Aside0 (kq≤k)∧Aside0 (Kd.V (Kd.int .u8) 5 w' w.heap.size (fun k_=>(P0_ k_∨w.heap.size≤k_)) v0 x0_1)∧Aside0 (Below w.heap.size w w'))
 case atStart=>exact ⟨(l0),H',⟨Nat.le_refl _⟩,⟨by (with_reducible repeat (first|apply Kd.V_alloc|apply Kd.V_drewN|apply Kd.V_drew));exact HO0.out⟩,⟨hb0_ HB.out⟩⟩
 case round =>
  clear H';(try clear p2);obtain ⟨x0_1,HA,HK1,HO_0,HB⟩:=hrel
  cases gk with
  | zero=>exact absurd HA.out (by simp [bytes_trimLeftByte.l0])
  | succ k1 =>
   have H:=HA.out;clear HA
   simp only [bytes_trimLeftByte.l0] at H
   by_cases c3 : (x0_1.length : Int) > 0
   rotate_left
   ·rw [if_neg c3] at H
    have c3b0 : decide (0<(x0_1.length : Int))=false:=df_ c3
    have c3b1 : decide (0<x0_1.length)=false:=df_ (by omega)
    clear c3
    by_cases c12 : (x0_1.length : Int)=0
    ·rw [if_pos c12] at H
     have c12b0 : ((x0_1.length : Int) == 0)=true:=beq_iff_eq.mpr c12;have c12b1 : ((x0_1.length : Int) != 0)=false:=bne_eq_false_iff_eq.mpr c12;clear c12;obtain rfl:=Option.some.inj H;obtain ⟨Ao13,co13,eo13⟩:=Kd.V_slice HO_0.out;subst eo13;go_wp2;go_ret
     exact ⟨_,by first|rfl|(simp [errW_none,errW_some] <;> rfl)|(simp [*,errW_none,errW_some] <;> rfl),Kd.V_nil _ _ _ _ _,hb0_ HB.out⟩
    rw [if_neg c12] at H
    have c12b0 : ((x0_1.length : Int) == 0)=false:=beq_eq_false_iff_ne.mpr c12;have c12b1 : ((x0_1.length : Int) != 0)=true:=bne_iff_ne.mpr c12
    have c12b2 : ¬ (x0_1=[]):=fun h_=>c12 (by rw [h_];rfl)
    obtain rfl:=Option.some.inj H;obtain ⟨Ao14,co14,eo14⟩:=Kd.V_slice HO_0.out;subst eo14;go_wp2;go_ret
    exact ⟨_,by first|rfl|(simp [errW_none,errW_some] <;> rfl)|(simp [*,errW_none,errW_some] <;> rfl),by (with_reducible repeat (first|apply Kd.V_alloc|apply Kd.V_drewN|apply Kd.V_drew));exact HO_0.out,hb0_ HB.out⟩
   rw [if_pos c3] at H
   have c3b0 : decide (0<(x0_1.length : Int))=true:=dt_ c3
   have c3b1 : decide (0<x0_1.length)=true:=dt_ (by omega)
   clear c3
   by_cases c4 : 0<(x0_1.length : Int)
   rotate_left
   ·rw [if_neg c4] at H
    exact absurd H (by simp)
   rw [if_pos c4] at H
   have c4b0 : decide (0<(x0_1.length : Int))=true:=dt_ c4
   have c4b1 : decide (0<x0_1.length)=true:=dt_ (by omega)
   clear c4
   by_cases c5 : (rd x0_1 0)=a1
   rotate_left
   ·rw [if_neg c5] at H
    have c5b0 : ((rd x0_1 0) == a1)=false:=beq_eq_false_iff_ne.mpr c5;have c5b1 : ((rd x0_1 0) != a1)=true:=bne_iff_ne.mpr c5
    by_cases c9 : (x0_1.length : Int)=0
    ·rw [if_pos c9] at H
     have c9b0 : ((x0_1.length : Int) == 0)=true:=beq_iff_eq.mpr c9;have c9b1 : ((x0_1.length : Int) != 0)=false:=bne_eq_false_iff_eq.mpr c9;clear c9;obtain rfl:=Option.some.inj H;obtain ⟨Ao10,co10,eo10⟩:=Kd.V_slice HO_0.out;subst eo10
     have p196 : 0≤(0 : Int):=(by omega)
     have q196 : 0<(x0_1.length : Int):=od_ (by first|(with_reducible assumption)|assumption)
     obtain ⟨ad196,e196,hx196_0⟩:=Kd.at_int (Kd.V_reads' HO_0.out).2.2 0 p196 q196
     cases e196
     have qi196 : (0<x0_1.length)=True:=eq_true (by omega)
     (try rw [N0_] at hx196_0);(try rw [Addr.add_zero'] at hx196_0);replace p196:=eq_true p196;replace q196:=eq_true q196;go_wp2;go_ret
     exact ⟨_,by first|rfl|(simp [errW_none,errW_some] <;> rfl)|(simp [*,errW_none,errW_some] <;> rfl),Kd.V_nil _ _ _ _ _,hb0_ HB.out⟩
    rw [if_neg c9] at H
    have c9b0 : ((x0_1.length : Int) == 0)=false:=beq_eq_false_iff_ne.mpr c9;have c9b1 : ((x0_1.length : Int) != 0)=true:=bne_iff_ne.mpr c9
    have c9b2 : ¬ (x0_1=[]):=fun h_=>c9 (by rw [h_];rfl)
    obtain rfl:=Option.some.inj H;obtain ⟨Ao11,co11,eo11⟩:=Kd.V_slice HO_0.out;subst eo11
    have p196 : 0≤(0 : Int):=(by omega)
    have q196 : 0<(x0_1.length : Int):=od_ (by first|(with_reducible assumption)|assumption)
    obtain ⟨ad196,e196,hx196_0⟩:=Kd.at_int (Kd.V_reads' HO_0.out).2.2 0 p196 q196
    cases e196
    have qi196 : (0<x0_1.length)=True:=eq_true (by omega)
    (try rw [N0_] at hx196_0);(try rw [Addr.add_zero'] at hx196_0);replace p196:=eq_true p196;replace q196:=eq_true q196;go_wp2;go_ret
    exact ⟨_,by first|rfl|(simp [errW_none,errW_some] <;> rfl)|(simp [*,errW_none,errW_some] <;> rfl),by (with_reducible repeat (first|apply Kd.V_alloc|apply Kd.V_drewN|apply Kd.V_drew));exact HO_0.out,hb0_ HB.out⟩
   rw [if_pos c5] at H
   have c5b0 : ((rd x0_1 0) == a1)=true:=beq_iff_eq.mpr c5;have c5b1 : ((rd x0_1 0) != a1)=false:=bne_eq_false_iff_eq.mpr c5;clear c5
   by_cases c6 : 1≤(x0_1.length : Int)
   rotate_left
   ·rw [if_neg c6] at H
    exact absurd H (by simp)
   rw [if_pos c6] at H
   have c6b0:=eq_true c6;have c6b1 : decide (1≤(x0_1.length : Int))=true:=dt_ c6;clear c6
   obtain ⟨y197,hy197⟩ : ∃ y_ : List Int,y_=(x0_1.drop 1):=⟨_,rfl⟩
   replace H : (bytes_trimLeftByte.l0 k1 y197 a1)=some r:=by first|(rw [hy197];with_reducible exact H)|(have H2_:=(Option.bind_some _ _).symm.trans H;rw [hy197];with_reducible exact H2_)|(have H2_:=(Option.bind_some _ _).symm.trans H;with_reducible exact H2_)|with_reducible exact H|(rw [hy197];exact H)|exact H
   have Ny197:=A_ hy197;clear hy197;have H':=A_ H;clear H;obtain ⟨Ao7,co7,eo7⟩:=Kd.V_slice HO_0.out;subst eo7
   have p196 : 0≤(0 : Int):=(by omega)
   have q196 : 0<(x0_1.length : Int):=od_ (by first|(with_reducible assumption)|assumption)
   obtain ⟨ad196,e196,hx196_0⟩:=Kd.at_int (Kd.V_reads' HO_0.out).2.2 0 p196 q196
   cases e196
   have qi196 : (0<x0_1.length)=True:=eq_true (by omega)
   (try rw [N0_] at hx196_0);(try rw [Addr.add_zero'] at hx196_0);replace p196:=eq_true p196;replace q196:=eq_true q196
   have q8 : (1 : Int)≤((x0_1.length : Int) : Int):=od_ (by first|(with_reducible assumption)|assumption)
   obtain ⟨i08,hi08,_,hsz8,_⟩:=info_parts info5;have hroom8 : x0_1.length≤co7:=(Kd.V_reads' HO_0.out).2.1;have hC8 : Kd.F (Kd.int .u8) _ _ (some ad196) x0_1.length x0_1:=(Kd.V_at (base:=w.heap.size) HO_0.out).2.2
   have hcut8:=cut_from (P:=Tryd.prog) 22 5 .i64 Tryd.underlying22 hi08 1 hsz8 (some ad196) x0_1.length co7 1 (by omega) q8
   have hr8:=Kd.F_cut (m:=(1 : Int).toNat) (c:=co7) hC8 (by omega) hroom8
   obtain ⟨A8,hA8⟩ : ∃ A1,A1=(if co7=(1 : Int).toNat then (some ad196) else ((some ad196) : Option Addr).map (·.add ((1 : Int).toNat * 1))):=⟨_,rfl⟩
   obtain ⟨c8,hc8⟩ : ∃ c1,c1=co7 - (1 : Int).toNat:=⟨_,rfl⟩
   have hy8 : y197.length=x0_1.length - (1 : Int).toNat:=(by rw [Ny197.out,List.length_drop] <;> omega)
   rw [show (x0_1).drop (1 : Int).toNat=y197 from Ny197.out.symm] at hr8
   replace hr8 : Kd.F (Kd.int .u8) _ _ A8 y197.length y197:=(by rw [hA8];exact hr8)
   rw [← hy8,← hA8,← hc8] at hcut8
   have HO201:=A_ (show Kd.V (Kd.int .u8) 5 _ w.heap.size _ (.slice A8 y197.length c8) y197 from Kd.V_mk (by rw [hy8,hc8];exact Nat.sub_le_sub_right hroom8 _) hr8)
   have HC201:=A_ (show y197.length≤c8 from by rw [hy8,hc8];exact Nat.sub_le_sub_right hroom8 _)
   clear hr8 hC8 hroom8 hi08 hsz8 hc8;have KY8:=A_ hy8;have KA8:=A_ hA8;clear hy8 hA8;replace q8:=eq_true q8;go_wp2;go_roundg k1
   case measure=>have:=HK1.out;omega
   case rel=>exact ⟨(y197),H',⟨by have:=HK1.out;omega⟩,⟨by (with_reducible repeat (first|apply Kd.V_alloc|apply Kd.V_drewN|apply Kd.V_drew));exact HO201.out⟩,⟨hb0_ HB.out⟩⟩
def bytes_trimRightByte.l0 : Nat→List Int→Int→Option (List Int)
 | 0,_,_=>none
 | k + 1,x0,x1=>if (x0.length : Int) > 0 then (if 0≤(wrap64 ((x0.length : Int) - 1)) then (if (wrap64 ((x0.length : Int) - 1))<(x0.length : Int) then (if (rd x0 (wrap64 ((x0.length : Int) - 1)))=x1 then (if (wrap64 ((x0.length : Int) - 1))≤(x0.length : Int) then (bytes_trimRightByte.l0 k (x0.take ((wrap64 ((x0.length : Int) - 1)) : Int).toNat) x1) else (none)) else (some x0)) else (none)) else (none)) else (some x0)
def bytes_trimRightByte.f (k : Nat) (l0 : List Int) (a1 : Int) : Option (List Int):=bytes_trimRightByte.l0 k l0 a1
set_option maxHeartbeats 8000000 in
set_option maxRecDepth 100000 in
theorem bytes_trimRightByte.calls (k : Nat) (P0_ : Nat→Prop) (A0 : Option Addr) (c0 : Nat) (l0 : List Int) (a1 : Int) (r : List Int) (w : World) (hs0 : Kd.V (Kd.int .u8) 5 w w.heap.size (fun k_=>P0_ k_) (.slice A0 l0.length c0) l0) (h : bytes_trimRightByte.f k l0 a1=some r) :
  Calls Tryd.prog 56 #[.slice A0 l0.length c0,.int .u8 a1] w fun e w'=>∃ v0_ : Value,e=.returned (v0_)∧Kd.V (Kd.int .u8) 5 w' w.heap.size (fun k_=>(P0_ k_∨w.heap.size≤k_)) v0_ r∧Below w.heap.size w w':=by
 have HO0:=A_ (show Kd.V (Kd.int .u8) 5 w w.heap.size (fun k_=>(P0_ k_∨w.heap.size≤k_)) (.slice A0 l0.length c0) l0 from Kd.V_mono hs0 (fun k_ hk=>.inl hk))
 have HB:=A_ (Below.refl w.heap.size w);have H : (bytes_trimRightByte.l0 k l0 a1)=some r:=h;clear h;have H':=A_ H;clear H;go_enter Tryd.func56,Tryd.ntmps56;go_wp2
 go_loopg [0] k (fun kq v0 w'=>∃ (x0_1 : List Int),Aside0 (bytes_trimRightByte.l0 kq x0_1 a1=some r)∧Aside0 (kq≤k)∧Aside0 (Kd.V (Kd.int .u8) 5 w' w.heap.size (fun k_=>(P0_ k_∨w.heap.size≤k_)) v0 x0_1)∧Aside0 (Below w.heap.size w w'))
 case atStart=>exact ⟨(l0),H',⟨Nat.le_refl _⟩,⟨by (with_reducible repeat (first|apply Kd.V_alloc|apply Kd.V_drewN|apply Kd.V_drew));exact HO0.out⟩,⟨hb0_ HB.out⟩⟩
 case round =>
  clear H';(try clear p2);obtain ⟨x0_1,HA,HK1,HO_0,HB⟩:=hrel
  cases gk with
  | zero=>exact absurd HA.out (by simp [bytes_trimRightByte.l0])
  | succ k1 =>
   have H:=HA.out;clear HA
   simp only [bytes_trimRightByte.l0] at H
   by_cases c3 : (x0_1.length : Int) > 0
   rotate_left
   ·rw [if_neg c3] at H
    have c3b0 : decide (0<(x0_1.length : Int))=false:=df_ c3
    have c3b1 : decide (0<x0_1.length)=false:=df_ (by omega)
    clear c3;obtain rfl:=Option.some.inj H;obtain ⟨Ao13,co13,eo13⟩:=Kd.V_slice HO_0.out;subst eo13;go_wp2;go_ret
    exact ⟨_,by first|rfl|(simp [errW_none,errW_some] <;> rfl)|(simp [*,errW_none,errW_some] <;> rfl),by (with_reducible repeat (first|apply Kd.V_alloc|apply Kd.V_drewN|apply Kd.V_drew));exact HO_0.out,hb0_ HB.out⟩
   rw [if_pos c3] at H
   have c3b0 : decide (0<(x0_1.length : Int))=true:=dt_ c3
   have c3b1 : decide (0<x0_1.length)=true:=dt_ (by omega)
   clear c3
   obtain ⟨ji4,hji4⟩ : ∃ j_ : Int,(wrap64 ((x0_1.length : Int) - 1))=j_:=⟨_,rfl⟩
   replace H : (if 0≤(ji4) then (if (ji4)<(x0_1.length : Int) then (if (rd x0_1 (ji4))=a1 then (if (ji4)≤(x0_1.length : Int) then (bytes_trimRightByte.l0 k1 (x0_1.take ((ji4) : Int).toNat) a1) else (none)) else (some x0_1)) else (none)) else (none))=some r:=by first|(rw [hji4] at H;exact H)|(simp only [hji4] at H ⊢;exact H)
   have hji4w : (IntKind.i64.wrap ((x0_1.length : Int) - 1))=ji4:=(i64_w _).trans hji4
   by_cases c5 : 0≤(ji4)
   rotate_left
   ·rw [if_neg c5] at H
    exact absurd H (by simp)
   rw [if_pos c5] at H
   have c5b0 : decide (0≤(ji4))=true:=dt_ c5;clear c5
   by_cases c6 : (ji4)<(x0_1.length : Int)
   rotate_left
   ·rw [if_neg c6] at H
    exact absurd H (by simp)
   rw [if_pos c6] at H
   have c6b0 : decide ((ji4)<(x0_1.length : Int))=true:=dt_ c6;clear c6
   by_cases c7 : (rd x0_1 (ji4))=a1
   rotate_left
   ·rw [if_neg c7] at H
    have c7b0 : ((rd x0_1 (ji4)) == a1)=false:=beq_eq_false_iff_ne.mpr c7;have c7b1 : ((rd x0_1 (ji4)) != a1)=true:=bne_iff_ne.mpr c7;obtain rfl:=Option.some.inj H;obtain ⟨Ao12,co12,eo12⟩:=Kd.V_slice HO_0.out;subst eo12
    have p202 : 0≤((ji4) : Int):=od_ (by first|(with_reducible assumption)|assumption)
    have q202 : (ji4)<(x0_1.length : Int):=od_ (by first|(with_reducible assumption)|assumption)
    obtain ⟨ad202,e202,hx202_0⟩:=Kd.at_int (Kd.V_reads' HO_0.out).2.2 (ji4) p202 q202
    cases e202
    replace p202:=eq_true p202;replace q202:=eq_true q202;go_wp2;go_ret
    exact ⟨_,by first|rfl|(simp [errW_none,errW_some] <;> rfl)|(simp only [← hji4];first|rfl|(simp [errW_none,errW_some] <;> rfl))|(simp [*,errW_none,errW_some] <;> rfl),by (with_reducible repeat (first|apply Kd.V_alloc|apply Kd.V_drewN|apply Kd.V_drew));exact HO_0.out,hb0_ HB.out⟩
   rw [if_pos c7] at H
   have c7b0 : ((rd x0_1 (ji4)) == a1)=true:=beq_iff_eq.mpr c7;have c7b1 : ((rd x0_1 (ji4)) != a1)=false:=bne_eq_false_iff_eq.mpr c7;clear c7
   have c8b0:=eq_true (od_ (by first|(with_reducible assumption)|assumption) : 0≤(ji4))
   by_cases c9 : (ji4)≤(x0_1.length : Int)
   rotate_left
   ·rw [if_neg c9] at H
    exact absurd H (by simp)
   rw [if_pos c9] at H
   have c9b0:=eq_true c9;have c9b1 : decide ((ji4)≤(x0_1.length : Int))=true:=dt_ c9;clear c9
   obtain ⟨y203,hy203⟩ : ∃ y_ : List Int,y_=(x0_1.take ((ji4) : Int).toNat):=⟨_,rfl⟩
   replace H : (bytes_trimRightByte.l0 k1 y203 a1)=some r:=by first|(rw [hy203];with_reducible exact H)|(have H2_:=(Option.bind_some _ _).symm.trans H;rw [hy203];with_reducible exact H2_)|(have H2_:=(Option.bind_some _ _).symm.trans H;with_reducible exact H2_)|with_reducible exact H|(rw [hy203];exact H)|exact H
   have Ny203:=A_ hy203;clear hy203;have H':=A_ H;clear H;obtain ⟨Ao10,co10,eo10⟩:=Kd.V_slice HO_0.out;subst eo10
   have p202 : 0≤((ji4) : Int):=od_ (by first|(with_reducible assumption)|assumption)
   have q202 : (ji4)<(x0_1.length : Int):=od_ (by first|(with_reducible assumption)|assumption)
   obtain ⟨ad202,e202,hx202_0⟩:=Kd.at_int (Kd.V_reads' HO_0.out).2.2 (ji4) p202 q202
   cases e202
   replace p202:=eq_true p202;replace q202:=eq_true q202
   have q11 : ((ji4) : Int)≤((x0_1.length : Int) : Int):=od_ (by first|(with_reducible assumption)|assumption)
   obtain ⟨i011,hi011,_,hsz11,_⟩:=info_parts info5;have hroom11 : x0_1.length≤co10:=(Kd.V_reads' HO_0.out).2.1;have hC11 : Kd.F (Kd.int .u8) _ _ (some ad202) x0_1.length x0_1:=(Kd.V_at (base:=w.heap.size) HO_0.out).2.2
   have hcut11:=cut_to (P:=Tryd.prog) 22 5 .i64 Tryd.underlying22 hi011 (some ad202) x0_1.length co10 (ji4) (od_ (by first|(with_reducible assumption)|assumption)) q11 hroom11
   have hr11:=Kd.F_take (m:=((ji4) : Int).toNat) hC11 (by omega)
   have hy11 : y203.length=((ji4) : Int).toNat:=(by rw [Ny203.out,List.length_take];omega)
   rw [← Ny203.out] at hr11;rw [← hy11] at hcut11
   have HO207:=A_ (show Kd.V (Kd.int .u8) 5 _ w.heap.size _ (.slice (some ad202) y203.length co10) y203 from Kd.V_mk (by omega) hr11)
   have HC207:=A_ (show y203.length≤co10 from by omega)
   clear hr11 hC11 hroom11 hi011 hsz11;have KY11:=A_ hy11;clear hy11;replace q11:=eq_true q11;go_wp2;go_roundg k1
   case measure=>have:=HK1.out;omega
   case rel=>exact ⟨(y203),H',⟨by have:=HK1.out;omega⟩,⟨by (with_reducible repeat (first|apply Kd.V_alloc|apply Kd.V_drewN|apply Kd.V_drew));exact HO207.out⟩,⟨hb0_ HB.out⟩⟩
def bytes_Trim.j0 : Nat→List Int→ByteArray→Bool→Option (List Int)
 | 0,_,_,_=>none
 | k + 1,x0,x1,x20=>if x20=true then (if 0<(x1.size : Int) then ((bytes_trimRightByte.f k x0 (bt x1 0)).bind fun t215=>((bytes_trimLeftByte.f k t215 (bt x1 0)).bind fun t218=>(some t218))) else (none)) else (none)
def bytes_Trim.f (k : Nat) (l0 : List Int) (a1 : ByteArray) : Option (List Int):=if (l0.length : Int)=0 then (some ([] : List Int)) else (if a1.toList=([] : List UInt8) then (some l0) else (if (a1.size : Int)=1 then (if 0<(a1.size : Int) then (bytes_Trim.j0 k l0 a1 (decide ((bt a1 0)<128))) else (none)) else (bytes_Trim.j0 k l0 a1 false)))
def bytes_Trim.T6 : Bool × List (List Nat × List Nat):=(true,[([],[]),([],[]),([1],[1]),([0,2],[0,2]),([],[]),([4],[4]),([3,5,3],[3,5]),([6,6,0,1,2,3,4,5,6],[6])])
def bytes_Trim.B6 : List Nat:=[0,0,2,7,0,16,63,127]
theorem bytes_Trim.tab6 : rtab .any (opsOf Tryd.f38 6)=bytes_Trim.T6:=by kernel_rfl
theorem bytes_Trim.bits6 : waitsOk bytes_Trim.T6.2 bytes_Trim.B6=true:=by kernel_rfl
set_option maxHeartbeats 8000000 in
set_option maxRecDepth 100000 in
theorem bytes_Trim.calls (k : Nat) (P0_ : Nat→Prop) (A0 : Option Addr) (c0 : Nat) (l0 : List Int) (a1 : ByteArray) (r : List Int) (w : World) (hs0 : Kd.V (Kd.int .u8) 5 w w.heap.size (fun k_=>P0_ k_) (.slice A0 l0.length c0) l0) (h : bytes_Trim.f k l0 a1=some r) :
  Calls Tryd.prog 38 #[.slice A0 l0.length c0,.string a1] w fun e w'=>∃ v0_ : Value,e=.returned (v0_)∧Kd.V (Kd.int .u8) 5 w' w.heap.size (fun k_=>(P0_ k_∨w.heap.size≤k_)) v0_ r∧Below w.heap.size w w':=by
 have HO0:=A_ (show Kd.V (Kd.int .u8) 5 w w.heap.size (fun k_=>(P0_ k_∨w.heap.size≤k_)) (.slice A0 l0.length c0) l0 from Kd.V_mono hs0 (fun k_ hk=>.inl hk))
 have HB:=A_ (Below.refl w.heap.size w)
 have H : (if (l0.length : Int)=0 then (some ([] : List Int)) else (if a1.toList=([] : List UInt8) then (some l0) else (if (a1.size : Int)=1 then (if 0<(a1.size : Int) then (bytes_Trim.j0 k l0 a1 (decide ((bt a1 0)<128))) else (none)) else (bytes_Trim.j0 k l0 a1 false))))=some r:=h
 clear h
 by_cases c3 : (l0.length : Int)=0
 ·rw [if_pos c3] at H
  have c3b0 : ((l0.length : Int) == 0)=true:=beq_iff_eq.mpr c3;have c3b1 : ((l0.length : Int) != 0)=false:=bne_eq_false_iff_eq.mpr c3;clear c3;obtain rfl:=Option.some.inj H;go_enter Tryd.func38,Tryd.ntmps38;go_wp2;go_ret
  exact ⟨_,by first|rfl|(simp [errW_none,errW_some] <;> rfl)|(simp [*,errW_none,errW_some] <;> rfl),Kd.V_nil _ _ _ _ _,hb0_ HB.out⟩
 rw [if_neg c3] at H
 have c3b0 : ((l0.length : Int) == 0)=false:=beq_eq_false_iff_ne.mpr c3;have c3b1 : ((l0.length : Int) != 0)=true:=bne_iff_ne.mpr c3
 have c3b2 : ¬ (l0=[]):=fun h_=>c3 (by rw [h_];rfl)
 by_cases c4 : a1.toList=([] : List UInt8)
 ·rw [if_pos c4] at H
  have c4b0 : (a1.toList == ([] : List UInt8))=true:=beq_iff_eq.mpr c4;have c4b1 : (a1.toList != ([] : List UInt8))=false:=bne_eq_false_iff_eq.mpr c4;clear c4;obtain rfl:=Option.some.inj H;go_enter Tryd.func38,Tryd.ntmps38;go_wp2;go_ret
  exact ⟨_,by first|rfl|(simp [errW_none,errW_some] <;> rfl)|(simp [*,errW_none,errW_some] <;> rfl),by (with_reducible repeat (first|apply Kd.V_alloc|apply Kd.V_drewN|apply Kd.V_drew));exact HO0.out,hb0_ HB.out⟩
 rw [if_neg c4] at H
 have c4b0 : (a1.toList == ([] : List UInt8))=false:=beq_eq_false_iff_ne.mpr c4;have c4b1 : (a1.toList != ([] : List UInt8))=true:=bne_iff_ne.mpr c4;have HC5:=A_ H;clear H;go_enter Tryd.func38,Tryd.ntmps38
 go_upto_region 5 with (fail)
 go_cut [20] (fun v20 wc=>∃ (kq : Nat) (x20_4 : Bool),v20=.bool x20_4∧Aside0 (bytes_Trim.j0 kq l0 a1 x20_4=some r)∧Aside0 (kq≤k)∧Aside0 (Kd.V (Kd.int .u8) 5 wc w.heap.size (fun k_=>(P0_ k_∨w.heap.size≤k_)) (.slice A0 l0.length c0) l0)∧Aside0 (Below w.heap.size w wc))
 case first =>
  have H:=HC5.out;clear HC5
  by_cases c6 : (a1.size : Int)=1
  rotate_left
  ·rw [if_neg c6] at H
   have c6b0 : ((a1.size : Int) == 1)=false:=beq_eq_false_iff_ne.mpr c6;have c6b1 : ((a1.size : Int) != 1)=true:=bne_iff_ne.mpr c6;(first|rw [c6b0]|(simp only [i64_w,i32_w];rw [c6b0])|skip);have H':=A_ H;clear H;go_wp2;go_meet
   case rel=>exact ⟨_,false,rfl,H',⟨by first|omega|exact Nat.le_refl _⟩,⟨by (with_reducible repeat (first|apply Kd.V_alloc|apply Kd.V_drewN|apply Kd.V_drew));exact HO0.out⟩,⟨hb0_ HB.out⟩⟩
  rw [if_pos c6] at H
  have c6b0 : ((a1.size : Int) == 1)=true:=beq_iff_eq.mpr c6;have c6b1 : ((a1.size : Int) != 1)=false:=bne_eq_false_iff_eq.mpr c6;clear c6;(first|rw [c6b0]|(simp only [i64_w,i32_w];rw [c6b0])|skip)
  by_cases c7 : 0<(a1.size : Int)
  rotate_left
  ·rw [if_neg c7] at H
   exact absurd H (by simp)
  rw [if_pos c7] at H
  have c7b0 : decide (0<(a1.size : Int))=true:=dt_ c7
  have c7b1 : decide (0<a1.size)=true:=dt_ (by omega)
  clear c7;have H':=A_ H;clear H
  have p8 : 0≤(0 : Int):=(by omega)
  have q8 : 0<a1.size:=(by have : (0 : Int)<(a1.size : Int):=od_ (by first|(with_reducible assumption)|assumption);omega)
  have hx8 : ∀ h : 0<a1.size,((a1[0]'h).toNat : Int)=bt a1 0:=bt_at a1 0
  clear p8
  have qi8 : (0<(a1.size : Int))=True:=eq_true (od_ (by first|(with_reducible assumption)|assumption))
  replace q8:=eq_true q8;go_wp2;go_meet
  case rel=>exact ⟨_,(decide ((bt a1 0)<128)),(by first|rfl|(simp;done)|(simp [*];done)),H',⟨by first|omega|exact Nat.le_refl _⟩,⟨by (with_reducible repeat (first|apply Kd.V_alloc|apply Kd.V_drewN|apply Kd.V_drew));exact HO0.out⟩,⟨hb0_ HB.out⟩⟩
 case rest =>
  clear HC5;(try clear p2);(try clear c3);(try clear c3b0);(try clear c3b1);(try clear c3b2);(try clear c4);(try clear c4b0);(try clear c4b1);(try clear c6);(try clear c6b0);(try clear c6b1);(try clear c7);(try clear c7b0);(try clear c7b1);(try clear p8);(try clear q8);(try clear hx8);(try clear qi8);(try clear p8);(try clear q8);obtain ⟨kq,x20_4,rfl,HA,HJ4,HO_0,HB⟩:=hcut
  cases kq with
  | zero=>exact absurd HA.out (by simp [bytes_Trim.j0])
  | succ kj4 =>
   have H:=HA.out;clear HA
   simp only [bytes_Trim.j0] at H
   by_cases c9 : x20_4=true
   rotate_left
   ·replace c9:=Bool.eq_false_iff.mpr c9
    subst c9
    have H1 : (none)=some r:=by rw [if_neg (show ¬ (false=true) by decide)] at H;exact H
    clear H;have H:=H1;clear H1
    exact absurd H (by simp)
   subst c9
   have H1 : (if 0<(a1.size : Int) then ((bytes_trimRightByte.f kj4 l0 (bt a1 0)).bind fun t215=>((bytes_trimLeftByte.f kj4 t215 (bt a1 0)).bind fun t218=>(some t218))) else (none))=some r:=by rw [if_pos rfl] at H;exact H
   clear H;have H:=H1;clear H1
   by_cases c10 : 0<(a1.size : Int)
   rotate_left
   ·rw [if_neg c10] at H
    exact absurd H (by simp)
   rw [if_pos c10] at H
   have c10b0 : decide (0<(a1.size : Int))=true:=dt_ c10
   have c10b1 : decide (0<a1.size)=true:=dt_ (by omega)
   clear c10;replace H:=Option.bind_eq_some_iff.mp H;obtain ⟨t215,A120,H⟩:=H
   replace H : ((bytes_trimLeftByte.f kj4 t215 (bt a1 0)).bind fun t218=>(some t218))=some r:=H
   have A12:=A_ A120;clear A120;replace H:=Option.bind_eq_some_iff.mp H;obtain ⟨t218,A140,H⟩:=H;replace H : (some t218)=some r:=H;have A14:=A_ A140;clear A140;obtain rfl:=Option.some.inj H
   try go_wp2
   have n0_:=A_ (Kd.V_drew HO_0.out);have n1_:=A_ (be_ HB.out);clear HO_0;clear HB;have HO_0:=n0_;have HB:=n1_;clear n0_ n1_
   have p11 : 0≤(0 : Int):=(by omega)
   have q11 : 0<a1.size:=(by have : (0 : Int)<(a1.size : Int):=od_ (by first|(with_reducible assumption)|assumption);omega)
   have hx11 : ∀ h : 0<a1.size,((a1[0]'h).toNat : Int)=bt a1 0:=bt_at a1 0
   clear p11
   have qi11 : (0<(a1.size : Int))=True:=eq_true (od_ (by first|(with_reducible assumption)|assumption))
   replace q11:=eq_true q11
   have p13 : 0≤(0 : Int):=(by omega)
   have q13 : 0<a1.size:=(by have : (0 : Int)<(a1.size : Int):=od_ (by first|(with_reducible assumption)|assumption);omega)
   have hx13 : ∀ h : 0<a1.size,((a1[0]'h).toNat : Int)=bt a1 0:=bt_at a1 0
   clear p13
   have qi13 : (0<(a1.size : Int))=True:=eq_true (od_ (by first|(with_reducible assumption)|assumption))
   replace q13:=eq_true q13
   refine start_ (n:=8) (S:=fun w'=>True) (ds:=[]) #[Z,Z,Z,Z,Z,Z,Z,Z] (by kernel_rfl) rfl rfl trivial (fun hHeld=>?_);refine with_tabW bytes_Trim.tab6 bytes_Trim.bits6 (fun HT_ HW_=>?_)
   generalize wc.drew=w15 at HO_0 HB hHeld ⊢
   refine pu_ (i:=0) (N:=some 21) (v:=?_) (a':=?_) #[Y,Z,Z,Z,Z,Z,Z,Z] rfl rfl HT_.out (by kernel_rfl) (fun _ _ _ h=>h) (by rfl) ?_ ?_ ?_;rotate_left;(intro w';go_simp;with_reducible rfl);rotate_left;(simp only [Act.put,q1_,q2_,q3_,i64_w,i32_w];rfl)
   refine pu_ (i:=1) (N:=some 22) (v:=?_) (a':=?_) #[Y,Y,Z,Z,Z,Z,Z,Z] rfl rfl HT_.out (by kernel_rfl) (fun _ _ _ h=>h) (by rfl) ?_ ?_ ?_;rotate_left;(intro w';go_simp;with_reducible rfl);rotate_left;(simp only [Act.put,q1_,q2_,q3_,i64_w,i32_w];rfl)
   refine pu_ (i:=4) (N:=some 25) (v:=?_) (a':=?_) #[Y,Y,Z,Z,Y,Z,Z,Z] rfl rfl HT_.out (by kernel_rfl) (fun _ _ _ h=>h) (by rfl) ?_ ?_ ?_;rotate_left;(intro w';go_simp;with_reducible rfl);rotate_left;(simp only [Act.put,q1_,q2_,q3_,i64_w,i32_w];rfl)
   refine ta_ (i:=2) (N:=some 23) (v:=?_) (a':=?_) #[Y,Y,Y,Z,Y,Z,Z,Z] rfl rfl HT_.out HW_.out (by kernel_rfl) (fun _ _ _ h=>h) (by rfl) ?_ hHeld ?_ ?_;rotate_left;(intro w' _;go_simp;with_reducible rfl);rotate_left;(simp only [Act.put,q1_,q2_,q3_,i64_w,i32_w];rfl)
   refine ta_ (i:=5) (N:=some 26) (v:=?_) (a':=?_) #[Y,Y,Y,Z,Y,Y,Z,Z] rfl rfl HT_.out HW_.out (by kernel_rfl) (fun _ _ _ h=>h) (by rfl) ?_ hHeld ?_ ?_;rotate_left;(intro w' _;go_simp;with_reducible rfl);rotate_left;(simp only [Act.put,q1_,q2_,q3_,i64_w,i32_w];rfl)
   refine one_ (i:=3) (N:=some 24) #[Y,Y,Y,Y,Y,Y,Z,Z] rfl rfl (one_of HT_.out (by kernel_rfl)) (by decide) (fun K hK=>?_)
   refine goes_ Tryd.func56 (by kernel_rfl) rfl #[.slice A0 l0.length c0,.int .u8 (bt a1 0)] (by rfl) rfl rfl (by (try simp only [List.map_toArray,List.map_cons,List.map_nil]);first|done|rfl|(simp only [List.length_drop,List.length_take];rfl)) ?_
   with_reducible refine (bytes_trimRightByte.calls kj4 (fun k_=>(P0_ k_∨w.heap.size≤k_)) _ _ l0 (bt a1 0) t215 _ ?side1 A12.out).mono ?_
   (case side1=>exact HO_0.out)
   rintro e w16 ⟨v216,rfl,ho0,hb⟩;refine ⟨_,rfl,?_⟩
   have n0_:=A_ (Kd.V_below (by (with_reducible repeat (first|apply Kd.V_alloc|apply Kd.V_drewN|apply Kd.V_drew));exact HO_0.out) hb)
   have n1_:=A_ (Kd.V_lower (Kd.V_mono (ok':=fun k_=>(P0_ k_∨w.heap.size≤k_)) ho0 (fun k_ hk_=>Or.elim hk_ (fun hs_=>hs_) (fun hn_=>(.inr (Nat.le_trans (bz_ (hb0_ HB.out)) hn_))))) (bz_ (hb0_ HB.out)))
   have n2_:=A_ (bp_ (hb0_ HB.out) hb);clear HO_0;clear HB;have HO_0:=n0_;have HO217:=n1_;have HB:=n2_;clear n0_ n1_ n2_;(try clear hb);(try clear hb2);(try clear hk);(try clear hi);(try clear ho0);obtain ⟨Ao17,co17,eo17⟩:=Kd.V_slice HO217.out
   (first|subst eo17|(injection eo17 with f1_ f2_ f3_;have f4_:=f1_.symm;have f5_:=f3_.symm;clear f1_ f2_ f3_;subst f4_;subst f5_))
   refine hK.out _ _ trivial (fun hHeld=>?_)
   clear hK K
   refine norm_ (a':=?_) ?_ ?_;rotate_left;(show Act.put _ (some 24) _=_;simp only [Act.put,q1_,q2_,q3_,i64_w,i32_w];rfl)
   refine one_ (i:=6) (N:=some 27) #[Y,Y,Y,Y,Y,Y,Y,Z] rfl rfl (one_of HT_.out (by kernel_rfl)) (by decide) (fun K hK=>?_)
   refine goes_ Tryd.func55 (by kernel_rfl) rfl #[.slice Ao17 t215.length co17,.int .u8 (bt a1 0)] (by rfl) rfl rfl (by (try simp only [List.map_toArray,List.map_cons,List.map_nil]);first|done|rfl|(simp only [List.length_drop,List.length_take];rfl)) ?_
   with_reducible refine (bytes_trimLeftByte.calls kj4 (fun k_=>(P0_ k_∨w.heap.size≤k_)) _ _ t215 (bt a1 0) t218 _ ?side1 A14.out).mono ?_
   (case side1=>exact HO217.out)
   rintro e w18 ⟨v219,rfl,ho0,hb⟩;refine ⟨_,rfl,?_⟩
   have n0_:=A_ (Kd.V_below (by (with_reducible repeat (first|apply Kd.V_alloc|apply Kd.V_drewN|apply Kd.V_drew));exact HO_0.out) hb)
   have n1_:=A_ (Kd.V_below (by (with_reducible repeat (first|apply Kd.V_alloc|apply Kd.V_drewN|apply Kd.V_drew));exact HO217.out) hb)
   have n2_:=A_ (Kd.V_lower (Kd.V_mono (ok':=fun k_=>(P0_ k_∨w.heap.size≤k_)) ho0 (fun k_ hk_=>Or.elim hk_ (fun hs_=>hs_) (fun hn_=>(.inr (Nat.le_trans (bz_ (hb0_ HB.out)) hn_))))) (bz_ (hb0_ HB.out)))
   have n3_:=A_ (bp_ (hb0_ HB.out) hb);clear HO_0;clear HO217;clear HB;have HO_0:=n0_;have HO217:=n1_;have HO220:=n2_;have HB:=n3_;clear n0_ n1_ n2_ n3_;(try clear hb);(try clear hb2);(try clear hk);(try clear hi);(try clear ho0)
   refine hK.out _ _ trivial (fun hHeld=>?_)
   clear hK K
   refine norm_ (a':=?_) ?_ ?_;rotate_left;(show Act.put _ (some 27) _=_;simp only [Act.put,q1_,q2_,q3_,i64_w,i32_w];rfl)
   refine pu_ (i:=7) (N:=some 4) (v:=?_) (a':=?_) #[Y,Y,Y,Y,Y,Y,Y,Y] rfl rfl HT_.out (by kernel_rfl) (fun _ _ _ h=>h) (by rfl) ?_ ?_ ?_;rotate_left;(intro w';go_simp;with_reducible rfl);rotate_left;(simp only [Act.put,q1_,q2_,q3_,i64_w,i32_w];rfl)
   refine done_ (done_of HT_.out (by kernel_rfl)) ?_
   try go_wp2
   go_ret
   exact ⟨_,by first|rfl|(simp [errW_none,errW_some] <;> rfl)|(simp [*,errW_none,errW_some] <;> rfl),by (with_reducible repeat (first|apply Kd.V_alloc|apply Kd.V_drewN|apply Kd.V_drew));exact HO220.out,hb0_ HB.out⟩
def table_nought.f (k : Nat) (l0 : List Int) : Option (Bool):=(bytes_Trim.f k l0 (⟨#[0]⟩ : ByteArray)).bind fun t221=>(some ((t221.length : Int) == 0))
set_option maxHeartbeats 8000000 in
set_option maxRecDepth 100000 in
theorem table_nought.calls (k : Nat) (A0 : Option Addr) (c0 : Nat) (l0 : List Int) (r : Bool) (w : World) (hr0 : Kd.C (Kd.int .u8) w A0 l0.length l0) (hc0 : l0.length≤c0) (h : table_nought.f k l0=some r) :
  Calls Tryd.prog 20 #[.slice A0 l0.length c0] w fun e w'=>e=.returned (.bool r)∧Below w.heap.size w w':=by
 have HR0:=A_ hr0;have HC0:=A_ hc0;clear hr0 hc0;have HB:=A_ (Below.refl w.heap.size w)
 have H : ((bytes_Trim.f k l0 (⟨#[0]⟩ : ByteArray)).bind fun t221=>(some ((t221.length : Int) == 0)))=some r:=h
 clear h;replace H:=Option.bind_eq_some_iff.mp H;obtain ⟨t221,A20,H⟩:=H;replace H : (some ((t221.length : Int) == 0))=some r:=H;have A2:=A_ A20;clear A20;obtain rfl:=Option.some.inj H;go_enter Tryd.func20,Tryd.ntmps20
 go_wp2_with (first|((with_reducible refine gate_callee (f:=38) rfl ?_);refine goesL_ (some 4) rfl rfl Tryd.func38 (by kernel_rfl) rfl #[.slice A0 l0.length c0,.string (⟨#[0]⟩ : ByteArray)] rfl (by (try simp only [List.map_toArray,List.map_cons,List.map_nil]);first|done|rfl|(simp only [List.length_drop,List.length_take];rfl)) ?_;(with_reducible refine (bytes_Trim.calls k (fun k_=>k_<w.heap.size) _ _ l0 (⟨#[0]⟩ : ByteArray) t221 _ ?side1 A2.out).mono ?_);(case side1=>exact Kd.V_mk HC0.out (Kd.F_below (Kd.C_F (Kd.heap_int .u8) HR0.out) (hb0_ HB.out)));rintro e w3 ⟨v222,rfl,ho0,hb⟩;refine ⟨_,rfl,?_⟩;have n0_:=A_ (Kd.V_lower (Kd.V_mono (ok':=fun k_=>True) ho0 (fun k_ hk_=>trivial)) (bz_ (hb0_ HB.out)));have n1_:=A_ (bp_ (hb0_ HB.out) hb);clear HB;have HO223:=n0_;have HB:=n1_;clear n0_ n1_;(try clear hb);(try clear hb2);(try clear hk);(try clear hi);(try clear ho0);obtain ⟨Ao4,co4,eo4⟩:=Kd.V_slice HO223.out;subst eo4))
 go_ret
 exact ⟨by first|rfl|(simp [errW_none,errW_some] <;> rfl)|(simp [*,errW_none,errW_some] <;> rfl),hb0_ HB.out⟩
attribute [local go_sem high] eqA56
mutual
def humusref11_May.j0 : Nat→Bool→Int→Int→Int→List (S56)→Option (Bool)
 | 0,_,_,_,_,_=>none
 | k + 1,x39,x300000,x300001,x300002,x300003=>if x39=true then (some false) else (humusref11_May.l0 k 0 x300000 x300001 x300002 x300003)
def humusref11_May.l0 : Nat→Int→Int→Int→Int→List (S56)→Option (Bool)
 | 0,_,_,_,_,_=>none
 | k + 1,x3,x300000,x300001,x300002,x300003=>if x3<12 then (if 0≤x3 then (if x3<(x300003.length : Int) then (if ((rd_T56 x300003 x3).f1)<0 then (humusref11_May.j2 k x3 true x300000 x300001 x300002 x300003 ((rd_T56 x300003 x3).f0) ((rd_T56 x300003 x3).f1) ((rd_T56 x300003 x3).f2) ((rd_T56 x300003 x3).f3)) else (humusref11_May.j2 k x3 (decide (((rd_T56 x300003 x3).f1) > 2)) x300000 x300001 x300002 x300003 ((rd_T56 x300003 x3).f0) ((rd_T56 x300003 x3).f1) ((rd_T56 x300003 x3).f2) ((rd_T56 x300003 x3).f3))) else (none)) else (none)) else (some true)
def humusref11_May.j2 : Nat→Int→Bool→Int→Int→Int→List (S56)→Int→Int→Int→Int→Option (Bool)
 | 0,_,_,_,_,_,_,_,_,_,_=>none
 | k + 1,x3,x56,x300000,x300001,x300002,x300003,x302000,x302001,x302002,x302003=>if x56=true then (some false) else (if x302001=0 then (if (!(x302000 == 0) || (!(x302001 == 0) || (!(x302002 == 0) || (!(x302003 == 0)))))=true then (some false) else (humusref11_May.l0 k (wrap64 (x3 + 1)) x300000 x300001 x300002 x300003)) else (if x302000<1 then (humusref11_May.j3 k x3 true x300000 x300001 x300002 x300003 x302000 x302001 x302002 x302003) else (if x302000 ≥ x300000 then (humusref11_May.j3 k x3 true x300000 x300001 x300002 x300003 x302000 x302001 x302002 x302003) else (if x302002<0 then (humusref11_May.j3 k x3 true x300000 x300001 x300002 x300003 x302000 x302001 x302002 x302003) else (if x302002 > 65535 then (humusref11_May.j3 k x3 true x300000 x300001 x300002 x300003 x302000 x302001 x302002 x302003) else (if x302001=1 then (if x302003=0 then (if x302001=2 then (if x302003<1 then (humusref11_May.j3 k x3 true x300000 x300001 x300002 x300003 x302000 x302001 x302002 x302003) else (humusref11_May.j3 k x3 (decide (x302003 > x300002)) x300000 x300001 x300002 x300003 x302000 x302001 x302002 x302003)) else (humusref11_May.j3 k x3 false x300000 x300001 x300002 x300003 x302000 x302001 x302002 x302003)) else (humusref11_May.j3 k x3 true x300000 x300001 x300002 x300003 x302000 x302001 x302002 x302003)) else (if x302001=2 then (if x302003<1 then (humusref11_May.j3 k x3 true x300000 x300001 x300002 x300003 x302000 x302001 x302002 x302003) else (humusref11_May.j3 k x3 (decide (x302003 > x300002)) x300000 x300001 x300002 x300003 x302000 x302001 x302002 x302003)) else (humusref11_May.j3 k x3 false x300000 x300001 x300002 x300003 x302000 x302001 x302002 x302003))))))))
def humusref11_May.j3 : Nat→Int→Bool→Int→Int→Int→List (S56)→Int→Int→Int→Int→Option (Bool)
 | 0,_,_,_,_,_,_,_,_,_,_=>none
 | k + 1,x3,x109,x300000,x300001,x300002,x300003,x302000,x302001,x302002,x302003=>if x109=true then (some false) else (humusref11_May.l1 k x3 0 x300000 x300001 x300002 x300003 x302000 x302001 x302002 x302003)
def humusref11_May.l1 : Nat→Int→Int→Int→Int→Int→List (S56)→Int→Int→Int→Int→Option (Bool)
 | 0,_,_,_,_,_,_,_,_,_,_=>none
 | k + 1,x3,x5,x300000,x300001,x300002,x300003,x302000,x302001,x302002,x302003=>if x5<x3 then (if 0≤x5 then (if x5<(x300003.length : Int) then (if ((rd_T56 x300003 x5).f0)=x302000 then (some false) else (if x302003 > 0 then (if ((rd_T56 x300003 x5).f3)=x302003 then (some false) else (humusref11_May.l1 k x3 (wrap64 (x5 + 1)) x300000 x300001 x300002 x300003 x302000 x302001 x302002 x302003)) else (humusref11_May.l1 k x3 (wrap64 (x5 + 1)) x300000 x300001 x300002 x300003 x302000 x302001 x302002 x302003))) else (none)) else (none)) else (humusref11_May.l0 k (wrap64 (x3 + 1)) x300000 x300001 x300002 x300003)
end
def humusref11_May.f (k : Nat) (a0_0 : Int) (a0_1 : Int) (a0_2 : Int) (l0_3 : List (S56)) : Option (Bool):=if a0_0<1 then (humusref11_May.j0 k true a0_0 a0_1 a0_2 l0_3) else (if a0_0 > 2147483647 then (humusref11_May.j0 k true a0_0 a0_1 a0_2 l0_3) else (if a0_1<1 then (humusref11_May.j0 k true a0_0 a0_1 a0_2 l0_3) else (if a0_1 > 2147483647 then (humusref11_May.j0 k true a0_0 a0_1 a0_2 l0_3) else (if a0_2<0 then (humusref11_May.j0 k true a0_0 a0_1 a0_2 l0_3) else (if a0_2 > 2147483647 then (humusref11_May.j0 k true a0_0 a0_1 a0_2 l0_3) else (humusref11_May.j0 k ((l0_3.length : Int) != 12) a0_0 a0_1 a0_2 l0_3))))))
set_option maxHeartbeats 8000000 in
set_option maxRecDepth 100000 in
theorem humusref11_May.calls (k : Nat) (a0_0 : Int) (a0_1 : Int) (a0_2 : Int) (A0_3 : Option Addr) (c0_3 : Nat) (l0_3 : List (S56)) (r : Bool) (w : World) (hr0_3 : Kd.C k56 w A0_3 l0_3.length l0_3) (hc0_3 : l0_3.length≤c0_3) (h : humusref11_May.f k a0_0 a0_1 a0_2 l0_3=some r) :
  Calls Tryd.prog 12 #[.agg #[.int .i64 a0_0,.int .i64 a0_1,.int .i64 a0_2,.slice A0_3 l0_3.length c0_3]] w fun e w'=>e=.returned (.bool r)∧Below w.heap.size w w':=by
 have hu26:=Tryd.underlying26;have hu56:=Tryd.underlying56;have HR0_3:=A_ hr0_3;have HC0_3:=A_ hc0_3;clear hr0_3 hc0_3;have HB:=A_ (Below.refl w.heap.size w)
 have H : (if a0_0<1 then (humusref11_May.j0 k true a0_0 a0_1 a0_2 l0_3) else (if a0_0 > 2147483647 then (humusref11_May.j0 k true a0_0 a0_1 a0_2 l0_3) else (if a0_1<1 then (humusref11_May.j0 k true a0_0 a0_1 a0_2 l0_3) else (if a0_1 > 2147483647 then (humusref11_May.j0 k true a0_0 a0_1 a0_2 l0_3) else (if a0_2<0 then (humusref11_May.j0 k true a0_0 a0_1 a0_2 l0_3) else (if a0_2 > 2147483647 then (humusref11_May.j0 k true a0_0 a0_1 a0_2 l0_3) else (humusref11_May.j0 k ((l0_3.length : Int) != 12) a0_0 a0_1 a0_2 l0_3)))))))=some r:=h
 clear h;have HC2:=A_ H;clear H;go_enter Tryd.func12,Tryd.ntmps12
 go_upto_region 1 with (first|((with_reducible refine gate_dst (N:=1) rfl ?_);(try (refine gate_guard (by rfl) ?_;dsimp only));refine box_event ?hg (N:=1) ?hd (cs:=#[.int .i64 a0_0,.int .i64 a0_1,.int .i64 a0_2,.slice A0_3 l0_3.length c0_3]) (t:=26) ?hr ?_;(case hd=>rfl);(case hg=>rfl);(case hr=>first|(go_simp;done)|(go_simp;rfl));intro gb299 hg w3 hbox hb;have n0_:=A_ (bp_ (hb0_ HB.out) hb);have n1_:=A_ (hbox);have n2_:=A_ ((by rw [hg];exact (bz_ (hb0_ HB.out)) : w.heap.size≤gb299));have n3_:=n2_;clear HB;have HB:=n0_;have BK299:=n1_;have GW299:=n2_;have GE299:=n3_;clear n0_ n1_ n2_ n3_;clear hb hbox hg))
 repeat (go_quiet (first|((with_reducible refine gate_dst (N:=1) rfl ?_);(try (refine gate_guard (by rfl) ?_;dsimp only));refine box_event ?hg (N:=1) ?hd (cs:=#[.int .i64 a0_0,.int .i64 a0_1,.int .i64 a0_2,.slice A0_3 l0_3.length c0_3]) (t:=26) ?hr ?_;(case hd=>rfl);(case hg=>rfl);(case hr=>first|(go_simp;done)|(go_simp;rfl));intro gb299 hg w3 hbox hb;have n0_:=A_ (bp_ (hb0_ HB.out) hb);have n1_:=A_ (hbox);have n2_:=A_ ((by rw [hg];exact (bz_ (hb0_ HB.out)) : w.heap.size≤gb299));have n3_:=n2_;clear HB;have HB:=n0_;have BK299:=n1_;have GW299:=n2_;have GE299:=n3_;clear n0_ n1_ n2_ n3_;clear hb hbox hg));go_upto_region 1 with (first|((with_reducible refine gate_dst (N:=1) rfl ?_);(try (refine gate_guard (by rfl) ?_;dsimp only));refine box_event ?hg (N:=1) ?hd (cs:=#[.int .i64 a0_0,.int .i64 a0_1,.int .i64 a0_2,.slice A0_3 l0_3.length c0_3]) (t:=26) ?hr ?_;(case hd=>rfl);(case hg=>rfl);(case hr=>first|(go_simp;done)|(go_simp;rfl));intro gb299 hg w3 hbox hb;have n0_:=A_ (bp_ (hb0_ HB.out) hb);have n1_:=A_ (hbox);have n2_:=A_ ((by rw [hg];exact (bz_ (hb0_ HB.out)) : w.heap.size≤gb299));have n3_:=n2_;clear HB;have HB:=n0_;have BK299:=n1_;have GW299:=n2_;have GE299:=n3_;clear n0_ n1_ n2_ n3_;clear hb hbox hg)))
 (try simp only [Act.put,u1_,u2_,u3_])
 go_cut [39] (fun v39 wc=>∃ (kq : Nat) (x39_1 : Bool),v39=.bool x39_1∧Aside0 (humusref11_May.j0 kq x39_1 a0_0 a0_1 a0_2 l0_3=some r)∧Aside0 (kq≤k)∧Aside0 (wc.heap[gb299]?=some (.cells #[.int .i64 a0_0,.int .i64 a0_1,.int .i64 a0_2,(.slice A0_3 l0_3.length c0_3)] 26 (0,0)))∧Aside0 (Below w.heap.size w wc))
 case first =>
  have H:=HC2.out;clear HC2
  by_cases c4 : a0_0<1
  ·rw [if_pos c4] at H
   have c4b0 : decide (a0_0<1)=true:=dt_ c4;clear c4;(first|rw [c4b0]|(simp only [i64_w,i32_w];rw [c4b0])|skip);have H':=A_ H;clear H;obtain ⟨z5_0,z5_1,z5_2,z5_3⟩:=blkc_4 BK299.out;obtain ⟨y5_0,y5_1,y5_2,y5_3⟩:=blkz_4 BK299.out;go_wp2
   repeat (go_quiet (fail);try go_wp2)
   go_meet
   case rel=>exact ⟨_,true,rfl,H',⟨by first|omega|exact Nat.le_refl _⟩,⟨by exact kk_ BK299.out⟩,⟨hb1_ HB.out GE299.out⟩⟩
  rw [if_neg c4] at H
  have c4b0 : decide (a0_0<1)=false:=df_ c4;clear c4;(first|rw [c4b0]|(simp only [i64_w,i32_w];rw [c4b0])|skip)
  by_cases c6 : a0_0 > 2147483647
  ·rw [if_pos c6] at H
   have c6b0 : decide (2147483647<a0_0)=true:=dt_ c6;clear c6;have H':=A_ H;clear H;obtain ⟨z7_0,z7_1,z7_2,z7_3⟩:=blkc_4 BK299.out;obtain ⟨y7_0,y7_1,y7_2,y7_3⟩:=blkz_4 BK299.out;go_wp2
   repeat (go_quiet (fail);try go_wp2)
   go_meet
   case rel=>exact ⟨_,true,rfl,H',⟨by first|omega|exact Nat.le_refl _⟩,⟨by exact kk_ BK299.out⟩,⟨hb1_ HB.out GE299.out⟩⟩
  rw [if_neg c6] at H
  have c6b0 : decide (2147483647<a0_0)=false:=df_ c6;clear c6
  by_cases c8 : a0_1<1
  ·rw [if_pos c8] at H
   have c8b0 : decide (a0_1<1)=true:=dt_ c8;clear c8;have H':=A_ H;clear H;obtain ⟨z9_0,z9_1,z9_2,z9_3⟩:=blkc_4 BK299.out;obtain ⟨y9_0,y9_1,y9_2,y9_3⟩:=blkz_4 BK299.out;go_wp2
   repeat (go_quiet (fail);try go_wp2)
   go_meet
   case rel=>exact ⟨_,true,rfl,H',⟨by first|omega|exact Nat.le_refl _⟩,⟨by exact kk_ BK299.out⟩,⟨hb1_ HB.out GE299.out⟩⟩
  rw [if_neg c8] at H
  have c8b0 : decide (a0_1<1)=false:=df_ c8;clear c8
  by_cases c10 : a0_1 > 2147483647
  ·rw [if_pos c10] at H
   have c10b0 : decide (2147483647<a0_1)=true:=dt_ c10;clear c10;have H':=A_ H;clear H;obtain ⟨z11_0,z11_1,z11_2,z11_3⟩:=blkc_4 BK299.out;obtain ⟨y11_0,y11_1,y11_2,y11_3⟩:=blkz_4 BK299.out;go_wp2
   repeat (go_quiet (fail);try go_wp2)
   go_meet
   case rel=>exact ⟨_,true,rfl,H',⟨by first|omega|exact Nat.le_refl _⟩,⟨by exact kk_ BK299.out⟩,⟨hb1_ HB.out GE299.out⟩⟩
  rw [if_neg c10] at H
  have c10b0 : decide (2147483647<a0_1)=false:=df_ c10;clear c10
  by_cases c12 : a0_2<0
  ·rw [if_pos c12] at H
   have c12b0 : decide (a0_2<0)=true:=dt_ c12;clear c12;have H':=A_ H;clear H;obtain ⟨z13_0,z13_1,z13_2,z13_3⟩:=blkc_4 BK299.out;obtain ⟨y13_0,y13_1,y13_2,y13_3⟩:=blkz_4 BK299.out;go_wp2
   repeat (go_quiet (fail);try go_wp2)
   go_meet
   case rel=>exact ⟨_,true,rfl,H',⟨by first|omega|exact Nat.le_refl _⟩,⟨by exact kk_ BK299.out⟩,⟨hb1_ HB.out GE299.out⟩⟩
  rw [if_neg c12] at H
  have c12b0 : decide (a0_2<0)=false:=df_ c12;clear c12
  by_cases c14 : a0_2 > 2147483647
  rotate_left
  ·rw [if_neg c14] at H
   have c14b0 : decide (2147483647<a0_2)=false:=df_ c14;clear c14;have H':=A_ H;clear H;obtain ⟨z16_0,z16_1,z16_2,z16_3⟩:=blkc_4 BK299.out;obtain ⟨y16_0,y16_1,y16_2,y16_3⟩:=blkz_4 BK299.out;go_wp2
   repeat (go_quiet (fail);try go_wp2)
   go_meet
   case rel=>exact ⟨_,(((l0_3.length : Int) != 12)),(by first|rfl|(simp;done)|(simp [*];done)),H',⟨by first|omega|exact Nat.le_refl _⟩,⟨by exact kk_ BK299.out⟩,⟨hb1_ HB.out GE299.out⟩⟩
  rw [if_pos c14] at H
  have c14b0 : decide (2147483647<a0_2)=true:=dt_ c14;clear c14;have H':=A_ H;clear H;obtain ⟨z15_0,z15_1,z15_2,z15_3⟩:=blkc_4 BK299.out;obtain ⟨y15_0,y15_1,y15_2,y15_3⟩:=blkz_4 BK299.out;go_wp2
  repeat (go_quiet (fail);try go_wp2)
  go_meet
  case rel=>exact ⟨_,true,rfl,H',⟨by first|omega|exact Nat.le_refl _⟩,⟨by exact kk_ BK299.out⟩,⟨hb1_ HB.out GE299.out⟩⟩
 case rest =>
  clear HC2;(try clear c1);(try clear p2);(try clear c4);(try clear c4b0);(try clear c6);(try clear c6b0);(try clear c8);(try clear c8b0);(try clear c10);(try clear c10b0);(try clear c12);(try clear c12b0);(try clear c14);(try clear c14b0);(try clear z11_0 z11_1 z11_2 z11_3 z13_0 z13_1 z13_2 z13_3 z15_0 z15_1 z15_2 z15_3 z16_0 z16_1 z16_2 z16_3 z5_0 z5_1 z5_2 z5_3 z7_0 z7_1 z7_2 z7_3 z9_0 z9_1 z9_2 z9_3 y11_0 y11_1 y11_2 y11_3 y13_0 y13_1 y13_2 y13_3 y15_0 y15_1 y15_2 y15_3 y16_0 y16_1 y16_2 y16_3 y5_0 y5_1 y5_2 y5_3 y7_0 y7_1 y7_2 y7_3 y9_0 y9_1 y9_2 y9_3);obtain ⟨kq,x39_1,rfl,HA,HJ1,BK299,HB⟩:=hcut
  cases kq with
  | zero=>exact absurd HA.out (by simp [humusref11_May.j0])
  | succ kj1 =>
   have H:=HA.out;clear HA
   simp only [humusref11_May.j0] at H
   by_cases c17 : x39_1=true
   ·subst c17
    have H1 : (some false)=some r:=by rw [if_pos rfl] at H;exact H
    clear H;have H:=H1;clear H1;obtain rfl:=Option.some.inj H;go_wp2
    repeat (go_quiet (fail);try go_wp2)
    go_ret
    exact ⟨by first|rfl|(simp [errW_none,errW_some] <;> rfl)|(simp [*,errW_none,errW_some] <;> rfl),hb1_ HB.out GE299.out⟩
   replace c17:=Bool.eq_false_iff.mpr c17
   subst c17
   have H1 : (humusref11_May.l0 kj1 0 a0_0 a0_1 a0_2 l0_3)=some r:=by rw [if_neg (show ¬ (false=true) by decide)] at H;exact H
   clear H;have H:=H1;clear H1;have H':=A_ H;clear H;go_wp2
   repeat (go_quiet (fail);try go_wp2)
   go_loopg [3] kj1 (fun kq v3 w'=>∃ (x3_2 : Int),v3=.int .i64 x3_2∧Aside0 (humusref11_May.l0 kq x3_2 a0_0 a0_1 a0_2 l0_3=some r)∧Aside0 (kq≤kj1)∧Aside0 (w'.heap[gb299]?=some (.cells #[.int .i64 a0_0,.int .i64 a0_1,.int .i64 a0_2,(.slice A0_3 l0_3.length c0_3)] 26 (0,0)))∧Aside0 (Below w.heap.size w w'))
   case atStart=>exact ⟨(0),(by first|rfl|(simp;done)|(simp [*];done)),H',⟨Nat.le_refl _⟩,⟨by exact kk_ BK299.out⟩,⟨hb1_ HB.out GE299.out⟩⟩
   case round =>
    clear H';(try clear c1);(try clear p2);(try clear c4);(try clear c4b0);(try clear c6);(try clear c6b0);(try clear c8);(try clear c8b0);(try clear c10);(try clear c10b0);(try clear c12);(try clear c12b0);(try clear c14);(try clear c14b0);(try clear c17);(try clear p2);(try clear z11_0 z11_1 z11_2 z11_3 z13_0 z13_1 z13_2 z13_3 z15_0 z15_1 z15_2 z15_3 z16_0 z16_1 z16_2 z16_3 z5_0 z5_1 z5_2 z5_3 z7_0 z7_1 z7_2 z7_3 z9_0 z9_1 z9_2 z9_3 y11_0 y11_1 y11_2 y11_3 y13_0 y13_1 y13_2 y13_3 y15_0 y15_1 y15_2 y15_3 y16_0 y16_1 y16_2 y16_3 y5_0 y5_1 y5_2 y5_3 y7_0 y7_1 y7_2 y7_3 y9_0 y9_1 y9_2 y9_3);obtain ⟨x3_2,rfl,HA,HK2,BK299,HB⟩:=hrel
    cases gk with
    | zero=>exact absurd HA.out (by simp [humusref11_May.l0])
    | succ k2 =>
     have H:=HA.out;clear HA
     simp only [humusref11_May.l0] at H
     by_cases c18 : x3_2<12
     rotate_left
     ·rw [if_neg c18] at H
      have c18b0 : decide (x3_2<12)=false:=df_ c18;clear c18;obtain rfl:=Option.some.inj H;go_wp2
      repeat (go_quiet (fail);try go_wp2)
      go_ret
      exact ⟨by first|rfl|(simp [errW_none,errW_some] <;> rfl)|(simp [*,errW_none,errW_some] <;> rfl),hb1_ HB.out GE299.out⟩
     rw [if_pos c18] at H
     have c18b0 : decide (x3_2<12)=true:=dt_ c18;clear c18
     by_cases c19 : 0≤x3_2
     rotate_left
     ·rw [if_neg c19] at H
      exact absurd H (by simp)
     rw [if_pos c19] at H
     have c19b0 : decide (0≤x3_2)=true:=dt_ c19;clear c19
     by_cases c20 : x3_2<(l0_3.length : Int)
     rotate_left
     ·rw [if_neg c20] at H
      exact absurd H (by simp)
     rw [if_pos c20] at H
     have c20b0 : decide (x3_2<(l0_3.length : Int))=true:=dt_ c20;clear c20;have HC21:=A_ H;clear H;obtain ⟨z22_0,z22_1,z22_2,z22_3⟩:=blkc_4 BK299.out;obtain ⟨y22_0,y22_1,y22_2,y22_3⟩:=blkz_4 BK299.out
     have p300 : 0≤(x3_2 : Int):=od_ (by first|(with_reducible assumption)|assumption)
     have q300 : x3_2<(l0_3.length : Int):=od_ (by first|(with_reducible assumption)|assumption)
     obtain ⟨ad300,e300,hx300_0,hx300_1,hx300_2,hx300_3⟩:=at_T56 HR0_3.out x3_2 p300 q300
     cases e300
     replace hx300_0:=(HB.out.cell (wb_ w _ hx300_0)).trans hx300_0;replace hx300_1:=(HB.out.cell (wb_ w _ hx300_1)).trans hx300_1;replace hx300_2:=(HB.out.cell (wb_ w _ hx300_2)).trans hx300_2;replace hx300_3:=(HB.out.cell (wb_ w _ hx300_3)).trans hx300_3;replace p300:=eq_true p300;replace q300:=eq_true q300
     go_upto_region 7 with (first|((with_reducible refine gate_dst (N:=4) rfl ?_);(try (refine gate_guard (by rfl) ?_;dsimp only));refine box_event ?hg (N:=4) ?hd (cs:=#[.int .i64 0,.int .i64 0,.int .i64 0,.int .i64 0]) (t:=56) ?hr ?_;(case hd=>rfl);(case hg=>rfl);(case hr=>first|(go_simp;done)|(go_simp;rfl));intro gb301 hg w23 hbox hb;have n0_:=A_ (bx_ BK299.out kf_ hb);have n1_:=A_ (bp_ (hb1_ HB.out GE299.out) hb);have n2_:=A_ (hbox);have n3_:=A_ ((by rw [hg];exact (bz_ (hb1_ HB.out GE299.out)) : w.heap.size≤gb301));have n4_:=n3_;have n5_:=A_ ((by rw [hg];exact Nat.ne_of_lt (bl_ BK299.out kf_) : gb299≠gb301));have n6_:=A_ (Ne.symm n5_.out);clear BK299;clear HB;have BK299:=n0_;have HB:=n1_;have BK301:=n2_;have GW301:=n3_;have GE301:=n4_;have NB299_301:=n5_;have NB301_299:=n6_;clear n0_ n1_ n2_ n3_ n4_ n5_ n6_;clear hb hbox hg;have hnb24:=NB301_299.out;have hnc24:=NB299_301.out;obtain ⟨z25_0,z25_1,z25_2,z25_3⟩:=blkc_4 BK301.out;obtain ⟨y25_0,y25_1,y25_2⟩:=blkz_3 BK301.out;have y25_3:=bf_ BK301.out 3))
     repeat (go_quiet (first|((with_reducible refine gate_dst (N:=4) rfl ?_);(try (refine gate_guard (by rfl) ?_;dsimp only));refine box_event ?hg (N:=4) ?hd (cs:=#[.int .i64 0,.int .i64 0,.int .i64 0,.int .i64 0]) (t:=56) ?hr ?_;(case hd=>rfl);(case hg=>rfl);(case hr=>first|(go_simp;done)|(go_simp;rfl));intro gb301 hg w23 hbox hb;have n0_:=A_ (bx_ BK299.out kf_ hb);have n1_:=A_ (bp_ (hb1_ HB.out GE299.out) hb);have n2_:=A_ (hbox);have n3_:=A_ ((by rw [hg];exact (bz_ (hb1_ HB.out GE299.out)) : w.heap.size≤gb301));have n4_:=n3_;have n5_:=A_ ((by rw [hg];exact Nat.ne_of_lt (bl_ BK299.out kf_) : gb299≠gb301));have n6_:=A_ (Ne.symm n5_.out);clear BK299;clear HB;have BK299:=n0_;have HB:=n1_;have BK301:=n2_;have GW301:=n3_;have GE301:=n4_;have NB299_301:=n5_;have NB301_299:=n6_;clear n0_ n1_ n2_ n3_ n4_ n5_ n6_;clear hb hbox hg;have hnb24:=NB301_299.out;have hnc24:=NB299_301.out;obtain ⟨z25_0,z25_1,z25_2,z25_3⟩:=blkc_4 BK301.out;obtain ⟨y25_0,y25_1,y25_2⟩:=blkz_3 BK301.out;have y25_3:=bf_ BK301.out 3));go_upto_region 7 with (first|((with_reducible refine gate_dst (N:=4) rfl ?_);(try (refine gate_guard (by rfl) ?_;dsimp only));refine box_event ?hg (N:=4) ?hd (cs:=#[.int .i64 0,.int .i64 0,.int .i64 0,.int .i64 0]) (t:=56) ?hr ?_;(case hd=>rfl);(case hg=>rfl);(case hr=>first|(go_simp;done)|(go_simp;rfl));intro gb301 hg w23 hbox hb;have n0_:=A_ (bx_ BK299.out kf_ hb);have n1_:=A_ (bp_ (hb1_ HB.out GE299.out) hb);have n2_:=A_ (hbox);have n3_:=A_ ((by rw [hg];exact (bz_ (hb1_ HB.out GE299.out)) : w.heap.size≤gb301));have n4_:=n3_;have n5_:=A_ ((by rw [hg];exact Nat.ne_of_lt (bl_ BK299.out kf_) : gb299≠gb301));have n6_:=A_ (Ne.symm n5_.out);clear BK299;clear HB;have BK299:=n0_;have HB:=n1_;have BK301:=n2_;have GW301:=n3_;have GE301:=n4_;have NB299_301:=n5_;have NB301_299:=n6_;clear n0_ n1_ n2_ n3_ n4_ n5_ n6_;clear hb hbox hg;have hnb24:=NB301_299.out;have hnc24:=NB299_301.out;obtain ⟨z25_0,z25_1,z25_2,z25_3⟩:=blkc_4 BK301.out;obtain ⟨y25_0,y25_1,y25_2⟩:=blkz_3 BK301.out;have y25_3:=bf_ BK301.out 3)))
     (try simp only [Act.put,u1_,u2_,u3_])
     go_cut [56] (fun v56 wc=>∃ (kq : Nat) (x56_20 : Bool),v56=.bool x56_20∧Aside0 (humusref11_May.j2 kq x3_2 x56_20 a0_0 a0_1 a0_2 l0_3 ((rd_T56 l0_3 x3_2).f0) ((rd_T56 l0_3 x3_2).f1) ((rd_T56 l0_3 x3_2).f2) ((rd_T56 l0_3 x3_2).f3)=some r)∧Aside0 (kq≤k2)∧Aside0 (wc.heap[gb299]?=some (.cells #[.int .i64 a0_0,.int .i64 a0_1,.int .i64 a0_2,(.slice (some ad300) l0_3.length c0_3)] 26 (0,0)))∧Aside0 (wc.heap[gb301]?=some (.cells #[.int .i64 ((rd_T56 l0_3 x3_2).f0),.int .i64 ((rd_T56 l0_3 x3_2).f1),.int .i64 ((rd_T56 l0_3 x3_2).f2),.int .i64 ((rd_T56 l0_3 x3_2).f3)] 56 (0,0)))∧Aside0 (Below w.heap.size w wc))
     case first =>
      have H:=HC21.out;clear HC21
      by_cases c26 : ((rd_T56 l0_3 x3_2).f1)<0
      rotate_left
      ·rw [if_neg c26] at H
       have c26b0 : decide (((rd_T56 l0_3 x3_2).f1)<0)=false:=df_ c26;clear c26;(first|rw [c26b0]|(simp only [i64_w,i32_w];rw [c26b0])|skip);have H':=A_ H;clear H;have hnb29:=NB301_299.out;have hnc29:=NB299_301.out;obtain ⟨z30_0,z30_1,z30_2,z30_3⟩:=blkc_4 BK301.out;obtain ⟨y30_0,y30_1,y30_2,y30_3⟩:=blkz_4 BK301.out;go_wp2
       repeat (go_quiet (fail);try go_wp2)
       go_meet
       case rel=>exact ⟨_,(decide (((rd_T56 l0_3 x3_2).f1) > 2)),(by first|rfl|(simp;done)|(simp [*];done)),H',⟨by have:=HJ1.out;have:=HK2.out;first|omega|exact Nat.le_refl _⟩,⟨by refine kk_ ?_;refine blk_far ?_ NB299_301.out _;refine kk_ ?_;refine blk_far ?_ NB299_301.out _;refine kk_ ?_;refine blk_far ?_ NB299_301.out _;refine kk_ ?_;refine blk_far ?_ NB299_301.out _;exact kk_ BK299.out⟩,⟨by refine kk_ ?_;apply blkf_4_0_3;exact kk_ BK301.out⟩,⟨hb2_ HB.out GE299.out GE301.out⟩⟩
      rw [if_pos c26] at H
      have c26b0 : decide (((rd_T56 l0_3 x3_2).f1)<0)=true:=dt_ c26;clear c26;(first|rw [c26b0]|(simp only [i64_w,i32_w];rw [c26b0])|skip);have H':=A_ H;clear H;have hnb27:=NB301_299.out;have hnc27:=NB299_301.out;obtain ⟨z28_0,z28_1,z28_2,z28_3⟩:=blkc_4 BK301.out;obtain ⟨y28_0,y28_1,y28_2,y28_3⟩:=blkz_4 BK301.out;go_wp2
      repeat (go_quiet (fail);try go_wp2)
      go_meet
      case rel=>exact ⟨_,true,rfl,H',⟨by have:=HJ1.out;have:=HK2.out;first|omega|exact Nat.le_refl _⟩,⟨by refine kk_ ?_;refine blk_far ?_ NB299_301.out _;refine kk_ ?_;refine blk_far ?_ NB299_301.out _;refine kk_ ?_;refine blk_far ?_ NB299_301.out _;refine kk_ ?_;refine blk_far ?_ NB299_301.out _;exact kk_ BK299.out⟩,⟨by refine kk_ ?_;apply blkf_4_0_3;exact kk_ BK301.out⟩,⟨hb2_ HB.out GE299.out GE301.out⟩⟩
     case rest =>
      clear HC21;(try clear c1);(try clear c2);(try clear p2);(try clear p3);(try clear q3);(try clear hx3);(try clear c4);(try clear c4b0);(try clear c6);(try clear c6b0);(try clear c8);(try clear c8b0);(try clear c10);(try clear c10b0);(try clear c12);(try clear c12b0);(try clear c14);(try clear c14b0);(try clear c17);(try clear c18);(try clear c18b0);(try clear c19);(try clear c19b0);(try clear c20);(try clear c20b0);(try clear c24);(try clear c26);(try clear c26b0);(try clear c27);(try clear c29);(try clear p30);(try clear q30);(try clear hx30);(try clear hx300_0);(try clear hx300_1);(try clear hx300_2);(try clear hx300_3);(try clear p2);(try clear p300);(try clear q300);(try clear z11_0 z11_1 z11_2 z11_3 z13_0 z13_1 z13_2 z13_3 z15_0 z15_1 z15_2 z15_3 z16_0 z16_1 z16_2 z16_3 z22_0 z22_1 z22_2 z22_3 z25_0 z25_1 z25_2 z25_3 z28_0 z28_1 z28_2 z28_3 z30_0 z30_1 z30_2 z30_3 z5_0 z5_1 z5_2 z5_3 z7_0 z7_1 z7_2 z7_3 z9_0 z9_1 z9_2 z9_3 y11_0 y11_1 y11_2 y11_3 y13_0 y13_1 y13_2 y13_3 y15_0 y15_1 y15_2 y15_3 y16_0 y16_1 y16_2 y16_3 y22_0 y22_1 y22_2 y22_3 y25_0 y25_1 y25_2 y25_3 y28_0 y28_1 y28_2 y28_3 y30_0 y30_1 y30_2 y30_3 y5_0 y5_1 y5_2 y5_3 y7_0 y7_1 y7_2 y7_3 y9_0 y9_1 y9_2 y9_3);obtain ⟨kq,x56_20,rfl,HA,HJ20,BK299,BK301,HB⟩:=hcut
      cases kq with
      | zero=>exact absurd HA.out (by simp [humusref11_May.j2])
      | succ kj20 =>
       have H:=HA.out;clear HA
       simp only [humusref11_May.j2] at H
       by_cases c31 : x56_20=true
       ·subst c31
        have H1 : (some false)=some r:=by rw [if_pos rfl] at H;exact H
        clear H;have H:=H1;clear H1;obtain rfl:=Option.some.inj H;go_wp2
        repeat (go_quiet (fail);try go_wp2)
        go_ret
        exact ⟨by first|rfl|(simp [errW_none,errW_some] <;> rfl)|(simp [*,errW_none,errW_some] <;> rfl),hb2_ HB.out GE299.out GE301.out⟩
       replace c31:=Bool.eq_false_iff.mpr c31
       subst c31
       have H1 : (if ((rd_T56 l0_3 x3_2).f1)=0 then (if (!(((rd_T56 l0_3 x3_2).f0) == 0) || (!(((rd_T56 l0_3 x3_2).f1) == 0) || (!(((rd_T56 l0_3 x3_2).f2) == 0) || (!(((rd_T56 l0_3 x3_2).f3) == 0)))))=true then (some false) else (humusref11_May.l0 kj20 (wrap64 (x3_2 + 1)) a0_0 a0_1 a0_2 l0_3)) else (if ((rd_T56 l0_3 x3_2).f0)<1 then (humusref11_May.j3 kj20 x3_2 true a0_0 a0_1 a0_2 l0_3 ((rd_T56 l0_3 x3_2).f0) ((rd_T56 l0_3 x3_2).f1) ((rd_T56 l0_3 x3_2).f2) ((rd_T56 l0_3 x3_2).f3)) else (if ((rd_T56 l0_3 x3_2).f0) ≥ a0_0 then (humusref11_May.j3 kj20 x3_2 true a0_0 a0_1 a0_2 l0_3 ((rd_T56 l0_3 x3_2).f0) ((rd_T56 l0_3 x3_2).f1) ((rd_T56 l0_3 x3_2).f2) ((rd_T56 l0_3 x3_2).f3)) else (if ((rd_T56 l0_3 x3_2).f2)<0 then (humusref11_May.j3 kj20 x3_2 true a0_0 a0_1 a0_2 l0_3 ((rd_T56 l0_3 x3_2).f0) ((rd_T56 l0_3 x3_2).f1) ((rd_T56 l0_3 x3_2).f2) ((rd_T56 l0_3 x3_2).f3)) else (if ((rd_T56 l0_3 x3_2).f2) > 65535 then (humusref11_May.j3 kj20 x3_2 true a0_0 a0_1 a0_2 l0_3 ((rd_T56 l0_3 x3_2).f0) ((rd_T56 l0_3 x3_2).f1) ((rd_T56 l0_3 x3_2).f2) ((rd_T56 l0_3 x3_2).f3)) else (if ((rd_T56 l0_3 x3_2).f1)=1 then (if ((rd_T56 l0_3 x3_2).f3)=0 then (if ((rd_T56 l0_3 x3_2).f1)=2 then (if ((rd_T56 l0_3 x3_2).f3)<1 then (humusref11_May.j3 kj20 x3_2 true a0_0 a0_1 a0_2 l0_3 ((rd_T56 l0_3 x3_2).f0) ((rd_T56 l0_3 x3_2).f1) ((rd_T56 l0_3 x3_2).f2) ((rd_T56 l0_3 x3_2).f3)) else (humusref11_May.j3 kj20 x3_2 (decide (((rd_T56 l0_3 x3_2).f3) > a0_2)) a0_0 a0_1 a0_2 l0_3 ((rd_T56 l0_3 x3_2).f0) ((rd_T56 l0_3 x3_2).f1) ((rd_T56 l0_3 x3_2).f2) ((rd_T56 l0_3 x3_2).f3))) else (humusref11_May.j3 kj20 x3_2 false a0_0 a0_1 a0_2 l0_3 ((rd_T56 l0_3 x3_2).f0) ((rd_T56 l0_3 x3_2).f1) ((rd_T56 l0_3 x3_2).f2) ((rd_T56 l0_3 x3_2).f3))) else (humusref11_May.j3 kj20 x3_2 true a0_0 a0_1 a0_2 l0_3 ((rd_T56 l0_3 x3_2).f0) ((rd_T56 l0_3 x3_2).f1) ((rd_T56 l0_3 x3_2).f2) ((rd_T56 l0_3 x3_2).f3))) else (if ((rd_T56 l0_3 x3_2).f1)=2 then (if ((rd_T56 l0_3 x3_2).f3)<1 then (humusref11_May.j3 kj20 x3_2 true a0_0 a0_1 a0_2 l0_3 ((rd_T56 l0_3 x3_2).f0) ((rd_T56 l0_3 x3_2).f1) ((rd_T56 l0_3 x3_2).f2) ((rd_T56 l0_3 x3_2).f3)) else (humusref11_May.j3 kj20 x3_2 (decide (((rd_T56 l0_3 x3_2).f3) > a0_2)) a0_0 a0_1 a0_2 l0_3 ((rd_T56 l0_3 x3_2).f0) ((rd_T56 l0_3 x3_2).f1) ((rd_T56 l0_3 x3_2).f2) ((rd_T56 l0_3 x3_2).f3))) else (humusref11_May.j3 kj20 x3_2 false a0_0 a0_1 a0_2 l0_3 ((rd_T56 l0_3 x3_2).f0) ((rd_T56 l0_3 x3_2).f1) ((rd_T56 l0_3 x3_2).f2) ((rd_T56 l0_3 x3_2).f3)))))))))=some r:=by rw [if_neg (show ¬ (false=true) by decide)] at H;exact H
       clear H;have H:=H1;clear H1
       by_cases c32 : ((rd_T56 l0_3 x3_2).f1)=0
       ·rw [if_pos c32] at H
        have c32b0 : (((rd_T56 l0_3 x3_2).f1) == 0)=true:=beq_iff_eq.mpr c32;have c32b1 : (((rd_T56 l0_3 x3_2).f1) != 0)=false:=bne_eq_false_iff_eq.mpr c32;clear c32
        by_cases c33 : (!(((rd_T56 l0_3 x3_2).f0) == 0) || (!(((rd_T56 l0_3 x3_2).f1) == 0) || (!(((rd_T56 l0_3 x3_2).f2) == 0) || (!(((rd_T56 l0_3 x3_2).f3) == 0)))))=true
        ·rw [if_pos c33] at H
         have c33b0 : (!(((rd_T56 l0_3 x3_2).f0) == 0) || (!(((rd_T56 l0_3 x3_2).f1) == 0) || (!(((rd_T56 l0_3 x3_2).f2) == 0) || (!(((rd_T56 l0_3 x3_2).f3) == 0)))))=true:=c33;have c33b9:=c33b0
         try simp only [c32b0,Bool.not_true,Bool.not_false,Bool.false_or,Bool.true_or] at c33b9
         clear c33;obtain rfl:=Option.some.inj H;have hnb34:=NB301_299.out;have hnc34:=NB299_301.out;obtain ⟨z35_0,z35_1,z35_2,z35_3⟩:=blkc_4 BK301.out;obtain ⟨y35_0,y35_1,y35_2,y35_3⟩:=blkz_4 BK301.out;go_wp2
         repeat (go_quiet (fail);try go_wp2)
         go_ret
         exact ⟨by first|rfl|(simp [errW_none,errW_some] <;> rfl)|(simp [*,errW_none,errW_some] <;> rfl),hb2_ HB.out GE299.out GE301.out⟩
        rw [if_neg c33] at H
        have c33b0 : (!(((rd_T56 l0_3 x3_2).f0) == 0) || (!(((rd_T56 l0_3 x3_2).f1) == 0) || (!(((rd_T56 l0_3 x3_2).f2) == 0) || (!(((rd_T56 l0_3 x3_2).f3) == 0)))))=false:=by simpa using c33
        have c33b9:=c33b0
        try simp only [c32b0,Bool.not_true,Bool.not_false,Bool.false_or,Bool.true_or] at c33b9
        clear c33;have H':=A_ H;clear H;have hnb36:=NB301_299.out;have hnc36:=NB299_301.out;obtain ⟨z37_0,z37_1,z37_2,z37_3⟩:=blkc_4 BK301.out;obtain ⟨y37_0,y37_1,y37_2,y37_3⟩:=blkz_4 BK301.out;go_wp2
        repeat (go_quiet (fail);try go_wp2)
        go_roundg kj20
        case measure=>have:=HJ1.out;have:=HK2.out;have:=HJ20.out;omega
        case rel=>exact ⟨(wrap64 (x3_2 + 1)),(by first|rfl|(simp;done)|(simp [*];done)),H',⟨by have:=HJ1.out;have:=HK2.out;have:=HJ20.out;omega⟩,⟨by exact kk_ BK299.out⟩,⟨hb2_ HB.out GE299.out GE301.out⟩⟩
       rw [if_neg c32] at H
       have c32b0 : (((rd_T56 l0_3 x3_2).f1) == 0)=false:=beq_eq_false_iff_ne.mpr c32;have c32b1 : (((rd_T56 l0_3 x3_2).f1) != 0)=true:=bne_iff_ne.mpr c32;have HC38:=A_ H;clear H;have hnb39:=NB301_299.out;have hnc39:=NB299_301.out;obtain ⟨z40_0,z40_1,z40_2,z40_3⟩:=blkc_4 BK301.out;obtain ⟨y40_0,y40_1,y40_2,y40_3⟩:=blkz_4 BK301.out
       go_upto_region 12 with (fail)
       repeat (go_quiet (fail);go_upto_region 12 with (fail))
       go_cut [109] (fun v109 wc=>∃ (kq : Nat) (x109_37 : Bool),v109=.bool x109_37∧Aside0 (humusref11_May.j3 kq x3_2 x109_37 a0_0 a0_1 a0_2 l0_3 ((rd_T56 l0_3 x3_2).f0) ((rd_T56 l0_3 x3_2).f1) ((rd_T56 l0_3 x3_2).f2) ((rd_T56 l0_3 x3_2).f3)=some r)∧Aside0 (kq≤kj20)∧Aside0 (wc.heap[gb299]?=some (.cells #[.int .i64 a0_0,.int .i64 a0_1,.int .i64 a0_2,(.slice (some ad300) l0_3.length c0_3)] 26 (0,0)))∧Aside0 (wc.heap[gb301]?=some (.cells #[.int .i64 ((rd_T56 l0_3 x3_2).f0),.int .i64 ((rd_T56 l0_3 x3_2).f1),.int .i64 ((rd_T56 l0_3 x3_2).f2),.int .i64 ((rd_T56 l0_3 x3_2).f3)] 56 (0,0)))∧Aside0 (Below w.heap.size w wc))
       case first =>
        have H:=HC38.out;clear HC38
        by_cases c41 : ((rd_T56 l0_3 x3_2).f0)<1
        ·rw [if_pos c41] at H
         have c41b0 : decide (((rd_T56 l0_3 x3_2).f0)<1)=true:=dt_ c41;clear c41;(first|rw [c41b0]|(simp only [i64_w,i32_w];rw [c41b0])|skip);have H':=A_ H;clear H;have hnb42:=NB301_299.out;have hnc42:=NB299_301.out;obtain ⟨z43_0,z43_1,z43_2,z43_3⟩:=blkc_4 BK301.out;obtain ⟨y43_0,y43_1,y43_2,y43_3⟩:=blkz_4 BK301.out;go_wp2
         repeat (go_quiet (fail);try go_wp2)
         go_meet
         case rel=>exact ⟨_,true,rfl,H',⟨by have:=HJ1.out;have:=HK2.out;have:=HJ20.out;first|omega|exact Nat.le_refl _⟩,⟨by exact kk_ BK299.out⟩,⟨by exact kk_ BK301.out⟩,⟨hb2_ HB.out GE299.out GE301.out⟩⟩
        rw [if_neg c41] at H
        have c41b0 : decide (((rd_T56 l0_3 x3_2).f0)<1)=false:=df_ c41;clear c41;(first|rw [c41b0]|(simp only [i64_w,i32_w];rw [c41b0])|skip)
        by_cases c44 : ((rd_T56 l0_3 x3_2).f0) ≥ a0_0
        ·rw [if_pos c44] at H
         have c44b0 : decide (a0_0≤((rd_T56 l0_3 x3_2).f0))=true:=dt_ c44;clear c44;have H':=A_ H;clear H;have hnb45:=NB301_299.out;have hnc45:=NB299_301.out;obtain ⟨z46_0,z46_1,z46_2,z46_3⟩:=blkc_4 BK301.out;obtain ⟨y46_0,y46_1,y46_2,y46_3⟩:=blkz_4 BK301.out;obtain ⟨z47_0,z47_1,z47_2,z47_3⟩:=blkc_4 BK299.out;obtain ⟨y47_0,y47_1,y47_2,y47_3⟩:=blkz_4 BK299.out;go_wp2
         repeat (go_quiet (fail);try go_wp2)
         go_meet
         case rel=>exact ⟨_,true,rfl,H',⟨by have:=HJ1.out;have:=HK2.out;have:=HJ20.out;first|omega|exact Nat.le_refl _⟩,⟨by exact kk_ BK299.out⟩,⟨by exact kk_ BK301.out⟩,⟨hb2_ HB.out GE299.out GE301.out⟩⟩
        rw [if_neg c44] at H
        have c44b0 : decide (a0_0≤((rd_T56 l0_3 x3_2).f0))=false:=df_ c44;clear c44
        by_cases c48 : ((rd_T56 l0_3 x3_2).f2)<0
        ·rw [if_pos c48] at H
         have c48b0 : decide (((rd_T56 l0_3 x3_2).f2)<0)=true:=dt_ c48;clear c48;have H':=A_ H;clear H;have hnb49:=NB301_299.out;have hnc49:=NB299_301.out;obtain ⟨z50_0,z50_1,z50_2,z50_3⟩:=blkc_4 BK301.out;obtain ⟨y50_0,y50_1,y50_2,y50_3⟩:=blkz_4 BK301.out;obtain ⟨z51_0,z51_1,z51_2,z51_3⟩:=blkc_4 BK299.out;obtain ⟨y51_0,y51_1,y51_2,y51_3⟩:=blkz_4 BK299.out;go_wp2
         repeat (go_quiet (fail);try go_wp2)
         go_meet
         case rel=>exact ⟨_,true,rfl,H',⟨by have:=HJ1.out;have:=HK2.out;have:=HJ20.out;first|omega|exact Nat.le_refl _⟩,⟨by exact kk_ BK299.out⟩,⟨by exact kk_ BK301.out⟩,⟨hb2_ HB.out GE299.out GE301.out⟩⟩
        rw [if_neg c48] at H
        have c48b0 : decide (((rd_T56 l0_3 x3_2).f2)<0)=false:=df_ c48;clear c48
        by_cases c52 : ((rd_T56 l0_3 x3_2).f2) > 65535
        ·rw [if_pos c52] at H
         have c52b0 : decide (65535<((rd_T56 l0_3 x3_2).f2))=true:=dt_ c52;clear c52;have H':=A_ H;clear H;have hnb53:=NB301_299.out;have hnc53:=NB299_301.out;obtain ⟨z54_0,z54_1,z54_2,z54_3⟩:=blkc_4 BK301.out;obtain ⟨y54_0,y54_1,y54_2,y54_3⟩:=blkz_4 BK301.out;obtain ⟨z55_0,z55_1,z55_2,z55_3⟩:=blkc_4 BK299.out;obtain ⟨y55_0,y55_1,y55_2,y55_3⟩:=blkz_4 BK299.out;go_wp2
         repeat (go_quiet (fail);try go_wp2)
         go_meet
         case rel=>exact ⟨_,true,rfl,H',⟨by have:=HJ1.out;have:=HK2.out;have:=HJ20.out;first|omega|exact Nat.le_refl _⟩,⟨by exact kk_ BK299.out⟩,⟨by exact kk_ BK301.out⟩,⟨hb2_ HB.out GE299.out GE301.out⟩⟩
        rw [if_neg c52] at H
        have c52b0 : decide (65535<((rd_T56 l0_3 x3_2).f2))=false:=df_ c52;clear c52
        by_cases c56 : ((rd_T56 l0_3 x3_2).f1)=1
        rotate_left
        ·rw [if_neg c56] at H
         have c56b0 : (((rd_T56 l0_3 x3_2).f1) == 1)=false:=beq_eq_false_iff_ne.mpr c56;have c56b1 : (((rd_T56 l0_3 x3_2).f1) != 1)=true:=bne_iff_ne.mpr c56
         by_cases c72 : ((rd_T56 l0_3 x3_2).f1)=2
         rotate_left
         ·rw [if_neg c72] at H
          have c72b0 : (((rd_T56 l0_3 x3_2).f1) == 2)=false:=beq_eq_false_iff_ne.mpr c72;have c72b1 : (((rd_T56 l0_3 x3_2).f1) != 2)=true:=bne_iff_ne.mpr c72;have H':=A_ H;clear H;have hnb80:=NB301_299.out;have hnc80:=NB299_301.out;obtain ⟨z81_0,z81_1,z81_2,z81_3⟩:=blkc_4 BK301.out;obtain ⟨y81_0,y81_1,y81_2,y81_3⟩:=blkz_4 BK301.out;obtain ⟨z82_0,z82_1,z82_2,z82_3⟩:=blkc_4 BK299.out;obtain ⟨y82_0,y82_1,y82_2,y82_3⟩:=blkz_4 BK299.out;go_wp2
          repeat (go_quiet (fail);try go_wp2)
          go_meet
          case rel=>exact ⟨_,false,rfl,H',⟨by have:=HJ1.out;have:=HK2.out;have:=HJ20.out;first|omega|exact Nat.le_refl _⟩,⟨by exact kk_ BK299.out⟩,⟨by exact kk_ BK301.out⟩,⟨hb2_ HB.out GE299.out GE301.out⟩⟩
         rw [if_pos c72] at H
         have c72b0 : (((rd_T56 l0_3 x3_2).f1) == 2)=true:=beq_iff_eq.mpr c72;have c72b1 : (((rd_T56 l0_3 x3_2).f1) != 2)=false:=bne_eq_false_iff_eq.mpr c72;clear c72
         by_cases c73 : ((rd_T56 l0_3 x3_2).f3)<1
         rotate_left
         ·rw [if_neg c73] at H
          have c73b0 : decide (((rd_T56 l0_3 x3_2).f3)<1)=false:=df_ c73;clear c73;have H':=A_ H;clear H;have hnb77:=NB301_299.out;have hnc77:=NB299_301.out;obtain ⟨z78_0,z78_1,z78_2,z78_3⟩:=blkc_4 BK301.out;obtain ⟨y78_0,y78_1,y78_2,y78_3⟩:=blkz_4 BK301.out;obtain ⟨z79_0,z79_1,z79_2,z79_3⟩:=blkc_4 BK299.out;obtain ⟨y79_0,y79_1,y79_2,y79_3⟩:=blkz_4 BK299.out;go_wp2
          repeat (go_quiet (fail);try go_wp2)
          go_meet
          case rel=>exact ⟨_,(decide (((rd_T56 l0_3 x3_2).f3) > a0_2)),(by first|rfl|(simp;done)|(simp [*];done)),H',⟨by have:=HJ1.out;have:=HK2.out;have:=HJ20.out;first|omega|exact Nat.le_refl _⟩,⟨by exact kk_ BK299.out⟩,⟨by exact kk_ BK301.out⟩,⟨hb2_ HB.out GE299.out GE301.out⟩⟩
         rw [if_pos c73] at H
         have c73b0 : decide (((rd_T56 l0_3 x3_2).f3)<1)=true:=dt_ c73;clear c73;have H':=A_ H;clear H;have hnb74:=NB301_299.out;have hnc74:=NB299_301.out;obtain ⟨z75_0,z75_1,z75_2,z75_3⟩:=blkc_4 BK301.out;obtain ⟨y75_0,y75_1,y75_2,y75_3⟩:=blkz_4 BK301.out;obtain ⟨z76_0,z76_1,z76_2,z76_3⟩:=blkc_4 BK299.out;obtain ⟨y76_0,y76_1,y76_2,y76_3⟩:=blkz_4 BK299.out;go_wp2
         repeat (go_quiet (fail);try go_wp2)
         go_meet
         case rel=>exact ⟨_,true,rfl,H',⟨by have:=HJ1.out;have:=HK2.out;have:=HJ20.out;first|omega|exact Nat.le_refl _⟩,⟨by exact kk_ BK299.out⟩,⟨by exact kk_ BK301.out⟩,⟨hb2_ HB.out GE299.out GE301.out⟩⟩
        rw [if_pos c56] at H
        have c56b0 : (((rd_T56 l0_3 x3_2).f1) == 1)=true:=beq_iff_eq.mpr c56;have c56b1 : (((rd_T56 l0_3 x3_2).f1) != 1)=false:=bne_eq_false_iff_eq.mpr c56;clear c56
        by_cases c57 : ((rd_T56 l0_3 x3_2).f3)=0
        rotate_left
        ·rw [if_neg c57] at H
         have c57b0 : (((rd_T56 l0_3 x3_2).f3) == 0)=false:=beq_eq_false_iff_ne.mpr c57;have c57b1 : (((rd_T56 l0_3 x3_2).f3) != 0)=true:=bne_iff_ne.mpr c57;have H':=A_ H;clear H;have hnb69:=NB301_299.out;have hnc69:=NB299_301.out;obtain ⟨z70_0,z70_1,z70_2,z70_3⟩:=blkc_4 BK301.out;obtain ⟨y70_0,y70_1,y70_2,y70_3⟩:=blkz_4 BK301.out;obtain ⟨z71_0,z71_1,z71_2,z71_3⟩:=blkc_4 BK299.out;obtain ⟨y71_0,y71_1,y71_2,y71_3⟩:=blkz_4 BK299.out;go_wp2
         repeat (go_quiet (fail);try go_wp2)
         go_meet
         case rel=>exact ⟨_,true,rfl,H',⟨by have:=HJ1.out;have:=HK2.out;have:=HJ20.out;first|omega|exact Nat.le_refl _⟩,⟨by exact kk_ BK299.out⟩,⟨by exact kk_ BK301.out⟩,⟨hb2_ HB.out GE299.out GE301.out⟩⟩
        rw [if_pos c57] at H
        have c57b0 : (((rd_T56 l0_3 x3_2).f3) == 0)=true:=beq_iff_eq.mpr c57;have c57b1 : (((rd_T56 l0_3 x3_2).f3) != 0)=false:=bne_eq_false_iff_eq.mpr c57;clear c57
        by_cases c58 : ((rd_T56 l0_3 x3_2).f1)=2
        rotate_left
        ·rw [if_neg c58] at H
         have c58b0 : (((rd_T56 l0_3 x3_2).f1) == 2)=false:=beq_eq_false_iff_ne.mpr c58;have c58b1 : (((rd_T56 l0_3 x3_2).f1) != 2)=true:=bne_iff_ne.mpr c58;have H':=A_ H;clear H;have hnb66:=NB301_299.out;have hnc66:=NB299_301.out;obtain ⟨z67_0,z67_1,z67_2,z67_3⟩:=blkc_4 BK301.out;obtain ⟨y67_0,y67_1,y67_2,y67_3⟩:=blkz_4 BK301.out;obtain ⟨z68_0,z68_1,z68_2,z68_3⟩:=blkc_4 BK299.out;obtain ⟨y68_0,y68_1,y68_2,y68_3⟩:=blkz_4 BK299.out;go_wp2
         repeat (go_quiet (fail);try go_wp2)
         go_meet
         case rel=>exact ⟨_,false,rfl,H',⟨by have:=HJ1.out;have:=HK2.out;have:=HJ20.out;first|omega|exact Nat.le_refl _⟩,⟨by exact kk_ BK299.out⟩,⟨by exact kk_ BK301.out⟩,⟨hb2_ HB.out GE299.out GE301.out⟩⟩
        rw [if_pos c58] at H
        have c58b0 : (((rd_T56 l0_3 x3_2).f1) == 2)=true:=beq_iff_eq.mpr c58;have c58b1 : (((rd_T56 l0_3 x3_2).f1) != 2)=false:=bne_eq_false_iff_eq.mpr c58;clear c58
        by_cases c59 : ((rd_T56 l0_3 x3_2).f3)<1
        rotate_left
        ·rw [if_neg c59] at H
         have c59b0 : decide (((rd_T56 l0_3 x3_2).f3)<1)=false:=df_ c59;clear c59;have H':=A_ H;clear H;have hnb63:=NB301_299.out;have hnc63:=NB299_301.out;obtain ⟨z64_0,z64_1,z64_2,z64_3⟩:=blkc_4 BK301.out;obtain ⟨y64_0,y64_1,y64_2,y64_3⟩:=blkz_4 BK301.out;obtain ⟨z65_0,z65_1,z65_2,z65_3⟩:=blkc_4 BK299.out;obtain ⟨y65_0,y65_1,y65_2,y65_3⟩:=blkz_4 BK299.out;go_wp2
         repeat (go_quiet (fail);try go_wp2)
         go_meet
         case rel=>exact ⟨_,(decide (((rd_T56 l0_3 x3_2).f3) > a0_2)),(by first|rfl|(simp;done)|(simp [*];done)),H',⟨by have:=HJ1.out;have:=HK2.out;have:=HJ20.out;first|omega|exact Nat.le_refl _⟩,⟨by exact kk_ BK299.out⟩,⟨by exact kk_ BK301.out⟩,⟨hb2_ HB.out GE299.out GE301.out⟩⟩
        rw [if_pos c59] at H
        have c59b0 : decide (((rd_T56 l0_3 x3_2).f3)<1)=true:=dt_ c59;clear c59;have H':=A_ H;clear H;have hnb60:=NB301_299.out;have hnc60:=NB299_301.out;obtain ⟨z61_0,z61_1,z61_2,z61_3⟩:=blkc_4 BK301.out;obtain ⟨y61_0,y61_1,y61_2,y61_3⟩:=blkz_4 BK301.out;obtain ⟨z62_0,z62_1,z62_2,z62_3⟩:=blkc_4 BK299.out;obtain ⟨y62_0,y62_1,y62_2,y62_3⟩:=blkz_4 BK299.out;go_wp2
        repeat (go_quiet (fail);try go_wp2)
        go_meet
        case rel=>exact ⟨_,true,rfl,H',⟨by have:=HJ1.out;have:=HK2.out;have:=HJ20.out;first|omega|exact Nat.le_refl _⟩,⟨by exact kk_ BK299.out⟩,⟨by exact kk_ BK301.out⟩,⟨hb2_ HB.out GE299.out GE301.out⟩⟩
       case rest =>
        clear HC38;(try clear c1);(try clear c2);(try clear p2);(try clear c3);(try clear p3);(try clear q3);(try clear hx3);(try clear c4);(try clear c4b0);(try clear c5);(try clear c6);(try clear c6b0);(try clear p6);(try clear c7);(try clear c8);(try clear c8b0);(try clear c10);(try clear c10b0);(try clear c12);(try clear c12b0);(try clear c14);(try clear c14b0);(try clear c17);(try clear c18);(try clear c18b0);(try clear c19);(try clear c19b0);(try clear c20);(try clear c20b0);(try clear c24);(try clear c26);(try clear c26b0);(try clear c27);(try clear c29);(try clear p30);(try clear q30);(try clear hx30);(try clear c31);(try clear c32);(try clear c32b0);(try clear c32b1);(try clear c33);(try clear c33b0);(try clear c34);(try clear c36);(try clear c39);(try clear c41);(try clear c41b0);(try clear c42);(try clear c44);(try clear c44b0);(try clear c45);(try clear c48);(try clear c48b0);(try clear c49);(try clear c52);(try clear c52b0);(try clear c53);(try clear c56);(try clear c56b0);(try clear c56b1);(try clear c57);(try clear c57b0);(try clear c57b1);(try clear c58);(try clear c58b0);(try clear c58b1);(try clear c59);(try clear c59b0);(try clear c60);(try clear c63);(try clear p64);(try clear c66);(try clear c69);(try clear c72);(try clear c72b0);(try clear c72b1);(try clear c73);(try clear c73b0);(try clear c74);(try clear c77);(try clear c80);(try clear hx300_0);(try clear hx300_1);(try clear hx300_2);(try clear hx300_3);(try clear p2);(try clear p3);(try clear p30);(try clear p300);(try clear q3);(try clear q30);(try clear q300);(try clear z11_0 z11_1 z11_2 z11_3 z13_0 z13_1 z13_2 z13_3 z15_0 z15_1 z15_2 z15_3 z16_0 z16_1 z16_2 z16_3 z22_0 z22_1 z22_2 z22_3 z25_0 z25_1 z25_2 z25_3 z28_0 z28_1 z28_2 z28_3 z30_0 z30_1 z30_2 z30_3 z35_0 z35_1 z35_2 z35_3 z37_0 z37_1 z37_2 z37_3 z40_0 z40_1 z40_2 z40_3 z43_0 z43_1 z43_2 z43_3 z46_0 z46_1 z46_2 z46_3 z47_0 z47_1 z47_2 z47_3 z50_0 z50_1 z50_2 z50_3 z51_0 z51_1 z51_2 z51_3 z54_0 z54_1 z54_2 z54_3 z55_0 z55_1 z55_2 z55_3 z5_0 z5_1 z5_2 z5_3 z61_0 z61_1 z61_2 z61_3 z62_0 z62_1 z62_2 z62_3 z64_0 z64_1 z64_2 z64_3 z65_0 z65_1 z65_2 z65_3 z67_0 z67_1 z67_2 z67_3 z68_0 z68_1 z68_2 z68_3 z70_0 z70_1 z70_2 z70_3 z71_0 z71_1 z71_2 z71_3 z75_0 z75_1 z75_2 z75_3 z76_0 z76_1 z76_2 z76_3 z78_0 z78_1 z78_2 z78_3 z79_0 z79_1 z79_2 z79_3 z7_0 z7_1 z7_2 z7_3 z81_0 z81_1 z81_2 z81_3 z82_0 z82_1 z82_2 z82_3 z9_0 z9_1 z9_2 z9_3 y11_0 y11_1 y11_2 y11_3 y13_0 y13_1 y13_2 y13_3 y15_0 y15_1 y15_2 y15_3 y16_0 y16_1 y16_2 y16_3 y22_0 y22_1 y22_2 y22_3 y25_0 y25_1 y25_2 y25_3 y28_0 y28_1 y28_2 y28_3 y30_0 y30_1 y30_2 y30_3 y35_0 y35_1 y35_2 y35_3 y37_0 y37_1 y37_2 y37_3 y40_0 y40_1 y40_2 y40_3 y43_0 y43_1 y43_2 y43_3 y46_0 y46_1 y46_2 y46_3 y47_0 y47_1 y47_2 y47_3 y50_0 y50_1 y50_2 y50_3 y51_0 y51_1 y51_2 y51_3 y54_0 y54_1 y54_2 y54_3 y55_0 y55_1 y55_2 y55_3 y5_0 y5_1 y5_2 y5_3 y61_0 y61_1 y61_2 y61_3 y62_0 y62_1 y62_2 y62_3 y64_0 y64_1 y64_2 y64_3 y65_0 y65_1 y65_2 y65_3 y67_0 y67_1 y67_2 y67_3 y68_0 y68_1 y68_2 y68_3 y70_0 y70_1 y70_2 y70_3 y71_0 y71_1 y71_2 y71_3 y75_0 y75_1 y75_2 y75_3 y76_0 y76_1 y76_2 y76_3 y78_0 y78_1 y78_2 y78_3 y79_0 y79_1 y79_2 y79_3 y7_0 y7_1 y7_2 y7_3 y81_0 y81_1 y81_2 y81_3 y82_0 y82_1 y82_2 y82_3 y9_0 y9_1 y9_2 y9_3)
        obtain ⟨kq,x109_37,rfl,HA,HJ37,BK299,BK301,HB⟩:=hcut
        cases kq with
        | zero=>exact absurd HA.out (by simp [humusref11_May.j3])
        | succ kj37 =>
         have H:=HA.out;clear HA
         simp only [humusref11_May.j3] at H
         by_cases c83 : x109_37=true
         ·subst c83
          have H1 : (some false)=some r:=by rw [if_pos rfl] at H;exact H
          clear H;have H:=H1;clear H1;obtain rfl:=Option.some.inj H;go_wp2
          repeat (go_quiet (fail);try go_wp2)
          go_ret
          exact ⟨by first|rfl|(simp [errW_none,errW_some] <;> rfl)|(simp [*,errW_none,errW_some] <;> rfl),hb2_ HB.out GE299.out GE301.out⟩
         replace c83:=Bool.eq_false_iff.mpr c83
         subst c83
         have H1 : (humusref11_May.l1 kj37 x3_2 0 a0_0 a0_1 a0_2 l0_3 ((rd_T56 l0_3 x3_2).f0) ((rd_T56 l0_3 x3_2).f1) ((rd_T56 l0_3 x3_2).f2) ((rd_T56 l0_3 x3_2).f3))=some r:=by rw [if_neg (show ¬ (false=true) by decide)] at H;exact H
         clear H;have H:=H1;clear H1;have H':=A_ H;clear H;go_wp2
         repeat (go_quiet (fail);try go_wp2)
         go_loopg [5] kj37 (fun kq v5 w'=>∃ (x5_5 : Int),v5=.int .i64 x5_5∧Aside0 (humusref11_May.l1 kq x3_2 x5_5 a0_0 a0_1 a0_2 l0_3 ((rd_T56 l0_3 x3_2).f0) ((rd_T56 l0_3 x3_2).f1) ((rd_T56 l0_3 x3_2).f2) ((rd_T56 l0_3 x3_2).f3)=some r)∧Aside0 (kq≤kj37)∧Aside0 (w'.heap[gb299]?=some (.cells #[.int .i64 a0_0,.int .i64 a0_1,.int .i64 a0_2,(.slice (some ad300) l0_3.length c0_3)] 26 (0,0)))∧Aside0 (w'.heap[gb301]?=some (.cells #[.int .i64 ((rd_T56 l0_3 x3_2).f0),.int .i64 ((rd_T56 l0_3 x3_2).f1),.int .i64 ((rd_T56 l0_3 x3_2).f2),.int .i64 ((rd_T56 l0_3 x3_2).f3)] 56 (0,0)))∧Aside0 (Below w.heap.size w w'))
         case atStart=>exact ⟨(0),(by first|rfl|(simp;done)|(simp [*];done)),H',⟨Nat.le_refl _⟩,⟨by exact kk_ BK299.out⟩,⟨by exact kk_ BK301.out⟩,⟨hb2_ HB.out GE299.out GE301.out⟩⟩
         case round =>
          clear H';(try clear c1);(try clear c2);(try clear p2);(try clear c3);(try clear p3);(try clear q3);(try clear hx3);(try clear c4);(try clear c4b0);(try clear c5);(try clear c6);(try clear c6b0);(try clear p6);(try clear c7);(try clear c8);(try clear c8b0);(try clear c10);(try clear c10b0);(try clear c12);(try clear c12b0);(try clear c14);(try clear c14b0);(try clear c17);(try clear c18);(try clear c18b0);(try clear c19);(try clear c19b0);(try clear c20);(try clear c20b0);(try clear c24);(try clear c26);(try clear c26b0);(try clear c27);(try clear c29);(try clear p30);(try clear q30);(try clear hx30);(try clear c31);(try clear c32);(try clear c32b0);(try clear c32b1);(try clear c33);(try clear c33b0);(try clear c34);(try clear c36);(try clear c39);(try clear c41);(try clear c41b0);(try clear c42);(try clear c44);(try clear c44b0);(try clear c45);(try clear c48);(try clear c48b0);(try clear c49);(try clear c52);(try clear c52b0);(try clear c53);(try clear c56);(try clear c56b0);(try clear c56b1);(try clear c57);(try clear c57b0);(try clear c57b1);(try clear c58);(try clear c58b0);(try clear c58b1);(try clear c59);(try clear c59b0);(try clear c60);(try clear c63);(try clear p64);(try clear c66);(try clear c69);(try clear c72);(try clear c72b0);(try clear c72b1);(try clear c73);(try clear c73b0);(try clear c74);(try clear c77);(try clear c80);(try clear c83);(try clear hx300_0);(try clear hx300_1);(try clear hx300_2);(try clear hx300_3);(try clear p2);(try clear p3);(try clear p30);(try clear p300);(try clear p6);(try clear p64);(try clear q3);(try clear q30);(try clear q300);(try clear z11_0 z11_1 z11_2 z11_3 z13_0 z13_1 z13_2 z13_3 z15_0 z15_1 z15_2 z15_3 z16_0 z16_1 z16_2 z16_3 z22_0 z22_1 z22_2 z22_3 z25_0 z25_1 z25_2 z25_3 z28_0 z28_1 z28_2 z28_3 z30_0 z30_1 z30_2 z30_3 z35_0 z35_1 z35_2 z35_3 z37_0 z37_1 z37_2 z37_3 z40_0 z40_1 z40_2 z40_3 z43_0 z43_1 z43_2 z43_3 z46_0 z46_1 z46_2 z46_3 z47_0 z47_1 z47_2 z47_3 z50_0 z50_1 z50_2 z50_3 z51_0 z51_1 z51_2 z51_3 z54_0 z54_1 z54_2 z54_3 z55_0 z55_1 z55_2 z55_3 z5_0 z5_1 z5_2 z5_3 z61_0 z61_1 z61_2 z61_3 z62_0 z62_1 z62_2 z62_3 z64_0 z64_1 z64_2 z64_3 z65_0 z65_1 z65_2 z65_3 z67_0 z67_1 z67_2 z67_3 z68_0 z68_1 z68_2 z68_3 z70_0 z70_1 z70_2 z70_3 z71_0 z71_1 z71_2 z71_3 z75_0 z75_1 z75_2 z75_3 z76_0 z76_1 z76_2 z76_3 z78_0 z78_1 z78_2 z78_3 z79_0 z79_1 z79_2 z79_3 z7_0 z7_1 z7_2 z7_3 z81_0 z81_1 z81_2 z81_3 z82_0 z82_1 z82_2 z82_3 z9_0 z9_1 z9_2 z9_3 y11_0 y11_1 y11_2 y11_3 y13_0 y13_1 y13_2 y13_3 y15_0 y15_1 y15_2 y15_3 y16_0 y16_1 y16_2 y16_3 y22_0 y22_1 y22_2 y22_3 y25_0 y25_1 y25_2 y25_3 y28_0 y28_1 y28_2 y28_3 y30_0 y30_1 y30_2 y30_3 y35_0 y35_1 y35_2 y35_3 y37_0 y37_1 y37_2 y37_3 y40_0 y40_1 y40_2 y40_3 y43_0 y43_1 y43_2 y43_3 y46_0 y46_1 y46_2 y46_3 y47_0 y47_1 y47_2 y47_3 y50_0 y50_1 y50_2 y50_3 y51_0 y51_1 y51_2 y51_3 y54_0 y54_1 y54_2 y54_3 y55_0 y55_1 y55_2 y55_3 y5_0 y5_1 y5_2 y5_3 y61_0 y61_1 y61_2 y61_3 y62_0 y62_1 y62_2 y62_3 y64_0 y64_1 y64_2 y64_3 y65_0 y65_1 y65_2 y65_3 y67_0 y67_1 y67_2 y67_3 y68_0 y68_1 y68_2 y68_3 y70_0 y70_1 y70_2 y70_3 y71_0 y71_1 y71_2 y71_3 y75_0 y75_1 y75_2 y75_3 y76_0 y76_1 y76_2 y76_3 y78_0 y78_1 y78_2 y78_3 y79_0 y79_1 y79_2 y79_3 y7_0 y7_1 y7_2 y7_3 y81_0 y81_1 y81_2 y81_3 y82_0 y82_1 y82_2 y82_3 y9_0 y9_1 y9_2 y9_3)
          obtain ⟨x5_5,rfl,HA,HK5,BK299,BK301,HB⟩:=hrel
          cases gk with
          | zero=>exact absurd HA.out (by simp [humusref11_May.l1])
          | succ k5 =>
           have H:=HA.out;clear HA
           simp only [humusref11_May.l1] at H
           by_cases c84 : x5_5<x3_2
           rotate_left
           ·rw [if_neg c84] at H
            have c84b0 : decide (x5_5<x3_2)=false:=df_ c84;clear c84;have H':=A_ H;clear H;go_wp2
            repeat (go_quiet (fail);try go_wp2)
            go_roundg k5
            case measure=>have:=HJ1.out;have:=HK2.out;have:=HJ20.out;have:=HJ37.out;have:=HK5.out;omega
            case rel=>exact ⟨(wrap64 (x3_2 + 1)),(by first|rfl|(simp;done)|(simp [*];done)),H',⟨by have:=HJ1.out;have:=HK2.out;have:=HJ20.out;have:=HJ37.out;have:=HK5.out;omega⟩,⟨by exact kk_ BK299.out⟩,⟨hb2_ HB.out GE299.out GE301.out⟩⟩
           rw [if_pos c84] at H
           have c84b0 : decide (x5_5<x3_2)=true:=dt_ c84;clear c84
           by_cases c85 : 0≤x5_5
           rotate_left
           ·rw [if_neg c85] at H
            exact absurd H (by simp)
           rw [if_pos c85] at H
           have c85b0 : decide (0≤x5_5)=true:=dt_ c85;clear c85
           by_cases c86 : x5_5<(l0_3.length : Int)
           rotate_left
           ·rw [if_neg c86] at H
            exact absurd H (by simp)
           rw [if_pos c86] at H
           have c86b0 : decide (x5_5<(l0_3.length : Int))=true:=dt_ c86;clear c86
           by_cases c87 : ((rd_T56 l0_3 x5_5).f0)=((rd_T56 l0_3 x3_2).f0)
           ·rw [if_pos c87] at H
            have c87b0 : (((rd_T56 l0_3 x5_5).f0) == ((rd_T56 l0_3 x3_2).f0))=true:=beq_iff_eq.mpr c87;have c87b1 : (((rd_T56 l0_3 x5_5).f0) != ((rd_T56 l0_3 x3_2).f0))=false:=bne_eq_false_iff_eq.mpr c87;clear c87;obtain rfl:=Option.some.inj H;have hnb88:=NB299_301.out;have hnc88:=NB301_299.out;obtain ⟨z89_0,z89_1,z89_2,z89_3⟩:=blkc_4 BK299.out;obtain ⟨y89_0,y89_1,y89_2,y89_3⟩:=blkz_4 BK299.out
            have p302 : 0≤(x5_5 : Int):=od_ (by first|(with_reducible assumption)|assumption)
            have q302 : x5_5<(l0_3.length : Int):=od_ (by first|(with_reducible assumption)|assumption)
            obtain ⟨ad302,e302,hx302_0,hx302_1,hx302_2,hx302_3⟩:=at_T56 HR0_3.out x5_5 p302 q302
            obtain rfl : ad300=ad302:=(by injection e302)
            replace hx302_0:=(HB.out.cell (wb_ w _ hx302_0)).trans hx302_0;replace hx302_1:=(HB.out.cell (wb_ w _ hx302_1)).trans hx302_1;replace hx302_2:=(HB.out.cell (wb_ w _ hx302_2)).trans hx302_2;replace hx302_3:=(HB.out.cell (wb_ w _ hx302_3)).trans hx302_3;replace p302:=eq_true p302;replace q302:=eq_true q302;obtain ⟨z90_0,z90_1,z90_2,z90_3⟩:=blkc_4 BK301.out;obtain ⟨y90_0,y90_1,y90_2,y90_3⟩:=blkz_4 BK301.out;go_wp2
            repeat (go_quiet (fail);try go_wp2)
            go_ret
            exact ⟨by first|rfl|(simp [errW_none,errW_some] <;> rfl)|(simp [*,errW_none,errW_some] <;> rfl),hb2_ HB.out GE299.out GE301.out⟩
           rw [if_neg c87] at H
           have c87b0 : (((rd_T56 l0_3 x5_5).f0) == ((rd_T56 l0_3 x3_2).f0))=false:=beq_eq_false_iff_ne.mpr c87;have c87b1 : (((rd_T56 l0_3 x5_5).f0) != ((rd_T56 l0_3 x3_2).f0))=true:=bne_iff_ne.mpr c87
           by_cases c91 : ((rd_T56 l0_3 x3_2).f3) > 0
           rotate_left
           ·rw [if_neg c91] at H
            have c91b0 : decide (0<((rd_T56 l0_3 x3_2).f3))=false:=df_ c91;clear c91;have H':=A_ H;clear H;have hnb99:=NB299_301.out;have hnc99:=NB301_299.out;obtain ⟨z100_0,z100_1,z100_2,z100_3⟩:=blkc_4 BK299.out;obtain ⟨y100_0,y100_1,y100_2,y100_3⟩:=blkz_4 BK299.out
            have p302 : 0≤(x5_5 : Int):=od_ (by first|(with_reducible assumption)|assumption)
            have q302 : x5_5<(l0_3.length : Int):=od_ (by first|(with_reducible assumption)|assumption)
            obtain ⟨ad302,e302,hx302_0,hx302_1,hx302_2,hx302_3⟩:=at_T56 HR0_3.out x5_5 p302 q302
            obtain rfl : ad300=ad302:=(by injection e302)
            replace hx302_0:=(HB.out.cell (wb_ w _ hx302_0)).trans hx302_0;replace hx302_1:=(HB.out.cell (wb_ w _ hx302_1)).trans hx302_1;replace hx302_2:=(HB.out.cell (wb_ w _ hx302_2)).trans hx302_2;replace hx302_3:=(HB.out.cell (wb_ w _ hx302_3)).trans hx302_3;replace p302:=eq_true p302;replace q302:=eq_true q302;obtain ⟨z101_0,z101_1,z101_2,z101_3⟩:=blkc_4 BK301.out;obtain ⟨y101_0,y101_1,y101_2,y101_3⟩:=blkz_4 BK301.out;go_wp2
            repeat (go_quiet (fail);try go_wp2)
            go_roundg k5
            case measure=>have:=HJ1.out;have:=HK2.out;have:=HJ20.out;have:=HJ37.out;have:=HK5.out;omega
            case rel=>exact ⟨(wrap64 (x5_5 + 1)),(by first|rfl|(simp;done)|(simp [*];done)),H',⟨by have:=HJ1.out;have:=HK2.out;have:=HJ20.out;have:=HJ37.out;have:=HK5.out;omega⟩,⟨by exact kk_ BK299.out⟩,⟨by exact kk_ BK301.out⟩,⟨hb2_ HB.out GE299.out GE301.out⟩⟩
           rw [if_pos c91] at H
           have c91b0 : decide (0<((rd_T56 l0_3 x3_2).f3))=true:=dt_ c91;clear c91
           by_cases c92 : ((rd_T56 l0_3 x5_5).f3)=((rd_T56 l0_3 x3_2).f3)
           ·rw [if_pos c92] at H
            have c92b0 : (((rd_T56 l0_3 x5_5).f3) == ((rd_T56 l0_3 x3_2).f3))=true:=beq_iff_eq.mpr c92;have c92b1 : (((rd_T56 l0_3 x5_5).f3) != ((rd_T56 l0_3 x3_2).f3))=false:=bne_eq_false_iff_eq.mpr c92;clear c92;obtain rfl:=Option.some.inj H;have hnb93:=NB299_301.out;have hnc93:=NB301_299.out;obtain ⟨z94_0,z94_1,z94_2,z94_3⟩:=blkc_4 BK299.out;obtain ⟨y94_0,y94_1,y94_2,y94_3⟩:=blkz_4 BK299.out
            have p302 : 0≤(x5_5 : Int):=od_ (by first|(with_reducible assumption)|assumption)
            have q302 : x5_5<(l0_3.length : Int):=od_ (by first|(with_reducible assumption)|assumption)
            obtain ⟨ad302,e302,hx302_0,hx302_1,hx302_2,hx302_3⟩:=at_T56 HR0_3.out x5_5 p302 q302
            obtain rfl : ad300=ad302:=(by injection e302)
            replace hx302_0:=(HB.out.cell (wb_ w _ hx302_0)).trans hx302_0;replace hx302_1:=(HB.out.cell (wb_ w _ hx302_1)).trans hx302_1;replace hx302_2:=(HB.out.cell (wb_ w _ hx302_2)).trans hx302_2;replace hx302_3:=(HB.out.cell (wb_ w _ hx302_3)).trans hx302_3;replace p302:=eq_true p302;replace q302:=eq_true q302;obtain ⟨z95_0,z95_1,z95_2,z95_3⟩:=blkc_4 BK301.out;obtain ⟨y95_0,y95_1,y95_2,y95_3⟩:=blkz_4 BK301.out
            have p303 : 0≤(x5_5 : Int):=od_ (by first|(with_reducible assumption)|assumption)
            have q303 : x5_5<(l0_3.length : Int):=od_ (by first|(with_reducible assumption)|assumption)
            obtain ⟨ad303,e303,hx303_0,hx303_1,hx303_2,hx303_3⟩:=at_T56 HR0_3.out x5_5 p303 q303
            obtain rfl : ad300=ad303:=(by injection e303)
            replace hx303_0:=(HB.out.cell (wb_ w _ hx303_0)).trans hx303_0;replace hx303_1:=(HB.out.cell (wb_ w _ hx303_1)).trans hx303_1;replace hx303_2:=(HB.out.cell (wb_ w _ hx303_2)).trans hx303_2;replace hx303_3:=(HB.out.cell (wb_ w _ hx303_3)).trans hx303_3;replace p303:=eq_true p303;replace q303:=eq_true q303;go_wp2
            repeat (go_quiet (fail);try go_wp2)
            go_ret
            exact ⟨by first|rfl|(simp [errW_none,errW_some] <;> rfl)|(simp [*,errW_none,errW_some] <;> rfl),hb2_ HB.out GE299.out GE301.out⟩
           rw [if_neg c92] at H
           have c92b0 : (((rd_T56 l0_3 x5_5).f3) == ((rd_T56 l0_3 x3_2).f3))=false:=beq_eq_false_iff_ne.mpr c92;have c92b1 : (((rd_T56 l0_3 x5_5).f3) != ((rd_T56 l0_3 x3_2).f3))=true:=bne_iff_ne.mpr c92;have H':=A_ H;clear H;have hnb96:=NB299_301.out;have hnc96:=NB301_299.out;obtain ⟨z97_0,z97_1,z97_2,z97_3⟩:=blkc_4 BK299.out;obtain ⟨y97_0,y97_1,y97_2,y97_3⟩:=blkz_4 BK299.out
           have p302 : 0≤(x5_5 : Int):=od_ (by first|(with_reducible assumption)|assumption)
           have q302 : x5_5<(l0_3.length : Int):=od_ (by first|(with_reducible assumption)|assumption)
           obtain ⟨ad302,e302,hx302_0,hx302_1,hx302_2,hx302_3⟩:=at_T56 HR0_3.out x5_5 p302 q302
           obtain rfl : ad300=ad302:=(by injection e302)
           replace hx302_0:=(HB.out.cell (wb_ w _ hx302_0)).trans hx302_0;replace hx302_1:=(HB.out.cell (wb_ w _ hx302_1)).trans hx302_1;replace hx302_2:=(HB.out.cell (wb_ w _ hx302_2)).trans hx302_2;replace hx302_3:=(HB.out.cell (wb_ w _ hx302_3)).trans hx302_3;replace p302:=eq_true p302;replace q302:=eq_true q302;obtain ⟨z98_0,z98_1,z98_2,z98_3⟩:=blkc_4 BK301.out;obtain ⟨y98_0,y98_1,y98_2,y98_3⟩:=blkz_4 BK301.out
           have p303 : 0≤(x5_5 : Int):=od_ (by first|(with_reducible assumption)|assumption)
           have q303 : x5_5<(l0_3.length : Int):=od_ (by first|(with_reducible assumption)|assumption)
           obtain ⟨ad303,e303,hx303_0,hx303_1,hx303_2,hx303_3⟩:=at_T56 HR0_3.out x5_5 p303 q303
           obtain rfl : ad300=ad303:=(by injection e303)
           replace hx303_0:=(HB.out.cell (wb_ w _ hx303_0)).trans hx303_0;replace hx303_1:=(HB.out.cell (wb_ w _ hx303_1)).trans hx303_1;replace hx303_2:=(HB.out.cell (wb_ w _ hx303_2)).trans hx303_2;replace hx303_3:=(HB.out.cell (wb_ w _ hx303_3)).trans hx303_3;replace p303:=eq_true p303;replace q303:=eq_true q303;go_wp2
           repeat (go_quiet (fail);try go_wp2)
           go_roundg k5
           case measure=>have:=HJ1.out;have:=HK2.out;have:=HJ20.out;have:=HJ37.out;have:=HK5.out;omega
           case rel=>exact ⟨(wrap64 (x5_5 + 1)),(by first|rfl|(simp;done)|(simp [*];done)),H',⟨by have:=HJ1.out;have:=HK2.out;have:=HJ20.out;have:=HJ37.out;have:=HK5.out;omega⟩,⟨by exact kk_ BK299.out⟩,⟨by exact kk_ BK301.out⟩,⟨hb2_ HB.out GE299.out GE301.out⟩⟩
mutual
def humusref11_Same.j0 : Nat→Bool→Int→Int→Int→List (S56)→Int→Int→Int→List (S56)→Option (Bool)
 | 0,_,_,_,_,_,_,_,_,_=>none
 | k + 1,x33,x382000,x382001,x382002,x382003,x383000,x383001,x383002,x383003=>if x33=true then (some false) else (humusref11_Same.l0 k 0 x382000 x382001 x382002 x382003 x383000 x383001 x383002 x383003)
def humusref11_Same.l0 : Nat→Int→Int→Int→Int→List (S56)→Int→Int→Int→List (S56)→Option (Bool)
 | 0,_,_,_,_,_,_,_,_,_=>none
 | k + 1,x5,x382000,x382001,x382002,x382003,x383000,x383001,x383002,x383003=>if x5<(x382003.length : Int) then (if 0≤x5 then (if x5<(x383003.length : Int) then (if (!(((rd_T56 x382003 x5).f0) == ((rd_T56 x383003 x5).f0)) || (!(((rd_T56 x382003 x5).f1) == ((rd_T56 x383003 x5).f1)) || (!(((rd_T56 x382003 x5).f2) == ((rd_T56 x383003 x5).f2)) || (!(((rd_T56 x382003 x5).f3) == ((rd_T56 x383003 x5).f3))))))=true then (some false) else (humusref11_Same.l0 k (wrap64 (x5 + 1)) x382000 x382001 x382002 x382003 x383000 x383001 x383002 x383003)) else (none)) else (none)) else (some true)
end
def humusref11_Same.f (k : Nat) (a0_0 : Int) (a0_1 : Int) (a0_2 : Int) (l0_3 : List (S56)) (a1_0 : Int) (a1_1 : Int) (a1_2 : Int) (l1_3 : List (S56)) : Option (Bool):=if a0_0=a1_0 then (if a0_1=a1_1 then (if a0_2=a1_2 then (humusref11_Same.j0 k ((l0_3.length : Int) != (l1_3.length : Int)) a0_0 a0_1 a0_2 l0_3 a1_0 a1_1 a1_2 l1_3) else (humusref11_Same.j0 k true a0_0 a0_1 a0_2 l0_3 a1_0 a1_1 a1_2 l1_3)) else (humusref11_Same.j0 k true a0_0 a0_1 a0_2 l0_3 a1_0 a1_1 a1_2 l1_3)) else (humusref11_Same.j0 k true a0_0 a0_1 a0_2 l0_3 a1_0 a1_1 a1_2 l1_3)
set_option maxHeartbeats 8000000 in
set_option maxRecDepth 100000 in
theorem humusref11_Same.calls (k : Nat) (a0_0 : Int) (a0_1 : Int) (a0_2 : Int) (A0_3 : Option Addr) (c0_3 : Nat) (l0_3 : List (S56)) (a1_0 : Int) (a1_1 : Int) (a1_2 : Int) (A1_3 : Option Addr) (c1_3 : Nat) (l1_3 : List (S56)) (r : Bool) (w : World) (hr0_3 : Kd.C k56 w A0_3 l0_3.length l0_3) (hc0_3 : l0_3.length≤c0_3) (hr1_3 : Kd.C k56 w A1_3 l1_3.length l1_3) (hc1_3 : l1_3.length≤c1_3) (h : humusref11_Same.f k a0_0 a0_1 a0_2 l0_3 a1_0 a1_1 a1_2 l1_3=some r) :
  Calls Tryd.prog 8 #[.agg #[.int .i64 a0_0,.int .i64 a0_1,.int .i64 a0_2,.slice A0_3 l0_3.length c0_3],.agg #[.int .i64 a1_0,.int .i64 a1_1,.int .i64 a1_2,.slice A1_3 l1_3.length c1_3]] w fun e w'=>e=.returned (.bool r)∧Below w.heap.size w w':=by
 have hu26:=Tryd.underlying26;have hu56:=Tryd.underlying56;have HR0_3:=A_ hr0_3;have HC0_3:=A_ hc0_3;clear hr0_3 hc0_3;have HR1_3:=A_ hr1_3;have HC1_3:=A_ hc1_3;clear hr1_3 hc1_3;have HB:=A_ (Below.refl w.heap.size w)
 have H : (if a0_0=a1_0 then (if a0_1=a1_1 then (if a0_2=a1_2 then (humusref11_Same.j0 k ((l0_3.length : Int) != (l1_3.length : Int)) a0_0 a0_1 a0_2 l0_3 a1_0 a1_1 a1_2 l1_3) else (humusref11_Same.j0 k true a0_0 a0_1 a0_2 l0_3 a1_0 a1_1 a1_2 l1_3)) else (humusref11_Same.j0 k true a0_0 a0_1 a0_2 l0_3 a1_0 a1_1 a1_2 l1_3)) else (humusref11_Same.j0 k true a0_0 a0_1 a0_2 l0_3 a1_0 a1_1 a1_2 l1_3))=some r:=h
 clear h;have HC3:=A_ H;clear H;go_enter Tryd.func8,Tryd.ntmps8
 go_upto_region 1 with (first|((with_reducible refine gate_dst (N:=2) rfl ?_);(try (refine gate_guard (by rfl) ?_;dsimp only));refine box_event ?hg (N:=2) ?hd (cs:=#[.int .i64 a0_0,.int .i64 a0_1,.int .i64 a0_2,.slice A0_3 l0_3.length c0_3]) (t:=26) ?hr ?_;(case hd=>rfl);(case hg=>rfl);(case hr=>first|(go_simp;done)|(go_simp;rfl));intro gb381 hg w4 hbox hb;have n0_:=A_ (bp_ (hb0_ HB.out) hb);have n1_:=A_ (hbox);have n2_:=A_ ((by rw [hg];exact (bz_ (hb0_ HB.out)) : w.heap.size≤gb381));have n3_:=n2_;clear HB;have HB:=n0_;have BK381:=n1_;have GW381:=n2_;have GE381:=n3_;clear n0_ n1_ n2_ n3_;clear hb hbox hg)|((with_reducible refine gate_dst (N:=3) rfl ?_);(try (refine gate_guard (by rfl) ?_;dsimp only));refine box_event ?hg (N:=3) ?hd (cs:=#[.int .i64 a1_0,.int .i64 a1_1,.int .i64 a1_2,.slice A1_3 l1_3.length c1_3]) (t:=26) ?hr ?_;(case hd=>rfl);(case hg=>rfl);(case hr=>first|(go_simp;done)|(go_simp;rfl));intro gb382 hg w5 hbox hb;have n0_:=A_ (bx_ BK381.out kf_ hb);have n1_:=A_ (bp_ (hb1_ HB.out GE381.out) hb);have n2_:=A_ (hbox);have n3_:=A_ ((by rw [hg];exact (bz_ (hb1_ HB.out GE381.out)) : w.heap.size≤gb382));have n4_:=n3_;have n5_:=A_ ((by rw [hg];exact Nat.ne_of_lt (bl_ BK381.out kf_) : gb381≠gb382));have n6_:=A_ (Ne.symm n5_.out);clear BK381;clear HB;have BK381:=n0_;have HB:=n1_;have BK382:=n2_;have GW382:=n3_;have GE382:=n4_;have NB381_382:=n5_;have NB382_381:=n6_;clear n0_ n1_ n2_ n3_ n4_ n5_ n6_;clear hb hbox hg))
 repeat (go_quiet (first|((with_reducible refine gate_dst (N:=2) rfl ?_);(try (refine gate_guard (by rfl) ?_;dsimp only));refine box_event ?hg (N:=2) ?hd (cs:=#[.int .i64 a0_0,.int .i64 a0_1,.int .i64 a0_2,.slice A0_3 l0_3.length c0_3]) (t:=26) ?hr ?_;(case hd=>rfl);(case hg=>rfl);(case hr=>first|(go_simp;done)|(go_simp;rfl));intro gb381 hg w4 hbox hb;have n0_:=A_ (bp_ (hb0_ HB.out) hb);have n1_:=A_ (hbox);have n2_:=A_ ((by rw [hg];exact (bz_ (hb0_ HB.out)) : w.heap.size≤gb381));have n3_:=n2_;clear HB;have HB:=n0_;have BK381:=n1_;have GW381:=n2_;have GE381:=n3_;clear n0_ n1_ n2_ n3_;clear hb hbox hg)|((with_reducible refine gate_dst (N:=3) rfl ?_);(try (refine gate_guard (by rfl) ?_;dsimp only));refine box_event ?hg (N:=3) ?hd (cs:=#[.int .i64 a1_0,.int .i64 a1_1,.int .i64 a1_2,.slice A1_3 l1_3.length c1_3]) (t:=26) ?hr ?_;(case hd=>rfl);(case hg=>rfl);(case hr=>first|(go_simp;done)|(go_simp;rfl));intro gb382 hg w5 hbox hb;have n0_:=A_ (bx_ BK381.out kf_ hb);have n1_:=A_ (bp_ (hb1_ HB.out GE381.out) hb);have n2_:=A_ (hbox);have n3_:=A_ ((by rw [hg];exact (bz_ (hb1_ HB.out GE381.out)) : w.heap.size≤gb382));have n4_:=n3_;have n5_:=A_ ((by rw [hg];exact Nat.ne_of_lt (bl_ BK381.out kf_) : gb381≠gb382));have n6_:=A_ (Ne.symm n5_.out);clear BK381;clear HB;have BK381:=n0_;have HB:=n1_;have BK382:=n2_;have GW382:=n3_;have GE382:=n4_;have NB381_382:=n5_;have NB382_381:=n6_;clear n0_ n1_ n2_ n3_ n4_ n5_ n6_;clear hb hbox hg));go_upto_region 1 with (first|((with_reducible refine gate_dst (N:=2) rfl ?_);(try (refine gate_guard (by rfl) ?_;dsimp only));refine box_event ?hg (N:=2) ?hd (cs:=#[.int .i64 a0_0,.int .i64 a0_1,.int .i64 a0_2,.slice A0_3 l0_3.length c0_3]) (t:=26) ?hr ?_;(case hd=>rfl);(case hg=>rfl);(case hr=>first|(go_simp;done)|(go_simp;rfl));intro gb381 hg w4 hbox hb;have n0_:=A_ (bp_ (hb0_ HB.out) hb);have n1_:=A_ (hbox);have n2_:=A_ ((by rw [hg];exact (bz_ (hb0_ HB.out)) : w.heap.size≤gb381));have n3_:=n2_;clear HB;have HB:=n0_;have BK381:=n1_;have GW381:=n2_;have GE381:=n3_;clear n0_ n1_ n2_ n3_;clear hb hbox hg)|((with_reducible refine gate_dst (N:=3) rfl ?_);(try (refine gate_guard (by rfl) ?_;dsimp only));refine box_event ?hg (N:=3) ?hd (cs:=#[.int .i64 a1_0,.int .i64 a1_1,.int .i64 a1_2,.slice A1_3 l1_3.length c1_3]) (t:=26) ?hr ?_;(case hd=>rfl);(case hg=>rfl);(case hr=>first|(go_simp;done)|(go_simp;rfl));intro gb382 hg w5 hbox hb;have n0_:=A_ (bx_ BK381.out kf_ hb);have n1_:=A_ (bp_ (hb1_ HB.out GE381.out) hb);have n2_:=A_ (hbox);have n3_:=A_ ((by rw [hg];exact (bz_ (hb1_ HB.out GE381.out)) : w.heap.size≤gb382));have n4_:=n3_;have n5_:=A_ ((by rw [hg];exact Nat.ne_of_lt (bl_ BK381.out kf_) : gb381≠gb382));have n6_:=A_ (Ne.symm n5_.out);clear BK381;clear HB;have BK381:=n0_;have HB:=n1_;have BK382:=n2_;have GW382:=n3_;have GE382:=n4_;have NB381_382:=n5_;have NB382_381:=n6_;clear n0_ n1_ n2_ n3_ n4_ n5_ n6_;clear hb hbox hg)))
 (try simp only [Act.put,u1_,u2_,u3_])
 go_cut [33] (fun v33 wc=>∃ (kq : Nat) (x33_2 : Bool),v33=.bool x33_2∧Aside0 (humusref11_Same.j0 kq x33_2 a0_0 a0_1 a0_2 l0_3 a1_0 a1_1 a1_2 l1_3=some r)∧Aside0 (kq≤k)∧Aside0 (wc.heap[gb381]?=some (.cells #[.int .i64 a0_0,.int .i64 a0_1,.int .i64 a0_2,(.slice A0_3 l0_3.length c0_3)] 26 (0,0)))∧Aside0 (wc.heap[gb382]?=some (.cells #[.int .i64 a1_0,.int .i64 a1_1,.int .i64 a1_2,(.slice A1_3 l1_3.length c1_3)] 26 (0,0)))∧Aside0 (Below w.heap.size w wc))
 case first =>
  have H:=HC3.out;clear HC3
  by_cases c6 : a0_0=a1_0
  rotate_left
  ·rw [if_neg c6] at H
   have c6b0 : (a0_0 == a1_0)=false:=beq_eq_false_iff_ne.mpr c6;have c6b1 : (a0_0 != a1_0)=true:=bne_iff_ne.mpr c6;(first|rw [c6b0]|(simp only [i64_w,i32_w];rw [c6b0])|skip);have H':=A_ H;clear H;have hnb18:=NB381_382.out;have hnc18:=NB382_381.out;obtain ⟨z19_0,z19_1,z19_2,z19_3⟩:=blkc_4 BK381.out;obtain ⟨y19_0,y19_1,y19_2,y19_3⟩:=blkz_4 BK381.out;obtain ⟨z20_0,z20_1,z20_2,z20_3⟩:=blkc_4 BK382.out;obtain ⟨y20_0,y20_1,y20_2,y20_3⟩:=blkz_4 BK382.out;go_wp2
   repeat (go_quiet (fail);try go_wp2)
   go_meet
   case rel=>exact ⟨_,true,rfl,H',⟨by first|omega|exact Nat.le_refl _⟩,⟨by exact kk_ BK381.out⟩,⟨by exact kk_ BK382.out⟩,⟨hb2_ HB.out GE381.out GE382.out⟩⟩
  rw [if_pos c6] at H
  have c6b0 : (a0_0 == a1_0)=true:=beq_iff_eq.mpr c6;have c6b1 : (a0_0 != a1_0)=false:=bne_eq_false_iff_eq.mpr c6;clear c6;(first|rw [c6b0]|(simp only [i64_w,i32_w];rw [c6b0])|skip)
  by_cases c7 : a0_1=a1_1
  rotate_left
  ·rw [if_neg c7] at H
   have c7b0 : (a0_1 == a1_1)=false:=beq_eq_false_iff_ne.mpr c7;have c7b1 : (a0_1 != a1_1)=true:=bne_iff_ne.mpr c7;have H':=A_ H;clear H;have hnb15:=NB381_382.out;have hnc15:=NB382_381.out;obtain ⟨z16_0,z16_1,z16_2,z16_3⟩:=blkc_4 BK381.out;obtain ⟨y16_0,y16_1,y16_2,y16_3⟩:=blkz_4 BK381.out;obtain ⟨z17_0,z17_1,z17_2,z17_3⟩:=blkc_4 BK382.out;obtain ⟨y17_0,y17_1,y17_2,y17_3⟩:=blkz_4 BK382.out;go_wp2
   repeat (go_quiet (fail);try go_wp2)
   go_meet
   case rel=>exact ⟨_,true,rfl,H',⟨by first|omega|exact Nat.le_refl _⟩,⟨by exact kk_ BK381.out⟩,⟨by exact kk_ BK382.out⟩,⟨hb2_ HB.out GE381.out GE382.out⟩⟩
  rw [if_pos c7] at H
  have c7b0 : (a0_1 == a1_1)=true:=beq_iff_eq.mpr c7;have c7b1 : (a0_1 != a1_1)=false:=bne_eq_false_iff_eq.mpr c7;clear c7
  by_cases c8 : a0_2=a1_2
  rotate_left
  ·rw [if_neg c8] at H
   have c8b0 : (a0_2 == a1_2)=false:=beq_eq_false_iff_ne.mpr c8;have c8b1 : (a0_2 != a1_2)=true:=bne_iff_ne.mpr c8;have H':=A_ H;clear H;have hnb12:=NB381_382.out;have hnc12:=NB382_381.out;obtain ⟨z13_0,z13_1,z13_2,z13_3⟩:=blkc_4 BK381.out;obtain ⟨y13_0,y13_1,y13_2,y13_3⟩:=blkz_4 BK381.out;obtain ⟨z14_0,z14_1,z14_2,z14_3⟩:=blkc_4 BK382.out;obtain ⟨y14_0,y14_1,y14_2,y14_3⟩:=blkz_4 BK382.out;go_wp2
   repeat (go_quiet (fail);try go_wp2)
   go_meet
   case rel=>exact ⟨_,true,rfl,H',⟨by first|omega|exact Nat.le_refl _⟩,⟨by exact kk_ BK381.out⟩,⟨by exact kk_ BK382.out⟩,⟨hb2_ HB.out GE381.out GE382.out⟩⟩
  rw [if_pos c8] at H
  have c8b0 : (a0_2 == a1_2)=true:=beq_iff_eq.mpr c8;have c8b1 : (a0_2 != a1_2)=false:=bne_eq_false_iff_eq.mpr c8;clear c8;have H':=A_ H;clear H;have hnb9:=NB381_382.out;have hnc9:=NB382_381.out;obtain ⟨z10_0,z10_1,z10_2,z10_3⟩:=blkc_4 BK381.out;obtain ⟨y10_0,y10_1,y10_2,y10_3⟩:=blkz_4 BK381.out;obtain ⟨z11_0,z11_1,z11_2,z11_3⟩:=blkc_4 BK382.out;obtain ⟨y11_0,y11_1,y11_2,y11_3⟩:=blkz_4 BK382.out;go_wp2
  repeat (go_quiet (fail);try go_wp2)
  go_meet
  case rel=>exact ⟨_,(((l0_3.length : Int) != (l1_3.length : Int))),(by first|rfl|(simp;done)|(simp [*];done)),H',⟨by first|omega|exact Nat.le_refl _⟩,⟨by exact kk_ BK381.out⟩,⟨by exact kk_ BK382.out⟩,⟨hb2_ HB.out GE381.out GE382.out⟩⟩
 case rest =>
  clear HC3;(try clear c1);(try clear p2);(try clear c6);(try clear c6b0);(try clear c6b1);(try clear c7);(try clear c7b0);(try clear c7b1);(try clear c8);(try clear c8b0);(try clear c8b1);(try clear c9);(try clear c12);(try clear c15);(try clear c18);(try clear z10_0 z10_1 z10_2 z10_3 z11_0 z11_1 z11_2 z11_3 z13_0 z13_1 z13_2 z13_3 z14_0 z14_1 z14_2 z14_3 z16_0 z16_1 z16_2 z16_3 z17_0 z17_1 z17_2 z17_3 z19_0 z19_1 z19_2 z19_3 z20_0 z20_1 z20_2 z20_3 y10_0 y10_1 y10_2 y10_3 y11_0 y11_1 y11_2 y11_3 y13_0 y13_1 y13_2 y13_3 y14_0 y14_1 y14_2 y14_3 y16_0 y16_1 y16_2 y16_3 y17_0 y17_1 y17_2 y17_3 y19_0 y19_1 y19_2 y19_3 y20_0 y20_1 y20_2 y20_3);obtain ⟨kq,x33_2,rfl,HA,HJ2,BK381,BK382,HB⟩:=hcut
  cases kq with
  | zero=>exact absurd HA.out (by simp [humusref11_Same.j0])
  | succ kj2 =>
   have H:=HA.out;clear HA
   simp only [humusref11_Same.j0] at H
   by_cases c21 : x33_2=true
   ·subst c21
    have H1 : (some false)=some r:=by rw [if_pos rfl] at H;exact H
    clear H;have H:=H1;clear H1;obtain rfl:=Option.some.inj H;go_wp2
    repeat (go_quiet (fail);try go_wp2)
    go_ret
    exact ⟨by first|rfl|(simp [errW_none,errW_some] <;> rfl)|(simp [*,errW_none,errW_some] <;> rfl),hb2_ HB.out GE381.out GE382.out⟩
   replace c21:=Bool.eq_false_iff.mpr c21
   subst c21
   have H1 : (humusref11_Same.l0 kj2 0 a0_0 a0_1 a0_2 l0_3 a1_0 a1_1 a1_2 l1_3)=some r:=by rw [if_neg (show ¬ (false=true) by decide)] at H;exact H
   clear H;have H:=H1;clear H1;have H':=A_ H;clear H;go_wp2
   repeat (go_quiet (fail);try go_wp2)
   go_loopg [5] kj2 (fun kq v5 w'=>∃ (x5_2 : Int),v5=.int .i64 x5_2∧Aside0 (humusref11_Same.l0 kq x5_2 a0_0 a0_1 a0_2 l0_3 a1_0 a1_1 a1_2 l1_3=some r)∧Aside0 (kq≤kj2)∧Aside0 (w'.heap[gb381]?=some (.cells #[.int .i64 a0_0,.int .i64 a0_1,.int .i64 a0_2,(.slice A0_3 l0_3.length c0_3)] 26 (0,0)))∧Aside0 (w'.heap[gb382]?=some (.cells #[.int .i64 a1_0,.int .i64 a1_1,.int .i64 a1_2,(.slice A1_3 l1_3.length c1_3)] 26 (0,0)))∧Aside0 (Below w.heap.size w w'))
   case atStart=>exact ⟨(0),(by first|rfl|(simp;done)|(simp [*];done)),H',⟨Nat.le_refl _⟩,⟨by exact kk_ BK381.out⟩,⟨by exact kk_ BK382.out⟩,⟨hb2_ HB.out GE381.out GE382.out⟩⟩
   case round =>
    clear H';(try clear c1);(try clear c2);(try clear p2);(try clear c6);(try clear c6b0);(try clear c6b1);(try clear c7);(try clear c7b0);(try clear c7b1);(try clear c8);(try clear c8b0);(try clear c8b1);(try clear c9);(try clear c12);(try clear c15);(try clear c18);(try clear c21);(try clear p2);(try clear z10_0 z10_1 z10_2 z10_3 z11_0 z11_1 z11_2 z11_3 z13_0 z13_1 z13_2 z13_3 z14_0 z14_1 z14_2 z14_3 z16_0 z16_1 z16_2 z16_3 z17_0 z17_1 z17_2 z17_3 z19_0 z19_1 z19_2 z19_3 z20_0 z20_1 z20_2 z20_3 y10_0 y10_1 y10_2 y10_3 y11_0 y11_1 y11_2 y11_3 y13_0 y13_1 y13_2 y13_3 y14_0 y14_1 y14_2 y14_3 y16_0 y16_1 y16_2 y16_3 y17_0 y17_1 y17_2 y17_3 y19_0 y19_1 y19_2 y19_3 y20_0 y20_1 y20_2 y20_3);obtain ⟨x5_2,rfl,HA,HK2,BK381,BK382,HB⟩:=hrel
    cases gk with
    | zero=>exact absurd HA.out (by simp [humusref11_Same.l0])
    | succ k2 =>
     have H:=HA.out;clear HA
     simp only [humusref11_Same.l0] at H
     by_cases c22 : x5_2<(l0_3.length : Int)
     rotate_left
     ·rw [if_neg c22] at H
      have c22b0 : decide (x5_2<(l0_3.length : Int))=false:=df_ c22;clear c22;obtain rfl:=Option.some.inj H;have hnb32:=NB381_382.out;have hnc32:=NB382_381.out;obtain ⟨z33_0,z33_1,z33_2,z33_3⟩:=blkc_4 BK381.out;obtain ⟨y33_0,y33_1,y33_2,y33_3⟩:=blkz_4 BK381.out;go_wp2
      repeat (go_quiet (fail);try go_wp2)
      go_ret
      exact ⟨by first|rfl|(simp [errW_none,errW_some] <;> rfl)|(simp [*,errW_none,errW_some] <;> rfl),hb2_ HB.out GE381.out GE382.out⟩
     rw [if_pos c22] at H
     have c22b0 : decide (x5_2<(l0_3.length : Int))=true:=dt_ c22;clear c22
     by_cases c23 : 0≤x5_2
     rotate_left
     ·rw [if_neg c23] at H
      exact absurd H (by simp)
     rw [if_pos c23] at H
     have c23b0 : decide (0≤x5_2)=true:=dt_ c23;clear c23
     by_cases c24 : x5_2<(l1_3.length : Int)
     rotate_left
     ·rw [if_neg c24] at H
      exact absurd H (by simp)
     rw [if_pos c24] at H
     have c24b0 : decide (x5_2<(l1_3.length : Int))=true:=dt_ c24;clear c24
     by_cases c25 : (!(((rd_T56 l0_3 x5_2).f0) == ((rd_T56 l1_3 x5_2).f0)) || (!(((rd_T56 l0_3 x5_2).f1) == ((rd_T56 l1_3 x5_2).f1)) || (!(((rd_T56 l0_3 x5_2).f2) == ((rd_T56 l1_3 x5_2).f2)) || (!(((rd_T56 l0_3 x5_2).f3) == ((rd_T56 l1_3 x5_2).f3))))))=true
     ·rw [if_pos c25] at H
      have c25b0 : (!(((rd_T56 l0_3 x5_2).f0) == ((rd_T56 l1_3 x5_2).f0)) || (!(((rd_T56 l0_3 x5_2).f1) == ((rd_T56 l1_3 x5_2).f1)) || (!(((rd_T56 l0_3 x5_2).f2) == ((rd_T56 l1_3 x5_2).f2)) || (!(((rd_T56 l0_3 x5_2).f3) == ((rd_T56 l1_3 x5_2).f3))))))=true:=c25;clear c25;obtain rfl:=Option.some.inj H;have hnb26:=NB381_382.out;have hnc26:=NB382_381.out;obtain ⟨z27_0,z27_1,z27_2,z27_3⟩:=blkc_4 BK381.out;obtain ⟨y27_0,y27_1,y27_2,y27_3⟩:=blkz_4 BK381.out
      have p383 : 0≤(x5_2 : Int):=od_ (by first|(with_reducible assumption)|assumption)
      have q383 : x5_2<(l0_3.length : Int):=od_ (by first|(with_reducible assumption)|assumption)
      obtain ⟨ad383,e383,hx383_0,hx383_1,hx383_2,hx383_3⟩:=at_T56 HR0_3.out x5_2 p383 q383
      cases e383
      replace hx383_0:=(HB.out.cell (wb_ w _ hx383_0)).trans hx383_0;replace hx383_1:=(HB.out.cell (wb_ w _ hx383_1)).trans hx383_1;replace hx383_2:=(HB.out.cell (wb_ w _ hx383_2)).trans hx383_2;replace hx383_3:=(HB.out.cell (wb_ w _ hx383_3)).trans hx383_3;replace p383:=eq_true p383;replace q383:=eq_true q383;obtain ⟨z28_0,z28_1,z28_2,z28_3⟩:=blkc_4 BK382.out;obtain ⟨y28_0,y28_1,y28_2,y28_3⟩:=blkz_4 BK382.out
      have p384 : 0≤(x5_2 : Int):=od_ (by first|(with_reducible assumption)|assumption)
      have q384 : x5_2<(l1_3.length : Int):=od_ (by first|(with_reducible assumption)|assumption)
      obtain ⟨ad384,e384,hx384_0,hx384_1,hx384_2,hx384_3⟩:=at_T56 HR1_3.out x5_2 p384 q384
      cases e384
      replace hx384_0:=(HB.out.cell (wb_ w _ hx384_0)).trans hx384_0;replace hx384_1:=(HB.out.cell (wb_ w _ hx384_1)).trans hx384_1;replace hx384_2:=(HB.out.cell (wb_ w _ hx384_2)).trans hx384_2;replace hx384_3:=(HB.out.cell (wb_ w _ hx384_3)).trans hx384_3;replace p384:=eq_true p384;replace q384:=eq_true q384;go_wp2
      repeat (go_quiet (fail);try go_wp2)
      go_ret
      exact ⟨by first|rfl|(simp [errW_none,errW_some] <;> rfl)|(simp [*,errW_none,errW_some] <;> rfl),hb2_ HB.out GE381.out GE382.out⟩
     rw [if_neg c25] at H
     have c25b0 : (!(((rd_T56 l0_3 x5_2).f0) == ((rd_T56 l1_3 x5_2).f0)) || (!(((rd_T56 l0_3 x5_2).f1) == ((rd_T56 l1_3 x5_2).f1)) || (!(((rd_T56 l0_3 x5_2).f2) == ((rd_T56 l1_3 x5_2).f2)) || (!(((rd_T56 l0_3 x5_2).f3) == ((rd_T56 l1_3 x5_2).f3))))))=false:=by simpa using c25
     clear c25;have H':=A_ H;clear H;have hnb29:=NB381_382.out;have hnc29:=NB382_381.out;obtain ⟨z30_0,z30_1,z30_2,z30_3⟩:=blkc_4 BK381.out;obtain ⟨y30_0,y30_1,y30_2,y30_3⟩:=blkz_4 BK381.out
     have p383 : 0≤(x5_2 : Int):=od_ (by first|(with_reducible assumption)|assumption)
     have q383 : x5_2<(l0_3.length : Int):=od_ (by first|(with_reducible assumption)|assumption)
     obtain ⟨ad383,e383,hx383_0,hx383_1,hx383_2,hx383_3⟩:=at_T56 HR0_3.out x5_2 p383 q383
     cases e383
     replace hx383_0:=(HB.out.cell (wb_ w _ hx383_0)).trans hx383_0;replace hx383_1:=(HB.out.cell (wb_ w _ hx383_1)).trans hx383_1;replace hx383_2:=(HB.out.cell (wb_ w _ hx383_2)).trans hx383_2;replace hx383_3:=(HB.out.cell (wb_ w _ hx383_3)).trans hx383_3;replace p383:=eq_true p383;replace q383:=eq_true q383;obtain ⟨z31_0,z31_1,z31_2,z31_3⟩:=blkc_4 BK382.out;obtain ⟨y31_0,y31_1,y31_2,y31_3⟩:=blkz_4 BK382.out
     have p384 : 0≤(x5_2 : Int):=od_ (by first|(with_reducible assumption)|assumption)
     have q384 : x5_2<(l1_3.length : Int):=od_ (by first|(with_reducible assumption)|assumption)
     obtain ⟨ad384,e384,hx384_0,hx384_1,hx384_2,hx384_3⟩:=at_T56 HR1_3.out x5_2 p384 q384
     cases e384
     replace hx384_0:=(HB.out.cell (wb_ w _ hx384_0)).trans hx384_0;replace hx384_1:=(HB.out.cell (wb_ w _ hx384_1)).trans hx384_1;replace hx384_2:=(HB.out.cell (wb_ w _ hx384_2)).trans hx384_2;replace hx384_3:=(HB.out.cell (wb_ w _ hx384_3)).trans hx384_3;replace p384:=eq_true p384;replace q384:=eq_true q384;go_wp2
     repeat (go_quiet (fail);try go_wp2)
     go_roundg k2
     case measure=>have:=HJ2.out;have:=HK2.out;omega
     case rel=>exact ⟨(wrap64 (x5_2 + 1)),(by first|rfl|(simp;done)|(simp [*];done)),H',⟨by have:=HJ2.out;have:=HK2.out;omega⟩,⟨by exact kk_ BK381.out⟩,⟨by exact kk_ BK382.out⟩,⟨hb2_ HB.out GE381.out GE382.out⟩⟩
mutual
def table_Eldest.l0 : Nat→List (S56)→Int→Int→Int→Int→Int→Int→Option (Int)
 | 0,_,_,_,_,_,_,_=>none
 | k + 1,x11,x12,x13,x127000,x127001,x127002,x127003=>if x13<x12 then (if 0≤x13 then (if x13<(x11.length : Int) then (if ((rd_T56 x11 x13).f1)=2 then (if x127000=0 then (table_Eldest.l0 k x11 x12 (wrap64 (x13 + 1)) ((rd_T56 x11 x13).f0) ((rd_T56 x11 x13).f1) ((rd_T56 x11 x13).f2) ((rd_T56 x11 x13).f3)) else (if ((rd_T56 x11 x13).f3)<x127003 then (table_Eldest.l0 k x11 x12 (wrap64 (x13 + 1)) ((rd_T56 x11 x13).f0) ((rd_T56 x11 x13).f1) ((rd_T56 x11 x13).f2) ((rd_T56 x11 x13).f3)) else (table_Eldest.l0 k x11 x12 (wrap64 (x13 + 1)) x127000 x127001 x127002 x127003))) else (table_Eldest.l0 k x11 x12 (wrap64 (x13 + 1)) x127000 x127001 x127002 x127003)) else (none)) else (none)) else (some x127000)
def table_Eldest.j0 : Nat→Int→Option (Int)
 | 0,_=>none
 | k + 1,x2=>some x2
end
def table_Eldest.f (k : Nat) (a0_0 : Int) (a0_1 : Int) (a0_2 : Int) (l0_3 : List (S56)) : Option (Int):=(table_Check.f k a0_0 a0_1 a0_2 l0_3).bind fun t125=>(if t125=0 then (table_Eldest.l0 k l0_3 (l0_3.length : Int) 0 0 0 0 0) else (table_Eldest.j0 k 0))
theorem table_Eldest.mono_l : ∀ k,(∀ y0 y1 y2 y3 y4 y5 y6,LeO (table_Eldest.l0 k y0 y1 y2 y3 y4 y5 y6) (table_Eldest.l0 (k + 1) y0 y1 y2 y3 y4 y5 y6))∧(∀ y0,LeO (table_Eldest.j0 k y0) (table_Eldest.j0 (k + 1) y0))
 | 0=>⟨fun _ _ _ _ _ _ _ r h=>by simp [table_Eldest.l0] at h,fun _ r h=>by simp [table_Eldest.j0] at h⟩
 | k + 1=>by
  obtain ⟨ih0,ih1⟩:=table_Eldest.mono_l k;refine ⟨?_,?_⟩
  ·intro y0 y1 y2 y3 y4 y5 y6
   unfold table_Eldest.l0
   repeat' first
   | (with_reducible exact ih0 _ _ _ _ _ _ _)
   | (with_reducible exact ih1 _)
   | (with_reducible exact table_Check.mono _ _ _ _ _)
   | (with_reducible exact LeO.refl _)
   | (with_reducible exact LeO.none _)
   | (with_reducible refine LeO.ite ?_ ?_)
   | (with_reducible refine LeO.bind ?_ (fun _=>?_))
   | exact ih0 _ _ _ _ _ _ _
   | exact ih1 _
   | exact table_Check.mono _ _ _ _ _
   | exact LeO.none _
   | refine LeO.ite ?_ ?_
   | refine LeO.bind ?_ (fun _=>?_)
  ·intro y0
   unfold table_Eldest.j0
   repeat' first
   | (with_reducible exact ih0 _ _ _ _ _ _ _)
   | (with_reducible exact ih1 _)
   | (with_reducible exact table_Check.mono _ _ _ _ _)
   | (with_reducible exact LeO.refl _)
   | (with_reducible exact LeO.none _)
   | (with_reducible refine LeO.ite ?_ ?_)
   | (with_reducible refine LeO.bind ?_ (fun _=>?_))
   | exact ih0 _ _ _ _ _ _ _
   | exact ih1 _
   | exact table_Check.mono _ _ _ _ _
   | exact LeO.none _
   | refine LeO.ite ?_ ?_
   | refine LeO.bind ?_ (fun _=>?_)
theorem table_Eldest.mono : ∀ a0 a1 a2 a3 k,LeO (table_Eldest.f k a0 a1 a2 a3) (table_Eldest.f (k + 1) a0 a1 a2 a3):=by
 intro a0 a1 a2 a3 k;obtain ⟨ih0,ih1⟩:=table_Eldest.mono_l k
 unfold table_Eldest.f
 repeat' first
   | (with_reducible exact ih0 _ _ _ _ _ _ _)
   | (with_reducible exact ih1 _)
   | (with_reducible exact table_Check.mono _ _ _ _ _)
   | (with_reducible exact LeO.refl _)
   | (with_reducible exact LeO.none _)
   | (with_reducible refine LeO.ite ?_ ?_)
   | (with_reducible refine LeO.bind ?_ (fun _=>?_))
   | exact ih0 _ _ _ _ _ _ _
   | exact ih1 _
   | exact table_Check.mono _ _ _ _ _
   | exact LeO.none _
   | refine LeO.ite ?_ ?_
   | refine LeO.bind ?_ (fun _=>?_)
set_option maxHeartbeats 8000000 in
set_option maxRecDepth 100000 in
theorem table_Eldest.calls (k : Nat) (a0_0 : Int) (a0_1 : Int) (a0_2 : Int) (A0_3 : Option Addr) (c0_3 : Nat) (l0_3 : List (S56)) (r : Int) (w : World) (hr0_3 : Kd.C k56 w A0_3 l0_3.length l0_3) (hc0_3 : l0_3.length≤c0_3) (h : table_Eldest.f k a0_0 a0_1 a0_2 l0_3=some r) :
  Calls Tryd.prog 15 #[.agg #[.int .i64 a0_0,.int .i64 a0_1,.int .i64 a0_2,.slice A0_3 l0_3.length c0_3]] w fun e w'=>e=.returned (.int .i64 r)∧Below w.heap.size w w':=by
 have hu26:=Tryd.underlying26;have hu56:=Tryd.underlying56;have HR0_3:=A_ hr0_3;have HC0_3:=A_ hc0_3;clear hr0_3 hc0_3;have HB:=A_ (Below.refl w.heap.size w)
 have H : ((table_Check.f k a0_0 a0_1 a0_2 l0_3).bind fun t125=>(if t125=0 then (table_Eldest.l0 k l0_3 (l0_3.length : Int) 0 0 0 0 0) else (table_Eldest.j0 k 0)))=some r:=h
 clear h;replace H:=Option.bind_eq_some_iff.mp H;obtain ⟨t125,A20,H⟩:=H
 replace H : (if t125=0 then (table_Eldest.l0 k l0_3 (l0_3.length : Int) 0 0 0 0 0) else (table_Eldest.j0 k 0))=some r:=H
 have A2:=A_ A20;clear A20
 by_cases c3 : t125=0
 rotate_left
 ·rw [if_neg c3] at H
  have c3b0 : (t125 == 0)=false:=beq_eq_false_iff_ne.mpr c3;have c3b1 : (t125 != 0)=true:=bne_iff_ne.mpr c3;have HC41:=A_ H;clear H;go_enter Tryd.func15,Tryd.ntmps15
  go_upto_region 2 with (first|((with_reducible refine gate_dst (N:=1) rfl ?_);refine box_event ?hg (N:=1) ?hd (cs:=#[.int .i64 a0_0,.int .i64 a0_1,.int .i64 a0_2,.slice A0_3 l0_3.length c0_3]) (t:=26) ?hr ?_;(case hd=>rfl);(case hg=>rfl);(case hr=>first|(go_simp;done)|(go_simp;rfl));intro gb124 hg w42 hbox hb;have n0_:=A_ (bp_ (hb0_ HB.out) hb);have n1_:=A_ (hbox);have n2_:=A_ ((by rw [hg];exact (bz_ (hb0_ HB.out)) : w.heap.size≤gb124));have n3_:=n2_;clear HB;have HB:=n0_;have BK124:=n1_;have GW124:=n2_;have GE124:=n3_;clear n0_ n1_ n2_ n3_;clear hb hbox hg;obtain ⟨z43_0,z43_1,z43_2,z43_3⟩:=blkc_4 BK124.out;obtain ⟨y43_0,y43_1,y43_2⟩:=blkz_3 BK124.out;have y43_3:=bf_ BK124.out 3)|((with_reducible refine gate_callee (f:=13) rfl ?_);refine goesL_ (some 7) rfl rfl Tryd.func13 (by kernel_rfl) rfl #[.agg #[.int .i64 a0_0,.int .i64 a0_1,.int .i64 a0_2,.slice A0_3 l0_3.length c0_3]] rfl (by (try simp only [List.map_toArray,List.map_cons,List.map_nil]);first|done|rfl|(simp only [List.length_drop,List.length_take];rfl)) ?_;(with_reducible refine (table_Check.calls k a0_0 a0_1 a0_2 _ _ l0_3 t125 _ ?side1 ?side2 A2.out).mono ?_);(case side1=>repeat (first|exact (Kd.C_below HR0_3.out HB.out)|(with_reducible refine Kd.C_alloc ?_ _)|(with_reducible refine Kd.C_drewN ?_ _)|(with_reducible refine Kd.C_drew ?_)));(case side2=>exact HC0_3.out);rintro e w44 ⟨rfl,hb⟩;refine ⟨_,rfl,?_⟩;have n0_:=A_ (bx_ BK124.out kf_ hb);have n1_:=A_ (bp_ (hb1_ HB.out GE124.out) hb);clear BK124;clear HB;have BK124:=n0_;have HB:=n1_;clear n0_ n1_;(try clear hb);(try clear hb2);(try clear hk);(try clear hi)))
  (try simp only [Act.put,u1_,u2_,u3_])
  go_cut [2] (fun v2 wc=>∃ (kq : Nat) (x2_40 : Int),v2=.int .i64 x2_40∧Aside0 (table_Eldest.j0 kq x2_40=some r)∧Aside0 (kq≤k)∧Aside0 (wc.heap[gb124]?=some (.cells #[.int .i64 a0_0,.int .i64 a0_1,.int .i64 a0_2,(.slice A0_3 l0_3.length c0_3)] 26 (0,0)))∧Aside0 (Below w.heap.size w wc))
  case first =>
   have H:=HC41.out;clear HC41;have H':=A_ H;clear H;go_wp2;go_meet
   case rel=>exact ⟨_,(0),(by first|rfl|(simp;done)|(simp [*];done)),H',⟨by first|omega|exact Nat.le_refl _⟩,⟨by exact kk_ BK124.out⟩,⟨hb1_ HB.out GE124.out⟩⟩
  case rest =>
   clear HC41;(try clear c1);(try clear p1);(try clear q1);(try clear hx1);(try clear c2);(try clear p2);(try clear c3);(try clear c3b0);(try clear c3b1);(try clear p6);(try clear c8);(try clear c11);(try clear c11b0);(try clear c12);(try clear c12b0);(try clear p12);(try clear q12);(try clear hx12);(try clear c13);(try clear c13b0);(try clear c14);(try clear c14b0);(try clear c14b1);(try clear c15);(try clear c15b0);(try clear c15b1);(try clear c17);(try clear c18);(try clear c20);(try clear c22);(try clear c22b0);(try clear c24);(try clear c25);(try clear c27);(try clear c30);(try clear c31);(try clear c33);(try clear c36);(try clear c37);(try clear c39);(try clear hx127_0);(try clear hx127_1);(try clear hx127_2);(try clear hx127_3);(try clear p127);(try clear p2);(try clear q127);(try clear z10_0 z10_1 z10_2 z10_3 z19_0 z19_1 z19_2 z19_3 z21_0 z21_1 z21_2 z21_3 z26_0 z26_1 z26_2 z26_3 z28_0 z28_1 z28_2 z28_3 z32_0 z32_1 z32_2 z32_3 z34_0 z34_1 z34_2 z34_3 z38_0 z38_1 z38_2 z38_3 z40_0 z40_1 z40_2 z40_3 z43_0 z43_1 z43_2 z43_3 z5_0 z5_1 z5_2 z5_3 z9_0 z9_1 z9_2 z9_3 y10_0 y10_1 y10_2 y10_3 y19_0 y19_1 y19_2 y19_3 y21_0 y21_1 y21_2 y21_3 y26_0 y26_1 y26_2 y26_3 y28_0 y28_1 y28_2 y28_3 y32_0 y32_1 y32_2 y32_3 y34_0 y34_1 y34_2 y34_3 y38_0 y38_1 y38_2 y38_3 y40_0 y40_1 y40_2 y40_3 y43_0 y43_1 y43_2 y43_3 y5_0 y5_1 y5_2 y5_3 y9_0 y9_1 y9_2 y9_3);obtain ⟨kq,x2_40,rfl,HA,HJ40,BK124,HB⟩:=hcut
   cases kq with
   | zero=>exact absurd HA.out (by simp [table_Eldest.j0])
   | succ kj40 =>
    have H:=HA.out;clear HA
    simp only [table_Eldest.j0] at H
    obtain rfl:=Option.some.inj H;go_wp2;go_ret
    exact ⟨by first|rfl|(simp [errW_none,errW_some] <;> rfl)|(simp [*,errW_none,errW_some] <;> rfl),hb1_ HB.out GE124.out⟩
 rw [if_pos c3] at H
 have c3b0 : (t125 == 0)=true:=beq_iff_eq.mpr c3;have c3b1 : (t125 != 0)=false:=bne_eq_false_iff_eq.mpr c3;clear c3;have H':=A_ H;clear H;go_enter Tryd.func15,Tryd.ntmps15
 go_wp2_with (first|((with_reducible refine gate_dst (N:=1) rfl ?_);refine box_event ?hg (N:=1) ?hd (cs:=#[.int .i64 a0_0,.int .i64 a0_1,.int .i64 a0_2,.slice A0_3 l0_3.length c0_3]) (t:=26) ?hr ?_;(case hd=>rfl);(case hg=>rfl);(case hr=>first|(go_simp;done)|(go_simp;rfl));intro gb124 hg w4 hbox hb;have n0_:=A_ (bp_ (hb0_ HB.out) hb);have n1_:=A_ (hbox);have n2_:=A_ ((by rw [hg];exact (bz_ (hb0_ HB.out)) : w.heap.size≤gb124));have n3_:=n2_;clear HB;have HB:=n0_;have BK124:=n1_;have GW124:=n2_;have GE124:=n3_;clear n0_ n1_ n2_ n3_;clear hb hbox hg;obtain ⟨z5_0,z5_1,z5_2,z5_3⟩:=blkc_4 BK124.out;obtain ⟨y5_0,y5_1,y5_2⟩:=blkz_3 BK124.out;have y5_3:=bf_ BK124.out 3)|((with_reducible refine gate_callee (f:=13) rfl ?_);refine goesL_ (some 7) rfl rfl Tryd.func13 (by kernel_rfl) rfl #[.agg #[.int .i64 a0_0,.int .i64 a0_1,.int .i64 a0_2,.slice A0_3 l0_3.length c0_3]] rfl (by (try simp only [List.map_toArray,List.map_cons,List.map_nil]);first|done|rfl|(simp only [List.length_drop,List.length_take];rfl)) ?_;(with_reducible refine (table_Check.calls k a0_0 a0_1 a0_2 _ _ l0_3 t125 _ ?side1 ?side2 A2.out).mono ?_);(case side1=>repeat (first|exact (Kd.C_below HR0_3.out HB.out)|(with_reducible refine Kd.C_alloc ?_ _)|(with_reducible refine Kd.C_drewN ?_ _)|(with_reducible refine Kd.C_drew ?_)));(case side2=>exact HC0_3.out);rintro e w6 ⟨rfl,hb⟩;refine ⟨_,rfl,?_⟩;have n0_:=A_ (bx_ BK124.out kf_ hb);have n1_:=A_ (bp_ (hb1_ HB.out GE124.out) hb);clear BK124;clear HB;have BK124:=n0_;have HB:=n1_;clear n0_ n1_;(try clear hb);(try clear hb2);(try clear hk);(try clear hi))|((with_reducible refine gate_dst (N:=3) rfl ?_);refine box_event ?hg (N:=3) ?hd (cs:=#[.int .i64 0,.int .i64 0,.int .i64 0,.int .i64 0]) (t:=56) ?hr ?_;(case hd=>rfl);(case hg=>rfl);(case hr=>first|(go_simp;done)|(go_simp;rfl));intro gb126 hg w7 hbox hb;have n0_:=A_ (bx_ BK124.out kf_ hb);have n1_:=A_ (bp_ (hb1_ HB.out GE124.out) hb);have n2_:=A_ (hbox);have n3_:=A_ ((by rw [hg];exact (bz_ (hb1_ HB.out GE124.out)) : w.heap.size≤gb126));have n4_:=n3_;have n5_:=A_ ((by rw [hg];exact Nat.ne_of_lt (bl_ BK124.out kf_) : gb124≠gb126));have n6_:=A_ (Ne.symm n5_.out);clear BK124;clear HB;have BK124:=n0_;have HB:=n1_;have BK126:=n2_;have GW126:=n3_;have GE126:=n4_;have NB124_126:=n5_;have NB126_124:=n6_;clear n0_ n1_ n2_ n3_ n4_ n5_ n6_;clear hb hbox hg;have hnb8:=NB126_124.out;have hnc8:=NB124_126.out;obtain ⟨z9_0,z9_1,z9_2,z9_3⟩:=blkc_4 BK126.out;obtain ⟨y9_0,y9_1,y9_2,y9_3⟩:=blkz_4 BK126.out;obtain ⟨z10_0,z10_1,z10_2,z10_3⟩:=blkc_4 BK124.out;obtain ⟨y10_0,y10_1,y10_2⟩:=blkz_3 BK124.out;have y10_3:=bf_ BK124.out 3))
 go_loopg [13] k (fun kq v13 w'=>∃ (x13_1 : Int) (x127000_1 : Int) (x127001_1 : Int) (x127002_1 : Int) (x127003_1 : Int),v13=.int .i64 x13_1∧Aside0 (table_Eldest.l0 kq l0_3 (l0_3.length : Int) x13_1 x127000_1 x127001_1 x127002_1 x127003_1=some r)∧Aside0 (kq≤k)∧Aside0 (w'.heap[gb124]?=some (.cells #[.int .i64 a0_0,.int .i64 a0_1,.int .i64 a0_2,(.slice A0_3 l0_3.length c0_3)] 26 (0,0)))∧Aside0 (w'.heap[gb126]?=some (.cells #[.int .i64 x127000_1,.int .i64 x127001_1,.int .i64 x127002_1,.int .i64 x127003_1] 56 (0,0)))∧Aside0 (Below w.heap.size w w'))
 case atStart=>exact ⟨(0),(0),(0),(0),(0),(by first|rfl|(simp;done)|(simp [*];done)),H',⟨Nat.le_refl _⟩,⟨by refine kk_ ?_;refine blk_far ?_ NB124_126.out _;refine kk_ ?_;refine blk_far ?_ NB124_126.out _;refine kk_ ?_;refine blk_far ?_ NB124_126.out _;refine kk_ ?_;refine blk_far ?_ NB124_126.out _;exact kk_ BK124.out⟩,⟨by refine kk_ ?_;apply blkf_4_0_3;exact kk_ BK126.out⟩,⟨hb2_ HB.out GE124.out GE126.out⟩⟩
 case round =>
  clear H';(try clear c1);(try clear p2);(try clear c3);(try clear c3b0);(try clear c3b1);(try clear c8);(try clear z10_0 z10_1 z10_2 z10_3 z5_0 z5_1 z5_2 z5_3 z9_0 z9_1 z9_2 z9_3 y10_0 y10_1 y10_2 y10_3 y5_0 y5_1 y5_2 y5_3 y9_0 y9_1 y9_2 y9_3);obtain ⟨x13_1,x127000_1,x127001_1,x127002_1,x127003_1,rfl,HA,HK1,BK124,BK126,HB⟩:=hrel
  cases gk with
  | zero=>exact absurd HA.out (by simp [table_Eldest.l0])
  | succ k1 =>
   have H:=HA.out;clear HA
   simp only [table_Eldest.l0] at H
   by_cases c11 : x13_1<(l0_3.length : Int)
   rotate_left
   ·rw [if_neg c11] at H
    have c11b0 : decide (x13_1<(l0_3.length : Int))=false:=df_ c11;clear c11;obtain rfl:=Option.some.inj H;have hnb39:=NB126_124.out;have hnc39:=NB124_126.out;obtain ⟨z40_0,z40_1,z40_2,z40_3⟩:=blkc_4 BK126.out;obtain ⟨y40_0,y40_1,y40_2,y40_3⟩:=blkz_4 BK126.out;go_wp2;go_ret
    exact ⟨by first|rfl|(simp [errW_none,errW_some] <;> rfl)|(simp [*,errW_none,errW_some] <;> rfl),hb2_ HB.out GE124.out GE126.out⟩
   rw [if_pos c11] at H
   have c11b0 : decide (x13_1<(l0_3.length : Int))=true:=dt_ c11;clear c11
   by_cases c12 : 0≤x13_1
   rotate_left
   ·rw [if_neg c12] at H
    exact absurd H (by simp)
   rw [if_pos c12] at H
   have c12b0 : decide (0≤x13_1)=true:=dt_ c12;clear c12
   by_cases c13 : x13_1<(l0_3.length : Int)
   rotate_left
   ·rw [if_neg c13] at H
    exact absurd H (by simp)
   rw [if_pos c13] at H
   have c13b0 : decide (x13_1<(l0_3.length : Int))=true:=dt_ c13;clear c13
   by_cases c14 : ((rd_T56 l0_3 x13_1).f1)=2
   rotate_left
   ·rw [if_neg c14] at H
    have c14b0 : (((rd_T56 l0_3 x13_1).f1) == 2)=false:=beq_eq_false_iff_ne.mpr c14;have c14b1 : (((rd_T56 l0_3 x13_1).f1) != 2)=true:=bne_iff_ne.mpr c14;have H':=A_ H;clear H
    have p127 : 0≤(x13_1 : Int):=od_ (by first|(with_reducible assumption)|assumption)
    have q127 : x13_1<(l0_3.length : Int):=od_ (by first|(with_reducible assumption)|assumption)
    obtain ⟨ad127,e127,hx127_0,hx127_1,hx127_2,hx127_3⟩:=at_T56 HR0_3.out x13_1 p127 q127
    cases e127
    replace hx127_0:=(HB.out.cell (wb_ w _ hx127_0)).trans hx127_0;replace hx127_1:=(HB.out.cell (wb_ w _ hx127_1)).trans hx127_1;replace hx127_2:=(HB.out.cell (wb_ w _ hx127_2)).trans hx127_2;replace hx127_3:=(HB.out.cell (wb_ w _ hx127_3)).trans hx127_3;replace p127:=eq_true p127;replace q127:=eq_true q127
    go_wp2_with (first|((with_reducible refine gate_dst (N:=5) rfl ?_);refine box_event ?hg (N:=5) ?hd (cs:=#[.int .i64 0,.int .i64 0,.int .i64 0,.int .i64 0]) (t:=56) ?hr ?_;(case hd=>rfl);(case hg=>rfl);(case hr=>first|(go_simp;done)|(go_simp;rfl));intro gb128 hg w35 hbox hb;have n0_:=A_ (bx_ BK124.out kf_ hb);have n1_:=A_ (bx_ BK126.out kf_ hb);have n2_:=A_ (bp_ (hb2_ HB.out GE124.out GE126.out) hb);have n3_:=A_ (hbox);have n4_:=A_ ((by rw [hg];exact (bz_ (hb2_ HB.out GE124.out GE126.out)) : w.heap.size≤gb128));have n5_:=n4_;have n6_:=A_ ((by rw [hg];exact Nat.ne_of_lt (bl_ BK124.out kf_) : gb124≠gb128));have n7_:=A_ (Ne.symm n6_.out);have n8_:=A_ ((by rw [hg];exact Nat.ne_of_lt (bl_ BK126.out kf_) : gb126≠gb128));have n9_:=A_ (Ne.symm n8_.out);clear BK124;clear BK126;clear HB;have BK124:=n0_;have BK126:=n1_;have HB:=n2_;have BK128:=n3_;have GW128:=n4_;have GE128:=n5_;have NB124_128:=n6_;have NB128_124:=n7_;have NB126_128:=n8_;have NB128_126:=n9_;clear n0_ n1_ n2_ n3_ n4_ n5_ n6_ n7_ n8_ n9_;clear hb hbox hg;have hnb36:=NB128_124.out;have hnc36:=NB124_128.out;have hnb37:=NB128_126.out;have hnc37:=NB126_128.out;obtain ⟨z38_0,z38_1,z38_2,z38_3⟩:=blkc_4 BK128.out;obtain ⟨y38_0,y38_1,y38_2⟩:=blkz_3 BK128.out;have y38_3:=bf_ BK128.out 3))
    go_roundg k1
    case measure=>have:=HK1.out;omega
    case rel=>exact ⟨(wrap64 (x13_1 + 1)),(x127000_1),(x127001_1),(x127002_1),(x127003_1),(by first|rfl|(simp;done)|(simp [*];done)),H',⟨by have:=HK1.out;omega⟩,⟨by refine kk_ ?_;refine blk_far ?_ NB124_128.out _;refine kk_ ?_;refine blk_far ?_ NB124_128.out _;refine kk_ ?_;refine blk_far ?_ NB124_128.out _;refine kk_ ?_;refine blk_far ?_ NB124_128.out _;exact kk_ BK124.out⟩,⟨by refine kk_ ?_;refine blk_far ?_ NB126_128.out _;refine kk_ ?_;refine blk_far ?_ NB126_128.out _;refine kk_ ?_;refine blk_far ?_ NB126_128.out _;refine kk_ ?_;refine blk_far ?_ NB126_128.out _;exact kk_ BK126.out⟩,⟨hb3_ HB.out GE124.out GE126.out GE128.out⟩⟩
   rw [if_pos c14] at H
   have c14b0 : (((rd_T56 l0_3 x13_1).f1) == 2)=true:=beq_iff_eq.mpr c14;have c14b1 : (((rd_T56 l0_3 x13_1).f1) != 2)=false:=bne_eq_false_iff_eq.mpr c14;clear c14
   by_cases c15 : x127000_1=0
   ·rw [if_pos c15] at H
    have c15b0 : (x127000_1 == 0)=true:=beq_iff_eq.mpr c15;have c15b1 : (x127000_1 != 0)=false:=bne_eq_false_iff_eq.mpr c15;clear c15;have H':=A_ H;clear H
    have p127 : 0≤(x13_1 : Int):=od_ (by first|(with_reducible assumption)|assumption)
    have q127 : x13_1<(l0_3.length : Int):=od_ (by first|(with_reducible assumption)|assumption)
    obtain ⟨ad127,e127,hx127_0,hx127_1,hx127_2,hx127_3⟩:=at_T56 HR0_3.out x13_1 p127 q127
    cases e127
    replace hx127_0:=(HB.out.cell (wb_ w _ hx127_0)).trans hx127_0;replace hx127_1:=(HB.out.cell (wb_ w _ hx127_1)).trans hx127_1;replace hx127_2:=(HB.out.cell (wb_ w _ hx127_2)).trans hx127_2;replace hx127_3:=(HB.out.cell (wb_ w _ hx127_3)).trans hx127_3;replace p127:=eq_true p127;replace q127:=eq_true q127
    go_wp2_with (first|((with_reducible refine gate_dst (N:=5) rfl ?_);refine box_event ?hg (N:=5) ?hd (cs:=#[.int .i64 0,.int .i64 0,.int .i64 0,.int .i64 0]) (t:=56) ?hr ?_;(case hd=>rfl);(case hg=>rfl);(case hr=>first|(go_simp;done)|(go_simp;rfl));intro gb128 hg w16 hbox hb;have n0_:=A_ (bx_ BK124.out kf_ hb);have n1_:=A_ (bx_ BK126.out kf_ hb);have n2_:=A_ (bp_ (hb2_ HB.out GE124.out GE126.out) hb);have n3_:=A_ (hbox);have n4_:=A_ ((by rw [hg];exact (bz_ (hb2_ HB.out GE124.out GE126.out)) : w.heap.size≤gb128));have n5_:=n4_;have n6_:=A_ ((by rw [hg];exact Nat.ne_of_lt (bl_ BK124.out kf_) : gb124≠gb128));have n7_:=A_ (Ne.symm n6_.out);have n8_:=A_ ((by rw [hg];exact Nat.ne_of_lt (bl_ BK126.out kf_) : gb126≠gb128));have n9_:=A_ (Ne.symm n8_.out);clear BK124;clear BK126;clear HB;have BK124:=n0_;have BK126:=n1_;have HB:=n2_;have BK128:=n3_;have GW128:=n4_;have GE128:=n5_;have NB124_128:=n6_;have NB128_124:=n7_;have NB126_128:=n8_;have NB128_126:=n9_;clear n0_ n1_ n2_ n3_ n4_ n5_ n6_ n7_ n8_ n9_;clear hb hbox hg;have hnb17:=NB128_124.out;have hnc17:=NB124_128.out;have hnb18:=NB128_126.out;have hnc18:=NB126_128.out;obtain ⟨z19_0,z19_1,z19_2,z19_3⟩:=blkc_4 BK128.out;obtain ⟨y19_0,y19_1,y19_2,y19_3⟩:=blkz_4 BK128.out;have hnb20:=NB126_124.out;have hnc20:=NB124_126.out;obtain ⟨z21_0,z21_1,z21_2,z21_3⟩:=blkc_4 BK126.out;obtain ⟨y21_0,y21_1,y21_2⟩:=blkz_3 BK126.out;have y21_3:=bf_ BK126.out 3))
    go_roundg k1
    case measure=>have:=HK1.out;omega
    case rel=>exact ⟨(wrap64 (x13_1 + 1)),((rd_T56 l0_3 x13_1).f0),((rd_T56 l0_3 x13_1).f1),((rd_T56 l0_3 x13_1).f2),((rd_T56 l0_3 x13_1).f3),(by first|rfl|(simp;done)|(simp [*];done)),H',⟨by have:=HK1.out;omega⟩,⟨by refine kk_ ?_;refine blk_far ?_ NB124_126.out _;refine kk_ ?_;refine blk_far ?_ NB124_126.out _;refine kk_ ?_;refine blk_far ?_ NB124_126.out _;refine kk_ ?_;refine blk_far ?_ NB124_126.out _;refine kk_ ?_;refine blk_far ?_ NB124_128.out _;refine kk_ ?_;refine blk_far ?_ NB124_128.out _;refine kk_ ?_;refine blk_far ?_ NB124_128.out _;refine kk_ ?_;refine blk_far ?_ NB124_128.out _;exact kk_ BK124.out⟩,⟨by refine kk_ ?_;apply blkf_4_0_3;refine kk_ ?_;refine blk_far ?_ NB126_128.out _;refine kk_ ?_;refine blk_far ?_ NB126_128.out _;refine kk_ ?_;refine blk_far ?_ NB126_128.out _;refine kk_ ?_;refine blk_far ?_ NB126_128.out _;exact kk_ BK126.out⟩,⟨hb3_ HB.out GE124.out GE126.out GE128.out⟩⟩
   rw [if_neg c15] at H
   have c15b0 : (x127000_1 == 0)=false:=beq_eq_false_iff_ne.mpr c15;have c15b1 : (x127000_1 != 0)=true:=bne_iff_ne.mpr c15
   by_cases c22 : ((rd_T56 l0_3 x13_1).f3)<x127003_1
   rotate_left
   ·rw [if_neg c22] at H
    have c22b0 : decide (((rd_T56 l0_3 x13_1).f3)<x127003_1)=false:=df_ c22;clear c22;have H':=A_ H;clear H
    have p127 : 0≤(x13_1 : Int):=od_ (by first|(with_reducible assumption)|assumption)
    have q127 : x13_1<(l0_3.length : Int):=od_ (by first|(with_reducible assumption)|assumption)
    obtain ⟨ad127,e127,hx127_0,hx127_1,hx127_2,hx127_3⟩:=at_T56 HR0_3.out x13_1 p127 q127
    cases e127
    replace hx127_0:=(HB.out.cell (wb_ w _ hx127_0)).trans hx127_0;replace hx127_1:=(HB.out.cell (wb_ w _ hx127_1)).trans hx127_1;replace hx127_2:=(HB.out.cell (wb_ w _ hx127_2)).trans hx127_2;replace hx127_3:=(HB.out.cell (wb_ w _ hx127_3)).trans hx127_3;replace p127:=eq_true p127;replace q127:=eq_true q127
    go_wp2_with (first|((with_reducible refine gate_dst (N:=5) rfl ?_);refine box_event ?hg (N:=5) ?hd (cs:=#[.int .i64 0,.int .i64 0,.int .i64 0,.int .i64 0]) (t:=56) ?hr ?_;(case hd=>rfl);(case hg=>rfl);(case hr=>first|(go_simp;done)|(go_simp;rfl));intro gb128 hg w29 hbox hb;have n0_:=A_ (bx_ BK124.out kf_ hb);have n1_:=A_ (bx_ BK126.out kf_ hb);have n2_:=A_ (bp_ (hb2_ HB.out GE124.out GE126.out) hb);have n3_:=A_ (hbox);have n4_:=A_ ((by rw [hg];exact (bz_ (hb2_ HB.out GE124.out GE126.out)) : w.heap.size≤gb128));have n5_:=n4_;have n6_:=A_ ((by rw [hg];exact Nat.ne_of_lt (bl_ BK124.out kf_) : gb124≠gb128));have n7_:=A_ (Ne.symm n6_.out);have n8_:=A_ ((by rw [hg];exact Nat.ne_of_lt (bl_ BK126.out kf_) : gb126≠gb128));have n9_:=A_ (Ne.symm n8_.out);clear BK124;clear BK126;clear HB;have BK124:=n0_;have BK126:=n1_;have HB:=n2_;have BK128:=n3_;have GW128:=n4_;have GE128:=n5_;have NB124_128:=n6_;have NB128_124:=n7_;have NB126_128:=n8_;have NB128_126:=n9_;clear n0_ n1_ n2_ n3_ n4_ n5_ n6_ n7_ n8_ n9_;clear hb hbox hg;have hnb30:=NB128_124.out;have hnc30:=NB124_128.out;have hnb31:=NB128_126.out;have hnc31:=NB126_128.out;obtain ⟨z32_0,z32_1,z32_2,z32_3⟩:=blkc_4 BK128.out;obtain ⟨y32_0,y32_1,y32_2,y32_3⟩:=blkz_4 BK128.out;have hnb33:=NB126_124.out;have hnc33:=NB124_126.out;obtain ⟨z34_0,z34_1,z34_2,z34_3⟩:=blkc_4 BK126.out;obtain ⟨y34_0,y34_1,y34_2⟩:=blkz_3 BK126.out;have y34_3:=bf_ BK126.out 3))
    go_roundg k1
    case measure=>have:=HK1.out;omega
    case rel=>exact ⟨(wrap64 (x13_1 + 1)),(x127000_1),(x127001_1),(x127002_1),(x127003_1),(by first|rfl|(simp;done)|(simp [*];done)),H',⟨by have:=HK1.out;omega⟩,⟨by refine kk_ ?_;refine blk_far ?_ NB124_128.out _;refine kk_ ?_;refine blk_far ?_ NB124_128.out _;refine kk_ ?_;refine blk_far ?_ NB124_128.out _;refine kk_ ?_;refine blk_far ?_ NB124_128.out _;exact kk_ BK124.out⟩,⟨by refine kk_ ?_;refine blk_far ?_ NB126_128.out _;refine kk_ ?_;refine blk_far ?_ NB126_128.out _;refine kk_ ?_;refine blk_far ?_ NB126_128.out _;refine kk_ ?_;refine blk_far ?_ NB126_128.out _;exact kk_ BK126.out⟩,⟨hb3_ HB.out GE124.out GE126.out GE128.out⟩⟩
   rw [if_pos c22] at H
   have c22b0 : decide (((rd_T56 l0_3 x13_1).f3)<x127003_1)=true:=dt_ c22;clear c22;have H':=A_ H;clear H
   have p127 : 0≤(x13_1 : Int):=od_ (by first|(with_reducible assumption)|assumption)
   have q127 : x13_1<(l0_3.length : Int):=od_ (by first|(with_reducible assumption)|assumption)
   obtain ⟨ad127,e127,hx127_0,hx127_1,hx127_2,hx127_3⟩:=at_T56 HR0_3.out x13_1 p127 q127
   cases e127
   replace hx127_0:=(HB.out.cell (wb_ w _ hx127_0)).trans hx127_0;replace hx127_1:=(HB.out.cell (wb_ w _ hx127_1)).trans hx127_1;replace hx127_2:=(HB.out.cell (wb_ w _ hx127_2)).trans hx127_2;replace hx127_3:=(HB.out.cell (wb_ w _ hx127_3)).trans hx127_3;replace p127:=eq_true p127;replace q127:=eq_true q127
   go_wp2_with (first|((with_reducible refine gate_dst (N:=5) rfl ?_);refine box_event ?hg (N:=5) ?hd (cs:=#[.int .i64 0,.int .i64 0,.int .i64 0,.int .i64 0]) (t:=56) ?hr ?_;(case hd=>rfl);(case hg=>rfl);(case hr=>first|(go_simp;done)|(go_simp;rfl));intro gb128 hg w23 hbox hb;have n0_:=A_ (bx_ BK124.out kf_ hb);have n1_:=A_ (bx_ BK126.out kf_ hb);have n2_:=A_ (bp_ (hb2_ HB.out GE124.out GE126.out) hb);have n3_:=A_ (hbox);have n4_:=A_ ((by rw [hg];exact (bz_ (hb2_ HB.out GE124.out GE126.out)) : w.heap.size≤gb128));have n5_:=n4_;have n6_:=A_ ((by rw [hg];exact Nat.ne_of_lt (bl_ BK124.out kf_) : gb124≠gb128));have n7_:=A_ (Ne.symm n6_.out);have n8_:=A_ ((by rw [hg];exact Nat.ne_of_lt (bl_ BK126.out kf_) : gb126≠gb128));have n9_:=A_ (Ne.symm n8_.out);clear BK124;clear BK126;clear HB;have BK124:=n0_;have BK126:=n1_;have HB:=n2_;have BK128:=n3_;have GW128:=n4_;have GE128:=n5_;have NB124_128:=n6_;have NB128_124:=n7_;have NB126_128:=n8_;have NB128_126:=n9_;clear n0_ n1_ n2_ n3_ n4_ n5_ n6_ n7_ n8_ n9_;clear hb hbox hg;have hnb24:=NB128_124.out;have hnc24:=NB124_128.out;have hnb25:=NB128_126.out;have hnc25:=NB126_128.out;obtain ⟨z26_0,z26_1,z26_2,z26_3⟩:=blkc_4 BK128.out;obtain ⟨y26_0,y26_1,y26_2,y26_3⟩:=blkz_4 BK128.out;have hnb27:=NB126_124.out;have hnc27:=NB124_126.out;obtain ⟨z28_0,z28_1,z28_2,z28_3⟩:=blkc_4 BK126.out;obtain ⟨y28_0,y28_1,y28_2⟩:=blkz_3 BK126.out;have y28_3:=bf_ BK126.out 3))
   go_roundg k1
   case measure=>have:=HK1.out;omega
   case rel=>exact ⟨(wrap64 (x13_1 + 1)),((rd_T56 l0_3 x13_1).f0),((rd_T56 l0_3 x13_1).f1),((rd_T56 l0_3 x13_1).f2),((rd_T56 l0_3 x13_1).f3),(by first|rfl|(simp;done)|(simp [*];done)),H',⟨by have:=HK1.out;omega⟩,⟨by refine kk_ ?_;refine blk_far ?_ NB124_126.out _;refine kk_ ?_;refine blk_far ?_ NB124_126.out _;refine kk_ ?_;refine blk_far ?_ NB124_126.out _;refine kk_ ?_;refine blk_far ?_ NB124_126.out _;refine kk_ ?_;refine blk_far ?_ NB124_128.out _;refine kk_ ?_;refine blk_far ?_ NB124_128.out _;refine kk_ ?_;refine blk_far ?_ NB124_128.out _;refine kk_ ?_;refine blk_far ?_ NB124_128.out _;exact kk_ BK124.out⟩,⟨by refine kk_ ?_;apply blkf_4_0_3;refine kk_ ?_;refine blk_far ?_ NB126_128.out _;refine kk_ ?_;refine blk_far ?_ NB126_128.out _;refine kk_ ?_;refine blk_far ?_ NB126_128.out _;refine kk_ ?_;refine blk_far ?_ NB126_128.out _;exact kk_ BK126.out⟩,⟨hb3_ HB.out GE124.out GE126.out GE128.out⟩⟩
def table_Find.f (k : Nat) (a0_0 : Int) (a0_1 : Int) (a0_2 : Int) (l0_3 : List (S56)) (a1 : Int) : Option (Int):=(table_Check.f k a0_0 a0_1 a0_2 l0_3).bind fun t131=>(if t131=0 then (if a1<1 then (some (-1)) else ((indexFunc_table_Find_1.f l0_3 a1).bind fun t132=>(some t132))) else (some (-1)))
theorem table_Find.mono : ∀ a0 a1 a2 a3 a4 k,LeO (table_Find.f k a0 a1 a2 a3 a4) (table_Find.f (k + 1) a0 a1 a2 a3 a4):=by
 intro a0 a1 a2 a3 a4 k
 unfold table_Find.f
 repeat' first
   | (with_reducible exact table_Check.mono _ _ _ _ _)
   | (with_reducible exact LeO.refl _)
   | (with_reducible exact LeO.none _)
   | (with_reducible refine LeO.ite ?_ ?_)
   | (with_reducible refine LeO.bind ?_ (fun _=>?_))
   | exact table_Check.mono _ _ _ _ _
   | exact LeO.none _
   | refine LeO.ite ?_ ?_
   | refine LeO.bind ?_ (fun _=>?_)
set_option maxHeartbeats 8000000 in
set_option maxRecDepth 100000 in
theorem table_Find.calls (k : Nat) (a0_0 : Int) (a0_1 : Int) (a0_2 : Int) (A0_3 : Option Addr) (c0_3 : Nat) (l0_3 : List (S56)) (a1 : Int) (r : Int) (w : World) (hr0_3 : Kd.C k56 w A0_3 l0_3.length l0_3) (hc0_3 : l0_3.length≤c0_3) (h : table_Find.f k a0_0 a0_1 a0_2 l0_3 a1=some r) :
  Calls Tryd.prog 16 #[.agg #[.int .i64 a0_0,.int .i64 a0_1,.int .i64 a0_2,.slice A0_3 l0_3.length c0_3],.int .i64 a1] w fun e w'=>e=.returned (.int .i64 r)∧Below w.heap.size w w':=by
 have hu26:=Tryd.underlying26;have HR0_3:=A_ hr0_3;have HC0_3:=A_ hc0_3;clear hr0_3 hc0_3;have HB:=A_ (Below.refl w.heap.size w)
 have H : ((table_Check.f k a0_0 a0_1 a0_2 l0_3).bind fun t131=>(if t131=0 then (if a1<1 then (some (-1)) else ((indexFunc_table_Find_1.f l0_3 a1).bind fun t132=>(some t132))) else (some (-1))))=some r:=h
 clear h;replace H:=Option.bind_eq_some_iff.mp H;obtain ⟨t131,A30,H⟩:=H
 replace H : (if t131=0 then (if a1<1 then (some (-1)) else ((indexFunc_table_Find_1.f l0_3 a1).bind fun t132=>(some t132))) else (some (-1)))=some r:=H
 have A3:=A_ A30;clear A30
 by_cases c4 : t131=0
 rotate_left
 ·rw [if_neg c4] at H
  have c4b0 : (t131 == 0)=false:=beq_eq_false_iff_ne.mpr c4;have c4b1 : (t131 != 0)=true:=bne_iff_ne.mpr c4;obtain rfl:=Option.some.inj H;go_enter Tryd.func16,Tryd.ntmps16
  go_wp2_with (first|((with_reducible refine gate_dst (N:=2) rfl ?_);refine box_event ?hg (N:=2) ?hd (cs:=#[.int .i64 a0_0,.int .i64 a0_1,.int .i64 a0_2,.slice A0_3 l0_3.length c0_3]) (t:=26) ?hr ?_;(case hd=>rfl);(case hg=>rfl);(case hr=>first|(go_simp;done)|(go_simp;rfl));intro gb129 hg w21 hbox hb;have n0_:=A_ (bp_ (hb0_ HB.out) hb);have n1_:=A_ (hbox);have n2_:=A_ ((by rw [hg];exact (bz_ (hb0_ HB.out)) : w.heap.size≤gb129));have n3_:=n2_;clear HB;have HB:=n0_;have BK129:=n1_;have GW129:=n2_;have GE129:=n3_;clear n0_ n1_ n2_ n3_;clear hb hbox hg)|((with_reducible refine gate_dst (N:=3) rfl ?_);refine box_event ?hg (N:=3) ?hd (cs:=#[.int .i64 a1]) (t:=3) ?hr ?_;(case hd=>rfl);(case hg=>rfl);(case hr=>first|(go_simp;done)|(go_simp;rfl));intro gb130 hg w22 hbox hb;have n0_:=A_ (bx_ BK129.out kf_ hb);have n1_:=A_ (bp_ (hb1_ HB.out GE129.out) hb);have n2_:=A_ (hbox);have n3_:=A_ ((by rw [hg];exact (bz_ (hb1_ HB.out GE129.out)) : w.heap.size≤gb130));have n4_:=n3_;have n5_:=A_ ((by rw [hg];exact Nat.ne_of_lt (bl_ BK129.out kf_) : gb129≠gb130));have n6_:=A_ (Ne.symm n5_.out);clear BK129;clear HB;have BK129:=n0_;have HB:=n1_;have BK130:=n2_;have GW130:=n3_;have GE130:=n4_;have NB129_130:=n5_;have NB130_129:=n6_;clear n0_ n1_ n2_ n3_ n4_ n5_ n6_;clear hb hbox hg;have hnb23:=NB129_130.out;have hnc23:=NB130_129.out;obtain ⟨z24_0,z24_1,z24_2,z24_3⟩:=blkc_4 BK129.out;obtain ⟨y24_0,y24_1,y24_2⟩:=blkz_3 BK129.out;have y24_3:=bf_ BK129.out 3)|((with_reducible refine gate_callee (f:=13) rfl ?_);refine goesL_ (some 6) rfl rfl Tryd.func13 (by kernel_rfl) rfl #[.agg #[.int .i64 a0_0,.int .i64 a0_1,.int .i64 a0_2,.slice A0_3 l0_3.length c0_3]] rfl (by (try simp only [List.map_toArray,List.map_cons,List.map_nil]);first|done|rfl|(simp only [List.length_drop,List.length_take];rfl)) ?_;(with_reducible refine (table_Check.calls k a0_0 a0_1 a0_2 _ _ l0_3 t131 _ ?side1 ?side2 A3.out).mono ?_);(case side1=>repeat (first|exact (Kd.C_below HR0_3.out HB.out)|(with_reducible refine Kd.C_alloc ?_ _)|(with_reducible refine Kd.C_drewN ?_ _)|(with_reducible refine Kd.C_drew ?_)));(case side2=>exact HC0_3.out);rintro e w25 ⟨rfl,hb⟩;refine ⟨_,rfl,?_⟩;have n0_:=A_ (bx_ BK129.out kf_ hb);have n1_:=A_ (bx_ BK130.out kf_ hb);have n2_:=A_ (bp_ (hb2_ HB.out GE129.out GE130.out) hb);clear BK129;clear BK130;clear HB;have BK129:=n0_;have BK130:=n1_;have HB:=n2_;clear n0_ n1_ n2_;(try clear hb);(try clear hb2);(try clear hk);(try clear hi)))
  go_ret
  exact ⟨by first|rfl|(simp [errW_none,errW_some] <;> rfl)|(simp [*,errW_none,errW_some] <;> rfl),hb2_ HB.out GE129.out GE130.out⟩
 rw [if_pos c4] at H
 have c4b0 : (t131 == 0)=true:=beq_iff_eq.mpr c4;have c4b1 : (t131 != 0)=false:=bne_eq_false_iff_eq.mpr c4;clear c4
 by_cases c5 : a1<1
 rotate_left
 ·rw [if_neg c5] at H
  have c5b0 : decide (a1<1)=false:=df_ c5;clear c5;replace H:=Option.bind_eq_some_iff.mp H;obtain ⟨t132,A120,H⟩:=H;replace H : (some t132)=some r:=H;have A12:=A_ A120;clear A120;obtain rfl:=Option.some.inj H;go_enter Tryd.func16,Tryd.ntmps16
  go_wp2_with (first|((with_reducible refine gate_dst (N:=2) rfl ?_);refine box_event ?hg (N:=2) ?hd (cs:=#[.int .i64 a0_0,.int .i64 a0_1,.int .i64 a0_2,.slice A0_3 l0_3.length c0_3]) (t:=26) ?hr ?_;(case hd=>rfl);(case hg=>rfl);(case hr=>first|(go_simp;done)|(go_simp;rfl));intro gb129 hg w13 hbox hb;have n0_:=A_ (bp_ (hb0_ HB.out) hb);have n1_:=A_ (hbox);have n2_:=A_ ((by rw [hg];exact (bz_ (hb0_ HB.out)) : w.heap.size≤gb129));have n3_:=n2_;clear HB;have HB:=n0_;have BK129:=n1_;have GW129:=n2_;have GE129:=n3_;clear n0_ n1_ n2_ n3_;clear hb hbox hg)|((with_reducible refine gate_dst (N:=3) rfl ?_);refine box_event ?hg (N:=3) ?hd (cs:=#[.int .i64 a1]) (t:=3) ?hr ?_;(case hd=>rfl);(case hg=>rfl);(case hr=>first|(go_simp;done)|(go_simp;rfl));intro gb130 hg w14 hbox hb;have n0_:=A_ (bx_ BK129.out kf_ hb);have n1_:=A_ (bp_ (hb1_ HB.out GE129.out) hb);have n2_:=A_ (hbox);have n3_:=A_ ((by rw [hg];exact (bz_ (hb1_ HB.out GE129.out)) : w.heap.size≤gb130));have n4_:=n3_;have n5_:=A_ ((by rw [hg];exact Nat.ne_of_lt (bl_ BK129.out kf_) : gb129≠gb130));have n6_:=A_ (Ne.symm n5_.out);clear BK129;clear HB;have BK129:=n0_;have HB:=n1_;have BK130:=n2_;have GW130:=n3_;have GE130:=n4_;have NB129_130:=n5_;have NB130_129:=n6_;clear n0_ n1_ n2_ n3_ n4_ n5_ n6_;clear hb hbox hg;have hnb15:=NB129_130.out;have hnc15:=NB130_129.out;obtain ⟨z16_0,z16_1,z16_2,z16_3⟩:=blkc_4 BK129.out;obtain ⟨y16_0,y16_1,y16_2⟩:=blkz_3 BK129.out;have y16_3:=bf_ BK129.out 3)|((with_reducible refine gate_callee (f:=13) rfl ?_);refine goesL_ (some 6) rfl rfl Tryd.func13 (by kernel_rfl) rfl #[.agg #[.int .i64 a0_0,.int .i64 a0_1,.int .i64 a0_2,.slice A0_3 l0_3.length c0_3]] rfl (by (try simp only [List.map_toArray,List.map_cons,List.map_nil]);first|done|rfl|(simp only [List.length_drop,List.length_take];rfl)) ?_;(with_reducible refine (table_Check.calls k a0_0 a0_1 a0_2 _ _ l0_3 t131 _ ?side1 ?side2 A3.out).mono ?_);(case side1=>repeat (first|exact (Kd.C_below HR0_3.out HB.out)|(with_reducible refine Kd.C_alloc ?_ _)|(with_reducible refine Kd.C_drewN ?_ _)|(with_reducible refine Kd.C_drew ?_)));(case side2=>exact HC0_3.out);rintro e w17 ⟨rfl,hb⟩;refine ⟨_,rfl,?_⟩;have n0_:=A_ (bx_ BK129.out kf_ hb);have n1_:=A_ (bx_ BK130.out kf_ hb);have n2_:=A_ (bp_ (hb2_ HB.out GE129.out GE130.out) hb);clear BK129;clear BK130;clear HB;have BK129:=n0_;have BK130:=n1_;have HB:=n2_;clear n0_ n1_ n2_;(try clear hb);(try clear hb2);(try clear hk);(try clear hi);have z18_0 : w17.cell? ⟨gb130,0,none⟩=some (.int .i64 a1):=(bc_ BK130.out 0).trans rfl;have y18_0:=bf_ BK130.out 0;obtain ⟨z19_0,z19_1,z19_2,z19_3⟩:=blkc_4 BK129.out;obtain ⟨y19_0,y19_1,y19_2⟩:=blkz_3 BK129.out;have y19_3:=bf_ BK129.out 3)|((with_reducible refine gate_callee (f:=33) rfl ?_);refine goesL_ (some 15) rfl rfl Tryd.func33 (by kernel_rfl) rfl #[.slice A0_3 l0_3.length c0_3,.func (.func 34) #[] #[.pointer (some ⟨_,0,none⟩)]] rfl (by (try simp only [List.map_toArray,List.map_cons,List.map_nil]);first|done|rfl|(simp only [List.length_drop,List.length_take];rfl)) ?_;(with_reducible refine (indexFunc_table_Find_1.calls _ _ l0_3 a1 t132 _ ?side1 ?side2 ?side3 A12.out).mono ?_);(case side1=>repeat (first|exact (Kd.C_below HR0_3.out HB.out)|(with_reducible refine Kd.C_alloc ?_ _)|(with_reducible refine Kd.C_drewN ?_ _)|(with_reducible refine Kd.C_drew ?_)));(case side2=>exact HC0_3.out);(case side3=>exact (by exact kk_ BK130.out));rintro e w20 ⟨rfl,hb⟩;refine ⟨_,rfl,?_⟩;have n0_:=A_ (bx_ BK129.out kf_ hb);have n1_:=A_ (bx_ BK130.out kf_ hb);have n2_:=A_ (bp_ (hb2_ HB.out GE129.out GE130.out) hb);clear BK129;clear BK130;clear HB;have BK129:=n0_;have BK130:=n1_;have HB:=n2_;clear n0_ n1_ n2_;(try clear hb);(try clear hb2);(try clear hk);(try clear hi)))
  go_ret
  exact ⟨by first|rfl|(simp [errW_none,errW_some] <;> rfl)|(simp [*,errW_none,errW_some] <;> rfl),hb2_ HB.out GE129.out GE130.out⟩
 rw [if_pos c5] at H
 have c5b0 : decide (a1<1)=true:=dt_ c5;clear c5;obtain rfl:=Option.some.inj H;go_enter Tryd.func16,Tryd.ntmps16
 go_wp2_with (first|((with_reducible refine gate_dst (N:=2) rfl ?_);refine box_event ?hg (N:=2) ?hd (cs:=#[.int .i64 a0_0,.int .i64 a0_1,.int .i64 a0_2,.slice A0_3 l0_3.length c0_3]) (t:=26) ?hr ?_;(case hd=>rfl);(case hg=>rfl);(case hr=>first|(go_simp;done)|(go_simp;rfl));intro gb129 hg w6 hbox hb;have n0_:=A_ (bp_ (hb0_ HB.out) hb);have n1_:=A_ (hbox);have n2_:=A_ ((by rw [hg];exact (bz_ (hb0_ HB.out)) : w.heap.size≤gb129));have n3_:=n2_;clear HB;have HB:=n0_;have BK129:=n1_;have GW129:=n2_;have GE129:=n3_;clear n0_ n1_ n2_ n3_;clear hb hbox hg)|((with_reducible refine gate_dst (N:=3) rfl ?_);refine box_event ?hg (N:=3) ?hd (cs:=#[.int .i64 a1]) (t:=3) ?hr ?_;(case hd=>rfl);(case hg=>rfl);(case hr=>first|(go_simp;done)|(go_simp;rfl));intro gb130 hg w7 hbox hb;have n0_:=A_ (bx_ BK129.out kf_ hb);have n1_:=A_ (bp_ (hb1_ HB.out GE129.out) hb);have n2_:=A_ (hbox);have n3_:=A_ ((by rw [hg];exact (bz_ (hb1_ HB.out GE129.out)) : w.heap.size≤gb130));have n4_:=n3_;have n5_:=A_ ((by rw [hg];exact Nat.ne_of_lt (bl_ BK129.out kf_) : gb129≠gb130));have n6_:=A_ (Ne.symm n5_.out);clear BK129;clear HB;have BK129:=n0_;have HB:=n1_;have BK130:=n2_;have GW130:=n3_;have GE130:=n4_;have NB129_130:=n5_;have NB130_129:=n6_;clear n0_ n1_ n2_ n3_ n4_ n5_ n6_;clear hb hbox hg;have hnb8:=NB129_130.out;have hnc8:=NB130_129.out;obtain ⟨z9_0,z9_1,z9_2,z9_3⟩:=blkc_4 BK129.out;obtain ⟨y9_0,y9_1,y9_2⟩:=blkz_3 BK129.out;have y9_3:=bf_ BK129.out 3)|((with_reducible refine gate_callee (f:=13) rfl ?_);refine goesL_ (some 6) rfl rfl Tryd.func13 (by kernel_rfl) rfl #[.agg #[.int .i64 a0_0,.int .i64 a0_1,.int .i64 a0_2,.slice A0_3 l0_3.length c0_3]] rfl (by (try simp only [List.map_toArray,List.map_cons,List.map_nil]);first|done|rfl|(simp only [List.length_drop,List.length_take];rfl)) ?_;(with_reducible refine (table_Check.calls k a0_0 a0_1 a0_2 _ _ l0_3 t131 _ ?side1 ?side2 A3.out).mono ?_);(case side1=>repeat (first|exact (Kd.C_below HR0_3.out HB.out)|(with_reducible refine Kd.C_alloc ?_ _)|(with_reducible refine Kd.C_drewN ?_ _)|(with_reducible refine Kd.C_drew ?_)));(case side2=>exact HC0_3.out);rintro e w10 ⟨rfl,hb⟩;refine ⟨_,rfl,?_⟩;have n0_:=A_ (bx_ BK129.out kf_ hb);have n1_:=A_ (bx_ BK130.out kf_ hb);have n2_:=A_ (bp_ (hb2_ HB.out GE129.out GE130.out) hb);clear BK129;clear BK130;clear HB;have BK129:=n0_;have BK130:=n1_;have HB:=n2_;clear n0_ n1_ n2_;(try clear hb);(try clear hb2);(try clear hk);(try clear hi);have z11_0 : w10.cell? ⟨gb130,0,none⟩=some (.int .i64 a1):=(bc_ BK130.out 0).trans rfl;have y11_0:=bf_ BK130.out 0))
 go_ret
 exact ⟨by first|rfl|(simp [errW_none,errW_some] <;> rfl)|(simp [*,errW_none,errW_some] <;> rfl),hb2_ HB.out GE129.out GE130.out⟩
def slices_Index_api_Entry_api_Entry.l0 : Nat→List (S56)→Int→Int→Int→Int→Int→Int→Option (Int)
 | 0,_,_,_,_,_,_,_=>none
 | k + 1,x0,x7,x8,x134000,x134001,x134002,x134003=>if x8<x7 then (if 0≤x8 then (if x8<(x0.length : Int) then (if (x134000 == ((rd_T56 x0 x8).f0) && (x134001 == ((rd_T56 x0 x8).f1) && (x134002 == ((rd_T56 x0 x8).f2) && (x134003 == ((rd_T56 x0 x8).f3)))))=true then (some x8) else (slices_Index_api_Entry_api_Entry.l0 k x0 x7 (wrap64 (x8 + 1)) x134000 x134001 x134002 x134003)) else (none)) else (none)) else (some (-1))
def slices_Index_api_Entry_api_Entry.f (k : Nat) (l0 : List (S56)) (a1_0 : Int) (a1_1 : Int) (a1_2 : Int) (a1_3 : Int) : Option (Int):=slices_Index_api_Entry_api_Entry.l0 k l0 (l0.length : Int) 0 a1_0 a1_1 a1_2 a1_3
theorem slices_Index_api_Entry_api_Entry.mono_l : ∀ k,(∀ y0 y1 y2 y3 y4 y5 y6,LeO (slices_Index_api_Entry_api_Entry.l0 k y0 y1 y2 y3 y4 y5 y6) (slices_Index_api_Entry_api_Entry.l0 (k + 1) y0 y1 y2 y3 y4 y5 y6))
 | 0=>fun _ _ _ _ _ _ _ r h=>by simp [slices_Index_api_Entry_api_Entry.l0] at h
 | k + 1=>by
  have ih0:=slices_Index_api_Entry_api_Entry.mono_l k
  ·intro y0 y1 y2 y3 y4 y5 y6
   unfold slices_Index_api_Entry_api_Entry.l0
   repeat' first
   | (with_reducible exact ih0 _ _ _ _ _ _ _)
   | (with_reducible exact LeO.refl _)
   | (with_reducible exact LeO.none _)
   | (with_reducible refine LeO.ite ?_ ?_)
   | (with_reducible refine LeO.bind ?_ (fun _=>?_))
   | exact ih0 _ _ _ _ _ _ _
   | exact LeO.none _
   | refine LeO.ite ?_ ?_
   | refine LeO.bind ?_ (fun _=>?_)
theorem slices_Index_api_Entry_api_Entry.mono : ∀ a0 a1 a2 a3 a4 k,LeO (slices_Index_api_Entry_api_Entry.f k a0 a1 a2 a3 a4) (slices_Index_api_Entry_api_Entry.f (k + 1) a0 a1 a2 a3 a4):=by
 intro a0 a1 a2 a3 a4 k;have ih0:=slices_Index_api_Entry_api_Entry.mono_l k
 unfold slices_Index_api_Entry_api_Entry.f
 repeat' first
   | (with_reducible exact ih0 _ _ _ _ _ _ _)
   | (with_reducible exact LeO.refl _)
   | (with_reducible exact LeO.none _)
   | (with_reducible refine LeO.ite ?_ ?_)
   | (with_reducible refine LeO.bind ?_ (fun _=>?_))
   | exact ih0 _ _ _ _ _ _ _
   | exact LeO.none _
   | refine LeO.ite ?_ ?_
   | refine LeO.bind ?_ (fun _=>?_)
set_option maxHeartbeats 8000000 in
set_option maxRecDepth 100000 in
theorem slices_Index_api_Entry_api_Entry.calls (k : Nat) (A0 : Option Addr) (c0 : Nat) (l0 : List (S56)) (a1_0 : Int) (a1_1 : Int) (a1_2 : Int) (a1_3 : Int) (r : Int) (w : World) (hr0 : Kd.C k56 w A0 l0.length l0) (hc0 : l0.length≤c0) (h : slices_Index_api_Entry_api_Entry.f k l0 a1_0 a1_1 a1_2 a1_3=some r) :
  Calls Tryd.prog 36 #[.slice A0 l0.length c0,.agg #[.int .i64 a1_0,.int .i64 a1_1,.int .i64 a1_2,.int .i64 a1_3]] w fun e w'=>e=.returned (.int .i64 r)∧Below w.heap.size w w':=by
 have hu56:=Tryd.underlying56;have HR0:=A_ hr0;have HC0:=A_ hc0;clear hr0 hc0;have HB:=A_ (Below.refl w.heap.size w);have H : (slices_Index_api_Entry_api_Entry.l0 k l0 (l0.length : Int) 0 a1_0 a1_1 a1_2 a1_3)=some r:=h;clear h;have H':=A_ H;clear H;go_enter Tryd.func36,Tryd.ntmps36
 go_wp2_with (first|((with_reducible refine gate_dst (N:=3) rfl ?_);refine box_event ?hg (N:=3) ?hd (cs:=#[.int .i64 a1_0,.int .i64 a1_1,.int .i64 a1_2,.int .i64 a1_3]) (t:=56) ?hr ?_;(case hd=>rfl);(case hg=>rfl);(case hr=>first|(go_simp;done)|(go_simp;rfl));intro gb133 hg w3 hbox hb;have n0_:=A_ (bp_ (hb0_ HB.out) hb);have n1_:=A_ (hbox);have n2_:=A_ ((by rw [hg];exact (bz_ (hb0_ HB.out)) : w.heap.size≤gb133));have n3_:=n2_;clear HB;have HB:=n0_;have BK133:=n1_;have GW133:=n2_;have GE133:=n3_;clear n0_ n1_ n2_ n3_;clear hb hbox hg))
 repeat (go_quiet (first|((with_reducible refine gate_dst (N:=3) rfl ?_);refine box_event ?hg (N:=3) ?hd (cs:=#[.int .i64 a1_0,.int .i64 a1_1,.int .i64 a1_2,.int .i64 a1_3]) (t:=56) ?hr ?_;(case hd=>rfl);(case hg=>rfl);(case hr=>first|(go_simp;done)|(go_simp;rfl));intro gb133 hg w3 hbox hb;have n0_:=A_ (bp_ (hb0_ HB.out) hb);have n1_:=A_ (hbox);have n2_:=A_ ((by rw [hg];exact (bz_ (hb0_ HB.out)) : w.heap.size≤gb133));have n3_:=n2_;clear HB;have HB:=n0_;have BK133:=n1_;have GW133:=n2_;have GE133:=n3_;clear n0_ n1_ n2_ n3_;clear hb hbox hg));try go_wp2_with (first|((with_reducible refine gate_dst (N:=3) rfl ?_);refine box_event ?hg (N:=3) ?hd (cs:=#[.int .i64 a1_0,.int .i64 a1_1,.int .i64 a1_2,.int .i64 a1_3]) (t:=56) ?hr ?_;(case hd=>rfl);(case hg=>rfl);(case hr=>first|(go_simp;done)|(go_simp;rfl));intro gb133 hg w3 hbox hb;have n0_:=A_ (bp_ (hb0_ HB.out) hb);have n1_:=A_ (hbox);have n2_:=A_ ((by rw [hg];exact (bz_ (hb0_ HB.out)) : w.heap.size≤gb133));have n3_:=n2_;clear HB;have HB:=n0_;have BK133:=n1_;have GW133:=n2_;have GE133:=n3_;clear n0_ n1_ n2_ n3_;clear hb hbox hg)))
 go_loopg [8] k (fun kq v8 w'=>∃ (x8_1 : Int),v8=.int .i64 x8_1∧Aside0 (slices_Index_api_Entry_api_Entry.l0 kq l0 (l0.length : Int) x8_1 a1_0 a1_1 a1_2 a1_3=some r)∧Aside0 (kq≤k)∧Aside0 (w'.heap[gb133]?=some (.cells #[.int .i64 a1_0,.int .i64 a1_1,.int .i64 a1_2,.int .i64 a1_3] 56 (0,0)))∧Aside0 (Below w.heap.size w w'))
 case atStart=>exact ⟨(0),(by first|rfl|(simp;done)|(simp [*];done)),H',⟨Nat.le_refl _⟩,⟨by exact kk_ BK133.out⟩,⟨hb1_ HB.out GE133.out⟩⟩
 case round =>
  clear H';(try clear p2);(try clear c3);obtain ⟨x8_1,rfl,HA,HK1,BK133,HB⟩:=hrel
  cases gk with
  | zero=>exact absurd HA.out (by simp [slices_Index_api_Entry_api_Entry.l0])
  | succ k1 =>
   have H:=HA.out;clear HA
   simp only [slices_Index_api_Entry_api_Entry.l0] at H
   by_cases c4 : x8_1<(l0.length : Int)
   rotate_left
   ·rw [if_neg c4] at H
    have c4b0 : decide (x8_1<(l0.length : Int))=false:=df_ c4;clear c4;obtain rfl:=Option.some.inj H;go_wp2
    repeat (go_quiet (fail);try go_wp2)
    go_ret
    exact ⟨by first|rfl|(simp [errW_none,errW_some] <;> rfl)|(simp [*,errW_none,errW_some] <;> rfl),hb1_ HB.out GE133.out⟩
   rw [if_pos c4] at H
   have c4b0 : decide (x8_1<(l0.length : Int))=true:=dt_ c4;clear c4
   by_cases c5 : 0≤x8_1
   rotate_left
   ·rw [if_neg c5] at H
    exact absurd H (by simp)
   rw [if_pos c5] at H
   have c5b0 : decide (0≤x8_1)=true:=dt_ c5;clear c5
   by_cases c6 : x8_1<(l0.length : Int)
   rotate_left
   ·rw [if_neg c6] at H
    exact absurd H (by simp)
   rw [if_pos c6] at H
   have c6b0 : decide (x8_1<(l0.length : Int))=true:=dt_ c6;clear c6
   by_cases c7 : (a1_0 == ((rd_T56 l0 x8_1).f0) && (a1_1 == ((rd_T56 l0 x8_1).f1) && (a1_2 == ((rd_T56 l0 x8_1).f2) && (a1_3 == ((rd_T56 l0 x8_1).f3)))))=true
   ·rw [if_pos c7] at H
    have c7b0 : (a1_0 == ((rd_T56 l0 x8_1).f0) && (a1_1 == ((rd_T56 l0 x8_1).f1) && (a1_2 == ((rd_T56 l0 x8_1).f2) && (a1_3 == ((rd_T56 l0 x8_1).f3)))))=true:=c7
    (try (have c7b1 : decide (a1_0=((rd_T56 l0 x8_1).f0) && (a1_1 == ((rd_T56 l0 x8_1).f1) && (a1_2 == ((rd_T56 l0 x8_1).f2) && (a1_3 == ((rd_T56 l0 x8_1).f3)))))=true:=by simpa using c7))
    (try (have c7b2 : (a1_0 == ((rd_T56 l0 x8_1).f0) && (a1_1 == ((rd_T56 l0 x8_1).f1) && (a1_2 == ((rd_T56 l0 x8_1).f2) && (a1_3 == ((rd_T56 l0 x8_1).f3)))))=true:=by simpa using c7))
    clear c7;obtain rfl:=Option.some.inj H;obtain ⟨z8_0,z8_1,z8_2,z8_3⟩:=blkc_4 BK133.out;obtain ⟨y8_0,y8_1,y8_2,y8_3⟩:=blkz_4 BK133.out
    have p134 : 0≤(x8_1 : Int):=od_ (by first|(with_reducible assumption)|assumption)
    have q134 : x8_1<(l0.length : Int):=od_ (by first|(with_reducible assumption)|assumption)
    obtain ⟨ad134,e134,hx134_0,hx134_1,hx134_2,hx134_3⟩:=at_T56 HR0.out x8_1 p134 q134
    cases e134
    replace hx134_0:=(HB.out.cell (wb_ w _ hx134_0)).trans hx134_0;replace hx134_1:=(HB.out.cell (wb_ w _ hx134_1)).trans hx134_1;replace hx134_2:=(HB.out.cell (wb_ w _ hx134_2)).trans hx134_2;replace hx134_3:=(HB.out.cell (wb_ w _ hx134_3)).trans hx134_3;replace p134:=eq_true p134;replace q134:=eq_true q134;go_wp2
    repeat (go_quiet (fail);try go_wp2)
    go_ret
    exact ⟨by first|rfl|(simp [errW_none,errW_some] <;> rfl)|(simp [*,errW_none,errW_some] <;> rfl),hb1_ HB.out GE133.out⟩
   rw [if_neg c7] at H
   have c7b0 : (a1_0 == ((rd_T56 l0 x8_1).f0) && (a1_1 == ((rd_T56 l0 x8_1).f1) && (a1_2 == ((rd_T56 l0 x8_1).f2) && (a1_3 == ((rd_T56 l0 x8_1).f3)))))=false:=by simpa using c7
   (try (have c7b1 : decide (a1_0=((rd_T56 l0 x8_1).f0) && (a1_1 == ((rd_T56 l0 x8_1).f1) && (a1_2 == ((rd_T56 l0 x8_1).f2) && (a1_3 == ((rd_T56 l0 x8_1).f3)))))=false:=by simpa using c7))
   (try (have c7b2 : (a1_0 == ((rd_T56 l0 x8_1).f0) && (a1_1 == ((rd_T56 l0 x8_1).f1) && (a1_2 == ((rd_T56 l0 x8_1).f2) && (a1_3 == ((rd_T56 l0 x8_1).f3)))))=false:=by simpa using c7))
   (try (have c7b3 : ¬ (a1_0=((rd_T56 l0 x8_1).f0) && (a1_1 == ((rd_T56 l0 x8_1).f1) && (a1_2 == ((rd_T56 l0 x8_1).f2) && (a1_3 == ((rd_T56 l0 x8_1).f3))))):=by simpa using c7))
   clear c7;have H':=A_ H;clear H;obtain ⟨z9_0,z9_1,z9_2,z9_3⟩:=blkc_4 BK133.out;obtain ⟨y9_0,y9_1,y9_2,y9_3⟩:=blkz_4 BK133.out
   have p134 : 0≤(x8_1 : Int):=od_ (by first|(with_reducible assumption)|assumption)
   have q134 : x8_1<(l0.length : Int):=od_ (by first|(with_reducible assumption)|assumption)
   obtain ⟨ad134,e134,hx134_0,hx134_1,hx134_2,hx134_3⟩:=at_T56 HR0.out x8_1 p134 q134
   cases e134
   replace hx134_0:=(HB.out.cell (wb_ w _ hx134_0)).trans hx134_0;replace hx134_1:=(HB.out.cell (wb_ w _ hx134_1)).trans hx134_1;replace hx134_2:=(HB.out.cell (wb_ w _ hx134_2)).trans hx134_2;replace hx134_3:=(HB.out.cell (wb_ w _ hx134_3)).trans hx134_3;replace p134:=eq_true p134;replace q134:=eq_true q134;go_wp2
   repeat (go_quiet (fail);try go_wp2)
   go_roundg k1
   case measure=>have:=HK1.out;omega
   case rel=>exact ⟨(wrap64 (x8_1 + 1)),(by first|rfl|(simp;done)|(simp [*];done)),H',⟨by have:=HK1.out;omega⟩,⟨by exact kk_ BK133.out⟩,⟨hb1_ HB.out GE133.out⟩⟩
def slices_Clone_api_Entry_api_Entry.f (l0 : List (S56)) : Option ((List (S56))):=(some (([] : List (S56)) : List (S56))).bind fun y135=>(if y135.length + l0.length<4398046511104 then (some (y135++l0)) else (none))
set_option maxHeartbeats 8000000 in
set_option maxRecDepth 100000 in
theorem slices_Clone_api_Entry_api_Entry.calls (A0 : Option Addr) (c0 : Nat) (l0 : List (S56)) (r : List (S56)) (w : World) (hr0 : Kd.C k56 w A0 l0.length l0) (hc0 : l0.length≤c0) (h : slices_Clone_api_Entry_api_Entry.f l0=some r) :
  Calls Tryd.prog 54 #[.slice A0 l0.length c0] w fun e w'=>∃ v0_ : Value,e=.returned (v0_)∧Kd.R k56 56 w' w.heap.size (fun _=>True) v0_ r∧Below w.heap.size w w':=by
 have hnl0_:=fun w_=>nil_eq Tryd.underlying24 A0 l0.length c0 w_
 by_cases hA_ : A0=none
 ·subst hA_
  obtain rfl:=C_nil_ hr0
  have h2_ : slices_Clone_api_Entry_api_Entry.f []=some []:=by simp [slices_Clone_api_Entry_api_Entry.f]
  rw [h2_] at h;obtain rfl:=Option.some.inj h;clear hnl0_
  have hnl1_ : ∀ w_,(binOp BinOp.eql 24 (.slice none 0 c0) (.slice none 0 0)).run Tryd.prog w_=.ok (.bool true) w_:=fun w_=>nil_eq Tryd.underlying24 none 0 c0 w_
  simp only [List.length_nil]
  go_enter Tryd.func54,Tryd.ntmps54;go_wp2;go_ret
  exact ⟨_,by rfl,by first|exact Kd.R_nil _ _ _ _ _|exact Kd.N_nil _ _ _ _ _|exact Kd.V_nil _ _ _ _ _|exact Kd.S_nil _ _ _ _ _,Below.refl _ _⟩
 have hnl_ : ∀ w_,(binOp BinOp.eql 24 (.slice A0 l0.length c0) (.slice none 0 0)).run Tryd.prog w_=.ok (.bool false) w_:=by
  intro w_;have h3_:=hnl0_ w_
  cases A0 with
  | none=>exact absurd rfl hA_
  | some a_=>exact h3_
 clear hnl0_ hA_;have HR0:=A_ hr0;have HC0:=A_ hc0;clear hr0 hc0;have HB:=A_ (Below.refl w.heap.size w)
 have H : ((some (([] : List (S56)) : List (S56))).bind fun y135=>(if y135.length + l0.length<4398046511104 then (some (y135++l0)) else (none)))=some r:=h
 clear h
 obtain ⟨y135,hy135⟩ : ∃ y_ : List (S56),y_=(([] : List (S56))):=⟨_,rfl⟩
 replace H : (if y135.length + l0.length<4398046511104 then (some (y135++l0)) else (none))=some r:=by first|(rw [hy135];with_reducible exact H)|(have H2_:=(Option.bind_some _ _).symm.trans H;rw [hy135];with_reducible exact H2_)|(have H2_:=(Option.bind_some _ _).symm.trans H;with_reducible exact H2_)|with_reducible exact H|(rw [hy135];exact H)|exact H
 have Ny135:=A_ hy135;clear hy135
 by_cases c2 : y135.length + l0.length<4398046511104
 rotate_left
 ·rw [if_neg c2] at H
  exact absurd H (by simp)
 rw [if_pos c2] at H
 have LMc2:=A_ c2;clear c2
 obtain ⟨y138,hy138⟩ : ∃ y_ : List (S56),y_=(y135++l0):=⟨_,rfl⟩
 replace H : (some y138)=some r:=by first|(rw [hy138];with_reducible exact H)|(have H2_:=(Option.bind_some _ _).symm.trans H;rw [hy138];with_reducible exact H2_)|(have H2_:=(Option.bind_some _ _).symm.trans H;with_reducible exact H2_)|with_reducible exact H|(rw [hy138];exact H)|exact H
 have Ny138:=A_ hy138;clear hy138;obtain rfl:=Option.some.inj H;go_enter Tryd.func54,Tryd.ntmps54
 go_wp2_with (first|((with_reducible refine gate_dst (N:=5) rfl ?_);refine Kd.R_lit k56 _ 56 ?hg (N:=5) ?hd (xs:=([] : List (S56))) (inner:=[]) (ok:=fun _=>True) (okp:=fun _=>True) ?hr ?hp (fun _ hk=>hk) trivial (Below.refl _ _) (Nat.le_refl _) (by simp) ?_;(case hd=>rfl);(case hg=>rfl);(case hr=>first|(go_simp;done)|(go_simp;rfl));(case hp=>exact (Reps.none _ _));intro v136 w3 ho4 hb hg_ hnew_;clear hg_ hnew_;(first|rw [← Ny135.out] at ho4|(simp only [Int.reduceToNat] at ho4;rw [← Ny135.out] at ho4));have n0_:=A_ (Kd.R_lower ho4 (bz_ (hb0_ HB.out)));have n1_:=A_ (bp_ (hb0_ HB.out) hb);clear HB;have HO137:=n0_;have HB:=n1_;clear n0_ n1_;clear hb ho4)|((with_reducible refine gate_builtin (b:=.append) (xs:=#[.tmp 5,.tmp 6]) rfl ?_);at_builtin;refine Kd.R_append_rows k56 (w0:=w) w.heap.size rfl (.tmp 5) (.tmp 6) 24 56 (.agg #[(.int .i64 0),(.int .i64 0),(.int .i64 0),(.int .i64 0)]) 32 rfl Tryd.underlying24 info56 rfl (by decide) (by omega) v136 y135 l0 _ _ _ (fun _=>True) (fun _=>False) rfl rfl ?aO ?aR (fun _ _ h=>h) (fun _ h=>h.elim) ?aF ?aB ?aS ?aL ?_;(case aR=>repeat (first|exact (Kd.C_below HR0.out HB.out)|(with_reducible refine Kd.C_alloc ?_ _)|(with_reducible refine Kd.C_drewN ?_ _)|(with_reducible refine Kd.C_drew ?_)));(case aB=>exact (hb0_ HB.out));(case aF=>exact (fun _ _=>trivial));(case aO=>exact (by (with_reducible repeat (first|apply ra_|apply rn_|apply re_));exact HO137.out));(case aS=>exact (bz_ (hb0_ HB.out)));(case aL=>have:=LMc2.out;omega);intro v139 w5 ho hb hg hat;rw [← Ny138.out] at ho;have n0_:=A_ (hb);have n1_:=A_ (ho);clear HB;clear HO137;have HB:=n0_;have HO140:=n1_;clear n0_ n1_;clear ho hb hg hat))
 go_ret
 exact ⟨_,by first|rfl|(simp [errW_none,errW_some] <;> rfl)|(simp [*,errW_none,errW_some] <;> rfl),by (with_reducible repeat (first|apply ra_|apply rn_|apply re_));exact HO140.out,hb0_ HB.out⟩
end Go.Proofs.YtbmcbhpkefjhbaaDoor.P
