/- by wip/prune.py -/
import Derived.ArgAppend
import Derived.Below
import Derived.BigQuiet
import Derived.Deep.AppendLies
import Derived.Deep.CutBlock
import Derived.Deep.DeepCutAuto
import Derived.Deep.Draws
import Derived.Deep.LoopGhost
import Derived.Deep.OwnRows
import Derived.Deep.QuietTactic
import Derived.Deep.RegionHeld3
import Derived.KernelRfl
import Derived.Laws.BitsLemmas
import Derived.Laws.BytesArg
import Derived.Laws.IdiomCopy
import Derived.Laws.MakeOwn
import Derived.Laws.OwnMore
import Derived.Laws.Rows
import Derived.Laws.Slices
import Derived.Lib.AppendStr
import Derived.Lib.ConvBytes
import Derived.Maps.AppendAt
import Derived.OrdersHeld
import Derived.OwnWalk
import Derived.RowKit
import Derived.RowKit3
import Derived.Tactics
import Derived.Test.YtbmcbhpkefjhbaaDoorProg
import Derived.WalkKit
import Derived.WideLaws
import Derived.Test.YtbmcbhpkefjhbaaDoorMTableCodes1
import Derived.Test.YtbmcbhpkefjhbaaDoorMTableCodes2
import Derived.Test.YtbmcbhpkefjhbaaDoorMTableCodes3
import Derived.Test.YtbmcbhpkefjhbaaDoorMTableCodes4
import Derived.Test.YtbmcbhpkefjhbaaDoorMTableCodes5
import Derived.Test.YtbmcbhpkefjhbaaDoorMTableCodes6
import Derived.Test.YtbmcbhpkefjhbaaDoorMTableCodes7
import Derived.Test.YtbmcbhpkefjhbaaDoorMTableCodes8
set_option linter.unusedSimpArgs false
set_option linter.unusedVariables false
namespace Go.Proofs.YtbmcbhpkefjhbaaDoor.P
open Go.RowKit YtbmcbhpkefjhbaaDoorW.PrintWords YtbmcbhpkefjhbaaDoorW.PrintLast YtbmcbhpkefjhbaaDoorW.PrintMore
attribute [local go_sem] max2_int min2_int max_two min_two max_three min_three max_four min_four   -- for this text's walks alone
attribute [local go_sem] run_store_float
def errW : Option Int→Value
  | none=>.nilIface
  | some c=>.iface 0 (.int .i64 c)
theorem errW_none : errW none=.nilIface:=rfl
theorem errW_some (c : Int) : errW (some c)=.iface 0 (.int .i64 c):=rfl
theorem info3 : (Tryd.prog.info? 3).map (fun i=>(i.zero,i.size,i.bytes))=some (some (.int .i64 0),1,8):=by kernel_rfl
theorem info5 : (Tryd.prog.info? 5).map (fun i=>(i.zero,i.size,i.bytes))=some (some (.int .u8 0),1,1):=by kernel_rfl
theorem info51 : (Tryd.prog.info? 51).map (fun i=>(i.zero,i.size,i.bytes))=some (some (.agg #[(.int .i64 0),(.int .i64 0),(.float .f64 0),(.string ⟨#[]⟩)]),4,40):=by kernel_rfl
theorem info56 : (Tryd.prog.info? 56).map (fun i=>(i.zero,i.size,i.bytes))=some (some (.agg #[(.int .i64 0),(.int .i64 0),(.int .i64 0),(.int .i64 0)]),4,32):=by kernel_rfl
structure S56 where
  f0 : Int
  f1 : Int
  f2 : Int
  f3 : Int
def z56 : S56:=⟨(0 : Int),(0 : Int),(0 : Int),(0 : Int)⟩
def k56 : Kd S56:=Kd.iso (Kd.pair (Kd.int .i64) (Kd.pair (Kd.int .i64) (Kd.pair (Kd.int .i64) (Kd.int .i64)))) (fun x : S56=>(x.f0,x.f1,x.f2,x.f3))
theorem k56_open {w : World} {x : S56} {cs : List Value} (h : k56.K w x cs) : cs=[.int .i64 x.f0,.int .i64 x.f1,.int .i64 x.f2,.int .i64 x.f3]:=by
  obtain ⟨_,_,rfl,rfl,⟨_,_,rfl,rfl,⟨_,_,rfl,rfl,rfl⟩⟩⟩:=h;exact rfl
theorem k56_openM {w : World} {base : Nat} {ok : Nat→Prop} {x : S56} {cs : List Value} (h : k56.M w base ok x cs) : cs=[.int .i64 x.f0,.int .i64 x.f1,.int .i64 x.f2,.int .i64 x.f3]:=by
  obtain ⟨_,_,rfl,rfl,⟨_,_,rfl,rfl,⟨_,_,rfl,rfl,rfl⟩⟩⟩:=h;exact rfl
theorem k56_mkM (w : World) (base : Nat) (ok : Nat→Prop) (x : S56)  : k56.M w base ok x [.int .i64 x.f0,.int .i64 x.f1,.int .i64 x.f2,.int .i64 x.f3]:=⟨[.int .i64 x.f0],[.int .i64 x.f1,.int .i64 x.f2,.int .i64 x.f3],rfl,rfl,⟨[.int .i64 x.f1],[.int .i64 x.f2,.int .i64 x.f3],rfl,rfl,⟨[.int .i64 x.f2],[.int .i64 x.f3],rfl,rfl,rfl⟩⟩⟩
def rd_T56 (xs : List S56) (i : Int) : S56:=xs.getD i.toNat z56
theorem at_T56 {w : World} {A : Option Addr} {n : Nat} {xs : List S56} (h : Kd.C k56 w A n xs) (i : Int) (h0 : 0≤i) (h1 : i<n) : ∃ ad , A=some ad∧w.cell? (ad.add (i.toNat * 4))=some (.int .i64 (rd_T56 xs i).f0)∧w.cell? ⟨(ad.add (i.toNat * 4)).block,(ad.add (i.toNat * 4)).off + 1,none⟩=some (.int .i64 (rd_T56 xs i).f1)∧w.cell? ⟨(ad.add (i.toNat * 4)).block,(ad.add (i.toNat * 4)).off + 2,none⟩=some (.int .i64 (rd_T56 xs i).f2)∧w.cell? ⟨(ad.add (i.toNat * 4)).block,(ad.add (i.toNat * 4)).off + 3,none⟩=some (.int .i64 (rd_T56 xs i).f3):=by
  obtain ⟨ad,c,e,_,hK,hc0⟩:=Kd.C_get h z56 i h0 h1
  have hc : ∀ j u,c[j]?=some u→w.cell? (ad.add (i.toNat * 4 + j))=some u:=hc0
  obtain rfl:=k56_open hK
  exact ⟨ad,e,hc 0 _ rfl,by rw [← add_field _ _ 1 (by omega)]; exact hc 1 _ rfl,by rw [← add_field _ _ 2 (by omega)]; exact hc 2 _ rfl,by rw [← add_field _ _ 3 (by omega)]; exact hc 3 _ rfl⟩
structure S51 where
  f0 : Int
  f1 : Int
  f2 : Nat
  f3 : ByteArray
def z51 : S51:=⟨(0 : Int),(0 : Int),(0 : Nat),(⟨#[]⟩ : ByteArray)⟩
def k51 : Kd S51:=Kd.iso (Kd.pair (Kd.int .i64) (Kd.pair (Kd.int .i64) (Kd.pair Kd.f64 Kd.string))) (fun x : S51=>(x.f0,x.f1,x.f2,x.f3))
theorem k51_open {w : World} {x : S51} {cs : List Value} (h : k51.K w x cs) : cs=[.int .i64 x.f0,.int .i64 x.f1,.float .f64 x.f2,.string x.f3]:=by
  obtain ⟨_,_,rfl,rfl,⟨_,_,rfl,rfl,⟨_,_,rfl,rfl,rfl⟩⟩⟩:=h;exact rfl
theorem k51_mkM (w : World) (base : Nat) (ok : Nat→Prop) (x : S51)  : k51.M w base ok x [.int .i64 x.f0,.int .i64 x.f1,.float .f64 x.f2,.string x.f3]:=⟨[.int .i64 x.f0],[.int .i64 x.f1,.float .f64 x.f2,.string x.f3],rfl,rfl,⟨[.int .i64 x.f1],[.float .f64 x.f2,.string x.f3],rfl,rfl,⟨[.float .f64 x.f2],[.string x.f3],rfl,rfl,rfl⟩⟩⟩
def rd_T51 (xs : List S51) (i : Int) : S51:=xs.getD i.toNat z51
theorem at_T51 {w : World} {A : Option Addr} {n : Nat} {xs : List S51} (h : Kd.C k51 w A n xs) (i : Int) (h0 : 0≤i) (h1 : i<n) : ∃ ad , A=some ad∧w.cell? (ad.add (i.toNat * 4))=some (.int .i64 (rd_T51 xs i).f0)∧w.cell? ⟨(ad.add (i.toNat * 4)).block,(ad.add (i.toNat * 4)).off + 1,none⟩=some (.int .i64 (rd_T51 xs i).f1)∧w.cell? ⟨(ad.add (i.toNat * 4)).block,(ad.add (i.toNat * 4)).off + 2,none⟩=some (.float .f64 (rd_T51 xs i).f2)∧w.cell? ⟨(ad.add (i.toNat * 4)).block,(ad.add (i.toNat * 4)).off + 3,none⟩=some (.string (rd_T51 xs i).f3):=by
  obtain ⟨ad,c,e,_,hK,hc0⟩:=Kd.C_get h z51 i h0 h1
  have hc : ∀ j u,c[j]?=some u→w.cell? (ad.add (i.toNat * 4 + j))=some u:=hc0
  obtain rfl:=k51_open hK
  exact ⟨ad,e,hc 0 _ rfl,by rw [← add_field _ _ 1 (by omega)]; exact hc 1 _ rfl,by rw [← add_field _ _ 2 (by omega)]; exact hc 2 _ rfl,by rw [← add_field _ _ 3 (by omega)]; exact hc 3 _ rfl⟩
mutual
def tally_More.l0 : Nat→Int→List Int→Int→Int→Option (Int)
 | 0,_,_,_,_=>none
 | k + 1,x0,x8,x9,x10=>if x10<x9 then (if 0≤x10 then (if x10<(x8.length : Int) then (tally_More.l1 k (Go.bits .xor .u32 x0 ((((rd x8 x10) % 4294967296) * 16777216) % 4294967296)) x8 x9 x10 0) else (none)) else (none)) else (some x0)
def tally_More.l1 : Nat→Int→List Int→Int→Int→Int→Option (Int)
 | 0,_,_,_,_,_=>none
 | k + 1,x0,x8,x9,x10,x19=>if x19<8 then (if (x0 / 2147483648)=1 then (tally_More.l1 k (Go.bits .xor .u32 ((x0 * 2) % 4294967296) 2168537515) x8 x9 x10 (wrap64 (x19 + 1))) else (tally_More.l1 k ((x0 * 2) % 4294967296) x8 x9 x10 (wrap64 (x19 + 1)))) else (tally_More.l0 k x0 x8 x9 (wrap64 (x10 + 1)))
end
def tally_More.f (k : Nat) (a0 : Int) (l1 : List Int) : Option (Int):=tally_More.l0 k a0 l1 (l1.length : Int) 0
set_option maxHeartbeats 8000000 in
set_option maxRecDepth 100000 in
theorem tally_More.calls (k : Nat) (a0 : Int) (A1 : Option Addr) (c1 : Nat) (l1 : List Int) (r : Int) (w : World) (hr1 : Kd.C (Kd.int .u8) w A1 l1.length l1) (hc1 : l1.length≤c1) (h : tally_More.f k a0 l1=some r) :
  Calls Tryd.prog 70 #[.int .u32 a0,.slice A1 l1.length c1] w fun e w'=>e=.returned (.int .u32 r)∧Drawn0 w w':=by
 have HR1:=A_ hr1;have HC1:=A_ hc1;clear hr1 hc1;have H : (tally_More.l0 k a0 l1 (l1.length : Int) 0)=some r:=h;clear h;have H':=A_ H;clear H;go_enter Tryd.func70,Tryd.ntmps70;go_wp2
 go_loopg [0,10] k (fun kq v0 v10 w'=>∃ (x0_1 : Int) (x10_1 : Int),v0=.int .u32 x0_1∧v10=.int .i64 x10_1∧Aside0 (tally_More.l0 kq x0_1 l1 (l1.length : Int) x10_1=some r)∧Aside0 (kq≤k)∧Drawn0 w w')
 case atStart=>exact ⟨(a0),(0),(by first|rfl|(simp;done)|(simp [*];done)),(by first|rfl|(simp;done)|(simp [*];done)),H',⟨Nat.le_refl _⟩,by repeat (first|exact Drawn0.refl _|apply Drawn0.step)⟩
 case round =>
  clear H';(try clear c1);(try clear p2);obtain ⟨x0_1,x10_1,rfl,rfl,HA,HK1,⟨m1,rfl⟩⟩:=hrel
  cases gk with
  | zero=>exact absurd HA.out (by simp [tally_More.l0])
  | succ k1 =>
   have H:=HA.out;clear HA
   simp only [tally_More.l0] at H
   by_cases c3 : x10_1<(l1.length : Int)
   rotate_left
   ·rw [if_neg c3] at H
    have c3b0 : decide (x10_1<(l1.length : Int))=false:=df_ c3;clear c3;obtain rfl:=Option.some.inj H;go_wp2;go_ret
    exact ⟨by first|rfl|(simp;done)|(simp [*];done),by repeat (first|exact Drawn0.refl _|apply Drawn0.step)⟩
   rw [if_pos c3] at H
   have c3b0 : decide (x10_1<(l1.length : Int))=true:=dt_ c3;clear c3
   by_cases c4 : 0≤x10_1
   rotate_left
   ·rw [if_neg c4] at H
    exact absurd H (by simp)
   rw [if_pos c4] at H
   have c4b0 : decide (0≤x10_1)=true:=dt_ c4;clear c4
   by_cases c5 : x10_1<(l1.length : Int)
   rotate_left
   ·rw [if_neg c5] at H
    exact absurd H (by simp)
   rw [if_pos c5] at H
   have c5b0 : decide (x10_1<(l1.length : Int))=true:=dt_ c5;clear c5;have H':=A_ H;clear H
   have p224 : 0≤(x10_1 : Int):=od_ (by first|(with_reducible assumption)|assumption)
   have q224 : x10_1<(l1.length : Int):=od_ (by first|(with_reducible assumption)|assumption)
   obtain ⟨ad224,e224,hx224_0⟩:=Kd.at_int HR1.out x10_1 p224 q224
   cases e224
   replace p224:=eq_true p224;replace q224:=eq_true q224;go_wp2
   go_loopg [0,19] k1 (fun kq v0 v19 w'=>∃ (x0_2 : Int) (x19_2 : Int),v0=.int .u32 x0_2∧v19=.int .i64 x19_2∧Aside0 (tally_More.l1 kq x0_2 l1 (l1.length : Int) x10_1 x19_2=some r)∧Aside0 (kq≤k1)∧Drawn0 w w')
   case atStart=>exact ⟨(Go.bits .xor .u32 x0_1 ((((rd l1 x10_1) % 4294967296) * 16777216) % 4294967296)),(0),(by first|rfl|(simp;done)|(simp [*];done)),(by first|rfl|(simp;done)|(simp [*];done)),H',⟨Nat.le_refl _⟩,by repeat (first|exact Drawn0.refl _|apply Drawn0.step)⟩
   case round =>
    clear H';(try clear c1);(try clear p2);(try clear q2);(try clear hx2);(try clear c3);(try clear c3b0);(try clear c4);(try clear c4b0);(try clear c5);(try clear c5b0);(try clear hx224_0);(try clear p2);(try clear p224);(try clear q224);obtain ⟨x0_2,x19_2,rfl,rfl,HA,HK2,⟨m2,rfl⟩⟩:=hrel
    cases gk with
    | zero=>exact absurd HA.out (by simp [tally_More.l1])
    | succ k2 =>
     have H:=HA.out;clear HA
     simp only [tally_More.l1] at H
     by_cases c6 : x19_2<8
     rotate_left
     ·rw [if_neg c6] at H
      have c6b0 : decide (x19_2<8)=false:=df_ c6;clear c6;have H':=A_ H;clear H;go_wp2;go_roundg k2
      case measure=>have:=HK1.out;have:=HK2.out;omega
      case rel=>exact ⟨(x0_2),(wrap64 (x10_1 + 1)),(by first|rfl|(simp;done)|(simp [*];done)),(by first|rfl|(simp;done)|(simp [*];done)),H',⟨by have:=HK1.out;have:=HK2.out;omega⟩,by repeat (first|exact Drawn0.refl _|apply Drawn0.step)⟩
     rw [if_pos c6] at H
     have c6b0 : decide (x19_2<8)=true:=dt_ c6;clear c6
     by_cases c7 : (x0_2 / 2147483648)=1
     rotate_left
     ·rw [if_neg c7] at H
      have c7b0 : ((x0_2 / 2147483648) == 1)=false:=beq_eq_false_iff_ne.mpr c7;have c7b1 : ((x0_2 / 2147483648) != 1)=true:=bne_iff_ne.mpr c7;have H':=A_ H;clear H;go_wp2;go_roundg k2
      case measure=>have:=HK1.out;have:=HK2.out;omega
      case rel=>exact ⟨((x0_2 * 2) % 4294967296),(wrap64 (x19_2 + 1)),(by first|rfl|(simp;done)|(simp [*];done)),(by first|rfl|(simp;done)|(simp [*];done)),H',⟨by have:=HK1.out;have:=HK2.out;omega⟩,by repeat (first|exact Drawn0.refl _|apply Drawn0.step)⟩
     rw [if_pos c7] at H
     have c7b0 : ((x0_2 / 2147483648) == 1)=true:=beq_iff_eq.mpr c7;have c7b1 : ((x0_2 / 2147483648) != 1)=false:=bne_eq_false_iff_eq.mpr c7;clear c7;have H':=A_ H;clear H;go_wp2;go_roundg k2
     case measure=>have:=HK1.out;have:=HK2.out;omega
     case rel=>exact ⟨(Go.bits .xor .u32 ((x0_2 * 2) % 4294967296) 2168537515),(wrap64 (x19_2 + 1)),(by first|rfl|(simp;done)|(simp [*];done)),(by first|rfl|(simp;done)|(simp [*];done)),H',⟨by have:=HK1.out;have:=HK2.out;omega⟩,by repeat (first|exact Drawn0.refl _|apply Drawn0.step)⟩
def tally_Sum.f (k : Nat) (l0 : List Int) : Option (Int):=(tally_More.f k 4294967295 l0).bind fun t225=>(some t225)
set_option maxHeartbeats 8000000 in
set_option maxRecDepth 100000 in
theorem tally_Sum.calls (k : Nat) (A0 : Option Addr) (c0 : Nat) (l0 : List Int) (r : Int) (w : World) (hr0 : Kd.C (Kd.int .u8) w A0 l0.length l0) (hc0 : l0.length≤c0) (h : tally_Sum.f k l0=some r) :
  Calls Tryd.prog 53 #[.slice A0 l0.length c0] w fun e w'=>e=.returned (.int .u32 r)∧Drawn0 w w':=by
 have HR0:=A_ hr0;have HC0:=A_ hc0;clear hr0 hc0
 have H : ((tally_More.f k 4294967295 l0).bind fun t225=>(some t225))=some r:=h
 clear h;replace H:=Option.bind_eq_some_iff.mp H;obtain ⟨t225,A20,H⟩:=H;replace H : (some t225)=some r:=H;have A2:=A_ A20;clear A20;obtain rfl:=Option.some.inj H;go_enter Tryd.func53,Tryd.ntmps53
 go_wp2_with (first|((with_reducible refine gate_callee (f:=70) rfl ?_);refine goesL_ (some 4) rfl rfl Tryd.func70 (by kernel_rfl) rfl #[.int .u32 4294967295,.slice A0 l0.length c0] rfl (by (try simp only [List.map_toArray,List.map_cons,List.map_nil]);first|done|rfl|(simp only [List.length_drop,List.length_take];rfl)) ?_;(with_reducible refine (tally_More.calls k 4294967295 _ _ l0 t225 _ ?side1 ?side2 A2.out).mono ?_);(case side1=>repeat (first|exact HR0.out|(with_reducible refine Kd.C_alloc ?_ _)|(with_reducible refine Kd.C_drewN ?_ _)|(with_reducible refine Kd.C_drew ?_)));(case side2=>exact HC0.out);rintro e w' ⟨rfl,⟨nd,rfl⟩⟩;refine ⟨_,rfl,?_⟩))
 go_ret
 exact ⟨by first|rfl|(simp;done)|(simp [*];done),by repeat (first|exact Drawn0.refl _|apply Drawn0.step)⟩
def tally_Seal.f (k : Nat) (l0 : List Int) : Option (List Int):=(tally_Sum.f k l0).bind fun t226=>((some (([(t226 / 16777216) % 256,(t226 / 65536) % 256,(t226 / 256) % 256,(t226) % 256] : List Int) : List Int)).bind fun y227=>(if y227.length + l0.length<140737488355328 then (some (y227++l0)) else (none)))
set_option maxHeartbeats 8000000 in
set_option maxRecDepth 100000 in
theorem tally_Seal.calls (k : Nat) (A0 : Option Addr) (c0 : Nat) (l0 : List Int) (r : List Int) (w : World) (hr0 : Kd.C (Kd.int .u8) w A0 l0.length l0) (hc0 : l0.length≤c0) (h : tally_Seal.f k l0=some r) :
  Calls Tryd.prog 28 #[.slice A0 l0.length c0] w fun e w'=>∃ v0_ : Value,e=.returned (v0_)∧Kd.R (Kd.int .u8) 5 w' w.heap.size (fun _=>True) v0_ r∧Below w.heap.size w w':=by
 have HR0:=A_ hr0;have HC0:=A_ hc0;clear hr0 hc0;have HB:=A_ (Below.refl w.heap.size w)
 have H : ((tally_Sum.f k l0).bind fun t226=>((some (([(t226 / 16777216) % 256,(t226 / 65536) % 256,(t226 / 256) % 256,(t226) % 256] : List Int) : List Int)).bind fun y227=>(if y227.length + l0.length<140737488355328 then (some (y227++l0)) else (none))))=some r:=h
 clear h;replace H:=Option.bind_eq_some_iff.mp H;obtain ⟨t226,A20,H⟩:=H
 replace H : ((some (([(t226 / 16777216) % 256,(t226 / 65536) % 256,(t226 / 256) % 256,(t226) % 256] : List Int) : List Int)).bind fun y227=>(if y227.length + l0.length<140737488355328 then (some (y227++l0)) else (none)))=some r:=H
 have A2:=A_ A20;clear A20
 obtain ⟨y227,hy227⟩ : ∃ y_ : List Int,y_=(([(t226 / 16777216) % 256,(t226 / 65536) % 256,(t226 / 256) % 256,(t226) % 256] : List Int)):=⟨_,rfl⟩
 replace H : (if y227.length + l0.length<140737488355328 then (some (y227++l0)) else (none))=some r:=by first|(rw [hy227];with_reducible exact H)|(have H2_:=(Option.bind_some _ _).symm.trans H;rw [hy227];with_reducible exact H2_)|(have H2_:=(Option.bind_some _ _).symm.trans H;with_reducible exact H2_)|with_reducible exact H|(rw [hy227];exact H)|exact H
 have Ny227:=A_ hy227;clear hy227
 by_cases c3 : y227.length + l0.length<140737488355328
 rotate_left
 ·rw [if_neg c3] at H
  exact absurd H (by simp)
 rw [if_pos c3] at H
 have LMc3:=A_ c3;clear c3
 obtain ⟨y230,hy230⟩ : ∃ y_ : List Int,y_=(y227++l0):=⟨_,rfl⟩
 replace H : (some y230)=some r:=by first|(rw [hy230];with_reducible exact H)|(have H2_:=(Option.bind_some _ _).symm.trans H;rw [hy230];with_reducible exact H2_)|(have H2_:=(Option.bind_some _ _).symm.trans H;with_reducible exact H2_)|with_reducible exact H|(rw [hy230];exact H)|exact H
 have Ny230:=A_ hy230;clear hy230;obtain rfl:=Option.some.inj H;go_enter Tryd.func28,Tryd.ntmps28
 go_wp2_with (first|((with_reducible refine gate_callee (f:=53) rfl ?_);refine goesL_ (some 5) rfl rfl Tryd.func53 (by kernel_rfl) rfl #[.slice A0 l0.length c0] rfl (by (try simp only [List.map_toArray,List.map_cons,List.map_nil]);first|done|rfl|(simp only [List.length_drop,List.length_take];rfl)) ?_;(with_reducible refine (tally_Sum.calls k _ _ l0 t226 _ ?side1 ?side2 A2.out).mono ?_);(case side1=>repeat (first|exact HR0.out|(with_reducible refine Kd.C_alloc ?_ _)|(with_reducible refine Kd.C_drewN ?_ _)|(with_reducible refine Kd.C_drew ?_)));(case side2=>exact HC0.out);rintro e w' ⟨rfl,⟨nd,rfl⟩⟩;refine ⟨_,rfl,?_⟩)|((with_reducible refine gate_dst (N:=17) rfl ?_);refine Kd.R_lit (Kd.int .u8) _ 5 ?hg (N:=17) ?hd (xs:=([(t226 / 16777216) % 256,(t226 / 65536) % 256,(t226 / 256) % 256,(t226) % 256] : List Int)) (inner:=[.int .u8 ((t226 / 16777216) % 256),.int .u8 ((t226 / 65536) % 256),.int .u8 ((t226 / 256) % 256),.int .u8 ((t226) % 256)]) (ok:=fun _=>True) (okp:=fun _=>True) ?hr ?hp (fun _ hk=>hk) trivial (Below.refl _ _) (Nat.le_refl _) (by simp) ?_;(case hd=>rfl);(case hg=>rfl);(case hr=>first|(go_simp;done)|(go_simp;rfl));(case hp=>exact (Reps.one (show Kd.M (Kd.int .u8) _ _ _ ((t226 / 16777216) % 256) [.int .u8 ((t226 / 16777216) % 256)] from rfl) (Reps.one (show Kd.M (Kd.int .u8) _ _ _ ((t226 / 65536) % 256) [.int .u8 ((t226 / 65536) % 256)] from rfl) (Reps.one (show Kd.M (Kd.int .u8) _ _ _ ((t226 / 256) % 256) [.int .u8 ((t226 / 256) % 256)] from rfl) (Reps.one (show Kd.M (Kd.int .u8) _ _ _ ((t226) % 256) [.int .u8 ((t226) % 256)] from rfl) (Reps.none _ _))))));intro v228 w4 ho5 hb hg_ hnew_;clear hg_ hnew_;(first|rw [← Ny227.out] at ho5|(simp only [Int.reduceToNat] at ho5;rw [← Ny227.out] at ho5));have n0_:=A_ (Kd.R_lower ho5 (bz_ (hb0_ HB.out)));have n1_:=A_ (bp_ (hb0_ HB.out) hb);clear HB;have HO229:=n0_;have HB:=n1_;clear n0_ n1_;clear hb ho5)|((with_reducible refine gate_builtin (b:=.append) (xs:=#[.tmp 17,.tmp 18]) rfl ?_);at_builtin;refine Kd.R_append_rows (Kd.int .u8) (w0:=w) w.heap.size rfl (.tmp 17) (.tmp 18) 22 5 (.int .u8 0) 1 rfl Tryd.underlying22 info5 rfl (by decide) (by omega) v228 y227 l0 _ _ _ (fun _=>True) (fun _=>False) rfl rfl ?aO ?aR (fun _ _ h=>h) (fun _ h=>h.elim) ?aF ?aB ?aS ?aL ?_;(case aR=>repeat (first|exact (Kd.C_below HR0.out HB.out)|(with_reducible refine Kd.C_alloc ?_ _)|(with_reducible refine Kd.C_drewN ?_ _)|(with_reducible refine Kd.C_drew ?_)));(case aB=>exact (hb0_ HB.out));(case aF=>exact (fun _ _=>trivial));(case aO=>exact (by (with_reducible repeat (first|apply ra_|apply rn_|apply re_));exact HO229.out));(case aS=>exact (bz_ (hb0_ HB.out)));(case aL=>have:=LMc3.out;omega);intro v231 w6 ho hb hg hat;rw [← Ny230.out] at ho;have n0_:=A_ (hb);have n1_:=A_ (ho);clear HB;clear HO229;have HB:=n0_;have HO232:=n1_;clear n0_ n1_;clear ho hb hg hat))
 go_ret
 exact ⟨_,by first|rfl|(simp [errW_none,errW_some] <;> rfl)|(simp [*,errW_none,errW_some] <;> rfl),by (with_reducible repeat (first|apply ra_|apply rn_|apply re_));exact HO232.out,hb0_ HB.out⟩
def tally_Open.f (k : Nat) (l0 : List Int) : Option (List Int × Int):=if (l0.length : Int)<4 then (some (([] : List Int),4)) else (if 4≤(l0.length : Int) then ((tally_Seal.f k (l0.drop 4)).bind fun t234=>(if 4≤(t234.length : Int) then (if (strOfNums (t234.take 4)).toList=(strOfNums (l0.take 4)).toList then (some ((t234.drop (4 : Int).toNat),0)) else (some (([] : List Int),5))) else (none))) else (none))
set_option maxHeartbeats 8000000 in
set_option maxRecDepth 100000 in
theorem tally_Open.calls (k : Nat) (A0 : Option Addr) (c0 : Nat) (l0 : List Int) (r1 : List Int) (r2 : Int) (w : World) (hr0 : Kd.C (Kd.int .u8) w A0 l0.length l0) (hc0 : l0.length≤c0) (h : tally_Open.f k l0=some (r1,r2)) :
  Calls Tryd.prog 21 #[.slice A0 l0.length c0] w fun e w'=>∃ v0_ : Value,e=.returned (.tuple #[v0_,.int .i64 r2])∧Kd.Q (Kd.int .u8) 5 w' w.heap.size (fun _=>True) v0_ r1∧Below w.heap.size w w':=by
 have HR0:=A_ hr0;have HC0:=A_ hc0;clear hr0 hc0;have HB:=A_ (Below.refl w.heap.size w)
 have H : (if (l0.length : Int)<4 then (some (([] : List Int),4)) else (if 4≤(l0.length : Int) then ((tally_Seal.f k (l0.drop 4)).bind fun t234=>(if 4≤(t234.length : Int) then (if (strOfNums (t234.take 4)).toList=(strOfNums (l0.take 4)).toList then (some ((t234.drop (4 : Int).toNat),0)) else (some (([] : List Int),5))) else (none))) else (none)))=some (r1,r2):=h
 clear h
 by_cases c2 : (l0.length : Int)<4
 ·rw [if_pos c2] at H
  have c2b0 : decide ((l0.length : Int)<4)=true:=dt_ c2
  have c2b1 : decide (l0.length<4)=true:=dt_ (by omega)
  clear c2
  simp only [Option.some.injEq,Prod.mk.injEq] at H
  obtain ⟨rfl,rfl⟩:=H;go_enter Tryd.func21,Tryd.ntmps21;go_wp2;go_ret2
  exact ⟨_,by first|rfl|(simp [errW_none,errW_some] <;> rfl)|(simp [*,errW_none,errW_some] <;> rfl),Kd.Q_of_R (by first|exact Kd.R_nil _ _ _ _ _|exact Kd.N_nil _ _ _ _ _|exact Kd.V_nil _ _ _ _ _|exact Kd.Q_nil _ _ _ _ _|exact Kd.S_nil _ _ _ _ _),hb0_ HB.out⟩
 rw [if_neg c2] at H
 have c2b0 : decide ((l0.length : Int)<4)=false:=df_ c2
 have c2b1 : decide (l0.length<4)=false:=df_ (by omega)
 clear c2
 by_cases c3 : 4≤(l0.length : Int)
 rotate_left
 ·rw [if_neg c3] at H
  exact absurd H (by simp)
 rw [if_pos c3] at H
 have c3b0:=eq_true c3;have c3b1 : decide (4≤(l0.length : Int))=true:=dt_ c3;clear c3;replace H:=Option.bind_eq_some_iff.mp H;obtain ⟨t234,A40,H⟩:=H
 replace H : (if 4≤(t234.length : Int) then (if (strOfNums (t234.take 4)).toList=(strOfNums (l0.take 4)).toList then (some ((t234.drop (4 : Int).toNat),0)) else (some (([] : List Int),5))) else (none))=some (r1,r2):=H
 have A4:=A_ A40;clear A40
 by_cases c5 : 4≤(t234.length : Int)
 rotate_left
 ·rw [if_neg c5] at H
  exact absurd H (by simp)
 rw [if_pos c5] at H
 have c5b0:=eq_true c5;have c5b1 : decide (4≤(t234.length : Int))=true:=dt_ c5;clear c5
 obtain ⟨y237,hy237⟩ : ∃ y_ : List Int,y_=(t234.take 4):=⟨_,rfl⟩
 replace H : (if (strOfNums y237).toList=(strOfNums (l0.take 4)).toList then (some ((t234.drop (4 : Int).toNat),0)) else (some (([] : List Int),5)))=some (r1,r2):=by first|(rw [hy237];with_reducible exact H)|(have H2_:=(Option.bind_some _ _).symm.trans H;rw [hy237];with_reducible exact H2_)|(have H2_:=(Option.bind_some _ _).symm.trans H;with_reducible exact H2_)|with_reducible exact H|(rw [hy237];exact H)|exact H
 have Ny237:=A_ hy237;clear hy237
 have c6b0:=eq_true (od_ (by first|(with_reducible assumption)|assumption) : 4≤(l0.length : Int))
 by_cases c7 : (strOfNums y237).toList=(strOfNums (l0.take 4)).toList
 rotate_left
 ·rw [if_neg c7] at H
  have c7b0 : ((strOfNums y237).toList == (strOfNums (l0.take 4)).toList)=false:=beq_eq_false_iff_ne.mpr c7;have c7b1 : ((strOfNums y237).toList != (strOfNums (l0.take 4)).toList)=true:=bne_iff_ne.mpr c7
  simp only [Option.some.injEq,Prod.mk.injEq] at H
  obtain ⟨rfl,rfl⟩:=H;obtain ⟨i016,hi016,_,hsz16,_⟩:=info_parts info5;(try clear hcut9)
  obtain ⟨A16,hcut16,hA16,hC16⟩:=print_drop_of (P:=Tryd.prog) (Value.int .u8) 0 22 5 .i64 Tryd.underlying22 hi016 hsz16 A0 c0 l0 4 (by omega) (od_ (by first|(with_reducible assumption)|assumption)) HC0.out
  have HR233:=A_ (Kd.C_of_reads (h1:=fun _=>rfl) (hA16 _ (Kd.reads_of_C HR0.out)))
  have HC233:=A_ hC16;clear hA16 hC16 hi016 hsz16;go_enter Tryd.func21,Tryd.ntmps21
  try go_wp2_with (first|((with_reducible refine gate_callee (f:=28) rfl ?_);refine goesL_ (some 10) rfl rfl Tryd.func28 (by kernel_rfl) rfl #[.slice A16 (l0.drop 4).length (c0 - 4)] rfl (by (try simp only [List.map_toArray,List.map_cons,List.map_nil]);first|done|(rw [show (l0.drop 4).length=(l0.length - 4) from List.length_drop] <;> rfl)|rfl|(simp only [List.length_drop,List.length_take];rfl)) ?_;(with_reducible refine (tally_Seal.calls k _ _ (l0.drop 4) t234 _ ?side1 ?side2 A4.out).mono ?_);(case side1=>repeat (first|exact HR233.out|(with_reducible refine Kd.C_alloc ?_ _)|(with_reducible refine Kd.C_drewN ?_ _)|(with_reducible refine Kd.C_drew ?_)));(case side2=>exact HC233.out);rintro e w17 ⟨v235,rfl,ho0,hb⟩;refine ⟨_,rfl,?_⟩;have n0_:=A_ (Kd.R_lower ho0 (bz_ (hb0_ HB.out)));have n1_:=A_ (bp_ (hb0_ HB.out) hb);clear HB;have HO236:=n0_;have HB:=n1_;clear n0_ n1_;(try clear hb);(try clear hb2);(try clear hk);(try clear hi);(try clear ho0)))
  have n0_:=A_ (re_ HO236.out);have n1_:=A_ (be_ HB.out);clear HO236;clear HB;have HO236:=n0_;have HB:=n1_;clear n0_ n1_;obtain ⟨Ao20,co20,eo20⟩:=Kd.R_slice HO236.out
  (first|subst eo20|(injection eo20 with f1_ f2_ f3_;have f4_:=f1_.symm;have f5_:=f3_.symm;clear f1_ f2_ f3_;subst f4_;subst f5_))
  have q19 : (4 : Int)≤((t234.length : Int) : Int):=od_ (by first|(with_reducible assumption)|assumption)
  obtain ⟨i019,hi019,_,hsz19,_⟩:=info_parts info5;have hroom19 : t234.length≤co20:=(Kd.R_reads' HO236.out).2.1;have hC19 : Kd.C (Kd.int .u8) _ Ao20 t234.length t234:=(Kd.R_reads' HO236.out).2.2
  have hcut19:=cut_to (P:=Tryd.prog) 22 5 .i64 Tryd.underlying22 hi019 Ao20 t234.length co20 4 (by omega) q19 hroom19
  have hr19:=Kd.C_take (m:=4) hC19 (by omega)
  have hy19 : y237.length=(4 : Int).toNat:=(by rw [Ny237.out,List.length_take];omega)
  rw [← Ny237.out] at hr19;rw [← hy19] at hcut19;have HR240:=A_ hr19
  have HC240:=A_ (show y237.length≤co20 from by omega)
  clear hr19 hC19 hroom19 hi019 hsz19;have KY19:=A_ hy19;clear hy19
  have KL19:=A_ (show 4≤t234.length from by omega)
  replace q19:=eq_true q19;obtain ⟨i021,hi021,_,hsz21,_⟩:=info_parts info5
  obtain ⟨hcut21,hA21,hC21⟩:=print_take_of (P:=Tryd.prog) (Value.int .u8) 0 22 5 .i64 Tryd.underlying22 hi021 hsz21 A0 c0 l0 4 (by omega) (od_ (by first|(with_reducible assumption)|assumption)) HC0.out
  have HR241:=A_ (Kd.C_of_reads (h1:=fun _=>rfl) (hA21 _ (Kd.reads_of_C HR0.out)))
  have HC241:=A_ hC21;clear hA21 hC21 hi021 hsz21
  refine start_ (n:=7) (S:=fun w'=>(convert 22 9 (.slice Ao20 y237.length co20)).run Tryd.prog w'=.ok (.string (strOfNums y237)) w'∧(convert 22 9 (.slice A0 (min 4 l0.length) c0)).run Tryd.prog w'=.ok (.string (strOfNums (l0.take 4))) w') (ds:=[]) #[Z,Z,Z,Z,Z,Z,Z] (by kernel_rfl) rfl rfl ⟨Kd.C_string (P:=Tryd.prog) (A:=Ao20) (c:=co20) Tryd.underlying22 Tryd.underlying5 Tryd.underlying9 (by repeat (first|(with_reducible exact HR240.out)|(with_reducible refine Kd.C_alloc ?_ _)|(with_reducible refine Kd.C_drewN ?_ _)|(with_reducible refine Kd.C_drew ?_)|exact HR240.out)),(by first|(have h_:=Kd.C_string (P:=Tryd.prog) (A:=A0) (c:=c0) Tryd.underlying22 Tryd.underlying5 Tryd.underlying9 (Kd.C_below HR241.out HB.out);rw [List.length_take] at h_;exact h_)|(rw [← List.length_take];exact Kd.C_string (P:=Tryd.prog) (A:=A0) (c:=c0) Tryd.underlying22 Tryd.underlying5 Tryd.underlying9 (Kd.C_drewN (Kd.C_below HR241.out HB.out) _)))⟩ (fun hHeld=>?_)
  generalize w17.drew=w18 at HO236 HB HR240 HR241 hHeld ⊢
  refine pure_ (i:=0) (N:=some 11) (v:=?_) (a':=?_) #[Y,Z,Z,Z,Z,Z,Z] rfl rfl (by kernel_rfl) (fun _ _ _ h=>h) (Or.inl ⟨by rfl,?_⟩) ?_ ?_;rotate_left;(intro w';go_simp;with_reducible rfl);rotate_left;(simp only [Act.put,q1_,q2_,q3_,i64_w,i32_w];rfl)
  refine pure_ (i:=1) (N:=some 12) (v:=?_) (a':=?_) #[Y,Y,Z,Z,Z,Z,Z] rfl rfl (by kernel_rfl) (fun _ _ _ h=>h) (Or.inl ⟨by rfl,?_⟩) ?_ ?_;rotate_left;(intro w';go_simp;with_reducible rfl);rotate_left;(simp only [Act.put,q1_,q2_,q3_,i64_w,i32_w];rfl)
  refine pure_ (i:=3) (N:=some 14) (v:=?_) (a':=?_) #[Y,Y,Z,Y,Z,Z,Z] rfl rfl (by kernel_rfl) (fun _ _ _ h=>h) (Or.inl ⟨by rfl,?_⟩) ?_ ?_;rotate_left;(intro w';go_simp;with_reducible rfl);rotate_left;(simp only [Act.put,q1_,q2_,q3_,i64_w,i32_w];rfl)
  refine pure_ (i:=4) (N:=some 15) (v:=?_) (a':=?_) #[Y,Y,Z,Y,Y,Z,Z] rfl rfl (by kernel_rfl) (fun _ _ _ h=>h) (Or.inl ⟨by rfl,?_⟩) ?_ ?_;rotate_left;(intro w';go_simp;with_reducible rfl);rotate_left;(simp only [Act.put,q1_,q2_,q3_,i64_w,i32_w];rfl)
  refine take_ (i:=2) (N:=some 13) (v:=?_) (a':=?_) #[Y,Y,Y,Y,Y,Z,Z] rfl rfl (by kernel_rfl) (fun _ _ _ h=>h) (Or.inl ⟨by rfl,?_⟩) hHeld ?_ ?_;rotate_left;(rintro w' ⟨s0,s1⟩;go_simp;with_reducible rfl);rotate_left;(simp only [Act.put,q1_,q2_,q3_,i64_w,i32_w];rfl)
  refine take_ (i:=5) (N:=some 16) (v:=?_) (a':=?_) #[Y,Y,Y,Y,Y,Y,Z] rfl rfl (by kernel_rfl) (fun _ _ _ h=>h) (Or.inl ⟨by rfl,?_⟩) hHeld ?_ ?_;rotate_left;(rintro w' ⟨s0,s1⟩;go_simp;with_reducible rfl);rotate_left;(simp only [Act.put,q1_,q2_,q3_,i64_w,i32_w];rfl)
  refine pure_ (i:=6) (N:=some 17) (v:=?_) (a':=?_) #[Y,Y,Y,Y,Y,Y,Y] rfl rfl (by kernel_rfl) (fun _ _ _ h=>h) (Or.inl ⟨by rfl,?_⟩) ?_ ?_;rotate_left;(intro w';go_simp;with_reducible rfl);rotate_left;(simp only [Act.put,q1_,q2_,q3_,i64_w,i32_w];rfl)
  refine done_ (by kernel_rfl) ?_
  try go_wp2
  go_ret2
  exact ⟨_,by first|rfl|(simp [errW_none,errW_some] <;> rfl)|(simp [*,errW_none,errW_some] <;> rfl),Kd.Q_of_R (by first|exact Kd.R_nil _ _ _ _ _|exact Kd.N_nil _ _ _ _ _|exact Kd.V_nil _ _ _ _ _|exact Kd.Q_nil _ _ _ _ _|exact Kd.S_nil _ _ _ _ _),hb0_ HB.out⟩
 rw [if_pos c7] at H
 have c7b0 : ((strOfNums y237).toList == (strOfNums (l0.take 4)).toList)=true:=beq_iff_eq.mpr c7;have c7b1 : ((strOfNums y237).toList != (strOfNums (l0.take 4)).toList)=false:=bne_eq_false_iff_eq.mpr c7;clear c7
 have c8b0:=eq_true (od_ (by first|(with_reducible assumption)|assumption) : 4≤(t234.length : Int))
 obtain ⟨y242,hy242⟩ : ∃ y_ : List Int,y_=(t234.drop (4 : Int).toNat):=⟨_,rfl⟩
 replace H : (some (y242,0))=some (r1,r2):=by first|(rw [hy242];with_reducible exact H)|(have H2_:=(Option.bind_some _ _).symm.trans H;rw [hy242];with_reducible exact H2_)|(have H2_:=(Option.bind_some _ _).symm.trans H;with_reducible exact H2_)|with_reducible exact H|(rw [hy242];exact H)|exact H
 have Ny242:=A_ hy242;clear hy242
 simp only [Option.some.injEq,Prod.mk.injEq] at H
 obtain ⟨rfl,rfl⟩:=H;obtain ⟨i09,hi09,_,hsz9,_⟩:=info_parts info5
 obtain ⟨A9,hcut9,hA9,hC9⟩:=print_drop_of (P:=Tryd.prog) (Value.int .u8) 0 22 5 .i64 Tryd.underlying22 hi09 hsz9 A0 c0 l0 4 (by omega) (od_ (by first|(with_reducible assumption)|assumption)) HC0.out
 have HR233:=A_ (Kd.C_of_reads (h1:=fun _=>rfl) (hA9 _ (Kd.reads_of_C HR0.out)))
 have HC233:=A_ hC9;clear hA9 hC9 hi09 hsz9;go_enter Tryd.func21,Tryd.ntmps21
 try go_wp2_with (first|((with_reducible refine gate_callee (f:=28) rfl ?_);refine goesL_ (some 10) rfl rfl Tryd.func28 (by kernel_rfl) rfl #[.slice A9 (l0.drop 4).length (c0 - 4)] rfl (by (try simp only [List.map_toArray,List.map_cons,List.map_nil]);first|done|(rw [show (l0.drop 4).length=(l0.length - 4) from List.length_drop] <;> rfl)|rfl|(simp only [List.length_drop,List.length_take];rfl)) ?_;(with_reducible refine (tally_Seal.calls k _ _ (l0.drop 4) t234 _ ?side1 ?side2 A4.out).mono ?_);(case side1=>repeat (first|exact HR233.out|(with_reducible refine Kd.C_alloc ?_ _)|(with_reducible refine Kd.C_drewN ?_ _)|(with_reducible refine Kd.C_drew ?_)));(case side2=>exact HC233.out);rintro e w10 ⟨v235,rfl,ho0,hb⟩;refine ⟨_,rfl,?_⟩;have n0_:=A_ (Kd.R_lower ho0 (bz_ (hb0_ HB.out)));have n1_:=A_ (bp_ (hb0_ HB.out) hb);clear HB;have HO236:=n0_;have HB:=n1_;clear n0_ n1_;(try clear hb);(try clear hb2);(try clear hk);(try clear hi);(try clear ho0)))
 have n0_:=A_ (re_ HO236.out);have n1_:=A_ (be_ HB.out);clear HO236;clear HB;have HO236:=n0_;have HB:=n1_;clear n0_ n1_;obtain ⟨Ao13,co13,eo13⟩:=Kd.R_slice HO236.out
 (first|subst eo13|(injection eo13 with f1_ f2_ f3_;have f4_:=f1_.symm;have f5_:=f3_.symm;clear f1_ f2_ f3_;subst f4_;subst f5_))
 have q12 : (4 : Int)≤((t234.length : Int) : Int):=od_ (by first|(with_reducible assumption)|assumption)
 obtain ⟨i012,hi012,_,hsz12,_⟩:=info_parts info5;have hroom12 : t234.length≤co13:=(Kd.R_reads' HO236.out).2.1;have hC12 : Kd.C (Kd.int .u8) _ Ao13 t234.length t234:=(Kd.R_reads' HO236.out).2.2
 have hcut12:=cut_to (P:=Tryd.prog) 22 5 .i64 Tryd.underlying22 hi012 Ao13 t234.length co13 4 (by omega) q12 hroom12
 have hr12:=Kd.C_take (m:=4) hC12 (by omega)
 have hy12 : y237.length=(4 : Int).toNat:=(by rw [Ny237.out,List.length_take];omega)
 rw [← Ny237.out] at hr12;rw [← hy12] at hcut12;have HR240:=A_ hr12
 have HC240:=A_ (show y237.length≤co13 from by omega)
 clear hr12 hC12 hroom12 hi012 hsz12;have KY12:=A_ hy12;clear hy12
 have KL12:=A_ (show 4≤t234.length from by omega)
 replace q12:=eq_true q12;obtain ⟨i014,hi014,_,hsz14,_⟩:=info_parts info5
 obtain ⟨hcut14,hA14,hC14⟩:=print_take_of (P:=Tryd.prog) (Value.int .u8) 0 22 5 .i64 Tryd.underlying22 hi014 hsz14 A0 c0 l0 4 (by omega) (od_ (by first|(with_reducible assumption)|assumption)) HC0.out
 have HR241:=A_ (Kd.C_of_reads (h1:=fun _=>rfl) (hA14 _ (Kd.reads_of_C HR0.out)))
 have HC241:=A_ hC14;clear hA14 hC14 hi014 hsz14
 refine start_ (n:=7) (S:=fun w'=>(convert 22 9 (.slice Ao13 y237.length co13)).run Tryd.prog w'=.ok (.string (strOfNums y237)) w'∧(convert 22 9 (.slice A0 (min 4 l0.length) c0)).run Tryd.prog w'=.ok (.string (strOfNums (l0.take 4))) w') (ds:=[]) #[Z,Z,Z,Z,Z,Z,Z] (by kernel_rfl) rfl rfl ⟨Kd.C_string (P:=Tryd.prog) (A:=Ao13) (c:=co13) Tryd.underlying22 Tryd.underlying5 Tryd.underlying9 (by repeat (first|(with_reducible exact HR240.out)|(with_reducible refine Kd.C_alloc ?_ _)|(with_reducible refine Kd.C_drewN ?_ _)|(with_reducible refine Kd.C_drew ?_)|exact HR240.out)),(by first|(have h_:=Kd.C_string (P:=Tryd.prog) (A:=A0) (c:=c0) Tryd.underlying22 Tryd.underlying5 Tryd.underlying9 (Kd.C_below HR241.out HB.out);rw [List.length_take] at h_;exact h_)|(rw [← List.length_take];exact Kd.C_string (P:=Tryd.prog) (A:=A0) (c:=c0) Tryd.underlying22 Tryd.underlying5 Tryd.underlying9 (Kd.C_drewN (Kd.C_below HR241.out HB.out) _)))⟩ (fun hHeld=>?_)
 generalize w10.drew=w11 at HO236 HB HR240 HR241 hHeld ⊢
 refine pure_ (i:=0) (N:=some 11) (v:=?_) (a':=?_) #[Y,Z,Z,Z,Z,Z,Z] rfl rfl (by kernel_rfl) (fun _ _ _ h=>h) (Or.inl ⟨by rfl,?_⟩) ?_ ?_;rotate_left;(intro w';go_simp;with_reducible rfl);rotate_left;(simp only [Act.put,q1_,q2_,q3_,i64_w,i32_w];rfl)
 refine pure_ (i:=1) (N:=some 12) (v:=?_) (a':=?_) #[Y,Y,Z,Z,Z,Z,Z] rfl rfl (by kernel_rfl) (fun _ _ _ h=>h) (Or.inl ⟨by rfl,?_⟩) ?_ ?_;rotate_left;(intro w';go_simp;with_reducible rfl);rotate_left;(simp only [Act.put,q1_,q2_,q3_,i64_w,i32_w];rfl)
 refine pure_ (i:=3) (N:=some 14) (v:=?_) (a':=?_) #[Y,Y,Z,Y,Z,Z,Z] rfl rfl (by kernel_rfl) (fun _ _ _ h=>h) (Or.inl ⟨by rfl,?_⟩) ?_ ?_;rotate_left;(intro w';go_simp;with_reducible rfl);rotate_left;(simp only [Act.put,q1_,q2_,q3_,i64_w,i32_w];rfl)
 refine pure_ (i:=4) (N:=some 15) (v:=?_) (a':=?_) #[Y,Y,Z,Y,Y,Z,Z] rfl rfl (by kernel_rfl) (fun _ _ _ h=>h) (Or.inl ⟨by rfl,?_⟩) ?_ ?_;rotate_left;(intro w';go_simp;with_reducible rfl);rotate_left;(simp only [Act.put,q1_,q2_,q3_,i64_w,i32_w];rfl)
 refine take_ (i:=2) (N:=some 13) (v:=?_) (a':=?_) #[Y,Y,Y,Y,Y,Z,Z] rfl rfl (by kernel_rfl) (fun _ _ _ h=>h) (Or.inl ⟨by rfl,?_⟩) hHeld ?_ ?_;rotate_left;(rintro w' ⟨s0,s1⟩;go_simp;with_reducible rfl);rotate_left;(simp only [Act.put,q1_,q2_,q3_,i64_w,i32_w];rfl)
 refine take_ (i:=5) (N:=some 16) (v:=?_) (a':=?_) #[Y,Y,Y,Y,Y,Y,Z] rfl rfl (by kernel_rfl) (fun _ _ _ h=>h) (Or.inl ⟨by rfl,?_⟩) hHeld ?_ ?_;rotate_left;(rintro w' ⟨s0,s1⟩;go_simp;with_reducible rfl);rotate_left;(simp only [Act.put,q1_,q2_,q3_,i64_w,i32_w];rfl)
 refine pure_ (i:=6) (N:=some 17) (v:=?_) (a':=?_) #[Y,Y,Y,Y,Y,Y,Y] rfl rfl (by kernel_rfl) (fun _ _ _ h=>h) (Or.inl ⟨by rfl,?_⟩) ?_ ?_;rotate_left;(intro w';go_simp;with_reducible rfl);rotate_left;(simp only [Act.put,q1_,q2_,q3_,i64_w,i32_w];rfl)
 refine done_ (by kernel_rfl) ?_
 have q15 : (4 : Int)≤((t234.length : Int) : Int):=od_ (by first|(with_reducible assumption)|assumption)
 obtain ⟨i015,hi015,_,hsz15,_⟩:=info_parts info5
 have hcut15:=cut_from (P:=Tryd.prog) 22 5 .i64 Tryd.underlying22 hi015 1 hsz15 Ao13 t234.length co13 4 (by omega) q15
 have hr15:=Kd.Q_drop (k:=(4 : Int).toNat) (Kd.Q_of_R HO236.out) (by omega)
 obtain ⟨A15,hA15⟩ : ∃ A1,A1=(if co13=(4 : Int).toNat then Ao13 else (Ao13 : Option Addr).map (·.add ((4 : Int).toNat * 1))):=⟨_,rfl⟩
 obtain ⟨c15,hc15⟩ : ∃ c1,c1=co13 - (4 : Int).toNat:=⟨_,rfl⟩
 have hy15 : y242.length=t234.length - (4 : Int).toNat:=(by rw [Ny242.out,List.length_drop])
 rw [← Ny242.out] at hr15;rw [← hy15,← hA15,← hc15] at hcut15
 replace hr15 : Kd.Q (Kd.int .u8) 5 w11 w.heap.size (fun _=>True) (.slice A15 y242.length c15) y242:=(by rw [hA15,hc15,hy15];exact hr15)
 have HE15 : Aside0 ((Value.slice A15 y242.length c15).ownBlock=(.slice Ao13 t234.length co13 : Value).ownBlock):=⟨by rw [hA15];split <;> (cases (Ao13 : Option Addr) <;> rfl)⟩
 clear hy15 hi015 hsz15 HO236 hA15 hc15;have HO244:=A_ hr15;clear hr15;replace q15:=eq_true q15
 try go_wp2
 go_ret2
 exact ⟨_,by first|rfl|(simp [errW_none,errW_some] <;> rfl)|(simp [*,errW_none,errW_some] <;> rfl),by (with_reducible repeat (first|apply Kd.Q_alloc|apply Kd.Q_drewN|apply Kd.Q_drew));exact HO244.out,hb0_ HB.out⟩
def humusref02_Four.f (a0 : Int) : Option (List Int):=some (([((Int.tdiv a0 16777216) % 4294967296) % 256,((Int.tdiv a0 65536) % 4294967296) % 256,((Int.tdiv a0 256) % 4294967296) % 256,(a0) % 256] : List Int))
set_option maxHeartbeats 8000000 in
set_option maxRecDepth 100000 in
theorem humusref02_Four.calls (a0 : Int) (r : List Int) (w : World) (h : humusref02_Four.f a0=some r) :
  Calls Tryd.prog 43 #[.int .u32 a0] w fun e w'=>∃ v0_ : Value,e=.returned (v0_)∧Kd.R (Kd.int .u8) 5 w' w.heap.size (fun _=>True) v0_ r∧Below w.heap.size w w':=by
 have HB:=A_ (Below.refl w.heap.size w);have H : (some (([((Int.tdiv a0 16777216) % 4294967296) % 256,((Int.tdiv a0 65536) % 4294967296) % 256,((Int.tdiv a0 256) % 4294967296) % 256,(a0) % 256] : List Int)))=some r:=h;clear h
 obtain ⟨y304,hy304⟩ : ∃ y_ : List Int,y_=(([((Int.tdiv a0 16777216) % 4294967296) % 256,((Int.tdiv a0 65536) % 4294967296) % 256,((Int.tdiv a0 256) % 4294967296) % 256,(a0) % 256] : List Int)):=⟨_,rfl⟩
 replace H : (some y304)=some r:=by first|(rw [hy304];with_reducible exact H)|(have H2_:=(Option.bind_some _ _).symm.trans H;rw [hy304];with_reducible exact H2_)|(have H2_:=(Option.bind_some _ _).symm.trans H;with_reducible exact H2_)|with_reducible exact H|(rw [hy304];exact H)|exact H
 have Ny304:=A_ hy304;clear hy304;obtain rfl:=Option.some.inj H;go_enter Tryd.func43,Tryd.ntmps43
 go_wp2_with (first|((with_reducible refine gate_dst (N:=14) rfl ?_);refine Kd.R_lit (Kd.int .u8) _ 5 ?hg (N:=14) ?hd (xs:=([((Int.tdiv a0 16777216) % 4294967296) % 256,((Int.tdiv a0 65536) % 4294967296) % 256,((Int.tdiv a0 256) % 4294967296) % 256,(a0) % 256] : List Int)) (inner:=[.int .u8 (((Int.tdiv a0 16777216) % 4294967296) % 256),.int .u8 (((Int.tdiv a0 65536) % 4294967296) % 256),.int .u8 (((Int.tdiv a0 256) % 4294967296) % 256),.int .u8 ((a0) % 256)]) (ok:=fun _=>True) (okp:=fun _=>True) ?hr ?hp (fun _ hk=>hk) trivial (Below.refl _ _) (Nat.le_refl _) (by simp) ?_;(case hd=>rfl);(case hg=>rfl);(case hr=>first|(go_simp;done)|(go_simp;rfl));(case hp=>exact (Reps.one (show Kd.M (Kd.int .u8) _ _ _ (((Int.tdiv a0 16777216) % 4294967296) % 256) [.int .u8 (((Int.tdiv a0 16777216) % 4294967296) % 256)] from rfl) (Reps.one (show Kd.M (Kd.int .u8) _ _ _ (((Int.tdiv a0 65536) % 4294967296) % 256) [.int .u8 (((Int.tdiv a0 65536) % 4294967296) % 256)] from rfl) (Reps.one (show Kd.M (Kd.int .u8) _ _ _ (((Int.tdiv a0 256) % 4294967296) % 256) [.int .u8 (((Int.tdiv a0 256) % 4294967296) % 256)] from rfl) (Reps.one (show Kd.M (Kd.int .u8) _ _ _ ((a0) % 256) [.int .u8 ((a0) % 256)] from rfl) (Reps.none _ _))))));intro v305 w2 ho3 hb hg_ hnew_;clear hg_ hnew_;(first|rw [← Ny304.out] at ho3|(simp only [Int.reduceToNat] at ho3;rw [← Ny304.out] at ho3));have n0_:=A_ (Kd.R_lower ho3 (bz_ (hb0_ HB.out)));have n1_:=A_ (bp_ (hb0_ HB.out) hb);clear HB;have HO306:=n0_;have HB:=n1_;clear n0_ n1_;clear hb ho3))
 go_ret
 exact ⟨_,by first|rfl|(simp [errW_none,errW_some] <;> rfl)|(simp [*,errW_none,errW_some] <;> rfl),by (with_reducible repeat (first|apply ra_|apply rn_|apply re_));exact HO306.out,hb0_ HB.out⟩
def humusref02_Sum.l0 : Nat→List Int→Int→Int→Option (Int)
 | 0,_,_,_=>none
 | k + 1,x0,x3,x4=>if x4<(wrap64 (8 * (x0.length : Int))) then (if 0≤(wrap64 (Int.tdiv x4 8)) then (if (wrap64 (Int.tdiv x4 8))<(x0.length : Int) then (if 0≤(IntKind.u64.wrap (wrap64 (7 - (Int.tmod x4 8)))) then (if (IntKind.u64.wrap (Int.tdiv x3 2147483648))=(Int.tmod (shr .u64 (IntKind.u64.wrap (rd x0 (wrap64 (Int.tdiv x4 8)))) (IntKind.u64.wrap (wrap64 (7 - (Int.tmod x4 8))))) 2) then (humusref02_Sum.l0 k x0 (Int.tmod (IntKind.u64.wrap (x3 * 2)) 4294967296) (wrap64 (x4 + 1))) else (humusref02_Sum.l0 k x0 (Go.bits .xor .u64 (Int.tmod (IntKind.u64.wrap (x3 * 2)) 4294967296) 2168537515) (wrap64 (x4 + 1)))) else (none)) else (none)) else (none)) else (some ((x3) % 4294967296))
def humusref02_Sum.f (k : Nat) (l0 : List Int) : Option (Int):=humusref02_Sum.l0 k l0 4294967295 0
set_option maxHeartbeats 8000000 in
set_option maxRecDepth 100000 in
theorem humusref02_Sum.calls (k : Nat) (A0 : Option Addr) (c0 : Nat) (l0 : List Int) (r : Int) (w : World) (hr0 : Kd.C (Kd.int .u8) w A0 l0.length l0) (hc0 : l0.length≤c0) (h : humusref02_Sum.f k l0=some r) :
  Calls Tryd.prog 44 #[.slice A0 l0.length c0] w fun e w'=>e=.returned (.int .u32 r)∧Drawn0 w w':=by
 have HR0:=A_ hr0;have HC0:=A_ hc0;clear hr0 hc0;have H : (humusref02_Sum.l0 k l0 4294967295 0)=some r:=h;clear h;have H':=A_ H;clear H;go_enter Tryd.func44,Tryd.ntmps44;go_wp2
 go_loopg [3,4] k (fun kq v3 v4 w'=>∃ (x3_1 : Int) (x4_1 : Int),v3=.int .u64 x3_1∧v4=.int .i64 x4_1∧Aside0 (humusref02_Sum.l0 kq l0 x3_1 x4_1=some r)∧Aside0 (kq≤k)∧Drawn0 w w')
 case atStart=>exact ⟨(4294967295),(0),(by first|rfl|(simp;done)|(simp [*];done)),(by first|rfl|(simp;done)|(simp [*];done)),H',⟨Nat.le_refl _⟩,by repeat (first|exact Drawn0.refl _|apply Drawn0.step)⟩
 case round =>
  clear H';obtain ⟨x3_1,x4_1,rfl,rfl,HA,HK1,⟨m1,rfl⟩⟩:=hrel
  cases gk with
  | zero=>exact absurd HA.out (by simp [humusref02_Sum.l0])
  | succ k1 =>
   have H:=HA.out;clear HA
   simp only [humusref02_Sum.l0] at H
   by_cases c2 : x4_1<(wrap64 (8 * (l0.length : Int)))
   rotate_left
   ·rw [if_neg c2] at H
    have c2b0 : decide (x4_1<(wrap64 (8 * (l0.length : Int))))=false:=df_ c2;clear c2;obtain rfl:=Option.some.inj H;go_wp2;go_ret
    exact ⟨by first|rfl|(simp;done)|(simp [*];done),by repeat (first|exact Drawn0.refl _|apply Drawn0.step)⟩
   rw [if_pos c2] at H
   have c2b0 : decide (x4_1<(wrap64 (8 * (l0.length : Int))))=true:=dt_ c2;clear c2
   obtain ⟨ji3,hji3⟩ : ∃ j_ : Int,(wrap64 (Int.tdiv x4_1 8))=j_:=⟨_,rfl⟩
   replace H : (if 0≤(ji3) then (if (ji3)<(l0.length : Int) then (if 0≤(IntKind.u64.wrap (wrap64 (7 - (Int.tmod x4_1 8)))) then (if (IntKind.u64.wrap (Int.tdiv x3_1 2147483648))=(Int.tmod (shr .u64 (IntKind.u64.wrap (rd l0 (ji3))) (IntKind.u64.wrap (wrap64 (7 - (Int.tmod x4_1 8))))) 2) then (humusref02_Sum.l0 k1 l0 (Int.tmod (IntKind.u64.wrap (x3_1 * 2)) 4294967296) (wrap64 (x4_1 + 1))) else (humusref02_Sum.l0 k1 l0 (Go.bits .xor .u64 (Int.tmod (IntKind.u64.wrap (x3_1 * 2)) 4294967296) 2168537515) (wrap64 (x4_1 + 1)))) else (none)) else (none)) else (none))=some r:=by first|(rw [hji3] at H;exact H)|(simp only [hji3] at H ⊢;exact H)
   have hji3w : (IntKind.i64.wrap (Int.tdiv x4_1 8))=ji3:=(i64_w _).trans hji3
   by_cases c4 : 0≤(ji3)
   rotate_left
   ·rw [if_neg c4] at H
    exact absurd H (by simp)
   rw [if_pos c4] at H
   have c4b0 : decide (0≤(ji3))=true:=dt_ c4;clear c4
   by_cases c5 : (ji3)<(l0.length : Int)
   rotate_left
   ·rw [if_neg c5] at H
    exact absurd H (by simp)
   rw [if_pos c5] at H
   have c5b0 : decide ((ji3)<(l0.length : Int))=true:=dt_ c5;clear c5
   obtain ⟨ji6,hji6⟩ : ∃ j_ : Int,(IntKind.u64.wrap (wrap64 (7 - (Int.tmod x4_1 8))))=j_:=⟨_,rfl⟩
   replace H : (if 0≤(ji6) then (if (IntKind.u64.wrap (Int.tdiv x3_1 2147483648))=(Int.tmod (shr .u64 (IntKind.u64.wrap (rd l0 (ji3))) (ji6)) 2) then (humusref02_Sum.l0 k1 l0 (Int.tmod (IntKind.u64.wrap (x3_1 * 2)) 4294967296) (wrap64 (x4_1 + 1))) else (humusref02_Sum.l0 k1 l0 (Go.bits .xor .u64 (Int.tmod (IntKind.u64.wrap (x3_1 * 2)) 4294967296) 2168537515) (wrap64 (x4_1 + 1)))) else (none))=some r:=by first|(rw [hji6] at H;exact H)|(simp only [hji6] at H ⊢;exact H)
   by_cases c7 : 0≤(ji6)
   rotate_left
   ·rw [if_neg c7] at H
    exact absurd H (by simp)
   rw [if_pos c7] at H
   have c7b0:=eq_true c7;have c7b1 : decide (0≤(ji6))=true:=dt_ c7;clear c7
   obtain ⟨ji8,hji8⟩ : ∃ j_ : Int,(shr .u64 (IntKind.u64.wrap (rd l0 (ji3))) (ji6))=j_:=⟨_,rfl⟩
   replace H : (if (IntKind.u64.wrap (Int.tdiv x3_1 2147483648))=(Int.tmod (ji8) 2) then (humusref02_Sum.l0 k1 l0 (Int.tmod (IntKind.u64.wrap (x3_1 * 2)) 4294967296) (wrap64 (x4_1 + 1))) else (humusref02_Sum.l0 k1 l0 (Go.bits .xor .u64 (Int.tmod (IntKind.u64.wrap (x3_1 * 2)) 4294967296) 2168537515) (wrap64 (x4_1 + 1))))=some r:=by first|(rw [hji8] at H;exact H)|(simp only [hji8] at H ⊢;exact H)
   have hji8_ : ((IntKind.u64.wrap (rd l0 (ji3))) / 2 ^ min (ji6).toNat 64)=ji8:=hji8;have hji8z : (ji6)≤64→((IntKind.u64.wrap (rd l0 (ji3))) / 2 ^ (ji6).toNat)=ji8:=shr_small hji8
   by_cases c9 : (IntKind.u64.wrap (Int.tdiv x3_1 2147483648))=(Int.tmod (ji8) 2)
   rotate_left
   ·rw [if_neg c9] at H
    have c9b0 : ((IntKind.u64.wrap (Int.tdiv x3_1 2147483648)) == (Int.tmod (ji8) 2))=false:=beq_eq_false_iff_ne.mpr c9;have c9b1 : ((IntKind.u64.wrap (Int.tdiv x3_1 2147483648)) != (Int.tmod (ji8) 2))=true:=bne_iff_ne.mpr c9;have H':=A_ H;clear H
    have p307 : 0≤((ji3) : Int):=od_ (by first|(with_reducible assumption)|assumption)
    have q307 : (ji3)<(l0.length : Int):=od_ (by first|(with_reducible assumption)|assumption)
    obtain ⟨ad307,e307,hx307_0⟩:=Kd.at_int HR0.out (ji3) p307 q307
    cases e307
    replace p307:=eq_true p307;replace q307:=eq_true q307;go_wp2;go_roundg k1
    case measure=>have:=HK1.out;omega
    case rel=>exact ⟨(Go.bits .xor .u64 (Int.tmod (IntKind.u64.wrap (x3_1 * 2)) 4294967296) 2168537515),(wrap64 (x4_1 + 1)),(by first|rfl|(simp;done)|(simp [*];done)),(by first|rfl|(simp;done)|(simp [*];done)),H',⟨by have:=HK1.out;omega⟩,by repeat (first|exact Drawn0.refl _|apply Drawn0.step)⟩
   rw [if_pos c9] at H
   have c9b0 : ((IntKind.u64.wrap (Int.tdiv x3_1 2147483648)) == (Int.tmod (ji8) 2))=true:=beq_iff_eq.mpr c9;have c9b1 : ((IntKind.u64.wrap (Int.tdiv x3_1 2147483648)) != (Int.tmod (ji8) 2))=false:=bne_eq_false_iff_eq.mpr c9;clear c9;have H':=A_ H;clear H
   have p307 : 0≤((ji3) : Int):=od_ (by first|(with_reducible assumption)|assumption)
   have q307 : (ji3)<(l0.length : Int):=od_ (by first|(with_reducible assumption)|assumption)
   obtain ⟨ad307,e307,hx307_0⟩:=Kd.at_int HR0.out (ji3) p307 q307
   cases e307
   replace p307:=eq_true p307;replace q307:=eq_true q307;go_wp2;go_roundg k1
   case measure=>have:=HK1.out;omega
   case rel=>exact ⟨(Int.tmod (IntKind.u64.wrap (x3_1 * 2)) 4294967296),(wrap64 (x4_1 + 1)),(by first|rfl|(simp;done)|(simp [*];done)),(by first|rfl|(simp;done)|(simp [*];done)),H',⟨by have:=HK1.out;omega⟩,by repeat (first|exact Drawn0.refl _|apply Drawn0.step)⟩
def humusref02_Seal.f (k : Nat) (l0 : List Int) : Option (List Int):=(humusref02_Sum.f k l0).bind fun t308=>((humusref02_Four.f t308).bind fun t309=>(if t309.length + l0.length<140737488355328 then (some (t309++l0)) else (none)))
set_option maxHeartbeats 8000000 in
set_option maxRecDepth 100000 in
theorem humusref02_Seal.calls (k : Nat) (A0 : Option Addr) (c0 : Nat) (l0 : List Int) (r : List Int) (w : World) (hr0 : Kd.C (Kd.int .u8) w A0 l0.length l0) (hc0 : l0.length≤c0) (h : humusref02_Seal.f k l0=some r) :
  Calls Tryd.prog 25 #[.slice A0 l0.length c0] w fun e w'=>∃ v0_ : Value,e=.returned (v0_)∧Kd.R (Kd.int .u8) 5 w' w.heap.size (fun _=>True) v0_ r∧Below w.heap.size w w':=by
 have HR0:=A_ hr0;have HC0:=A_ hc0;clear hr0 hc0;have HB:=A_ (Below.refl w.heap.size w)
 have H : ((humusref02_Sum.f k l0).bind fun t308=>((humusref02_Four.f t308).bind fun t309=>(if t309.length + l0.length<140737488355328 then (some (t309++l0)) else (none))))=some r:=h
 clear h;replace H:=Option.bind_eq_some_iff.mp H;obtain ⟨t308,A20,H⟩:=H
 replace H : ((humusref02_Four.f t308).bind fun t309=>(if t309.length + l0.length<140737488355328 then (some (t309++l0)) else (none)))=some r:=H
 have A2:=A_ A20;clear A20;replace H:=Option.bind_eq_some_iff.mp H;obtain ⟨t309,A30,H⟩:=H
 replace H : (if t309.length + l0.length<140737488355328 then (some (t309++l0)) else (none))=some r:=H
 have A3:=A_ A30;clear A30
 by_cases c4 : t309.length + l0.length<140737488355328
 rotate_left
 ·rw [if_neg c4] at H
  exact absurd H (by simp)
 rw [if_pos c4] at H
 have LMc4:=A_ c4;clear c4
 obtain ⟨y312,hy312⟩ : ∃ y_ : List Int,y_=(t309++l0):=⟨_,rfl⟩
 replace H : (some y312)=some r:=by first|(rw [hy312];with_reducible exact H)|(have H2_:=(Option.bind_some _ _).symm.trans H;rw [hy312];with_reducible exact H2_)|(have H2_:=(Option.bind_some _ _).symm.trans H;with_reducible exact H2_)|with_reducible exact H|(rw [hy312];exact H)|exact H
 have Ny312:=A_ hy312;clear hy312;obtain rfl:=Option.some.inj H;go_enter Tryd.func25,Tryd.ntmps25
 go_wp2_with (first|((with_reducible refine gate_callee (f:=44) rfl ?_);refine goesL_ (some 4) rfl rfl Tryd.func44 (by kernel_rfl) rfl #[.slice A0 l0.length c0] rfl (by (try simp only [List.map_toArray,List.map_cons,List.map_nil]);first|done|rfl|(simp only [List.length_drop,List.length_take];rfl)) ?_;(with_reducible refine (humusref02_Sum.calls k _ _ l0 t308 _ ?side1 ?side2 A2.out).mono ?_);(case side1=>repeat (first|exact HR0.out|(with_reducible refine Kd.C_alloc ?_ _)|(with_reducible refine Kd.C_drewN ?_ _)|(with_reducible refine Kd.C_drew ?_)));(case side2=>exact HC0.out);rintro e w' ⟨rfl,⟨nd,rfl⟩⟩;refine ⟨_,rfl,?_⟩)|((with_reducible refine gate_callee (f:=43) rfl ?_);refine goesL_ (some 5) rfl rfl Tryd.func43 (by kernel_rfl) rfl #[.int .u32 t308] rfl (by (try simp only [List.map_toArray,List.map_cons,List.map_nil]);first|done|rfl|(simp only [List.length_drop,List.length_take];rfl)) ?_;(with_reducible refine (humusref02_Four.calls t308 t309 _ A3.out).mono ?_);rintro e w5 ⟨v310,rfl,ho0,hb⟩;refine ⟨_,rfl,?_⟩;have n0_:=A_ (Kd.R_lower ho0 (bz_ (hb0_ HB.out)));have n1_:=A_ (bp_ (hb0_ HB.out) hb);clear HB;have HO311:=n0_;have HB:=n1_;clear n0_ n1_;(try clear hb);(try clear hb2);(try clear hk);(try clear hi);(try clear ho0))|((with_reducible refine gate_builtin (b:=.append) (xs:=#[.tmp 5,.tmp 6]) rfl ?_);at_builtin;refine Kd.R_append_rows (Kd.int .u8) (w0:=w) w.heap.size rfl (.tmp 5) (.tmp 6) 22 5 (.int .u8 0) 1 rfl Tryd.underlying22 info5 rfl (by decide) (by omega) v310 t309 l0 _ _ _ (fun _=>True) (fun _=>False) rfl rfl ?aO ?aR (fun _ _ h=>h) (fun _ h=>h.elim) ?aF ?aB ?aS ?aL ?_;(case aR=>repeat (first|exact (Kd.C_below HR0.out HB.out)|(with_reducible refine Kd.C_alloc ?_ _)|(with_reducible refine Kd.C_drewN ?_ _)|(with_reducible refine Kd.C_drew ?_)));(case aB=>exact (hb0_ HB.out));(case aF=>exact (fun _ _=>trivial));(case aO=>exact (by (with_reducible repeat (first|apply ra_|apply rn_|apply re_));exact HO311.out));(case aS=>exact (bz_ (hb0_ HB.out)));(case aL=>have:=LMc4.out;omega);intro v313 w6 ho hb hg hat;rw [← Ny312.out] at ho;have n0_:=A_ (hb);have n1_:=A_ (ho);clear HB;clear HO311;have HB:=n0_;have HO314:=n1_;clear n0_ n1_;clear ho hb hg hat))
 go_ret
 exact ⟨_,by first|rfl|(simp [errW_none,errW_some] <;> rfl)|(simp [*,errW_none,errW_some] <;> rfl),by (with_reducible repeat (first|apply ra_|apply rn_|apply re_));exact HO314.out,hb0_ HB.out⟩
end Go.Proofs.YtbmcbhpkefjhbaaDoor.P
namespace Go.Proofs.YtbmcbhpkefjhbaaDoor.P
open Go.RowKit YtbmcbhpkefjhbaaDoor YtbmcbhpkefjhbaaDoor.Mem YtbmcbhpkefjhbaaDoorW.PrintWords YtbmcbhpkefjhbaaDoorW.PrintLast YtbmcbhpkefjhbaaDoorW.PrintMore
def reg0 : BitVec 32:=BitVec.allOnes 32
def sumL (l : List Int) : BitVec 32:=Crc.crc reg0 l
def fourL (v : BitVec 32) : List Int:=[(v.toNat : Int) / 16777216 % 256,(v.toNat : Int) / 65536 % 256,(v.toNat : Int) / 256 % 256,(v.toNat : Int) % 256]
def sealL (l : List Int) : List Int:=fourL (sumL l)++l
theorem sealL_length (l : List Int) : (sealL l).length=l.length + 4:=by unfold sealL fourL; simp
theorem sealL_take (l : List Int) : (sealL l).take 4=fourL (sumL l):=rfl
theorem sealL_drop (l : List Int) : (sealL l).drop 4=l:=rfl
theorem fourL_bytes (v : BitVec 32) : Bytes (fourL v):=by
  intro x hx
  unfold fourL at hx
  simp only [List.mem_cons,List.not_mem_nil,or_false] at hx
  rcases hx with rfl|rfl|rfl|rfl <;> omega
theorem sealL_bytes {l : List Int} (h : Bytes l) : Bytes (sealL l):=(fourL_bytes _).append h
theorem wsucc {i : Nat} (h : i≤4611686018427387904) : wrap64 ((i : Int) + 1)=((i + 1 : Nat) : Int):=by unfold wrap64; omega
theorem More_l1 (l : List Int) (n i : Int) (k : Nat) : ∀ (d j : Nat) (r : BitVec 32),j + d=8→tally_More.l1 (k + d + 1) (r.toNat : Int) l n i (j : Int)=tally_More.l0 k ((Crc.sn d r).toNat : Int) l n (wrap64 (i + 1)):=by
  intro d
  induction d with
  | zero =>
    intro j r hj
    rw [tally_More.l1,if_neg (by omega)]; rfl
  | succ d ih =>
    intro j r hj
    rw [show k + (d + 1) + 1=(k + d + 1) + 1 by omega,tally_More.l1,if_pos (by omega),wsucc (by omega)]
    by_cases ht : (r.toNat : Int) / 2147483648=1
    · rw [if_pos ht,Crc.step_hi r ht]; exact ih (j + 1) (Crc.s r) (by omega)
    · rw [if_neg ht,Crc.step_lo r ht]; exact ih (j + 1) (Crc.s r) (by omega)
theorem top8L (r : BitVec 32) (x : Int) (h0 : 0≤x) (h1 : x≤255) : Go.bits .xor .u32 (r.toNat : Int) (((x % 4294967296) * 16777216) % 4294967296)=((r ^^^ BitVec.ofNat 32 (x.toNat * 16777216)).toNat : Int):=by
  have e : ((x % 4294967296) * 16777216) % 4294967296=((BitVec.ofNat 32 (x.toNat * 16777216)).toNat : Int):=by
    rw [BitVec.toNat_ofNat]; omega
  rw [e,Crc.xor32]
theorem More_l0 {l : List Int} (hb : Bytes l) (hl : l.length≤1000000) (k : Nat) : ∀ (d i : Nat) (r : BitVec 32),i + d=l.length→tally_More.l0 (k + 10 * d + 1) (r.toNat : Int) l (l.length : Int) (i : Int)=some ((Crc.crc r (l.drop i)).toNat : Int):=by
  intro d
  induction d with
  | zero =>
    intro i r hi
    rw [tally_More.l0,if_neg (by omega),List.drop_eq_nil_of_le (by omega)]; rfl
  | succ d ih =>
    intro i r hi
    have hlt : i<l.length:=by omega
    have hbb:=hb.at_ i hlt
    rw [show k + 10 * (d + 1) + 1=(k + 10 * d + 1) + 8 + 1 + 1 by omega,tally_More.l0,if_pos (by omega),if_pos (by omega),if_pos (by omega),top8L r _ hbb.1 hbb.2]
    refine (More_l1 l (l.length : Int) (i : Int) (k + 10 * d + 1) 8 0 _ rfl).trans ?_
    rw [wsucc (by omega),ih (i + 1) _ (by omega)]
    congr 2
    have he : rd l (i : Int)=l[i]:=by unfold rd; rw [Int.toNat_natCast,List.getD_eq_getElem?_getD,List.getElem?_eq_getElem hlt]; rfl
    rw [List.drop_eq_getElem_cons hlt,Crc.crc_cons,Crc.run_b8 _ _ (by rw [← he]; exact hbb.1) (by rw [← he]; exact hbb.2),he]
theorem tSum_ev {k : Nat} {l : List Int} (hb : Bytes l) (hl : l.length≤1000000) (hk : 10 * l.length + 1≤k) : tally_Sum.f k l=some ((sumL l).toNat : Int):=by
  obtain ⟨m,rfl⟩ : ∃ m,k=m + 10 * l.length + 1:=⟨k - (10 * l.length + 1),by omega⟩
  unfold tally_Sum.f tally_More.f
  have h:=More_l0 hb hl m l.length 0 reg0 (by omega)
  rw [List.drop_zero] at h
  rw [show (4294967295 : Int)=(reg0.toNat : Int) from rfl,show (0 : Int)=((0 : Nat) : Int) from rfl,h]
  rfl
theorem tSeal_ev {k : Nat} {l : List Int} (hb : Bytes l) (hl : l.length≤1000000) (hk : 10 * l.length + 1≤k) : tally_Seal.f k l=some (sealL l):=by
  unfold tally_Seal.f
  rw [tSum_ev hb hl hk]
  simp only [Option.bind_some]
  rw [if_pos (by simp; omega)]
  rfl
theorem tOpen_ev {k : Nat} {l : List Int} (hb : Bytes l) (h4 : 4≤l.length) (hl : l.length≤1000000) (hk : 10 * l.length + 1≤k) : tally_Open.f k l=some (if fourL (sumL (l.drop 4))=l.take 4 then (l.drop 4,0) else ([],5)):=by
  unfold tally_Open.f
  rw [if_neg (by omega),if_pos (by omega),tSeal_ev (hb.drop 4) (by rw [List.length_drop]; omega) (by rw [List.length_drop]; omega),Option.bind_some,if_pos (by rw [sealL_length]; omega),sealL_take]
  have hq:=str_eq (fourL_bytes (sumL (l.drop 4))) (hb.take 4)
  by_cases he : fourL (sumL (l.drop 4))=l.take 4
  · rw [if_pos he,he,if_pos rfl]; rfl
  · rw [if_neg he,if_neg (by intro h; rw [h,beq_self_eq_true] at hq; exact he (od_ hq.symm))]
theorem ref_step (q : BitVec 32) (b : Bool) : (((q.toNat : Int) / 2147483648)=(if b then 1 else 0)→(q.toNat : Int) * 2 % 4294967296=((Crc.st q b).toNat : Int))∧(¬ ((q.toNat : Int) / 2147483648)=(if b then 1 else 0)→Go.bits .xor .u64 ((q.toNat : Int) * 2 % 4294967296) 2168537515=((Crc.st q b).toNat : Int)) :=
  ⟨fun h=>Crc.ref_same q b (by rw [bne_eq_false_iff_eq]; exact h),fun h=>Crc.ref_other q b (by rw [bne_iff_ne]; exact h)⟩
theorem w64u {n : Int} (h0 : 0≤n) (h : n<18446744073709551616) : IntKind.u64.wrap n=n:=by
  simp only [IntKind.wrap,IntKind.bits,IntKind.signed]; simp; omega
theorem rSum_l0 {l : List Int} (hb : Bytes l) (hl : l.length≤1000000) (k : Nat) : ∀ (d i : Nat),i + d=8 * l.length→humusref02_Sum.l0 (k + d + 1) l ((Crc.run reg0 ((Crc.tb l).take i)).toNat : Int) (i : Int)=some ((sumL l).toNat : Int):=by
  intro d
  induction d with
  | zero =>
    intro i hi
    have hw : wrap64 (8 * (l.length : Int))=((8 * l.length : Nat) : Int):=by unfold wrap64; omega
    rw [humusref02_Sum.l0,hw,if_neg (by omega),List.take_of_length_le (by rw [Crc.tb_length]; omega)]
    have h:=(Crc.run reg0 (Crc.tb l)).isLt
    congr 1
    unfold sumL Crc.crc
    omega
  | succ d ih =>
    intro i hi
    have hlt : i<8 * l.length:=by omega
    have hw : wrap64 (8 * (l.length : Int))=((8 * l.length : Nat) : Int):=by unfold wrap64; omega
    have ht1 : Int.tdiv (i : Int) 8=((i / 8 : Nat) : Int):=by rw [Int.tdiv_eq_ediv_of_nonneg (by omega)]; omega
    have ht2 : Int.tmod (i : Int) 8=((i % 8 : Nat) : Int):=by rw [Int.tmod_eq_emod_of_nonneg (by omega)]; omega
    have hw1 : wrap64 ((i / 8 : Nat) : Int)=((i / 8 : Nat) : Int):=by unfold wrap64; omega
    have hw2 : wrap64 (7 - ((i % 8 : Nat) : Int))=((7 - i % 8 : Nat) : Int):=by unfold wrap64; omega
    have hw3 : IntKind.u64.wrap ((7 - i % 8 : Nat) : Int)=((7 - i % 8 : Nat) : Int):=w64u (by omega) (by omega)
    have hbb:=hb.at_ (i / 8) (by omega)
    have hx : IntKind.u64.wrap (rd l ((i / 8 : Nat) : Int))=rd l ((i / 8 : Nat) : Int):=w64u hbb.1 (by omega)
    have hsh : shr .u64 (rd l ((i / 8 : Nat) : Int)) ((7 - i % 8 : Nat) : Int)=rd l ((i / 8 : Nat) : Int) / 2 ^ (7 - i % 8):=by
      unfold shr
      rw [Int.toNat_natCast,Nat.min_eq_left (by simp only [IntKind.bits]; omega)]
    have hbt:=Crc.bit_of (rd l ((i / 8 : Nat) : Int)) (7 - i % 8) hbb.1
    have hsn : Crc.run reg0 ((Crc.tb l).take (i + 1))=Crc.st (Crc.run reg0 ((Crc.tb l).take i)) ((rd l ((i / 8 : Nat) : Int)).toNat.testBit (7 - i % 8)):=by rw [Crc.tb_take l i hlt,Crc.run_snoc]; rfl
    have ih':=ih (i + 1) (by omega)
    rw [hsn] at ih';have hq:=(Crc.run reg0 ((Crc.tb l).take i)).isLt
    generalize Crc.run reg0 ((Crc.tb l).take i)=q at *
    have hd : Int.tdiv (q.toNat : Int) 2147483648=(q.toNat : Int) / 2147483648:=Int.tdiv_eq_ediv_of_nonneg (by omega)
    have hd1 : IntKind.u64.wrap ((q.toNat : Int) / 2147483648)=(q.toNat : Int) / 2147483648:=w64u (by omega) (by omega)
    have hm1 : IntKind.u64.wrap ((q.toNat : Int) * 2)=(q.toNat : Int) * 2:=w64u (by omega) (by omega)
    have hm2 : Int.tmod ((q.toNat : Int) * 2) 4294967296=(q.toNat : Int) * 2 % 4294967296:=Int.tmod_eq_emod_of_nonneg (by omega)
    have hst:=ref_step q ((rd l ((i / 8 : Nat) : Int)).toNat.testBit (7 - i % 8))
    rw [show k + (d + 1) + 1=(k + d + 1) + 1 by omega,humusref02_Sum.l0,hw,if_pos (by omega),ht1,ht2,hw1,if_pos (by omega),if_pos (by omega),hw2,hw3,if_pos (by omega),hx,hsh,hbt,hd,hd1,hm1,hm2,wsucc (by omega)]
    by_cases hc : (q.toNat : Int) / 2147483648=(if (rd l ((i / 8 : Nat) : Int)).toNat.testBit (7 - i % 8)=true then 1 else 0)
    · rw [if_pos hc,hst.1 hc]; exact ih'
    · rw [if_neg hc,hst.2 hc]; exact ih'
theorem rSum_ev {k : Nat} {l : List Int} (hb : Bytes l) (hl : l.length≤1000000) (hk : 8 * l.length + 1≤k) : humusref02_Sum.f k l=some ((sumL l).toNat : Int):=by
  obtain ⟨m,rfl⟩ : ∃ m,k=m + 8 * l.length + 1:=⟨k - (8 * l.length + 1),by omega⟩
  unfold humusref02_Sum.f
  exact rSum_l0 hb hl m (8 * l.length) 0 (by omega)
theorem rFour_ev (v : BitVec 32) : humusref02_Four.f (v.toNat : Int)=some (fourL v):=by
  have h:=v.isLt
  unfold humusref02_Four.f fourL
  have e : ∀ m : Int,0<m→m<4294967296→Int.tdiv (v.toNat : Int) m % 4294967296=(v.toNat : Int) / m:=by
    intro m h0 h1
    rw [Int.tdiv_eq_ediv_of_nonneg (by omega)]
    refine Int.emod_eq_of_lt (Int.ediv_nonneg (by omega) (by omega)) ?_
    have:=Int.ediv_le_self (a:=(v.toNat : Int)) m (by omega)
    omega
  rw [e _ (by decide) (by decide),e _ (by decide) (by decide),e _ (by decide) (by decide)]
theorem rSeal_ev {k : Nat} {l : List Int} (hb : Bytes l) (hl : l.length≤1000000) (hk : 8 * l.length + 1≤k) : humusref02_Seal.f k l=some (sealL l):=by
  unfold humusref02_Seal.f
  rw [rSum_ev hb hl hk,Option.bind_some,rFour_ev,Option.bind_some,if_pos (by unfold fourL; simp; omega)]
  rfl
open Go.RowKit YtbmcbhpkefjhbaaDoorW.PrintWords YtbmcbhpkefjhbaaDoorW.PrintLast YtbmcbhpkefjhbaaDoorW.PrintMore
attribute [local go_sem] max2_int min2_int max_two min_two max_three min_three max_four min_four   -- for this text's walks alone
attribute [local go_sem] run_store_float
def table_First.f  : Option (Int × Int × Int × (List (S56))):=if 12≤8796093022208 then (some (1,1,0,(List.replicate 12 z56))) else (none)
set_option maxHeartbeats 8000000 in
set_option maxRecDepth 100000 in
theorem table_First.calls  (r1 : Int) (r2 : Int) (r3 : Int) (r4 : List (S56)) (w : World) (h : table_First.f  = some (r1,r2,r3,r4)) :
  Calls Tryd.prog 9 #[] w fun e w'=>∃ v3_ : Value,e=.returned (.agg #[.int .i64 r1,.int .i64 r2,.int .i64 r3,v3_])∧Kd.R k56 56 w' w.heap.size (fun _=>True) v3_ r4∧Below w.heap.size w w':=by
 have hu26:=Tryd.underlying26;have HB:=A_ (Below.refl w.heap.size w)
 have H : (if 12≤8796093022208 then (some (1,1,0,(List.replicate 12 z56))) else (none))=some (r1,r2,r3,r4):=h
 clear h
 by_cases c1 : 12≤8796093022208
 rotate_left
 ·rw [if_neg c1] at H
  exact absurd H (by simp)
 rw [if_pos c1] at H
 have c1b0:=eq_true c1;have c1b1 : decide (12≤8796093022208)=true:=dt_ c1;clear c1
 obtain ⟨y102,hy102⟩ : ∃ y_ : List (S56),y_=(List.replicate 12 z56):=⟨_,rfl⟩
 replace H : (some (1,1,0,y102))=some (r1,r2,r3,r4):=by first|(rw [hy102];with_reducible exact H)|(have H2_:=(Option.bind_some _ _).symm.trans H;rw [hy102];with_reducible exact H2_)|(have H2_:=(Option.bind_some _ _).symm.trans H;with_reducible exact H2_)|with_reducible exact H|(rw [hy102];exact H)|exact H
 have Ny102:=A_ hy102;clear hy102
 simp only [Option.some.injEq,Prod.mk.injEq] at H
 obtain ⟨rfl,rfl,rfl,rfl⟩:=H;go_enter Tryd.func9,Tryd.ntmps9
 go_wp2_with (first|((with_reducible refine gate_dst (N:=0) rfl ?_);refine box_event ?hg (N:=0) ?hd (cs:=#[.int .i64 0,.int .i64 0,.int .i64 0,.slice none 0 0]) (t:=26) ?hr ?_;(case hd=>rfl);(case hg=>rfl);(case hr=>first|(go_simp;done)|(go_simp;rfl));intro gb101 hg w2 hbox hb;have n0_:=A_ (bp_ (hb0_ HB.out) hb);have n1_:=A_ (hbox);have n2_:=A_ ((by rw [hg];exact (bz_ (hb0_ HB.out)) : w.heap.size≤gb101));have n3_:=n2_;clear HB;have HB:=n0_;have BK101:=n1_;have GW101:=n2_;have GE101:=n3_;clear n0_ n1_ n2_ n3_;clear hb hbox hg)|((with_reducible refine gate_dst (N:=1) rfl ?_);refine Kd.R_make k56 _ 56 rfl (N:=1) rfl 24 _ _ rfl 12 rfl rfl Tryd.underlying24 (.agg #[(.int .i64 0),(.int .i64 0),(.int .i64 0),(.int .i64 0)]) 32 info56 rfl (by decide) (by omega) z56 (ok:=fun _=>True) (okp:=fun _=>True) (k56_mkM _ _ _ z56 ) (fun _ hk=>hk) trivial (by omega) (by omega) (Below.refl _ _) (Nat.le_refl _) ?_;intro v103 w3 ho4 hb hg_ hnew_;clear hg_ hnew_;(first|rw [← Ny102.out] at ho4|(simp only [Int.reduceToNat] at ho4;rw [← Ny102.out] at ho4));have n0_:=A_ (Kd.R_lower ho4 (bz_ (hb1_ HB.out GE101.out)));have n1_:=A_ (bx_ BK101.out kf_ hb);have n2_:=A_ (bp_ (hb1_ HB.out GE101.out) hb);clear BK101;clear HB;have HO104:=n0_;have BK101:=n1_;have HB:=n2_;clear n0_ n1_ n2_;clear hb ho4;obtain ⟨Ao5,co5,eo5⟩:=Kd.R_slice HO104.out;subst eo5;obtain ⟨z6_0,z6_1,z6_2,z6_3⟩:=blkc_4 BK101.out;obtain ⟨y6_0,y6_1,y6_2⟩:=blkz_3 BK101.out;have y6_3:=bf_ BK101.out 3))
 refine bodyPost_ret (results_cell_row rfl _ _ gb101 26 #[.int .i64 1,.int .i64 1,.int .i64 0,.slice Ao5 y102.length co5] (0,0) _ rfl (by refine kk_ ?_;apply blkf_4_0_3;exact kk_ BK101.out) Tryd.underlying26 rfl (by kernel_rfl)) rfl ?_
 exact ⟨_,by first|rfl|(simp [errW_none,errW_some] <;> rfl)|(simp [*,errW_none,errW_some] <;> rfl),by (with_reducible repeat (first|apply ra_|apply rn_|apply re_));exact Kd.R_mono (rf_ (p:=⟨gb101,3,none⟩) (rf_ (p:=⟨gb101,2,none⟩) (rf_ (p:=⟨gb101,1,none⟩) (rf_ (p:=⟨gb101,0,none⟩) (Kd.R_types HO104.out BK101.out (by decide)) (fun _ hk=>hk.2) (.int .i64 1)) (fun _ hk=>hk.2) (.int .i64 1)) (fun _ hk=>hk.2) (.int .i64 0)) (fun _ hk=>hk.2) (.slice Ao5 y102.length co5)) (fun _ hk=>trivial),hb1_ HB.out GE101.out⟩
def table_in.f (a0 : Int) (a1 : Int) (a2 : Int) : Option (Bool):=if a0 ≥ a1 then (some (decide (a0≤a2))) else (some false)
set_option maxHeartbeats 8000000 in
set_option maxRecDepth 100000 in
theorem table_in.calls (a0 : Int) (a1 : Int) (a2 : Int) (r : Bool) (w : World) (h : table_in.f a0 a1 a2=some r) :
  Calls Tryd.prog 29 #[.int .i64 a0,.int .i64 a1,.int .i64 a2] w fun e w'=>e=.returned (.bool r)∧Drawn0 w w':=by
 have H : (if a0 ≥ a1 then (some (decide (a0≤a2))) else (some false))=some r:=h
 clear h
 by_cases c4 : a0 ≥ a1
 rotate_left
 ·rw [if_neg c4] at H
  have c4b0 : decide (a1≤a0)=false:=df_ c4;clear c4;obtain rfl:=Option.some.inj H;go_enter Tryd.func29,Tryd.ntmps29;go_wp2;go_ret
  exact ⟨by first|rfl|(simp;done)|(simp [*];done),by repeat (first|exact Drawn0.refl _|apply Drawn0.step)⟩
 rw [if_pos c4] at H
 have c4b0 : decide (a1≤a0)=true:=dt_ c4;clear c4;obtain rfl:=Option.some.inj H;go_enter Tryd.func29,Tryd.ntmps29;go_wp2;go_ret
 exact ⟨by first|rfl|(simp;done)|(simp [*];done),by repeat (first|exact Drawn0.refl _|apply Drawn0.step)⟩
theorem eqA56 (d : Nat) (w : World) (x0 y0 : Int) (x1 y1 : Int) (x2 y2 : Int) (x3 y3 : Int) :
    (Op.equalIn (d + 2) 56 (.agg #[.int .i64 x0,.int .i64 x1,.int .i64 x2,.int .i64 x3]) (.agg #[.int .i64 y0,.int .i64 y1,.int .i64 y2,.int .i64 y3])).run Tryd.prog w=.ok (x0 == y0 && (x1 == y1 && (x2 == y2 && (x3 == y3)))) w:=by
  refine eqA_of Tryd.underlying56 (by kernel_rfl) ?_
  refine eqf_cons (by rfl) (by go_simp; rfl) (by go_simp; rfl) (by go_simp) ?_
  refine eqf_cons (by rfl) (by go_simp; rfl) (by go_simp; rfl) (by go_simp) ?_
  refine eqf_cons (by rfl) (by go_simp; rfl) (by go_simp; rfl) (by go_simp) ?_
  exact eqf_last (by rfl) (by go_simp; rfl) (by go_simp; rfl) (by go_simp)
attribute [local go_sem high] eqA56
mutual
def table_entry.j0 : Nat→Bool→Int→Int→Int→List (S56)→Int→Int→Int→Int→Option (Bool)
 | 0,_,_,_,_,_,_,_,_,_=>none
 | k + 1,x30,x106000,x106001,x106002,x106003,x107000,x107001,x107002,x107003=>if x30=true then ((table_in.f x107003 1 x106002).bind fun t109=>(if t109=true then ((table_in.f x107000 1 (wrap64 (x106000 - 1))).bind fun t110=>(if t110=true then ((table_in.f x107002 0 65535).bind fun t111=>(some t111)) else (some false))) else (some false))) else (table_entry.j1 k false)
def table_entry.j1 : Nat→Bool→Option (Bool)
 | 0,_=>none
 | k + 1,x4=>some x4
end
def table_entry.f (k : Nat) (a0_0 : Int) (a0_1 : Int) (a0_2 : Int) (l0_3 : List (S56)) (a1_0 : Int) (a1_1 : Int) (a1_2 : Int) (a1_3 : Int) : Option (Bool):=if a1_1=0 then (some (a1_0 == 0 && (a1_1 == 0 && (a1_2 == 0 && (a1_3 == 0))))) else (if a1_1=1 then (if a1_3=0 then ((table_in.f a1_0 1 (wrap64 (a0_0 - 1))).bind fun t107=>(if t107=true then ((table_in.f a1_2 0 65535).bind fun t108=>(some t108)) else (some false))) else (some false)) else (table_entry.j0 k (a1_1 == 2) a0_0 a0_1 a0_2 l0_3 a1_0 a1_1 a1_2 a1_3))
theorem table_entry.mono_l : ∀ k,(∀ y0 y1 y2 y3 y4 y5 y6 y7 y8,LeO (table_entry.j0 k y0 y1 y2 y3 y4 y5 y6 y7 y8) (table_entry.j0 (k + 1) y0 y1 y2 y3 y4 y5 y6 y7 y8))∧(∀ y0,LeO (table_entry.j1 k y0) (table_entry.j1 (k + 1) y0))
 | 0=>⟨fun _ _ _ _ _ _ _ _ _ r h=>by simp [table_entry.j0] at h,fun _ r h=>by simp [table_entry.j1] at h⟩
 | k + 1=>by
  obtain ⟨ih0,ih1⟩:=table_entry.mono_l k;refine ⟨?_,?_⟩
  ·intro y0 y1 y2 y3 y4 y5 y6 y7 y8
   unfold table_entry.j0
   repeat' first
   | (with_reducible exact ih0 _ _ _ _ _ _ _ _ _)
   | (with_reducible exact ih1 _)
   | (with_reducible exact LeO.refl _)
   | (with_reducible exact LeO.none _)
   | (with_reducible refine LeO.ite ?_ ?_)
   | (with_reducible refine LeO.bind ?_ (fun _=>?_))
   | exact ih0 _ _ _ _ _ _ _ _ _
   | exact ih1 _
   | exact LeO.none _
   | refine LeO.ite ?_ ?_
   | refine LeO.bind ?_ (fun _=>?_)
  ·intro y0
   unfold table_entry.j1
   repeat' first
   | (with_reducible exact ih0 _ _ _ _ _ _ _ _ _)
   | (with_reducible exact ih1 _)
   | (with_reducible exact LeO.refl _)
   | (with_reducible exact LeO.none _)
   | (with_reducible refine LeO.ite ?_ ?_)
   | (with_reducible refine LeO.bind ?_ (fun _=>?_))
   | exact ih0 _ _ _ _ _ _ _ _ _
   | exact ih1 _
   | exact LeO.none _
   | refine LeO.ite ?_ ?_
   | refine LeO.bind ?_ (fun _=>?_)
theorem table_entry.mono : ∀ a0 a1 a2 a3 a4 a5 a6 a7 k,LeO (table_entry.f k a0 a1 a2 a3 a4 a5 a6 a7) (table_entry.f (k + 1) a0 a1 a2 a3 a4 a5 a6 a7):=by
 intro a0 a1 a2 a3 a4 a5 a6 a7 k;obtain ⟨ih0,ih1⟩:=table_entry.mono_l k
 unfold table_entry.f
 repeat' first
   | (with_reducible exact ih0 _ _ _ _ _ _ _ _ _)
   | (with_reducible exact ih1 _)
   | (with_reducible exact LeO.refl _)
   | (with_reducible exact LeO.none _)
   | (with_reducible refine LeO.ite ?_ ?_)
   | (with_reducible refine LeO.bind ?_ (fun _=>?_))
   | exact ih0 _ _ _ _ _ _ _ _ _
   | exact ih1 _
   | exact LeO.none _
   | refine LeO.ite ?_ ?_
   | refine LeO.bind ?_ (fun _=>?_)
set_option maxHeartbeats 8000000 in
set_option maxRecDepth 100000 in
theorem table_entry.calls (k : Nat) (a0_0 : Int) (a0_1 : Int) (a0_2 : Int) (A0_3 : Option Addr) (c0_3 : Nat) (l0_3 : List (S56)) (a1_0 : Int) (a1_1 : Int) (a1_2 : Int) (a1_3 : Int) (r : Bool) (w : World) (hr0_3 : Kd.C k56 w A0_3 l0_3.length l0_3) (hc0_3 : l0_3.length≤c0_3) (h : table_entry.f k a0_0 a0_1 a0_2 l0_3 a1_0 a1_1 a1_2 a1_3=some r) :
  Calls Tryd.prog 32 #[.agg #[.int .i64 a0_0,.int .i64 a0_1,.int .i64 a0_2,.slice A0_3 l0_3.length c0_3],.agg #[.int .i64 a1_0,.int .i64 a1_1,.int .i64 a1_2,.int .i64 a1_3]] w fun e w'=>e=.returned (.bool r)∧Below w.heap.size w w':=by
 have hu26:=Tryd.underlying26;have hu56:=Tryd.underlying56;have HR0_3:=A_ hr0_3;have HC0_3:=A_ hc0_3;clear hr0_3 hc0_3;have HB:=A_ (Below.refl w.heap.size w)
 have H : (if a1_1=0 then (some (a1_0 == 0 && (a1_1 == 0 && (a1_2 == 0 && (a1_3 == 0))))) else (if a1_1=1 then (if a1_3=0 then ((table_in.f a1_0 1 (wrap64 (a0_0 - 1))).bind fun t107=>(if t107=true then ((table_in.f a1_2 0 65535).bind fun t108=>(some t108)) else (some false))) else (some false)) else (table_entry.j0 k (a1_1 == 2) a0_0 a0_1 a0_2 l0_3 a1_0 a1_1 a1_2 a1_3)))=some r:=h
 clear h
 by_cases c3 : a1_1=0
 ·rw [if_pos c3] at H
  have c3b0 : (a1_1 == 0)=true:=beq_iff_eq.mpr c3;have c3b1 : (a1_1 != 0)=false:=bne_eq_false_iff_eq.mpr c3;clear c3;obtain rfl:=Option.some.inj H;go_enter Tryd.func32,Tryd.ntmps32
  go_wp2_with (first|((with_reducible refine gate_dst (N:=2) rfl ?_);refine box_event ?hg (N:=2) ?hd (cs:=#[.int .i64 a0_0,.int .i64 a0_1,.int .i64 a0_2,.slice A0_3 l0_3.length c0_3]) (t:=26) ?hr ?_;(case hd=>rfl);(case hg=>rfl);(case hr=>first|(go_simp;done)|(go_simp;rfl));intro gb105 hg w4 hbox hb;have n0_:=A_ (bp_ (hb0_ HB.out) hb);have n1_:=A_ (hbox);have n2_:=A_ ((by rw [hg];exact (bz_ (hb0_ HB.out)) : w.heap.size≤gb105));have n3_:=n2_;clear HB;have HB:=n0_;have BK105:=n1_;have GW105:=n2_;have GE105:=n3_;clear n0_ n1_ n2_ n3_;clear hb hbox hg)|((with_reducible refine gate_dst (N:=3) rfl ?_);refine box_event ?hg (N:=3) ?hd (cs:=#[.int .i64 a1_0,.int .i64 a1_1,.int .i64 a1_2,.int .i64 a1_3]) (t:=56) ?hr ?_;(case hd=>rfl);(case hg=>rfl);(case hr=>first|(go_simp;done)|(go_simp;rfl));intro gb106 hg w5 hbox hb;have n0_:=A_ (bx_ BK105.out kf_ hb);have n1_:=A_ (bp_ (hb1_ HB.out GE105.out) hb);have n2_:=A_ (hbox);have n3_:=A_ ((by rw [hg];exact (bz_ (hb1_ HB.out GE105.out)) : w.heap.size≤gb106));have n4_:=n3_;have n5_:=A_ ((by rw [hg];exact Nat.ne_of_lt (bl_ BK105.out kf_) : gb105≠gb106));have n6_:=A_ (Ne.symm n5_.out);clear BK105;clear HB;have BK105:=n0_;have HB:=n1_;have BK106:=n2_;have GW106:=n3_;have GE106:=n4_;have NB105_106:=n5_;have NB106_105:=n6_;clear n0_ n1_ n2_ n3_ n4_ n5_ n6_;clear hb hbox hg;have hnb6:=NB106_105.out;have hnc6:=NB105_106.out;obtain ⟨z7_0,z7_1,z7_2,z7_3⟩:=blkc_4 BK106.out;obtain ⟨y7_0,y7_1,y7_2⟩:=blkz_3 BK106.out;have y7_3:=bf_ BK106.out 3))
  go_ret
  exact ⟨by first|rfl|(simp [errW_none,errW_some] <;> rfl)|(simp [*,errW_none,errW_some] <;> rfl),hb2_ HB.out GE105.out GE106.out⟩
 rw [if_neg c3] at H
 have c3b0 : (a1_1 == 0)=false:=beq_eq_false_iff_ne.mpr c3;have c3b1 : (a1_1 != 0)=true:=bne_iff_ne.mpr c3
 by_cases c8 : a1_1=1
 ·rw [if_pos c8] at H
  have c8b0 : (a1_1 == 1)=true:=beq_iff_eq.mpr c8;have c8b1 : (a1_1 != 1)=false:=bne_eq_false_iff_eq.mpr c8;clear c8
  by_cases c9 : a1_3=0
  rotate_left
  ·rw [if_neg c9] at H
   have c9b0 : (a1_3 == 0)=false:=beq_eq_false_iff_ne.mpr c9;have c9b1 : (a1_3 != 0)=true:=bne_iff_ne.mpr c9;obtain rfl:=Option.some.inj H;go_enter Tryd.func32,Tryd.ntmps32
   go_wp2_with (first|((with_reducible refine gate_dst (N:=2) rfl ?_);refine box_event ?hg (N:=2) ?hd (cs:=#[.int .i64 a0_0,.int .i64 a0_1,.int .i64 a0_2,.slice A0_3 l0_3.length c0_3]) (t:=26) ?hr ?_;(case hd=>rfl);(case hg=>rfl);(case hr=>first|(go_simp;done)|(go_simp;rfl));intro gb105 hg w23 hbox hb;have n0_:=A_ (bp_ (hb0_ HB.out) hb);have n1_:=A_ (hbox);have n2_:=A_ ((by rw [hg];exact (bz_ (hb0_ HB.out)) : w.heap.size≤gb105));have n3_:=n2_;clear HB;have HB:=n0_;have BK105:=n1_;have GW105:=n2_;have GE105:=n3_;clear n0_ n1_ n2_ n3_;clear hb hbox hg)|((with_reducible refine gate_dst (N:=3) rfl ?_);refine box_event ?hg (N:=3) ?hd (cs:=#[.int .i64 a1_0,.int .i64 a1_1,.int .i64 a1_2,.int .i64 a1_3]) (t:=56) ?hr ?_;(case hd=>rfl);(case hg=>rfl);(case hr=>first|(go_simp;done)|(go_simp;rfl));intro gb106 hg w24 hbox hb;have n0_:=A_ (bx_ BK105.out kf_ hb);have n1_:=A_ (bp_ (hb1_ HB.out GE105.out) hb);have n2_:=A_ (hbox);have n3_:=A_ ((by rw [hg];exact (bz_ (hb1_ HB.out GE105.out)) : w.heap.size≤gb106));have n4_:=n3_;have n5_:=A_ ((by rw [hg];exact Nat.ne_of_lt (bl_ BK105.out kf_) : gb105≠gb106));have n6_:=A_ (Ne.symm n5_.out);clear BK105;clear HB;have BK105:=n0_;have HB:=n1_;have BK106:=n2_;have GW106:=n3_;have GE106:=n4_;have NB105_106:=n5_;have NB106_105:=n6_;clear n0_ n1_ n2_ n3_ n4_ n5_ n6_;clear hb hbox hg;have hnb25:=NB106_105.out;have hnc25:=NB105_106.out;obtain ⟨z26_0,z26_1,z26_2,z26_3⟩:=blkc_4 BK106.out;obtain ⟨y26_0,y26_1,y26_2⟩:=blkz_3 BK106.out;have y26_3:=bf_ BK106.out 3))
   go_ret
   exact ⟨by first|rfl|(simp [errW_none,errW_some] <;> rfl)|(simp [*,errW_none,errW_some] <;> rfl),hb2_ HB.out GE105.out GE106.out⟩
  rw [if_pos c9] at H
  have c9b0 : (a1_3 == 0)=true:=beq_iff_eq.mpr c9;have c9b1 : (a1_3 != 0)=false:=bne_eq_false_iff_eq.mpr c9;clear c9;replace H:=Option.bind_eq_some_iff.mp H;obtain ⟨t107,A100,H⟩:=H
  replace H : (if t107=true then ((table_in.f a1_2 0 65535).bind fun t108=>(some t108)) else (some false))=some r:=H
  have A10:=A_ A100;clear A100
  by_cases c11 : t107=true
  ·subst c11
   have H1 : ((table_in.f a1_2 0 65535).bind fun t108=>(some t108))=some r:=by rw [if_pos rfl] at H;exact H
   clear H;have H:=H1;clear H1;replace H:=Option.bind_eq_some_iff.mp H;obtain ⟨t108,A120,H⟩:=H;replace H : (some t108)=some r:=H;have A12:=A_ A120;clear A120;obtain rfl:=Option.some.inj H;go_enter Tryd.func32,Tryd.ntmps32
   go_wp2_with (first|((with_reducible refine gate_dst (N:=2) rfl ?_);refine box_event ?hg (N:=2) ?hd (cs:=#[.int .i64 a0_0,.int .i64 a0_1,.int .i64 a0_2,.slice A0_3 l0_3.length c0_3]) (t:=26) ?hr ?_;(case hd=>rfl);(case hg=>rfl);(case hr=>first|(go_simp;done)|(go_simp;rfl));intro gb105 hg w13 hbox hb;have n0_:=A_ (bp_ (hb0_ HB.out) hb);have n1_:=A_ (hbox);have n2_:=A_ ((by rw [hg];exact (bz_ (hb0_ HB.out)) : w.heap.size≤gb105));have n3_:=n2_;clear HB;have HB:=n0_;have BK105:=n1_;have GW105:=n2_;have GE105:=n3_;clear n0_ n1_ n2_ n3_;clear hb hbox hg)|((with_reducible refine gate_dst (N:=3) rfl ?_);refine box_event ?hg (N:=3) ?hd (cs:=#[.int .i64 a1_0,.int .i64 a1_1,.int .i64 a1_2,.int .i64 a1_3]) (t:=56) ?hr ?_;(case hd=>rfl);(case hg=>rfl);(case hr=>first|(go_simp;done)|(go_simp;rfl));intro gb106 hg w14 hbox hb;have n0_:=A_ (bx_ BK105.out kf_ hb);have n1_:=A_ (bp_ (hb1_ HB.out GE105.out) hb);have n2_:=A_ (hbox);have n3_:=A_ ((by rw [hg];exact (bz_ (hb1_ HB.out GE105.out)) : w.heap.size≤gb106));have n4_:=n3_;have n5_:=A_ ((by rw [hg];exact Nat.ne_of_lt (bl_ BK105.out kf_) : gb105≠gb106));have n6_:=A_ (Ne.symm n5_.out);clear BK105;clear HB;have BK105:=n0_;have HB:=n1_;have BK106:=n2_;have GW106:=n3_;have GE106:=n4_;have NB105_106:=n5_;have NB106_105:=n6_;clear n0_ n1_ n2_ n3_ n4_ n5_ n6_;clear hb hbox hg;have hnb15:=NB106_105.out;have hnc15:=NB105_106.out;obtain ⟨z16_0,z16_1,z16_2,z16_3⟩:=blkc_4 BK106.out;obtain ⟨y16_0,y16_1,y16_2,y16_3⟩:=blkz_4 BK106.out;obtain ⟨z17_0,z17_1,z17_2,z17_3⟩:=blkc_4 BK105.out;obtain ⟨y17_0,y17_1,y17_2⟩:=blkz_3 BK105.out;have y17_3:=bf_ BK105.out 3)|(go_at_call 29;(with_reducible refine (table_in.calls a1_0 1 (wrap64 (a0_0 - 1)) true _ A10.out).mono ?_);rintro e w' ⟨rfl,⟨nd,rfl⟩⟩)|(go_at_call 29;(with_reducible refine (table_in.calls a1_2 0 65535 t108 _ A12.out).mono ?_);rintro e w' ⟨rfl,⟨nd,rfl⟩⟩))
   go_ret
   exact ⟨by first|rfl|(simp [errW_none,errW_some] <;> rfl)|(simp [*,errW_none,errW_some] <;> rfl),hb2_ HB.out GE105.out GE106.out⟩
  replace c11:=Bool.eq_false_iff.mpr c11
  subst c11
  have H1 : (some false)=some r:=by rw [if_neg (show ¬ (false=true) by decide)] at H;exact H
  clear H;have H:=H1;clear H1;obtain rfl:=Option.some.inj H;go_enter Tryd.func32,Tryd.ntmps32
  go_wp2_with (first|((with_reducible refine gate_dst (N:=2) rfl ?_);refine box_event ?hg (N:=2) ?hd (cs:=#[.int .i64 a0_0,.int .i64 a0_1,.int .i64 a0_2,.slice A0_3 l0_3.length c0_3]) (t:=26) ?hr ?_;(case hd=>rfl);(case hg=>rfl);(case hr=>first|(go_simp;done)|(go_simp;rfl));intro gb105 hg w18 hbox hb;have n0_:=A_ (bp_ (hb0_ HB.out) hb);have n1_:=A_ (hbox);have n2_:=A_ ((by rw [hg];exact (bz_ (hb0_ HB.out)) : w.heap.size≤gb105));have n3_:=n2_;clear HB;have HB:=n0_;have BK105:=n1_;have GW105:=n2_;have GE105:=n3_;clear n0_ n1_ n2_ n3_;clear hb hbox hg)|((with_reducible refine gate_dst (N:=3) rfl ?_);refine box_event ?hg (N:=3) ?hd (cs:=#[.int .i64 a1_0,.int .i64 a1_1,.int .i64 a1_2,.int .i64 a1_3]) (t:=56) ?hr ?_;(case hd=>rfl);(case hg=>rfl);(case hr=>first|(go_simp;done)|(go_simp;rfl));intro gb106 hg w19 hbox hb;have n0_:=A_ (bx_ BK105.out kf_ hb);have n1_:=A_ (bp_ (hb1_ HB.out GE105.out) hb);have n2_:=A_ (hbox);have n3_:=A_ ((by rw [hg];exact (bz_ (hb1_ HB.out GE105.out)) : w.heap.size≤gb106));have n4_:=n3_;have n5_:=A_ ((by rw [hg];exact Nat.ne_of_lt (bl_ BK105.out kf_) : gb105≠gb106));have n6_:=A_ (Ne.symm n5_.out);clear BK105;clear HB;have BK105:=n0_;have HB:=n1_;have BK106:=n2_;have GW106:=n3_;have GE106:=n4_;have NB105_106:=n5_;have NB106_105:=n6_;clear n0_ n1_ n2_ n3_ n4_ n5_ n6_;clear hb hbox hg;have hnb20:=NB106_105.out;have hnc20:=NB105_106.out;obtain ⟨z21_0,z21_1,z21_2,z21_3⟩:=blkc_4 BK106.out;obtain ⟨y21_0,y21_1,y21_2,y21_3⟩:=blkz_4 BK106.out;obtain ⟨z22_0,z22_1,z22_2,z22_3⟩:=blkc_4 BK105.out;obtain ⟨y22_0,y22_1,y22_2⟩:=blkz_3 BK105.out;have y22_3:=bf_ BK105.out 3)|(go_at_call 29;(with_reducible refine (table_in.calls a1_0 1 (wrap64 (a0_0 - 1)) false _ A10.out).mono ?_);rintro e w' ⟨rfl,⟨nd,rfl⟩⟩))
  go_ret
  exact ⟨by first|rfl|(simp [errW_none,errW_some] <;> rfl)|(simp [*,errW_none,errW_some] <;> rfl),hb2_ HB.out GE105.out GE106.out⟩
 rw [if_neg c8] at H
 have c8b0 : (a1_1 == 1)=false:=beq_eq_false_iff_ne.mpr c8;have c8b1 : (a1_1 != 1)=true:=bne_iff_ne.mpr c8;have HC27:=A_ H;clear H;go_enter Tryd.func32,Tryd.ntmps32
 go_upto_region 6 with (first|((with_reducible refine gate_dst (N:=2) rfl ?_);refine box_event ?hg (N:=2) ?hd (cs:=#[.int .i64 a0_0,.int .i64 a0_1,.int .i64 a0_2,.slice A0_3 l0_3.length c0_3]) (t:=26) ?hr ?_;(case hd=>rfl);(case hg=>rfl);(case hr=>first|(go_simp;done)|(go_simp;rfl));intro gb105 hg w28 hbox hb;have n0_:=A_ (bp_ (hb0_ HB.out) hb);have n1_:=A_ (hbox);have n2_:=A_ ((by rw [hg];exact (bz_ (hb0_ HB.out)) : w.heap.size≤gb105));have n3_:=n2_;clear HB;have HB:=n0_;have BK105:=n1_;have GW105:=n2_;have GE105:=n3_;clear n0_ n1_ n2_ n3_;clear hb hbox hg)|((with_reducible refine gate_dst (N:=3) rfl ?_);refine box_event ?hg (N:=3) ?hd (cs:=#[.int .i64 a1_0,.int .i64 a1_1,.int .i64 a1_2,.int .i64 a1_3]) (t:=56) ?hr ?_;(case hd=>rfl);(case hg=>rfl);(case hr=>first|(go_simp;done)|(go_simp;rfl));intro gb106 hg w29 hbox hb;have n0_:=A_ (bx_ BK105.out kf_ hb);have n1_:=A_ (bp_ (hb1_ HB.out GE105.out) hb);have n2_:=A_ (hbox);have n3_:=A_ ((by rw [hg];exact (bz_ (hb1_ HB.out GE105.out)) : w.heap.size≤gb106));have n4_:=n3_;have n5_:=A_ ((by rw [hg];exact Nat.ne_of_lt (bl_ BK105.out kf_) : gb105≠gb106));have n6_:=A_ (Ne.symm n5_.out);clear BK105;clear HB;have BK105:=n0_;have HB:=n1_;have BK106:=n2_;have GW106:=n3_;have GE106:=n4_;have NB105_106:=n5_;have NB106_105:=n6_;clear n0_ n1_ n2_ n3_ n4_ n5_ n6_;clear hb hbox hg;have hnb30:=NB106_105.out;have hnc30:=NB105_106.out;obtain ⟨z31_0,z31_1,z31_2,z31_3⟩:=blkc_4 BK106.out;obtain ⟨y31_0,y31_1,y31_2⟩:=blkz_3 BK106.out;have y31_3:=bf_ BK106.out 3))
 (try simp only [Act.put,u1_,u2_,u3_])
 go_cut [30] (fun v30 wc=>∃ (kq : Nat) (x30_26 : Bool),v30=.bool x30_26∧Aside0 (table_entry.j0 kq x30_26 a0_0 a0_1 a0_2 l0_3 a1_0 a1_1 a1_2 a1_3=some r)∧Aside0 (kq≤k)∧Aside0 (wc.heap[gb105]?=some (.cells #[.int .i64 a0_0,.int .i64 a0_1,.int .i64 a0_2,(.slice A0_3 l0_3.length c0_3)] 26 (0,0)))∧Aside0 (wc.heap[gb106]?=some (.cells #[.int .i64 a1_0,.int .i64 a1_1,.int .i64 a1_2,.int .i64 a1_3] 56 (0,0)))∧Aside0 (Below w.heap.size w wc))
 case first =>
  have H:=HC27.out;clear HC27;have H':=A_ H;clear H;go_wp2;go_meet
  case rel=>exact ⟨_,((a1_1 == 2)),(by first|rfl|(simp;done)|(simp [*];done)),H',⟨by first|omega|exact Nat.le_refl _⟩,⟨by exact kk_ BK105.out⟩,⟨by exact kk_ BK106.out⟩,⟨hb2_ HB.out GE105.out GE106.out⟩⟩
 case rest =>
  clear HC27;(try clear c1);(try clear c2);(try clear p2);(try clear c3);(try clear c3b0);(try clear c3b1);(try clear c6);(try clear p6);(try clear c8);(try clear c8b0);(try clear c8b1);(try clear c9);(try clear c9b0);(try clear c9b1);(try clear c11);(try clear c15);(try clear c20);(try clear c25);(try clear c30);(try clear z16_0 z16_1 z16_2 z16_3 z17_0 z17_1 z17_2 z17_3 z21_0 z21_1 z21_2 z21_3 z22_0 z22_1 z22_2 z22_3 z26_0 z26_1 z26_2 z26_3 z31_0 z31_1 z31_2 z31_3 z7_0 z7_1 z7_2 z7_3 y16_0 y16_1 y16_2 y16_3 y17_0 y17_1 y17_2 y17_3 y21_0 y21_1 y21_2 y21_3 y22_0 y22_1 y22_2 y22_3 y26_0 y26_1 y26_2 y26_3 y31_0 y31_1 y31_2 y31_3 y7_0 y7_1 y7_2 y7_3);obtain ⟨kq,x30_26,rfl,HA,HJ26,BK105,BK106,HB⟩:=hcut
  cases kq with
  | zero=>exact absurd HA.out (by simp [table_entry.j0])
  | succ kj26 =>
   have H:=HA.out;clear HA
   simp only [table_entry.j0] at H
   by_cases c32 : x30_26=true
   rotate_left
   ·replace c32:=Bool.eq_false_iff.mpr c32
    subst c32
    have H1 : (table_entry.j1 kj26 false)=some r:=by rw [if_neg (show ¬ (false=true) by decide)] at H;exact H
    clear H;have H:=H1;clear H1;have HC47:=A_ H;clear H
    go_upto_region 8 with (fail)
    go_cut [4] (fun v4 wc=>∃ (kq : Nat) (x4_46 : Bool),v4=.bool x4_46∧Aside0 (table_entry.j1 kq x4_46=some r)∧Aside0 (kq≤kj26)∧Aside0 (wc.heap[gb105]?=some (.cells #[.int .i64 a0_0,.int .i64 a0_1,.int .i64 a0_2,(.slice A0_3 l0_3.length c0_3)] 26 (0,0)))∧Aside0 (wc.heap[gb106]?=some (.cells #[.int .i64 a1_0,.int .i64 a1_1,.int .i64 a1_2,.int .i64 a1_3] 56 (0,0)))∧Aside0 (Below w.heap.size w wc))
    case first =>
     have H:=HC47.out;clear HC47;have H':=A_ H;clear H;go_wp2;go_meet
     case rel=>exact ⟨_,false,rfl,H',⟨by have:=HJ26.out;first|omega|exact Nat.le_refl _⟩,⟨by exact kk_ BK105.out⟩,⟨by exact kk_ BK106.out⟩,⟨hb2_ HB.out GE105.out GE106.out⟩⟩
    case rest =>
     clear HC47;(try clear c1);(try clear c2);(try clear p2);(try clear c3);(try clear c3b0);(try clear c3b1);(try clear c4);(try clear c6);(try clear p6);(try clear c8);(try clear c8b0);(try clear c8b1);(try clear c9);(try clear c9b0);(try clear c9b1);(try clear c11);(try clear c15);(try clear c20);(try clear c25);(try clear c29);(try clear c30);(try clear c32);(try clear c34);(try clear c36);(try clear c38);(try clear c41);(try clear c44);(try clear p2);(try clear p6);(try clear z16_0 z16_1 z16_2 z16_3 z17_0 z17_1 z17_2 z17_3 z21_0 z21_1 z21_2 z21_3 z22_0 z22_1 z22_2 z22_3 z26_0 z26_1 z26_2 z26_3 z31_0 z31_1 z31_2 z31_3 z39_0 z39_1 z39_2 z39_3 z40_0 z40_1 z40_2 z40_3 z42_0 z42_1 z42_2 z42_3 z43_0 z43_1 z43_2 z43_3 z45_0 z45_1 z45_2 z45_3 z46_0 z46_1 z46_2 z46_3 z7_0 z7_1 z7_2 z7_3 y16_0 y16_1 y16_2 y16_3 y17_0 y17_1 y17_2 y17_3 y21_0 y21_1 y21_2 y21_3 y22_0 y22_1 y22_2 y22_3 y26_0 y26_1 y26_2 y26_3 y31_0 y31_1 y31_2 y31_3 y39_0 y39_1 y39_2 y39_3 y40_0 y40_1 y40_2 y40_3 y42_0 y42_1 y42_2 y42_3 y43_0 y43_1 y43_2 y43_3 y45_0 y45_1 y45_2 y45_3 y46_0 y46_1 y46_2 y46_3 y7_0 y7_1 y7_2 y7_3);obtain ⟨kq,x4_46,rfl,HA,HJ46,BK105,BK106,HB⟩:=hcut
     cases kq with
     | zero=>exact absurd HA.out (by simp [table_entry.j1])
     | succ kj46 =>
      have H:=HA.out;clear HA
      simp only [table_entry.j1] at H
      obtain rfl:=Option.some.inj H;go_wp2;go_ret
      exact ⟨by first|rfl|(simp [errW_none,errW_some] <;> rfl)|(simp [*,errW_none,errW_some] <;> rfl),hb2_ HB.out GE105.out GE106.out⟩
   subst c32
   have H1 : ((table_in.f a1_3 1 a0_2).bind fun t109=>(if t109=true then ((table_in.f a1_0 1 (wrap64 (a0_0 - 1))).bind fun t110=>(if t110=true then ((table_in.f a1_2 0 65535).bind fun t111=>(some t111)) else (some false))) else (some false)))=some r:=by rw [if_pos rfl] at H;exact H
   clear H;have H:=H1;clear H1;replace H:=Option.bind_eq_some_iff.mp H;obtain ⟨t109,A330,H⟩:=H
   replace H : (if t109=true then ((table_in.f a1_0 1 (wrap64 (a0_0 - 1))).bind fun t110=>(if t110=true then ((table_in.f a1_2 0 65535).bind fun t111=>(some t111)) else (some false))) else (some false))=some r:=H
   have A33:=A_ A330;clear A330
   by_cases c34 : t109=true
   rotate_left
   ·replace c34:=Bool.eq_false_iff.mpr c34
    subst c34
    have H1 : (some false)=some r:=by rw [if_neg (show ¬ (false=true) by decide)] at H;exact H
    clear H;have H:=H1;clear H1;obtain rfl:=Option.some.inj H;have hnb44:=NB106_105.out;have hnc44:=NB105_106.out;obtain ⟨z45_0,z45_1,z45_2,z45_3⟩:=blkc_4 BK106.out;obtain ⟨y45_0,y45_1,y45_2,y45_3⟩:=blkz_4 BK106.out;obtain ⟨z46_0,z46_1,z46_2,z46_3⟩:=blkc_4 BK105.out;obtain ⟨y46_0,y46_1,y46_2,y46_3⟩:=blkz_4 BK105.out
    go_wp2_with (first|((with_reducible refine gate_callee (f:=29) rfl ?_);refine goesL_ (some 36) rfl rfl Tryd.func29 (by kernel_rfl) rfl #[.int .i64 a1_3,.int .i64 1,.int .i64 a0_2] rfl (by (try simp only [List.map_toArray,List.map_cons,List.map_nil]);first|done|rfl|(simp only [List.length_drop,List.length_take];rfl)) ?_;(with_reducible refine (table_in.calls a1_3 1 a0_2 false _ A33.out).mono ?_);rintro e w' ⟨rfl,⟨nd,rfl⟩⟩;refine ⟨_,rfl,?_⟩))
    go_ret
    exact ⟨by first|rfl|(simp [errW_none,errW_some] <;> rfl)|(simp [*,errW_none,errW_some] <;> rfl),hb2_ HB.out GE105.out GE106.out⟩
   subst c34
   have H1 : ((table_in.f a1_0 1 (wrap64 (a0_0 - 1))).bind fun t110=>(if t110=true then ((table_in.f a1_2 0 65535).bind fun t111=>(some t111)) else (some false)))=some r:=by rw [if_pos rfl] at H;exact H
   clear H;have H:=H1;clear H1;replace H:=Option.bind_eq_some_iff.mp H;obtain ⟨t110,A350,H⟩:=H
   replace H : (if t110=true then ((table_in.f a1_2 0 65535).bind fun t111=>(some t111)) else (some false))=some r:=H
   have A35:=A_ A350;clear A350
   by_cases c36 : t110=true
   ·subst c36
    have H1 : ((table_in.f a1_2 0 65535).bind fun t111=>(some t111))=some r:=by rw [if_pos rfl] at H;exact H
    clear H;have H:=H1;clear H1;replace H:=Option.bind_eq_some_iff.mp H;obtain ⟨t111,A370,H⟩:=H;replace H : (some t111)=some r:=H;have A37:=A_ A370;clear A370;obtain rfl:=Option.some.inj H;have hnb38:=NB106_105.out;have hnc38:=NB105_106.out;obtain ⟨z39_0,z39_1,z39_2,z39_3⟩:=blkc_4 BK106.out;obtain ⟨y39_0,y39_1,y39_2,y39_3⟩:=blkz_4 BK106.out;obtain ⟨z40_0,z40_1,z40_2,z40_3⟩:=blkc_4 BK105.out;obtain ⟨y40_0,y40_1,y40_2,y40_3⟩:=blkz_4 BK105.out
    go_wp2_with (first|((with_reducible refine gate_callee (f:=29) rfl ?_);refine goesL_ (some 36) rfl rfl Tryd.func29 (by kernel_rfl) rfl #[.int .i64 a1_3,.int .i64 1,.int .i64 a0_2] rfl (by (try simp only [List.map_toArray,List.map_cons,List.map_nil]);first|done|rfl|(simp only [List.length_drop,List.length_take];rfl)) ?_;(with_reducible refine (table_in.calls a1_3 1 a0_2 true _ A33.out).mono ?_);rintro e w' ⟨rfl,⟨nd,rfl⟩⟩;refine ⟨_,rfl,?_⟩)|(go_at_call 29;(with_reducible refine (table_in.calls a1_0 1 (wrap64 (a0_0 - 1)) true _ A35.out).mono ?_);rintro e w' ⟨rfl,⟨nd,rfl⟩⟩)|(go_at_call 29;(with_reducible refine (table_in.calls a1_2 0 65535 t111 _ A37.out).mono ?_);rintro e w' ⟨rfl,⟨nd,rfl⟩⟩))
    go_ret
    exact ⟨by first|rfl|(simp [errW_none,errW_some] <;> rfl)|(simp [*,errW_none,errW_some] <;> rfl),hb2_ HB.out GE105.out GE106.out⟩
   replace c36:=Bool.eq_false_iff.mpr c36
   subst c36
   have H1 : (some false)=some r:=by rw [if_neg (show ¬ (false=true) by decide)] at H;exact H
   clear H;have H:=H1;clear H1;obtain rfl:=Option.some.inj H;have hnb41:=NB106_105.out;have hnc41:=NB105_106.out;obtain ⟨z42_0,z42_1,z42_2,z42_3⟩:=blkc_4 BK106.out;obtain ⟨y42_0,y42_1,y42_2,y42_3⟩:=blkz_4 BK106.out;obtain ⟨z43_0,z43_1,z43_2,z43_3⟩:=blkc_4 BK105.out;obtain ⟨y43_0,y43_1,y43_2,y43_3⟩:=blkz_4 BK105.out
   go_wp2_with (first|((with_reducible refine gate_callee (f:=29) rfl ?_);refine goesL_ (some 36) rfl rfl Tryd.func29 (by kernel_rfl) rfl #[.int .i64 a1_3,.int .i64 1,.int .i64 a0_2] rfl (by (try simp only [List.map_toArray,List.map_cons,List.map_nil]);first|done|rfl|(simp only [List.length_drop,List.length_take];rfl)) ?_;(with_reducible refine (table_in.calls a1_3 1 a0_2 true _ A33.out).mono ?_);rintro e w' ⟨rfl,⟨nd,rfl⟩⟩;refine ⟨_,rfl,?_⟩)|(go_at_call 29;(with_reducible refine (table_in.calls a1_0 1 (wrap64 (a0_0 - 1)) false _ A35.out).mono ?_);rintro e w' ⟨rfl,⟨nd,rfl⟩⟩))
   go_ret
   exact ⟨by first|rfl|(simp [errW_none,errW_some] <;> rfl)|(simp [*,errW_none,errW_some] <;> rfl),hb2_ HB.out GE105.out GE106.out⟩
end Go.Proofs.YtbmcbhpkefjhbaaDoor.P
