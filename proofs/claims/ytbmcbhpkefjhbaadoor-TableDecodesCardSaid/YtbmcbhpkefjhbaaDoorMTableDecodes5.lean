/- by wip/prune.py -/
import Derived.ArgAppend
import Derived.Below
import Derived.BigQuiet
import Derived.Deep.AppendLies
import Derived.Deep.CutBlock
import Derived.Deep.DeepCutAuto
import Derived.Deep.Draws
import Derived.Deep.LoopGhost
import Derived.Deep.OwnRows
import Derived.Deep.QuietTactic
import Derived.Deep.RegionHeld3
import Derived.KernelRfl
import Derived.Laws.BitsLemmas
import Derived.Laws.BytesArg
import Derived.Laws.IdiomCopy
import Derived.Laws.MakeOwn
import Derived.Laws.OwnMore
import Derived.Laws.Rows
import Derived.Laws.Slices
import Derived.Lib.AppendStr
import Derived.Lib.ConvBytes
import Derived.Maps.AppendAt
import Derived.OrdersHeld
import Derived.OwnWalk
import Derived.RowKit
import Derived.RowKit3
import Derived.Tactics
import Derived.Test.YtbmcbhpkefjhbaaDoorProg
import Derived.WalkKit
import Derived.WideLaws
import Derived.Test.YtbmcbhpkefjhbaaDoorMTableDecodes1
import Derived.Test.YtbmcbhpkefjhbaaDoorMTableDecodes2
import Derived.Test.YtbmcbhpkefjhbaaDoorMTableDecodes3
import Derived.Test.YtbmcbhpkefjhbaaDoorMTableDecodes4
set_option linter.unusedSimpArgs false
set_option linter.unusedVariables false
namespace Go.Proofs.YtbmcbhpkefjhbaaDoor.P
open Go.RowKit YtbmcbhpkefjhbaaDoorW.PrintWords YtbmcbhpkefjhbaaDoorW.PrintLast YtbmcbhpkefjhbaaDoorW.PrintMore
attribute [local go_sem] max2_int min2_int max_two min_two max_three min_three max_four min_four   -- for this text's walks alone
attribute [local go_sem] run_store_float
def errW : Option Int→Value
  | none=>.nilIface
  | some c=>.iface 0 (.int .i64 c)
theorem errW_none : errW none=.nilIface:=rfl
theorem errW_some (c : Int) : errW (some c)=.iface 0 (.int .i64 c):=rfl
theorem info3 : (Tryd.prog.info? 3).map (fun i=>(i.zero,i.size,i.bytes))=some (some (.int .i64 0),1,8):=by kernel_rfl
theorem info5 : (Tryd.prog.info? 5).map (fun i=>(i.zero,i.size,i.bytes))=some (some (.int .u8 0),1,1):=by kernel_rfl
theorem info51 : (Tryd.prog.info? 51).map (fun i=>(i.zero,i.size,i.bytes))=some (some (.agg #[(.int .i64 0),(.int .i64 0),(.float .f64 0),(.string ⟨#[]⟩)]),4,40):=by kernel_rfl
theorem info56 : (Tryd.prog.info? 56).map (fun i=>(i.zero,i.size,i.bytes))=some (some (.agg #[(.int .i64 0),(.int .i64 0),(.int .i64 0),(.int .i64 0)]),4,32):=by kernel_rfl
structure S56 where
  f0 : Int
  f1 : Int
  f2 : Int
  f3 : Int
def z56 : S56:=⟨(0 : Int),(0 : Int),(0 : Int),(0 : Int)⟩
def k56 : Kd S56:=Kd.iso (Kd.pair (Kd.int .i64) (Kd.pair (Kd.int .i64) (Kd.pair (Kd.int .i64) (Kd.int .i64)))) (fun x : S56=>(x.f0,x.f1,x.f2,x.f3))
theorem k56_open {w : World} {x : S56} {cs : List Value} (h : k56.K w x cs) : cs=[.int .i64 x.f0,.int .i64 x.f1,.int .i64 x.f2,.int .i64 x.f3]:=by
  obtain ⟨_,_,rfl,rfl,⟨_,_,rfl,rfl,⟨_,_,rfl,rfl,rfl⟩⟩⟩:=h;exact rfl
theorem k56_openM {w : World} {base : Nat} {ok : Nat→Prop} {x : S56} {cs : List Value} (h : k56.M w base ok x cs) : cs=[.int .i64 x.f0,.int .i64 x.f1,.int .i64 x.f2,.int .i64 x.f3]:=by
  obtain ⟨_,_,rfl,rfl,⟨_,_,rfl,rfl,⟨_,_,rfl,rfl,rfl⟩⟩⟩:=h;exact rfl
theorem k56_mkM (w : World) (base : Nat) (ok : Nat→Prop) (x : S56)  : k56.M w base ok x [.int .i64 x.f0,.int .i64 x.f1,.int .i64 x.f2,.int .i64 x.f3]:=⟨[.int .i64 x.f0],[.int .i64 x.f1,.int .i64 x.f2,.int .i64 x.f3],rfl,rfl,⟨[.int .i64 x.f1],[.int .i64 x.f2,.int .i64 x.f3],rfl,rfl,⟨[.int .i64 x.f2],[.int .i64 x.f3],rfl,rfl,rfl⟩⟩⟩
def rd_T56 (xs : List S56) (i : Int) : S56:=xs.getD i.toNat z56
theorem at_T56 {w : World} {A : Option Addr} {n : Nat} {xs : List S56} (h : Kd.C k56 w A n xs) (i : Int) (h0 : 0≤i) (h1 : i<n) : ∃ ad , A=some ad∧w.cell? (ad.add (i.toNat * 4))=some (.int .i64 (rd_T56 xs i).f0)∧w.cell? ⟨(ad.add (i.toNat * 4)).block,(ad.add (i.toNat * 4)).off + 1,none⟩=some (.int .i64 (rd_T56 xs i).f1)∧w.cell? ⟨(ad.add (i.toNat * 4)).block,(ad.add (i.toNat * 4)).off + 2,none⟩=some (.int .i64 (rd_T56 xs i).f2)∧w.cell? ⟨(ad.add (i.toNat * 4)).block,(ad.add (i.toNat * 4)).off + 3,none⟩=some (.int .i64 (rd_T56 xs i).f3):=by
  obtain ⟨ad,c,e,_,hK,hc0⟩:=Kd.C_get h z56 i h0 h1
  have hc : ∀ j u,c[j]?=some u→w.cell? (ad.add (i.toNat * 4 + j))=some u:=hc0
  obtain rfl:=k56_open hK
  exact ⟨ad,e,hc 0 _ rfl,by rw [← add_field _ _ 1 (by omega)]; exact hc 1 _ rfl,by rw [← add_field _ _ 2 (by omega)]; exact hc 2 _ rfl,by rw [← add_field _ _ 3 (by omega)]; exact hc 3 _ rfl⟩
structure S51 where
  f0 : Int
  f1 : Int
  f2 : Nat
  f3 : ByteArray
def z51 : S51:=⟨(0 : Int),(0 : Int),(0 : Nat),(⟨#[]⟩ : ByteArray)⟩
def k51 : Kd S51:=Kd.iso (Kd.pair (Kd.int .i64) (Kd.pair (Kd.int .i64) (Kd.pair Kd.f64 Kd.string))) (fun x : S51=>(x.f0,x.f1,x.f2,x.f3))
theorem k51_open {w : World} {x : S51} {cs : List Value} (h : k51.K w x cs) : cs=[.int .i64 x.f0,.int .i64 x.f1,.float .f64 x.f2,.string x.f3]:=by
  obtain ⟨_,_,rfl,rfl,⟨_,_,rfl,rfl,⟨_,_,rfl,rfl,rfl⟩⟩⟩:=h;exact rfl
theorem k51_mkM (w : World) (base : Nat) (ok : Nat→Prop) (x : S51)  : k51.M w base ok x [.int .i64 x.f0,.int .i64 x.f1,.float .f64 x.f2,.string x.f3]:=⟨[.int .i64 x.f0],[.int .i64 x.f1,.float .f64 x.f2,.string x.f3],rfl,rfl,⟨[.int .i64 x.f1],[.float .f64 x.f2,.string x.f3],rfl,rfl,⟨[.float .f64 x.f2],[.string x.f3],rfl,rfl,rfl⟩⟩⟩
def rd_T51 (xs : List S51) (i : Int) : S51:=xs.getD i.toNat z51
theorem at_T51 {w : World} {A : Option Addr} {n : Nat} {xs : List S51} (h : Kd.C k51 w A n xs) (i : Int) (h0 : 0≤i) (h1 : i<n) : ∃ ad , A=some ad∧w.cell? (ad.add (i.toNat * 4))=some (.int .i64 (rd_T51 xs i).f0)∧w.cell? ⟨(ad.add (i.toNat * 4)).block,(ad.add (i.toNat * 4)).off + 1,none⟩=some (.int .i64 (rd_T51 xs i).f1)∧w.cell? ⟨(ad.add (i.toNat * 4)).block,(ad.add (i.toNat * 4)).off + 2,none⟩=some (.float .f64 (rd_T51 xs i).f2)∧w.cell? ⟨(ad.add (i.toNat * 4)).block,(ad.add (i.toNat * 4)).off + 3,none⟩=some (.string (rd_T51 xs i).f3):=by
  obtain ⟨ad,c,e,_,hK,hc0⟩:=Kd.C_get h z51 i h0 h1
  have hc : ∀ j u,c[j]?=some u→w.cell? (ad.add (i.toNat * 4 + j))=some u:=hc0
  obtain rfl:=k51_open hK
  exact ⟨ad,e,hc 0 _ rfl,by rw [← add_field _ _ 1 (by omega)]; exact hc 1 _ rfl,by rw [← add_field _ _ 2 (by omega)]; exact hc 2 _ rfl,by rw [← add_field _ _ 3 (by omega)]; exact hc 3 _ rfl⟩
def table_First.f  : Option (Int × Int × Int × (List (S56))):=if 12≤8796093022208 then (some (1,1,0,(List.replicate 12 z56))) else (none)
set_option maxHeartbeats 8000000 in
set_option maxRecDepth 100000 in
theorem table_First.calls  (r1 : Int) (r2 : Int) (r3 : Int) (r4 : List (S56)) (w : World) (h : table_First.f  = some (r1,r2,r3,r4)) :
  Calls Tryd.prog 9 #[] w fun e w'=>∃ v3_ : Value,e=.returned (.agg #[.int .i64 r1,.int .i64 r2,.int .i64 r3,v3_])∧Kd.R k56 56 w' w.heap.size (fun _=>True) v3_ r4∧Below w.heap.size w w':=by
 have hu26:=Tryd.underlying26;have HB:=A_ (Below.refl w.heap.size w)
 have H : (if 12≤8796093022208 then (some (1,1,0,(List.replicate 12 z56))) else (none))=some (r1,r2,r3,r4):=h
 clear h
 by_cases c1 : 12≤8796093022208
 rotate_left
 ·rw [if_neg c1] at H
  exact absurd H (by simp)
 rw [if_pos c1] at H
 have c1b0:=eq_true c1;have c1b1 : decide (12≤8796093022208)=true:=dt_ c1;clear c1
 obtain ⟨y102,hy102⟩ : ∃ y_ : List (S56),y_=(List.replicate 12 z56):=⟨_,rfl⟩
 replace H : (some (1,1,0,y102))=some (r1,r2,r3,r4):=by first|(rw [hy102];with_reducible exact H)|(have H2_:=(Option.bind_some _ _).symm.trans H;rw [hy102];with_reducible exact H2_)|(have H2_:=(Option.bind_some _ _).symm.trans H;with_reducible exact H2_)|with_reducible exact H|(rw [hy102];exact H)|exact H
 have Ny102:=A_ hy102;clear hy102
 simp only [Option.some.injEq,Prod.mk.injEq] at H
 obtain ⟨rfl,rfl,rfl,rfl⟩:=H;go_enter Tryd.func9,Tryd.ntmps9
 go_wp2_with (first|((with_reducible refine gate_dst (N:=0) rfl ?_);refine box_event ?hg (N:=0) ?hd (cs:=#[.int .i64 0,.int .i64 0,.int .i64 0,.slice none 0 0]) (t:=26) ?hr ?_;(case hd=>rfl);(case hg=>rfl);(case hr=>first|(go_simp;done)|(go_simp;rfl));intro gb101 hg w2 hbox hb;have n0_:=A_ (bp_ (hb0_ HB.out) hb);have n1_:=A_ (hbox);have n2_:=A_ ((by rw [hg];exact (bz_ (hb0_ HB.out)) : w.heap.size≤gb101));have n3_:=n2_;clear HB;have HB:=n0_;have BK101:=n1_;have GW101:=n2_;have GE101:=n3_;clear n0_ n1_ n2_ n3_;clear hb hbox hg)|((with_reducible refine gate_dst (N:=1) rfl ?_);refine Kd.R_make k56 _ 56 rfl (N:=1) rfl 24 _ _ rfl 12 rfl rfl Tryd.underlying24 (.agg #[(.int .i64 0),(.int .i64 0),(.int .i64 0),(.int .i64 0)]) 32 info56 rfl (by decide) (by omega) z56 (ok:=fun _=>True) (okp:=fun _=>True) (k56_mkM _ _ _ z56 ) (fun _ hk=>hk) trivial (by omega) (by omega) (Below.refl _ _) (Nat.le_refl _) ?_;intro v103 w3 ho4 hb hg_ hnew_;clear hg_ hnew_;(first|rw [← Ny102.out] at ho4|(simp only [Int.reduceToNat] at ho4;rw [← Ny102.out] at ho4));have n0_:=A_ (Kd.R_lower ho4 (bz_ (hb1_ HB.out GE101.out)));have n1_:=A_ (bx_ BK101.out kf_ hb);have n2_:=A_ (bp_ (hb1_ HB.out GE101.out) hb);clear BK101;clear HB;have HO104:=n0_;have BK101:=n1_;have HB:=n2_;clear n0_ n1_ n2_;clear hb ho4;obtain ⟨Ao5,co5,eo5⟩:=Kd.R_slice HO104.out;subst eo5;obtain ⟨z6_0,z6_1,z6_2,z6_3⟩:=blkc_4 BK101.out;obtain ⟨y6_0,y6_1,y6_2⟩:=blkz_3 BK101.out;have y6_3:=bf_ BK101.out 3))
 refine bodyPost_ret (results_cell_row rfl _ _ gb101 26 #[.int .i64 1,.int .i64 1,.int .i64 0,.slice Ao5 y102.length co5] (0,0) _ rfl (by refine kk_ ?_;apply blkf_4_0_3;exact kk_ BK101.out) Tryd.underlying26 rfl (by kernel_rfl)) rfl ?_
 exact ⟨_,by first|rfl|(simp [errW_none,errW_some] <;> rfl)|(simp [*,errW_none,errW_some] <;> rfl),by (with_reducible repeat (first|apply ra_|apply rn_|apply re_));exact Kd.R_mono (rf_ (p:=⟨gb101,3,none⟩) (rf_ (p:=⟨gb101,2,none⟩) (rf_ (p:=⟨gb101,1,none⟩) (rf_ (p:=⟨gb101,0,none⟩) (Kd.R_types HO104.out BK101.out (by decide)) (fun _ hk=>hk.2) (.int .i64 1)) (fun _ hk=>hk.2) (.int .i64 1)) (fun _ hk=>hk.2) (.int .i64 0)) (fun _ hk=>hk.2) (.slice Ao5 y102.length co5)) (fun _ hk=>trivial),hb1_ HB.out GE101.out⟩
def table_in.f (a0 : Int) (a1 : Int) (a2 : Int) : Option (Bool):=if a0 ≥ a1 then (some (decide (a0≤a2))) else (some false)
set_option maxHeartbeats 8000000 in
set_option maxRecDepth 100000 in
theorem table_in.calls (a0 : Int) (a1 : Int) (a2 : Int) (r : Bool) (w : World) (h : table_in.f a0 a1 a2=some r) :
  Calls Tryd.prog 29 #[.int .i64 a0,.int .i64 a1,.int .i64 a2] w fun e w'=>e=.returned (.bool r)∧Drawn0 w w':=by
 have H : (if a0 ≥ a1 then (some (decide (a0≤a2))) else (some false))=some r:=h
 clear h
 by_cases c4 : a0 ≥ a1
 rotate_left
 ·rw [if_neg c4] at H
  have c4b0 : decide (a1≤a0)=false:=df_ c4;clear c4;obtain rfl:=Option.some.inj H;go_enter Tryd.func29,Tryd.ntmps29;go_wp2;go_ret
  exact ⟨by first|rfl|(simp;done)|(simp [*];done),by repeat (first|exact Drawn0.refl _|apply Drawn0.step)⟩
 rw [if_pos c4] at H
 have c4b0 : decide (a1≤a0)=true:=dt_ c4;clear c4;obtain rfl:=Option.some.inj H;go_enter Tryd.func29,Tryd.ntmps29;go_wp2;go_ret
 exact ⟨by first|rfl|(simp;done)|(simp [*];done),by repeat (first|exact Drawn0.refl _|apply Drawn0.step)⟩
theorem eqA56 (d : Nat) (w : World) (x0 y0 : Int) (x1 y1 : Int) (x2 y2 : Int) (x3 y3 : Int) :
    (Op.equalIn (d + 2) 56 (.agg #[.int .i64 x0,.int .i64 x1,.int .i64 x2,.int .i64 x3]) (.agg #[.int .i64 y0,.int .i64 y1,.int .i64 y2,.int .i64 y3])).run Tryd.prog w=.ok (x0 == y0 && (x1 == y1 && (x2 == y2 && (x3 == y3)))) w:=by
  refine eqA_of Tryd.underlying56 (by kernel_rfl) ?_
  refine eqf_cons (by rfl) (by go_simp; rfl) (by go_simp; rfl) (by go_simp) ?_
  refine eqf_cons (by rfl) (by go_simp; rfl) (by go_simp; rfl) (by go_simp) ?_
  refine eqf_cons (by rfl) (by go_simp; rfl) (by go_simp; rfl) (by go_simp) ?_
  exact eqf_last (by rfl) (by go_simp; rfl) (by go_simp; rfl) (by go_simp)
attribute [local go_sem high] eqA56
mutual
def table_entry.j0 : Nat→Bool→Int→Int→Int→List (S56)→Int→Int→Int→Int→Option (Bool)
 | 0,_,_,_,_,_,_,_,_,_=>none
 | k + 1,x30,x106000,x106001,x106002,x106003,x107000,x107001,x107002,x107003=>if x30=true then ((table_in.f x107003 1 x106002).bind fun t109=>(if t109=true then ((table_in.f x107000 1 (wrap64 (x106000 - 1))).bind fun t110=>(if t110=true then ((table_in.f x107002 0 65535).bind fun t111=>(some t111)) else (some false))) else (some false))) else (table_entry.j1 k false)
def table_entry.j1 : Nat→Bool→Option (Bool)
 | 0,_=>none
 | k + 1,x4=>some x4
end
def table_entry.f (k : Nat) (a0_0 : Int) (a0_1 : Int) (a0_2 : Int) (l0_3 : List (S56)) (a1_0 : Int) (a1_1 : Int) (a1_2 : Int) (a1_3 : Int) : Option (Bool):=if a1_1=0 then (some (a1_0 == 0 && (a1_1 == 0 && (a1_2 == 0 && (a1_3 == 0))))) else (if a1_1=1 then (if a1_3=0 then ((table_in.f a1_0 1 (wrap64 (a0_0 - 1))).bind fun t107=>(if t107=true then ((table_in.f a1_2 0 65535).bind fun t108=>(some t108)) else (some false))) else (some false)) else (table_entry.j0 k (a1_1 == 2) a0_0 a0_1 a0_2 l0_3 a1_0 a1_1 a1_2 a1_3))
theorem table_entry.mono_l : ∀ k,(∀ y0 y1 y2 y3 y4 y5 y6 y7 y8,LeO (table_entry.j0 k y0 y1 y2 y3 y4 y5 y6 y7 y8) (table_entry.j0 (k + 1) y0 y1 y2 y3 y4 y5 y6 y7 y8))∧(∀ y0,LeO (table_entry.j1 k y0) (table_entry.j1 (k + 1) y0))
 | 0=>⟨fun _ _ _ _ _ _ _ _ _ r h=>by simp [table_entry.j0] at h,fun _ r h=>by simp [table_entry.j1] at h⟩
 | k + 1=>by
  obtain ⟨ih0,ih1⟩:=table_entry.mono_l k;refine ⟨?_,?_⟩
  ·intro y0 y1 y2 y3 y4 y5 y6 y7 y8
   unfold table_entry.j0
   repeat' first
   | (with_reducible exact ih0 _ _ _ _ _ _ _ _ _)
   | (with_reducible exact ih1 _)
   | (with_reducible exact LeO.refl _)
   | (with_reducible exact LeO.none _)
   | (with_reducible refine LeO.ite ?_ ?_)
   | (with_reducible refine LeO.bind ?_ (fun _=>?_))
   | exact ih0 _ _ _ _ _ _ _ _ _
   | exact ih1 _
   | exact LeO.none _
   | refine LeO.ite ?_ ?_
   | refine LeO.bind ?_ (fun _=>?_)
  ·intro y0
   unfold table_entry.j1
   repeat' first
   | (with_reducible exact ih0 _ _ _ _ _ _ _ _ _)
   | (with_reducible exact ih1 _)
   | (with_reducible exact LeO.refl _)
   | (with_reducible exact LeO.none _)
   | (with_reducible refine LeO.ite ?_ ?_)
   | (with_reducible refine LeO.bind ?_ (fun _=>?_))
   | exact ih0 _ _ _ _ _ _ _ _ _
   | exact ih1 _
   | exact LeO.none _
   | refine LeO.ite ?_ ?_
   | refine LeO.bind ?_ (fun _=>?_)
theorem table_entry.mono : ∀ a0 a1 a2 a3 a4 a5 a6 a7 k,LeO (table_entry.f k a0 a1 a2 a3 a4 a5 a6 a7) (table_entry.f (k + 1) a0 a1 a2 a3 a4 a5 a6 a7):=by
 intro a0 a1 a2 a3 a4 a5 a6 a7 k;obtain ⟨ih0,ih1⟩:=table_entry.mono_l k
 unfold table_entry.f
 repeat' first
   | (with_reducible exact ih0 _ _ _ _ _ _ _ _ _)
   | (with_reducible exact ih1 _)
   | (with_reducible exact LeO.refl _)
   | (with_reducible exact LeO.none _)
   | (with_reducible refine LeO.ite ?_ ?_)
   | (with_reducible refine LeO.bind ?_ (fun _=>?_))
   | exact ih0 _ _ _ _ _ _ _ _ _
   | exact ih1 _
   | exact LeO.none _
   | refine LeO.ite ?_ ?_
   | refine LeO.bind ?_ (fun _=>?_)
set_option maxHeartbeats 8000000 in
set_option maxRecDepth 100000 in
theorem table_entry.calls (k : Nat) (a0_0 : Int) (a0_1 : Int) (a0_2 : Int) (A0_3 : Option Addr) (c0_3 : Nat) (l0_3 : List (S56)) (a1_0 : Int) (a1_1 : Int) (a1_2 : Int) (a1_3 : Int) (r : Bool) (w : World) (hr0_3 : Kd.C k56 w A0_3 l0_3.length l0_3) (hc0_3 : l0_3.length≤c0_3) (h : table_entry.f k a0_0 a0_1 a0_2 l0_3 a1_0 a1_1 a1_2 a1_3=some r) :
  Calls Tryd.prog 32 #[.agg #[.int .i64 a0_0,.int .i64 a0_1,.int .i64 a0_2,.slice A0_3 l0_3.length c0_3],.agg #[.int .i64 a1_0,.int .i64 a1_1,.int .i64 a1_2,.int .i64 a1_3]] w fun e w'=>e=.returned (.bool r)∧Below w.heap.size w w':=by
 have hu26:=Tryd.underlying26;have hu56:=Tryd.underlying56;have HR0_3:=A_ hr0_3;have HC0_3:=A_ hc0_3;clear hr0_3 hc0_3;have HB:=A_ (Below.refl w.heap.size w)
 have H : (if a1_1=0 then (some (a1_0 == 0 && (a1_1 == 0 && (a1_2 == 0 && (a1_3 == 0))))) else (if a1_1=1 then (if a1_3=0 then ((table_in.f a1_0 1 (wrap64 (a0_0 - 1))).bind fun t107=>(if t107=true then ((table_in.f a1_2 0 65535).bind fun t108=>(some t108)) else (some false))) else (some false)) else (table_entry.j0 k (a1_1 == 2) a0_0 a0_1 a0_2 l0_3 a1_0 a1_1 a1_2 a1_3)))=some r:=h
 clear h
 by_cases c3 : a1_1=0
 ·rw [if_pos c3] at H
  have c3b0 : (a1_1 == 0)=true:=beq_iff_eq.mpr c3;have c3b1 : (a1_1 != 0)=false:=bne_eq_false_iff_eq.mpr c3;clear c3;obtain rfl:=Option.some.inj H;go_enter Tryd.func32,Tryd.ntmps32
  go_wp2_with (first|((with_reducible refine gate_dst (N:=2) rfl ?_);refine box_event ?hg (N:=2) ?hd (cs:=#[.int .i64 a0_0,.int .i64 a0_1,.int .i64 a0_2,.slice A0_3 l0_3.length c0_3]) (t:=26) ?hr ?_;(case hd=>rfl);(case hg=>rfl);(case hr=>first|(go_simp;done)|(go_simp;rfl));intro gb105 hg w4 hbox hb;have n0_:=A_ (bp_ (hb0_ HB.out) hb);have n1_:=A_ (hbox);have n2_:=A_ ((by rw [hg];exact (bz_ (hb0_ HB.out)) : w.heap.size≤gb105));have n3_:=n2_;clear HB;have HB:=n0_;have BK105:=n1_;have GW105:=n2_;have GE105:=n3_;clear n0_ n1_ n2_ n3_;clear hb hbox hg)|((with_reducible refine gate_dst (N:=3) rfl ?_);refine box_event ?hg (N:=3) ?hd (cs:=#[.int .i64 a1_0,.int .i64 a1_1,.int .i64 a1_2,.int .i64 a1_3]) (t:=56) ?hr ?_;(case hd=>rfl);(case hg=>rfl);(case hr=>first|(go_simp;done)|(go_simp;rfl));intro gb106 hg w5 hbox hb;have n0_:=A_ (bx_ BK105.out kf_ hb);have n1_:=A_ (bp_ (hb1_ HB.out GE105.out) hb);have n2_:=A_ (hbox);have n3_:=A_ ((by rw [hg];exact (bz_ (hb1_ HB.out GE105.out)) : w.heap.size≤gb106));have n4_:=n3_;have n5_:=A_ ((by rw [hg];exact Nat.ne_of_lt (bl_ BK105.out kf_) : gb105≠gb106));have n6_:=A_ (Ne.symm n5_.out);clear BK105;clear HB;have BK105:=n0_;have HB:=n1_;have BK106:=n2_;have GW106:=n3_;have GE106:=n4_;have NB105_106:=n5_;have NB106_105:=n6_;clear n0_ n1_ n2_ n3_ n4_ n5_ n6_;clear hb hbox hg;have hnb6:=NB106_105.out;have hnc6:=NB105_106.out;obtain ⟨z7_0,z7_1,z7_2,z7_3⟩:=blkc_4 BK106.out;obtain ⟨y7_0,y7_1,y7_2⟩:=blkz_3 BK106.out;have y7_3:=bf_ BK106.out 3))
  go_ret
  exact ⟨by first|rfl|(simp [errW_none,errW_some] <;> rfl)|(simp [*,errW_none,errW_some] <;> rfl),hb2_ HB.out GE105.out GE106.out⟩
 rw [if_neg c3] at H
 have c3b0 : (a1_1 == 0)=false:=beq_eq_false_iff_ne.mpr c3;have c3b1 : (a1_1 != 0)=true:=bne_iff_ne.mpr c3
 by_cases c8 : a1_1=1
 ·rw [if_pos c8] at H
  have c8b0 : (a1_1 == 1)=true:=beq_iff_eq.mpr c8;have c8b1 : (a1_1 != 1)=false:=bne_eq_false_iff_eq.mpr c8;clear c8
  by_cases c9 : a1_3=0
  rotate_left
  ·rw [if_neg c9] at H
   have c9b0 : (a1_3 == 0)=false:=beq_eq_false_iff_ne.mpr c9;have c9b1 : (a1_3 != 0)=true:=bne_iff_ne.mpr c9;obtain rfl:=Option.some.inj H;go_enter Tryd.func32,Tryd.ntmps32
   go_wp2_with (first|((with_reducible refine gate_dst (N:=2) rfl ?_);refine box_event ?hg (N:=2) ?hd (cs:=#[.int .i64 a0_0,.int .i64 a0_1,.int .i64 a0_2,.slice A0_3 l0_3.length c0_3]) (t:=26) ?hr ?_;(case hd=>rfl);(case hg=>rfl);(case hr=>first|(go_simp;done)|(go_simp;rfl));intro gb105 hg w23 hbox hb;have n0_:=A_ (bp_ (hb0_ HB.out) hb);have n1_:=A_ (hbox);have n2_:=A_ ((by rw [hg];exact (bz_ (hb0_ HB.out)) : w.heap.size≤gb105));have n3_:=n2_;clear HB;have HB:=n0_;have BK105:=n1_;have GW105:=n2_;have GE105:=n3_;clear n0_ n1_ n2_ n3_;clear hb hbox hg)|((with_reducible refine gate_dst (N:=3) rfl ?_);refine box_event ?hg (N:=3) ?hd (cs:=#[.int .i64 a1_0,.int .i64 a1_1,.int .i64 a1_2,.int .i64 a1_3]) (t:=56) ?hr ?_;(case hd=>rfl);(case hg=>rfl);(case hr=>first|(go_simp;done)|(go_simp;rfl));intro gb106 hg w24 hbox hb;have n0_:=A_ (bx_ BK105.out kf_ hb);have n1_:=A_ (bp_ (hb1_ HB.out GE105.out) hb);have n2_:=A_ (hbox);have n3_:=A_ ((by rw [hg];exact (bz_ (hb1_ HB.out GE105.out)) : w.heap.size≤gb106));have n4_:=n3_;have n5_:=A_ ((by rw [hg];exact Nat.ne_of_lt (bl_ BK105.out kf_) : gb105≠gb106));have n6_:=A_ (Ne.symm n5_.out);clear BK105;clear HB;have BK105:=n0_;have HB:=n1_;have BK106:=n2_;have GW106:=n3_;have GE106:=n4_;have NB105_106:=n5_;have NB106_105:=n6_;clear n0_ n1_ n2_ n3_ n4_ n5_ n6_;clear hb hbox hg;have hnb25:=NB106_105.out;have hnc25:=NB105_106.out;obtain ⟨z26_0,z26_1,z26_2,z26_3⟩:=blkc_4 BK106.out;obtain ⟨y26_0,y26_1,y26_2⟩:=blkz_3 BK106.out;have y26_3:=bf_ BK106.out 3))
   go_ret
   exact ⟨by first|rfl|(simp [errW_none,errW_some] <;> rfl)|(simp [*,errW_none,errW_some] <;> rfl),hb2_ HB.out GE105.out GE106.out⟩
  rw [if_pos c9] at H
  have c9b0 : (a1_3 == 0)=true:=beq_iff_eq.mpr c9;have c9b1 : (a1_3 != 0)=false:=bne_eq_false_iff_eq.mpr c9;clear c9;replace H:=Option.bind_eq_some_iff.mp H;obtain ⟨t107,A100,H⟩:=H
  replace H : (if t107=true then ((table_in.f a1_2 0 65535).bind fun t108=>(some t108)) else (some false))=some r:=H
  have A10:=A_ A100;clear A100
  by_cases c11 : t107=true
  ·subst c11
   have H1 : ((table_in.f a1_2 0 65535).bind fun t108=>(some t108))=some r:=by rw [if_pos rfl] at H;exact H
   clear H;have H:=H1;clear H1;replace H:=Option.bind_eq_some_iff.mp H;obtain ⟨t108,A120,H⟩:=H;replace H : (some t108)=some r:=H;have A12:=A_ A120;clear A120;obtain rfl:=Option.some.inj H;go_enter Tryd.func32,Tryd.ntmps32
   go_wp2_with (first|((with_reducible refine gate_dst (N:=2) rfl ?_);refine box_event ?hg (N:=2) ?hd (cs:=#[.int .i64 a0_0,.int .i64 a0_1,.int .i64 a0_2,.slice A0_3 l0_3.length c0_3]) (t:=26) ?hr ?_;(case hd=>rfl);(case hg=>rfl);(case hr=>first|(go_simp;done)|(go_simp;rfl));intro gb105 hg w13 hbox hb;have n0_:=A_ (bp_ (hb0_ HB.out) hb);have n1_:=A_ (hbox);have n2_:=A_ ((by rw [hg];exact (bz_ (hb0_ HB.out)) : w.heap.size≤gb105));have n3_:=n2_;clear HB;have HB:=n0_;have BK105:=n1_;have GW105:=n2_;have GE105:=n3_;clear n0_ n1_ n2_ n3_;clear hb hbox hg)|((with_reducible refine gate_dst (N:=3) rfl ?_);refine box_event ?hg (N:=3) ?hd (cs:=#[.int .i64 a1_0,.int .i64 a1_1,.int .i64 a1_2,.int .i64 a1_3]) (t:=56) ?hr ?_;(case hd=>rfl);(case hg=>rfl);(case hr=>first|(go_simp;done)|(go_simp;rfl));intro gb106 hg w14 hbox hb;have n0_:=A_ (bx_ BK105.out kf_ hb);have n1_:=A_ (bp_ (hb1_ HB.out GE105.out) hb);have n2_:=A_ (hbox);have n3_:=A_ ((by rw [hg];exact (bz_ (hb1_ HB.out GE105.out)) : w.heap.size≤gb106));have n4_:=n3_;have n5_:=A_ ((by rw [hg];exact Nat.ne_of_lt (bl_ BK105.out kf_) : gb105≠gb106));have n6_:=A_ (Ne.symm n5_.out);clear BK105;clear HB;have BK105:=n0_;have HB:=n1_;have BK106:=n2_;have GW106:=n3_;have GE106:=n4_;have NB105_106:=n5_;have NB106_105:=n6_;clear n0_ n1_ n2_ n3_ n4_ n5_ n6_;clear hb hbox hg;have hnb15:=NB106_105.out;have hnc15:=NB105_106.out;obtain ⟨z16_0,z16_1,z16_2,z16_3⟩:=blkc_4 BK106.out;obtain ⟨y16_0,y16_1,y16_2,y16_3⟩:=blkz_4 BK106.out;obtain ⟨z17_0,z17_1,z17_2,z17_3⟩:=blkc_4 BK105.out;obtain ⟨y17_0,y17_1,y17_2⟩:=blkz_3 BK105.out;have y17_3:=bf_ BK105.out 3)|(go_at_call 29;(with_reducible refine (table_in.calls a1_0 1 (wrap64 (a0_0 - 1)) true _ A10.out).mono ?_);rintro e w' ⟨rfl,⟨nd,rfl⟩⟩)|(go_at_call 29;(with_reducible refine (table_in.calls a1_2 0 65535 t108 _ A12.out).mono ?_);rintro e w' ⟨rfl,⟨nd,rfl⟩⟩))
   go_ret
   exact ⟨by first|rfl|(simp [errW_none,errW_some] <;> rfl)|(simp [*,errW_none,errW_some] <;> rfl),hb2_ HB.out GE105.out GE106.out⟩
  replace c11:=Bool.eq_false_iff.mpr c11
  subst c11
  have H1 : (some false)=some r:=by rw [if_neg (show ¬ (false=true) by decide)] at H;exact H
  clear H;have H:=H1;clear H1;obtain rfl:=Option.some.inj H;go_enter Tryd.func32,Tryd.ntmps32
  go_wp2_with (first|((with_reducible refine gate_dst (N:=2) rfl ?_);refine box_event ?hg (N:=2) ?hd (cs:=#[.int .i64 a0_0,.int .i64 a0_1,.int .i64 a0_2,.slice A0_3 l0_3.length c0_3]) (t:=26) ?hr ?_;(case hd=>rfl);(case hg=>rfl);(case hr=>first|(go_simp;done)|(go_simp;rfl));intro gb105 hg w18 hbox hb;have n0_:=A_ (bp_ (hb0_ HB.out) hb);have n1_:=A_ (hbox);have n2_:=A_ ((by rw [hg];exact (bz_ (hb0_ HB.out)) : w.heap.size≤gb105));have n3_:=n2_;clear HB;have HB:=n0_;have BK105:=n1_;have GW105:=n2_;have GE105:=n3_;clear n0_ n1_ n2_ n3_;clear hb hbox hg)|((with_reducible refine gate_dst (N:=3) rfl ?_);refine box_event ?hg (N:=3) ?hd (cs:=#[.int .i64 a1_0,.int .i64 a1_1,.int .i64 a1_2,.int .i64 a1_3]) (t:=56) ?hr ?_;(case hd=>rfl);(case hg=>rfl);(case hr=>first|(go_simp;done)|(go_simp;rfl));intro gb106 hg w19 hbox hb;have n0_:=A_ (bx_ BK105.out kf_ hb);have n1_:=A_ (bp_ (hb1_ HB.out GE105.out) hb);have n2_:=A_ (hbox);have n3_:=A_ ((by rw [hg];exact (bz_ (hb1_ HB.out GE105.out)) : w.heap.size≤gb106));have n4_:=n3_;have n5_:=A_ ((by rw [hg];exact Nat.ne_of_lt (bl_ BK105.out kf_) : gb105≠gb106));have n6_:=A_ (Ne.symm n5_.out);clear BK105;clear HB;have BK105:=n0_;have HB:=n1_;have BK106:=n2_;have GW106:=n3_;have GE106:=n4_;have NB105_106:=n5_;have NB106_105:=n6_;clear n0_ n1_ n2_ n3_ n4_ n5_ n6_;clear hb hbox hg;have hnb20:=NB106_105.out;have hnc20:=NB105_106.out;obtain ⟨z21_0,z21_1,z21_2,z21_3⟩:=blkc_4 BK106.out;obtain ⟨y21_0,y21_1,y21_2,y21_3⟩:=blkz_4 BK106.out;obtain ⟨z22_0,z22_1,z22_2,z22_3⟩:=blkc_4 BK105.out;obtain ⟨y22_0,y22_1,y22_2⟩:=blkz_3 BK105.out;have y22_3:=bf_ BK105.out 3)|(go_at_call 29;(with_reducible refine (table_in.calls a1_0 1 (wrap64 (a0_0 - 1)) false _ A10.out).mono ?_);rintro e w' ⟨rfl,⟨nd,rfl⟩⟩))
  go_ret
  exact ⟨by first|rfl|(simp [errW_none,errW_some] <;> rfl)|(simp [*,errW_none,errW_some] <;> rfl),hb2_ HB.out GE105.out GE106.out⟩
 rw [if_neg c8] at H
 have c8b0 : (a1_1 == 1)=false:=beq_eq_false_iff_ne.mpr c8;have c8b1 : (a1_1 != 1)=true:=bne_iff_ne.mpr c8;have HC27:=A_ H;clear H;go_enter Tryd.func32,Tryd.ntmps32
 go_upto_region 6 with (first|((with_reducible refine gate_dst (N:=2) rfl ?_);refine box_event ?hg (N:=2) ?hd (cs:=#[.int .i64 a0_0,.int .i64 a0_1,.int .i64 a0_2,.slice A0_3 l0_3.length c0_3]) (t:=26) ?hr ?_;(case hd=>rfl);(case hg=>rfl);(case hr=>first|(go_simp;done)|(go_simp;rfl));intro gb105 hg w28 hbox hb;have n0_:=A_ (bp_ (hb0_ HB.out) hb);have n1_:=A_ (hbox);have n2_:=A_ ((by rw [hg];exact (bz_ (hb0_ HB.out)) : w.heap.size≤gb105));have n3_:=n2_;clear HB;have HB:=n0_;have BK105:=n1_;have GW105:=n2_;have GE105:=n3_;clear n0_ n1_ n2_ n3_;clear hb hbox hg)|((with_reducible refine gate_dst (N:=3) rfl ?_);refine box_event ?hg (N:=3) ?hd (cs:=#[.int .i64 a1_0,.int .i64 a1_1,.int .i64 a1_2,.int .i64 a1_3]) (t:=56) ?hr ?_;(case hd=>rfl);(case hg=>rfl);(case hr=>first|(go_simp;done)|(go_simp;rfl));intro gb106 hg w29 hbox hb;have n0_:=A_ (bx_ BK105.out kf_ hb);have n1_:=A_ (bp_ (hb1_ HB.out GE105.out) hb);have n2_:=A_ (hbox);have n3_:=A_ ((by rw [hg];exact (bz_ (hb1_ HB.out GE105.out)) : w.heap.size≤gb106));have n4_:=n3_;have n5_:=A_ ((by rw [hg];exact Nat.ne_of_lt (bl_ BK105.out kf_) : gb105≠gb106));have n6_:=A_ (Ne.symm n5_.out);clear BK105;clear HB;have BK105:=n0_;have HB:=n1_;have BK106:=n2_;have GW106:=n3_;have GE106:=n4_;have NB105_106:=n5_;have NB106_105:=n6_;clear n0_ n1_ n2_ n3_ n4_ n5_ n6_;clear hb hbox hg;have hnb30:=NB106_105.out;have hnc30:=NB105_106.out;obtain ⟨z31_0,z31_1,z31_2,z31_3⟩:=blkc_4 BK106.out;obtain ⟨y31_0,y31_1,y31_2⟩:=blkz_3 BK106.out;have y31_3:=bf_ BK106.out 3))
 (try simp only [Act.put,u1_,u2_,u3_])
 go_cut [30] (fun v30 wc=>∃ (kq : Nat) (x30_26 : Bool),v30=.bool x30_26∧Aside0 (table_entry.j0 kq x30_26 a0_0 a0_1 a0_2 l0_3 a1_0 a1_1 a1_2 a1_3=some r)∧Aside0 (kq≤k)∧Aside0 (wc.heap[gb105]?=some (.cells #[.int .i64 a0_0,.int .i64 a0_1,.int .i64 a0_2,(.slice A0_3 l0_3.length c0_3)] 26 (0,0)))∧Aside0 (wc.heap[gb106]?=some (.cells #[.int .i64 a1_0,.int .i64 a1_1,.int .i64 a1_2,.int .i64 a1_3] 56 (0,0)))∧Aside0 (Below w.heap.size w wc))
 case first =>
  have H:=HC27.out;clear HC27;have H':=A_ H;clear H;go_wp2;go_meet
  case rel=>exact ⟨_,((a1_1 == 2)),(by first|rfl|(simp;done)|(simp [*];done)),H',⟨by first|omega|exact Nat.le_refl _⟩,⟨by exact kk_ BK105.out⟩,⟨by exact kk_ BK106.out⟩,⟨hb2_ HB.out GE105.out GE106.out⟩⟩
 case rest =>
  clear HC27;(try clear c1);(try clear c2);(try clear p2);(try clear c3);(try clear c3b0);(try clear c3b1);(try clear c6);(try clear p6);(try clear c8);(try clear c8b0);(try clear c8b1);(try clear c9);(try clear c9b0);(try clear c9b1);(try clear c11);(try clear c15);(try clear c20);(try clear c25);(try clear c30);(try clear z16_0 z16_1 z16_2 z16_3 z17_0 z17_1 z17_2 z17_3 z21_0 z21_1 z21_2 z21_3 z22_0 z22_1 z22_2 z22_3 z26_0 z26_1 z26_2 z26_3 z31_0 z31_1 z31_2 z31_3 z7_0 z7_1 z7_2 z7_3 y16_0 y16_1 y16_2 y16_3 y17_0 y17_1 y17_2 y17_3 y21_0 y21_1 y21_2 y21_3 y22_0 y22_1 y22_2 y22_3 y26_0 y26_1 y26_2 y26_3 y31_0 y31_1 y31_2 y31_3 y7_0 y7_1 y7_2 y7_3);obtain ⟨kq,x30_26,rfl,HA,HJ26,BK105,BK106,HB⟩:=hcut
  cases kq with
  | zero=>exact absurd HA.out (by simp [table_entry.j0])
  | succ kj26 =>
   have H:=HA.out;clear HA
   simp only [table_entry.j0] at H
   by_cases c32 : x30_26=true
   rotate_left
   ·replace c32:=Bool.eq_false_iff.mpr c32
    subst c32
    have H1 : (table_entry.j1 kj26 false)=some r:=by rw [if_neg (show ¬ (false=true) by decide)] at H;exact H
    clear H;have H:=H1;clear H1;have HC47:=A_ H;clear H
    go_upto_region 8 with (fail)
    go_cut [4] (fun v4 wc=>∃ (kq : Nat) (x4_46 : Bool),v4=.bool x4_46∧Aside0 (table_entry.j1 kq x4_46=some r)∧Aside0 (kq≤kj26)∧Aside0 (wc.heap[gb105]?=some (.cells #[.int .i64 a0_0,.int .i64 a0_1,.int .i64 a0_2,(.slice A0_3 l0_3.length c0_3)] 26 (0,0)))∧Aside0 (wc.heap[gb106]?=some (.cells #[.int .i64 a1_0,.int .i64 a1_1,.int .i64 a1_2,.int .i64 a1_3] 56 (0,0)))∧Aside0 (Below w.heap.size w wc))
    case first =>
     have H:=HC47.out;clear HC47;have H':=A_ H;clear H;go_wp2;go_meet
     case rel=>exact ⟨_,false,rfl,H',⟨by have:=HJ26.out;first|omega|exact Nat.le_refl _⟩,⟨by exact kk_ BK105.out⟩,⟨by exact kk_ BK106.out⟩,⟨hb2_ HB.out GE105.out GE106.out⟩⟩
    case rest =>
     clear HC47;(try clear c1);(try clear c2);(try clear p2);(try clear c3);(try clear c3b0);(try clear c3b1);(try clear c4);(try clear c6);(try clear p6);(try clear c8);(try clear c8b0);(try clear c8b1);(try clear c9);(try clear c9b0);(try clear c9b1);(try clear c11);(try clear c15);(try clear c20);(try clear c25);(try clear c29);(try clear c30);(try clear c32);(try clear c34);(try clear c36);(try clear c38);(try clear c41);(try clear c44);(try clear p2);(try clear p6);(try clear z16_0 z16_1 z16_2 z16_3 z17_0 z17_1 z17_2 z17_3 z21_0 z21_1 z21_2 z21_3 z22_0 z22_1 z22_2 z22_3 z26_0 z26_1 z26_2 z26_3 z31_0 z31_1 z31_2 z31_3 z39_0 z39_1 z39_2 z39_3 z40_0 z40_1 z40_2 z40_3 z42_0 z42_1 z42_2 z42_3 z43_0 z43_1 z43_2 z43_3 z45_0 z45_1 z45_2 z45_3 z46_0 z46_1 z46_2 z46_3 z7_0 z7_1 z7_2 z7_3 y16_0 y16_1 y16_2 y16_3 y17_0 y17_1 y17_2 y17_3 y21_0 y21_1 y21_2 y21_3 y22_0 y22_1 y22_2 y22_3 y26_0 y26_1 y26_2 y26_3 y31_0 y31_1 y31_2 y31_3 y39_0 y39_1 y39_2 y39_3 y40_0 y40_1 y40_2 y40_3 y42_0 y42_1 y42_2 y42_3 y43_0 y43_1 y43_2 y43_3 y45_0 y45_1 y45_2 y45_3 y46_0 y46_1 y46_2 y46_3 y7_0 y7_1 y7_2 y7_3);obtain ⟨kq,x4_46,rfl,HA,HJ46,BK105,BK106,HB⟩:=hcut
     cases kq with
     | zero=>exact absurd HA.out (by simp [table_entry.j1])
     | succ kj46 =>
      have H:=HA.out;clear HA
      simp only [table_entry.j1] at H
      obtain rfl:=Option.some.inj H;go_wp2;go_ret
      exact ⟨by first|rfl|(simp [errW_none,errW_some] <;> rfl)|(simp [*,errW_none,errW_some] <;> rfl),hb2_ HB.out GE105.out GE106.out⟩
   subst c32
   have H1 : ((table_in.f a1_3 1 a0_2).bind fun t109=>(if t109=true then ((table_in.f a1_0 1 (wrap64 (a0_0 - 1))).bind fun t110=>(if t110=true then ((table_in.f a1_2 0 65535).bind fun t111=>(some t111)) else (some false))) else (some false)))=some r:=by rw [if_pos rfl] at H;exact H
   clear H;have H:=H1;clear H1;replace H:=Option.bind_eq_some_iff.mp H;obtain ⟨t109,A330,H⟩:=H
   replace H : (if t109=true then ((table_in.f a1_0 1 (wrap64 (a0_0 - 1))).bind fun t110=>(if t110=true then ((table_in.f a1_2 0 65535).bind fun t111=>(some t111)) else (some false))) else (some false))=some r:=H
   have A33:=A_ A330;clear A330
   by_cases c34 : t109=true
   rotate_left
   ·replace c34:=Bool.eq_false_iff.mpr c34
    subst c34
    have H1 : (some false)=some r:=by rw [if_neg (show ¬ (false=true) by decide)] at H;exact H
    clear H;have H:=H1;clear H1;obtain rfl:=Option.some.inj H;have hnb44:=NB106_105.out;have hnc44:=NB105_106.out;obtain ⟨z45_0,z45_1,z45_2,z45_3⟩:=blkc_4 BK106.out;obtain ⟨y45_0,y45_1,y45_2,y45_3⟩:=blkz_4 BK106.out;obtain ⟨z46_0,z46_1,z46_2,z46_3⟩:=blkc_4 BK105.out;obtain ⟨y46_0,y46_1,y46_2,y46_3⟩:=blkz_4 BK105.out
    go_wp2_with (first|((with_reducible refine gate_callee (f:=29) rfl ?_);refine goesL_ (some 36) rfl rfl Tryd.func29 (by kernel_rfl) rfl #[.int .i64 a1_3,.int .i64 1,.int .i64 a0_2] rfl (by (try simp only [List.map_toArray,List.map_cons,List.map_nil]);first|done|rfl|(simp only [List.length_drop,List.length_take];rfl)) ?_;(with_reducible refine (table_in.calls a1_3 1 a0_2 false _ A33.out).mono ?_);rintro e w' ⟨rfl,⟨nd,rfl⟩⟩;refine ⟨_,rfl,?_⟩))
    go_ret
    exact ⟨by first|rfl|(simp [errW_none,errW_some] <;> rfl)|(simp [*,errW_none,errW_some] <;> rfl),hb2_ HB.out GE105.out GE106.out⟩
   subst c34
   have H1 : ((table_in.f a1_0 1 (wrap64 (a0_0 - 1))).bind fun t110=>(if t110=true then ((table_in.f a1_2 0 65535).bind fun t111=>(some t111)) else (some false)))=some r:=by rw [if_pos rfl] at H;exact H
   clear H;have H:=H1;clear H1;replace H:=Option.bind_eq_some_iff.mp H;obtain ⟨t110,A350,H⟩:=H
   replace H : (if t110=true then ((table_in.f a1_2 0 65535).bind fun t111=>(some t111)) else (some false))=some r:=H
   have A35:=A_ A350;clear A350
   by_cases c36 : t110=true
   ·subst c36
    have H1 : ((table_in.f a1_2 0 65535).bind fun t111=>(some t111))=some r:=by rw [if_pos rfl] at H;exact H
    clear H;have H:=H1;clear H1;replace H:=Option.bind_eq_some_iff.mp H;obtain ⟨t111,A370,H⟩:=H;replace H : (some t111)=some r:=H;have A37:=A_ A370;clear A370;obtain rfl:=Option.some.inj H;have hnb38:=NB106_105.out;have hnc38:=NB105_106.out;obtain ⟨z39_0,z39_1,z39_2,z39_3⟩:=blkc_4 BK106.out;obtain ⟨y39_0,y39_1,y39_2,y39_3⟩:=blkz_4 BK106.out;obtain ⟨z40_0,z40_1,z40_2,z40_3⟩:=blkc_4 BK105.out;obtain ⟨y40_0,y40_1,y40_2,y40_3⟩:=blkz_4 BK105.out
    go_wp2_with (first|((with_reducible refine gate_callee (f:=29) rfl ?_);refine goesL_ (some 36) rfl rfl Tryd.func29 (by kernel_rfl) rfl #[.int .i64 a1_3,.int .i64 1,.int .i64 a0_2] rfl (by (try simp only [List.map_toArray,List.map_cons,List.map_nil]);first|done|rfl|(simp only [List.length_drop,List.length_take];rfl)) ?_;(with_reducible refine (table_in.calls a1_3 1 a0_2 true _ A33.out).mono ?_);rintro e w' ⟨rfl,⟨nd,rfl⟩⟩;refine ⟨_,rfl,?_⟩)|(go_at_call 29;(with_reducible refine (table_in.calls a1_0 1 (wrap64 (a0_0 - 1)) true _ A35.out).mono ?_);rintro e w' ⟨rfl,⟨nd,rfl⟩⟩)|(go_at_call 29;(with_reducible refine (table_in.calls a1_2 0 65535 t111 _ A37.out).mono ?_);rintro e w' ⟨rfl,⟨nd,rfl⟩⟩))
    go_ret
    exact ⟨by first|rfl|(simp [errW_none,errW_some] <;> rfl)|(simp [*,errW_none,errW_some] <;> rfl),hb2_ HB.out GE105.out GE106.out⟩
   replace c36:=Bool.eq_false_iff.mpr c36
   subst c36
   have H1 : (some false)=some r:=by rw [if_neg (show ¬ (false=true) by decide)] at H;exact H
   clear H;have H:=H1;clear H1;obtain rfl:=Option.some.inj H;have hnb41:=NB106_105.out;have hnc41:=NB105_106.out;obtain ⟨z42_0,z42_1,z42_2,z42_3⟩:=blkc_4 BK106.out;obtain ⟨y42_0,y42_1,y42_2,y42_3⟩:=blkz_4 BK106.out;obtain ⟨z43_0,z43_1,z43_2,z43_3⟩:=blkc_4 BK105.out;obtain ⟨y43_0,y43_1,y43_2,y43_3⟩:=blkz_4 BK105.out
   go_wp2_with (first|((with_reducible refine gate_callee (f:=29) rfl ?_);refine goesL_ (some 36) rfl rfl Tryd.func29 (by kernel_rfl) rfl #[.int .i64 a1_3,.int .i64 1,.int .i64 a0_2] rfl (by (try simp only [List.map_toArray,List.map_cons,List.map_nil]);first|done|rfl|(simp only [List.length_drop,List.length_take];rfl)) ?_;(with_reducible refine (table_in.calls a1_3 1 a0_2 true _ A33.out).mono ?_);rintro e w' ⟨rfl,⟨nd,rfl⟩⟩;refine ⟨_,rfl,?_⟩)|(go_at_call 29;(with_reducible refine (table_in.calls a1_0 1 (wrap64 (a0_0 - 1)) false _ A35.out).mono ?_);rintro e w' ⟨rfl,⟨nd,rfl⟩⟩))
   go_ret
   exact ⟨by first|rfl|(simp [errW_none,errW_some] <;> rfl)|(simp [*,errW_none,errW_some] <;> rfl),hb2_ HB.out GE105.out GE106.out⟩
end Go.Proofs.YtbmcbhpkefjhbaaDoor.P
